/- serial: the reference's steps. -/
import Derived.Test.YtoeghfpkpppchaaSerC
namespace Go.Proofs.Ytoeghfpkpppchaa
open Go.Eng Go.Ser

theorem txR_ct (s : Ser) (hk : I64 s) (h : List Res) (m : View) : CT Try.prog 12 [serV s] h m (P2 h (serV (tx s).1) (.int .i64 (tx s).2)) := by
  obtain ⟨k1, k2, k3, k4⟩ := hk
  refine CT.body Try.call12 Try.func12 rfl Try.ntmps12 (Nat.le_of_ble_eq_true rfl) rfl ?_
  (repeat (first | refine WC.seqK fun K hK => ?_ | refine WC.block ?_ | refine WC.regionG rfl fun ops hG => ?_))
  refine WL.box (Ev.tmp rfl) rfl (Nat.le_of_ble_eq_true rfl) fun b1 => ?_
  refine WL.alloc rfl rfl (Nat.le_of_ble_eq_true rfl) fun b2 => ?_
  refine WL.po (PO.assign Ev.const) (Nat.le_of_ble_eq_true rfl) ?_
  refine WL.nil (keepF (ts := [1, 2]) rfl (toK (by assumption) ?_))
  (try clear hG ops)
  (repeat (first | refine WC.seqK fun K hK => ?_ | refine WC.block ?_ | refine WC.regionG rfl fun ops hG => ?_))
  refine WL.po (PO.loadA Try.underlying24 rfl rfl (Ev.tmp rfl) (by (repeat (first | exact List.Mem.head _ | apply List.Mem.tail))) rfl) (Nat.le_of_ble_eq_true rfl) ?_
  refine WL.callP Ev.func (Evs.cons (Ev.tmp rfl) Evs.nil) (mayR_ct _ (by first | assumption | exact ⟨by assumption, by assumption, by assumption, by assumption⟩) _ _) (Nat.le_of_ble_eq_true rfl) ?_
  refine WL.po (PO.not (Ev.tmp rfl)) (Nat.le_of_ble_eq_true rfl) ?_
  refine WL.nil (keepF (ts := [1, 2, 7]) rfl (toK (by assumption) ?_))
  (try clear hG ops)
  (repeat (first | refine WC.seqK fun K hK => ?_ | refine WC.block ?_ | refine WC.regionG rfl fun ops hG => ?_))
  refine WC.cond (Ev.tmp rfl) (fun c7 => ?_) (fun c7 => ?_)
  · have c7 : may s = false := by simpa using c7
    (repeat (first | refine WC.seqK fun K hK => ?_ | refine WC.block ?_ | refine WC.regionG rfl fun ops hG => ?_))
    refine WL.po (PO.loadA Try.underlying24 rfl rfl (Ev.tmp rfl) (by (repeat (first | exact List.Mem.head _ | apply List.Mem.tail))) rfl) (Nat.le_of_ble_eq_true rfl) ?_
    refine WL.store rfl (Ev.tmp rfl) (Ev.tmp rfl) rfl rfl rfl rfl (by (repeat (first | exact Upd.here | apply Upd.next))) ?_
    refine WL.po (PO.assign Ev.const) (Nat.le_of_ble_eq_true rfl) ?_
    refine WL.nil (keepF (ts := [2, 3]) rfl (toK (by assumption) ?_))
    (try clear hG ops)
    refine WC.ret (end2 (h' := h) (.inl rfl) rfl (RV.cellA Try.underlying24 rfl rfl rfl (by (repeat (first | exact List.Mem.head _ | apply List.Mem.tail))) rfl) (RV.tmp rfl) (View.le.refl m) (by (repeat (first | exact List.Sublist.refl _ | refine List.Sublist.cons_cons _ ?_ | apply List.Sublist.cons))) ?_)
    exact ⟨by rw [show tx s = (s, 0) by simp [tx, c7]]; rfl, rfl⟩
  · have c7 : may s = true := by simpa using c7
    have kb := may_bd c7
    refine WC.skip (keepF (ts := [1, 2]) rfl (toK (by assumption) ?_))
    (repeat (first | refine WC.seqK fun K hK => ?_ | refine WC.block ?_ | refine WC.regionG rfl fun ops hG => ?_))
    refine WL.po (PO.fieldAddr Try.underlying24 rfl (Nat.ne_of_beq_eq_false rfl) (Ev.tmp rfl)) (Nat.le_of_ble_eq_true rfl) ?_
    refine WL.po (PO.load1 Try.underlying22 rfl (Ev.tmp rfl) (by (repeat (first | exact List.Mem.head _ | apply List.Mem.tail))) rfl) (Nat.le_of_ble_eq_true rfl) ?_
    refine WL.po (PO.fieldAddr Try.underlying24 rfl (Nat.ne_of_beq_eq_false rfl) (Ev.tmp rfl)) (Nat.le_of_ble_eq_true rfl) ?_
    refine WL.po (PO.load1 Try.underlying3 rfl (Ev.tmp rfl) (by (repeat (first | exact List.Mem.head _ | apply List.Mem.tail))) rfl) (Nat.le_of_ble_eq_true rfl) ?_
    refine WL.callK Ev.func (Evs.cons (Ev.tmp rfl) (Evs.cons (Ev.tmp rfl) Evs.nil)) (low_ct _ _ _ _ (by omega)) (Nat.le_of_ble_eq_true rfl) ?_
    rintro _ _ ⟨a13, c13, k13, e13, rfl, rfl⟩
    refine WL.knowRow (a := a13) (by (repeat (first | exact List.Mem.head _ | apply List.Mem.tail))) fun p13 q13 r13 => ?_
    rw [lowN_len] at e13
    refine WL.po (PO.assign (Ev.tmp rfl)) (Nat.le_of_ble_eq_true rfl) ?_
    refine WL.nil (keepF (ts := [1, 2, 4]) rfl (toK (by assumption) ?_))
    (try clear hG ops)
    (repeat (first | refine WC.seqK fun K hK => ?_ | refine WC.block ?_ | refine WC.regionG rfl fun ops hG => ?_))
    refine WL.po (PO.move (Ev.tmp rfl)) (Nat.le_of_ble_eq_true rfl) ?_
    refine WL.po (PO.lenSl Try.underlying36 (Ev.tmp rfl)) (Nat.le_of_ble_eq_true rfl) ?_
    refine WL.po (PO.bin (Ev.tmp rfl) Ev.const rfl) (Nat.le_of_ble_eq_true rfl) ?_
    refine WL.po (PO.move (Ev.tmp rfl)) (Nat.le_of_ble_eq_true rfl) ?_
    refine WL.poG (GU.t (hG _ _ rfl) rfl) (fun hc => PO.fieldAddr Try.underlying24 rfl (Nat.ne_of_beq_eq_false rfl) (Ev.tmp rfl)) (Nat.le_of_ble_eq_true rfl) ?_
    refine WL.poG (GU.t (hG _ _ rfl) rfl) (fun hc => PO.load1 Try.underlying4 rfl (Ev.gv rfl hc) (by (repeat (first | exact List.Mem.head _ | apply List.Mem.tail))) rfl) (Nat.le_of_ble_eq_true rfl) ?_
    refine WL.po (PO.pickAnd rfl rfl) (Nat.le_of_ble_eq_true rfl) ?_
    refine WL.nil (keepF (ts := [1, 2, 4, 20]) rfl (toK (by assumption) ?_))
    (try clear hG ops)
    (repeat (first | refine WC.seqK fun K hK => ?_ | refine WC.block ?_ | refine WC.regionG rfl fun ops hG => ?_))
    refine WC.cond (Ev.tmp rfl) (fun c20 => ?_) (fun c20 => ?_)
    · have ⟨g1, g2⟩ := Bool.and_eq_true_iff.1 c20
      have g1 := t_eq g1
      (repeat (first | refine WC.seqK fun K hK => ?_ | refine WC.block ?_ | refine WC.regionG rfl fun ops hG => ?_))
      refine WL.buildSlice EL36 rfl (EvP.cons Ev.const (EvP.cons Ev.const EvP.nil)) rfl rfl (by decide) rfl (Nat.le_of_ble_eq_true rfl) fun b21 => ?_
      refine WL.ptRow (k := 2) (sz := 1) (cs := fl encI [1, 0]) rfl (by decide) (by (repeat (first | exact Upd.here | apply Upd.next))) ?_
      refine WL.knowRow (a := some ⟨b21, 0, none⟩) (by (repeat (first | exact List.Mem.head _ | apply List.Mem.tail))) fun p21 q21 r21 => ?_
      refine WL.po (PO.assign (Ev.tmp rfl)) (Nat.le_of_ble_eq_true rfl) ?_
      refine WL.nil (keepF (ts := [1, 2, 4]) rfl (toK (by assumption) ?_))
      (try clear hG ops)
      (repeat (first | refine WC.seqK fun K hK => ?_ | refine WC.block ?_ | refine WC.regionG rfl fun ops hG => ?_))
      refine WL.po (PO.fieldAddr Try.underlying24 rfl (Nat.ne_of_beq_eq_false rfl) (Ev.tmp rfl)) (Nat.le_of_ble_eq_true rfl) ?_
      refine WL.store rfl (Ev.tmp rfl) Ev.const rfl rfl rfl rfl (by (repeat (first | exact Upd.here | apply Upd.next))) ?_
      refine WL.nil (keepF (ts := [1, 2, 4]) rfl (toK (by assumption) ?_))
      (try clear hG ops)
      (repeat (first | refine WC.seqK fun K hK => ?_ | refine WC.block ?_ | refine WC.regionG rfl fun ops hG => ?_))
      refine WL.po (PO.move (Ev.tmp rfl)) (Nat.le_of_ble_eq_true rfl) ?_
      refine WL.po (PO.lenSl Try.underlying36 (Ev.tmp rfl)) (Nat.le_of_ble_eq_true rfl) ?_
      refine WL.po (PO.bin (Ev.tmp rfl) Ev.const rfl) (Nat.le_of_ble_eq_true rfl) ?_
      refine WL.nil (keepF (ts := [1, 2, 4, 37]) rfl (toK (by assumption) ?_))
      (try clear hG ops)
      (repeat (first | refine WC.seqK fun K hK => ?_ | refine WC.block ?_ | refine WC.regionG rfl fun ops hG => ?_))
      refine WC.cond (Ev.tmp rfl) (fun c37 => ?_) (fun c37 => ?_)
      · replace c37 := t_eq c37
        exact absurd c37 (by decide)
      · replace c37 := f_eq c37
        refine WC.skip (keepF (ts := [1, 2, 4]) rfl (toK (by assumption) ?_))
        (repeat (first | refine WC.seqK fun K hK => ?_ | refine WC.block ?_ | refine WC.regionG rfl fun ops hG => ?_))
        refine WL.po (PO.move (Ev.tmp rfl)) (Nat.le_of_ble_eq_true rfl) ?_
        refine WL.po (PO.sliceL EL36.und EL36.size (Ev.tmp rfl) Ev.const (l := 1) rfl (by omega)) (Nat.le_of_ble_eq_true rfl) ?_
        refine WL.callP Ev.func (Evs.cons (Ev.tmp rfl) Evs.nil) (number_ct _ _ _ _ _ _ (Rd.dropF encI_len (by decide) (l := [1, 0]) (Rd.inRow (by (repeat (first | exact List.Mem.head _ | apply List.Mem.tail))) rfl p21 q21) (by decide))) (Nat.le_of_ble_eq_true rfl) ?_
        refine WL.po (PO.fieldAddr Try.underlying24 rfl (Nat.ne_of_beq_eq_false rfl) (Ev.tmp rfl)) (Nat.le_of_ble_eq_true rfl) ?_
        refine WL.store rfl (Ev.tmp rfl) (Ev.tmp rfl) rfl rfl rfl rfl (by (repeat (first | exact Upd.here | apply Upd.next))) ?_
        refine WL.nil (keepF (ts := [1, 2, 4]) rfl (toK (by assumption) ?_))
        (try clear hG ops)
        (repeat (first | refine WC.seqK fun K hK => ?_ | refine WC.block ?_ | refine WC.regionG rfl fun ops hG => ?_))
        refine WL.po (PO.move (Ev.tmp rfl)) (Nat.le_of_ble_eq_true rfl) ?_
        refine WL.po (PO.lenSl Try.underlying36 (Ev.tmp rfl)) (Nat.le_of_ble_eq_true rfl) ?_
        refine WL.po (PO.subI (Ev.tmp rfl) Ev.const (by omega)) (Nat.le_of_ble_eq_true rfl) ?_
        refine WL.po (PO.fieldAddr Try.underlying24 rfl (Nat.ne_of_beq_eq_false rfl) (Ev.tmp rfl)) (Nat.le_of_ble_eq_true rfl) ?_
        refine WL.store rfl (Ev.tmp rfl) (Ev.tmp rfl) rfl rfl rfl rfl (by (repeat (first | exact Upd.here | apply Upd.next))) ?_
        refine WL.nil (keepF (ts := [1, 2, 4]) rfl (toK (by assumption) ?_))
        (try clear hG ops)
        (repeat (first | refine WC.seqK fun K hK => ?_ | refine WC.block ?_ | refine WC.regionG rfl fun ops hG => ?_))
        refine WC.take (r := .pt b2 _) (by (repeat (first | exact Del.here | apply Del.next))) ?_
        refine WC.drawS [4] [0, 1, 2, 3, 4] [5] _ [_] mixed (fun _ _ _ _ _ h => h) [] (by kernel_rfl) ?_
        refine SR.po rfl rfl (PO.loadA Try.underlying24 rfl rfl (Ev.tmp rfl) (by (repeat (first | exact List.Mem.head _ | apply List.Mem.tail))) rfl) (Nat.le_of_ble_eq_true rfl) ?_
        refine SR.po rfl rfl (PO.move (Ev.tmp rfl)) (Nat.le_of_ble_eq_true rfl) ?_
        refine SR.po rfl rfl (PO.idx EL36.und EL36.size EL36.posz (Ev.tmp rfl) Ev.const (by first | assumption | exact Rd.ofSl (by assumption) | exact Rd.ofPt rfl (by decide) (by (repeat (first | exact List.Mem.head _ | apply List.Mem.tail))) | exact Rd.mono (by assumption) (View.le.refl _) (by (repeat (first | exact List.Sublist.refl _ | refine List.Sublist.cons_cons _ ?_ | apply List.Sublist.cons))) | exact Rd.inRow (by (repeat (first | exact List.Mem.head _ | apply List.Mem.tail))) (by assumption) (by assumption) (by assumption)) rfl (q := 0) (by omega)) (Nat.le_of_ble_eq_true rfl) ?_
        refine SR.po rfl rfl (PO.loadF1 Try.underlying3 rfl encI_len (by first | assumption | exact Rd.ofSl (by assumption) | exact Rd.ofPt rfl (by decide) (by (repeat (first | exact List.Mem.head _ | apply List.Mem.tail))) | exact Rd.mono (by assumption) (View.le.refl _) (by (repeat (first | exact List.Sublist.refl _ | refine List.Sublist.cons_cons _ ?_ | apply List.Sublist.cons))) | exact Rd.inRow (by (repeat (first | exact List.Mem.head _ | apply List.Mem.tail))) (by assumption) (by assumption) (by assumption)) (Ev.tmp rfl) (l := [1, 0]) (q := 0) (y := 1) rfl rfl) (Nat.le_of_ble_eq_true rfl) ?_
        refine SR.store rfl rfl rfl (Ev.tmp rfl) (Ev.tmp rfl) rfl rfl rfl rfl (by (repeat (first | exact Upd.here | apply Upd.next))) ?_
        refine SR.nil rfl rfl ?_
        refine WL.po (PO.assign (Ev.tmp rfl)) (Nat.le_of_ble_eq_true rfl) ?_
        refine WL.nil (keepF (ts := [2, 3]) rfl (toK (by assumption) ?_))
        (try clear hG ops)
        refine WC.ret (end2 (h' := h) (.inl rfl) rfl (RV.cellA Try.underlying24 rfl rfl rfl (by (repeat (first | exact List.Mem.head _ | apply List.Mem.tail))) rfl) (RV.tmp rfl) (View.le.refl m) (by (repeat (first | exact List.Sublist.refl _ | refine List.Sublist.cons_cons _ ?_ | apply List.Sublist.cons))) ?_)
        exact ⟨by rw [tx_ack c7 (by omega) g2]; rfl, rfl⟩
    · (repeat (first | refine WC.seqK fun K hK => ?_ | refine WC.block ?_ | refine WC.regionG rfl fun ops hG => ?_))
      refine WL.po (PO.move (Ev.tmp rfl)) (Nat.le_of_ble_eq_true rfl) ?_
      refine WL.po (PO.lenSl Try.underlying36 (Ev.tmp rfl)) (Nat.le_of_ble_eq_true rfl) ?_
      refine WL.po (PO.bin (Ev.tmp rfl) Ev.const rfl) (Nat.le_of_ble_eq_true rfl) ?_
      refine WL.po (PO.move (Ev.tmp rfl)) (Nat.le_of_ble_eq_true rfl) ?_
      refine WL.poG (GU.t (hG _ _ rfl) rfl) (fun hc => PO.fieldAddr Try.underlying24 rfl (Nat.ne_of_beq_eq_false rfl) (Ev.tmp rfl)) (Nat.le_of_ble_eq_true rfl) ?_
      refine WL.poG (GU.t (hG _ _ rfl) rfl) (fun hc => PO.load1 Try.underlying4 rfl (Ev.gv rfl hc) (by (repeat (first | exact List.Mem.head _ | apply List.Mem.tail))) rfl) (Nat.le_of_ble_eq_true rfl) ?_
      refine WL.po (PO.pickAnd rfl rfl) (Nat.le_of_ble_eq_true rfl) ?_
      refine WL.nil (keepF (ts := [1, 2, 4, 29]) rfl (toK (by assumption) ?_))
      (try clear hG ops)
      (repeat (first | refine WC.seqK fun K hK => ?_ | refine WC.block ?_ | refine WC.regionG rfl fun ops hG => ?_))
      refine WC.cond (Ev.tmp rfl) (fun c29 => ?_) (fun c29 => ?_)
      · have ⟨g3, g4⟩ := Bool.and_eq_true_iff.1 c29
        have g3 := t_eq g3
        have g5 : s.ack = false := by simpa [g3] using c20
        (repeat (first | refine WC.seqK fun K hK => ?_ | refine WC.block ?_ | refine WC.regionG rfl fun ops hG => ?_))
        refine WL.po (PO.fieldAddr Try.underlying24 rfl (Nat.ne_of_beq_eq_false rfl) (Ev.tmp rfl)) (Nat.le_of_ble_eq_true rfl) ?_
        refine WL.po (PO.load1 Try.underlying5 rfl (Ev.tmp rfl) (by (repeat (first | exact List.Mem.head _ | apply List.Mem.tail))) rfl) (Nat.le_of_ble_eq_true rfl) ?_
        refine WL.callK Ev.func (Evs.cons (Ev.tmp rfl) Evs.nil) (bitsR_ct _ _ _) (Nat.le_of_ble_eq_true rfl) ?_
        rintro _ _ ⟨a32, c32, k32, e32, rfl, rfl⟩
        refine WL.knowRow (a := a32) (by (repeat (first | exact List.Mem.head _ | apply List.Mem.tail))) fun p32 q32 r32 => ?_
        rw [bits_len] at e32
        refine WL.po (PO.assign (Ev.tmp rfl)) (Nat.le_of_ble_eq_true rfl) ?_
        refine WL.nil (keepF (ts := [1, 2, 4]) rfl (toK (by assumption) ?_))
        (try clear hG ops)
        (repeat (first | refine WC.seqK fun K hK => ?_ | refine WC.block ?_ | refine WC.regionG rfl fun ops hG => ?_))
        refine WL.po (PO.fieldAddr Try.underlying24 rfl (Nat.ne_of_beq_eq_false rfl) (Ev.tmp rfl)) (Nat.le_of_ble_eq_true rfl) ?_
        refine WL.store rfl (Ev.tmp rfl) Ev.const rfl rfl rfl rfl (by (repeat (first | exact Upd.here | apply Upd.next))) ?_
        refine WL.nil (keepF (ts := [1, 2, 4]) rfl (toK (by assumption) ?_))
        (try clear hG ops)
        (repeat (first | refine WC.seqK fun K hK => ?_ | refine WC.block ?_ | refine WC.regionG rfl fun ops hG => ?_))
        refine WL.po (PO.fieldAddr Try.underlying24 rfl (Nat.ne_of_beq_eq_false rfl) (Ev.tmp rfl)) (Nat.le_of_ble_eq_true rfl) ?_
        refine WL.store rfl (Ev.tmp rfl) Ev.const rfl rfl rfl rfl (by (repeat (first | exact Upd.here | apply Upd.next))) ?_
        refine WL.nil (keepF (ts := [1, 2, 4]) rfl (toK (by assumption) ?_))
        (try clear hG ops)
        (repeat (first | refine WC.seqK fun K hK => ?_ | refine WC.block ?_ | refine WC.regionG rfl fun ops hG => ?_))
        refine WL.po (PO.move (Ev.tmp rfl)) (Nat.le_of_ble_eq_true rfl) ?_
        refine WL.po (PO.lenSl Try.underlying36 (Ev.tmp rfl)) (Nat.le_of_ble_eq_true rfl) ?_
        refine WL.po (PO.bin (Ev.tmp rfl) Ev.const rfl) (Nat.le_of_ble_eq_true rfl) ?_
        refine WL.nil (keepF (ts := [1, 2, 4, 37]) rfl (toK (by assumption) ?_))
        (try clear hG ops)
        (repeat (first | refine WC.seqK fun K hK => ?_ | refine WC.block ?_ | refine WC.regionG rfl fun ops hG => ?_))
        refine WC.cond (Ev.tmp rfl) (fun c37 => ?_) (fun c37 => ?_)
        · replace c37 := t_eq c37
          omega
        · replace c37 := f_eq c37
          refine WC.skip (keepF (ts := [1, 2, 4]) rfl (toK (by assumption) ?_))
          (repeat (first | refine WC.seqK fun K hK => ?_ | refine WC.block ?_ | refine WC.regionG rfl fun ops hG => ?_))
          refine WL.po (PO.move (Ev.tmp rfl)) (Nat.le_of_ble_eq_true rfl) ?_
          refine WL.po (PO.sliceL EL36.und EL36.size (Ev.tmp rfl) Ev.const (l := 1) rfl (by omega)) (Nat.le_of_ble_eq_true rfl) ?_
          refine WL.callP Ev.func (Evs.cons (Ev.tmp rfl) Evs.nil) (number_ct _ _ _ _ _ _ (Rd.dropF encI_len (by decide) (l := sbits s.by_) (Rd.inRow (by (repeat (first | exact List.Mem.head _ | apply List.Mem.tail))) r32 p32 q32) (by omega))) (Nat.le_of_ble_eq_true rfl) ?_
          refine WL.po (PO.fieldAddr Try.underlying24 rfl (Nat.ne_of_beq_eq_false rfl) (Ev.tmp rfl)) (Nat.le_of_ble_eq_true rfl) ?_
          refine WL.store rfl (Ev.tmp rfl) (Ev.tmp rfl) rfl rfl rfl rfl (by (repeat (first | exact Upd.here | apply Upd.next))) ?_
          refine WL.nil (keepF (ts := [1, 2, 4]) rfl (toK (by assumption) ?_))
          (try clear hG ops)
          (repeat (first | refine WC.seqK fun K hK => ?_ | refine WC.block ?_ | refine WC.regionG rfl fun ops hG => ?_))
          refine WL.po (PO.move (Ev.tmp rfl)) (Nat.le_of_ble_eq_true rfl) ?_
          refine WL.po (PO.lenSl Try.underlying36 (Ev.tmp rfl)) (Nat.le_of_ble_eq_true rfl) ?_
          refine WL.po (PO.subI (Ev.tmp rfl) Ev.const (by omega)) (Nat.le_of_ble_eq_true rfl) ?_
          refine WL.po (PO.fieldAddr Try.underlying24 rfl (Nat.ne_of_beq_eq_false rfl) (Ev.tmp rfl)) (Nat.le_of_ble_eq_true rfl) ?_
          refine WL.store rfl (Ev.tmp rfl) (Ev.tmp rfl) rfl rfl rfl rfl (by (repeat (first | exact Upd.here | apply Upd.next))) ?_
          refine WL.nil (keepF (ts := [1, 2, 4]) rfl (toK (by assumption) ?_))
          (try clear hG ops)
          (repeat (first | refine WC.seqK fun K hK => ?_ | refine WC.block ?_ | refine WC.regionG rfl fun ops hG => ?_))
          refine WC.take (r := .pt b2 _) (by (repeat (first | exact Del.here | apply Del.next))) ?_
          refine WC.drawS [4] [0, 1, 2, 3, 4] [5] _ [_] mixed (fun _ _ _ _ _ h => h) [] (by kernel_rfl) ?_
          refine SR.po rfl rfl (PO.loadA Try.underlying24 rfl rfl (Ev.tmp rfl) (by (repeat (first | exact List.Mem.head _ | apply List.Mem.tail))) rfl) (Nat.le_of_ble_eq_true rfl) ?_
          refine SR.po rfl rfl (PO.move (Ev.tmp rfl)) (Nat.le_of_ble_eq_true rfl) ?_
          refine SR.po rfl rfl (PO.idx EL36.und EL36.size EL36.posz (Ev.tmp rfl) Ev.const (by first | assumption | exact Rd.ofSl (by assumption) | exact Rd.ofPt rfl (by decide) (by (repeat (first | exact List.Mem.head _ | apply List.Mem.tail))) | exact Rd.mono (by assumption) (View.le.refl _) (by (repeat (first | exact List.Sublist.refl _ | refine List.Sublist.cons_cons _ ?_ | apply List.Sublist.cons))) | exact Rd.inRow (by (repeat (first | exact List.Mem.head _ | apply List.Mem.tail))) (by assumption) (by assumption) (by assumption)) rfl (q := 0) (by omega)) (Nat.le_of_ble_eq_true rfl) ?_
          refine SR.po rfl rfl (PO.loadF1 Try.underlying3 rfl encI_len (by first | assumption | exact Rd.ofSl (by assumption) | exact Rd.ofPt rfl (by decide) (by (repeat (first | exact List.Mem.head _ | apply List.Mem.tail))) | exact Rd.mono (by assumption) (View.le.refl _) (by (repeat (first | exact List.Sublist.refl _ | refine List.Sublist.cons_cons _ ?_ | apply List.Sublist.cons))) | exact Rd.inRow (by (repeat (first | exact List.Mem.head _ | apply List.Mem.tail))) (by assumption) (by assumption) (by assumption)) (Ev.tmp rfl) (l := sbits s.by_) (q := 0) (y := 1) rfl rfl) (Nat.le_of_ble_eq_true rfl) ?_
          refine SR.store rfl rfl rfl (Ev.tmp rfl) (Ev.tmp rfl) rfl rfl rfl rfl (by (repeat (first | exact Upd.here | apply Upd.next))) ?_
          refine SR.nil rfl rfl ?_
          refine WL.po (PO.assign (Ev.tmp rfl)) (Nat.le_of_ble_eq_true rfl) ?_
          refine WL.nil (keepF (ts := [2, 3]) rfl (toK (by assumption) ?_))
          (try clear hG ops)
          refine WC.ret (end2 (h' := h) (.inl rfl) rfl (RV.cellA Try.underlying24 rfl rfl rfl (by (repeat (first | exact List.Mem.head _ | apply List.Mem.tail))) rfl) (RV.tmp rfl) (View.le.refl m) (by (repeat (first | exact List.Sublist.refl _ | refine List.Sublist.cons_cons _ ?_ | apply List.Sublist.cons))) ?_)
          exact ⟨by rw [tx_data c7 (by omega) g5 g4, e32]; rfl, rfl⟩
      · refine WC.skip (keepF (ts := [1, 2, 4]) rfl (toK (by assumption) ?_))
        (repeat (first | refine WC.seqK fun K hK => ?_ | refine WC.block ?_ | refine WC.regionG rfl fun ops hG => ?_))
        refine WL.po (PO.move (Ev.tmp rfl)) (Nat.le_of_ble_eq_true rfl) ?_
        refine WL.po (PO.lenSl Try.underlying36 (Ev.tmp rfl)) (Nat.le_of_ble_eq_true rfl) ?_
        refine WL.po (PO.bin (Ev.tmp rfl) Ev.const rfl) (Nat.le_of_ble_eq_true rfl) ?_
        refine WL.nil (keepF (ts := [1, 2, 4, 37]) rfl (toK (by assumption) ?_))
        (try clear hG ops)
        (repeat (first | refine WC.seqK fun K hK => ?_ | refine WC.block ?_ | refine WC.regionG rfl fun ops hG => ?_))
        refine WC.cond (Ev.tmp rfl) (fun c37 => ?_) (fun c37 => ?_)
        · replace c37 := t_eq c37
          have g5 : s.ack = false := by simpa [c37] using c20
          have g6 : s.data = false := by simpa [c37] using c29
          (repeat (first | refine WC.seqK fun K hK => ?_ | refine WC.block ?_ | refine WC.regionG rfl fun ops hG => ?_))
          refine WL.po (PO.loadA Try.underlying24 rfl rfl (Ev.tmp rfl) (by (repeat (first | exact List.Mem.head _ | apply List.Mem.tail))) rfl) (Nat.le_of_ble_eq_true rfl) ?_
          refine WL.store rfl (Ev.tmp rfl) (Ev.tmp rfl) rfl rfl rfl rfl (by (repeat (first | exact Upd.here | apply Upd.next))) ?_
          refine WL.po (PO.assign Ev.const) (Nat.le_of_ble_eq_true rfl) ?_
          refine WL.nil (keepF (ts := [2, 3]) rfl (toK (by assumption) ?_))
          (try clear hG ops)
          refine WC.ret (end2 (h' := h) (.inl rfl) rfl (RV.cellA Try.underlying24 rfl rfl rfl (by (repeat (first | exact List.Mem.head _ | apply List.Mem.tail))) rfl) (RV.tmp rfl) (View.le.refl m) (by (repeat (first | exact List.Sublist.refl _ | refine List.Sublist.cons_cons _ ?_ | apply List.Sublist.cons))) ?_)
          exact ⟨by rw [tx_rest c7 (by omega) g5 g6]; rfl, rfl⟩
        · replace c37 := f_eq c37
          refine WC.skip (keepF (ts := [1, 2, 4]) rfl (toK (by assumption) ?_))
          (repeat (first | refine WC.seqK fun K hK => ?_ | refine WC.block ?_ | refine WC.regionG rfl fun ops hG => ?_))
          refine WL.po (PO.move (Ev.tmp rfl)) (Nat.le_of_ble_eq_true rfl) ?_
          refine WL.po (PO.sliceL EL36.und EL36.size (Ev.tmp rfl) Ev.const (l := 1) rfl (by omega)) (Nat.le_of_ble_eq_true rfl) ?_
          refine WL.callP Ev.func (Evs.cons (Ev.tmp rfl) Evs.nil) (number_ct _ _ _ _ _ _ (Rd.dropF encI_len (by decide) (l := lowN s.tb.toNat s.tl.toNat) (Rd.inRow (by (repeat (first | exact List.Mem.head _ | apply List.Mem.tail))) r13 p13 q13) (by omega))) (Nat.le_of_ble_eq_true rfl) ?_
          refine WL.po (PO.fieldAddr Try.underlying24 rfl (Nat.ne_of_beq_eq_false rfl) (Ev.tmp rfl)) (Nat.le_of_ble_eq_true rfl) ?_
          refine WL.store rfl (Ev.tmp rfl) (Ev.tmp rfl) rfl rfl rfl rfl (by (repeat (first | exact Upd.here | apply Upd.next))) ?_
          refine WL.nil (keepF (ts := [1, 2, 4]) rfl (toK (by assumption) ?_))
          (try clear hG ops)
          (repeat (first | refine WC.seqK fun K hK => ?_ | refine WC.block ?_ | refine WC.regionG rfl fun ops hG => ?_))
          refine WL.po (PO.move (Ev.tmp rfl)) (Nat.le_of_ble_eq_true rfl) ?_
          refine WL.po (PO.lenSl Try.underlying36 (Ev.tmp rfl)) (Nat.le_of_ble_eq_true rfl) ?_
          refine WL.po (PO.subI (Ev.tmp rfl) Ev.const (by omega)) (Nat.le_of_ble_eq_true rfl) ?_
          refine WL.po (PO.fieldAddr Try.underlying24 rfl (Nat.ne_of_beq_eq_false rfl) (Ev.tmp rfl)) (Nat.le_of_ble_eq_true rfl) ?_
          refine WL.store rfl (Ev.tmp rfl) (Ev.tmp rfl) rfl rfl rfl rfl (by (repeat (first | exact Upd.here | apply Upd.next))) ?_
          refine WL.nil (keepF (ts := [1, 2, 4]) rfl (toK (by assumption) ?_))
          (try clear hG ops)
          (repeat (first | refine WC.seqK fun K hK => ?_ | refine WC.block ?_ | refine WC.regionG rfl fun ops hG => ?_))
          refine WC.take (r := .pt b2 _) (by (repeat (first | exact Del.here | apply Del.next))) ?_
          refine WC.drawS [4] [0, 1, 2, 3, 4] [5] _ [_] mixed (fun _ _ _ _ _ h => h) [] (by kernel_rfl) ?_
          refine SR.po rfl rfl (PO.loadA Try.underlying24 rfl rfl (Ev.tmp rfl) (by (repeat (first | exact List.Mem.head _ | apply List.Mem.tail))) rfl) (Nat.le_of_ble_eq_true rfl) ?_
          refine SR.po rfl rfl (PO.move (Ev.tmp rfl)) (Nat.le_of_ble_eq_true rfl) ?_
          refine SR.po rfl rfl (PO.idx EL36.und EL36.size EL36.posz (Ev.tmp rfl) Ev.const (by first | assumption | exact Rd.ofSl (by assumption) | exact Rd.ofPt rfl (by decide) (by (repeat (first | exact List.Mem.head _ | apply List.Mem.tail))) | exact Rd.mono (by assumption) (View.le.refl _) (by (repeat (first | exact List.Sublist.refl _ | refine List.Sublist.cons_cons _ ?_ | apply List.Sublist.cons))) | exact Rd.inRow (by (repeat (first | exact List.Mem.head _ | apply List.Mem.tail))) (by assumption) (by assumption) (by assumption)) rfl (q := 0) (by omega)) (Nat.le_of_ble_eq_true rfl) ?_
          refine SR.po rfl rfl (PO.loadF1 Try.underlying3 rfl encI_len (by first | assumption | exact Rd.ofSl (by assumption) | exact Rd.ofPt rfl (by decide) (by (repeat (first | exact List.Mem.head _ | apply List.Mem.tail))) | exact Rd.mono (by assumption) (View.le.refl _) (by (repeat (first | exact List.Sublist.refl _ | refine List.Sublist.cons_cons _ ?_ | apply List.Sublist.cons))) | exact Rd.inRow (by (repeat (first | exact List.Mem.head _ | apply List.Mem.tail))) (by assumption) (by assumption) (by assumption)) (Ev.tmp rfl) (l := lowN s.tb.toNat s.tl.toNat) (lowN_get (i := 0) (by omega)) rfl) (Nat.le_of_ble_eq_true rfl) ?_
          refine SR.store rfl rfl rfl (Ev.tmp rfl) (Ev.tmp rfl) rfl rfl rfl rfl (by (repeat (first | exact Upd.here | apply Upd.next))) ?_
          refine SR.nil rfl rfl ?_
          refine WL.po (PO.assign (Ev.tmp rfl)) (Nat.le_of_ble_eq_true rfl) ?_
          refine WL.nil (keepF (ts := [2, 3]) rfl (toK (by assumption) ?_))
          (try clear hG ops)
          refine WC.ret (end2 (h' := h) (.inl rfl) rfl (RV.cellA Try.underlying24 rfl rfl rfl (by (repeat (first | exact List.Mem.head _ | apply List.Mem.tail))) rfl) (RV.tmp rfl) (View.le.refl m) (by (repeat (first | exact List.Sublist.refl _ | refine List.Sublist.cons_cons _ ?_ | apply List.Sublist.cons))) ?_)
          exact ⟨by rw [tx_low c7 (by omega), ← e13]; rfl, rfl⟩

theorem rxR_ct (s : Ser) (hk : I64 s) (bit : Int) (h : List Res) (m : View) : CT Try.prog 14 [serV s, .int .i64 bit] h m (P2 h (serV (rx s bit).1) (hV (rx s bit).2)) := by
  obtain ⟨k1, k2, k3, k4⟩ := hk
  refine CT.body Try.call14 Try.func14 rfl Try.ntmps14 (Nat.le_of_ble_eq_true rfl) rfl ?_
  (repeat (first | refine WC.seqK fun K hK => ?_ | refine WC.block ?_ | refine WC.regionG rfl fun ops hG => ?_))
  refine WL.box (Ev.tmp rfl) rfl (Nat.le_of_ble_eq_true rfl) fun b2 => ?_
  refine WL.alloc rfl rfl (Nat.le_of_ble_eq_true rfl) fun b4 => ?_
  refine WL.alloc rfl rfl (Nat.le_of_ble_eq_true rfl) fun b5 => ?_
  refine WL.nil (keepF (ts := [1, 2, 4, 5]) rfl (toK (by assumption) ?_))
  (try clear hG ops)
  (repeat (first | refine WC.seqK fun K hK => ?_ | refine WC.block ?_ | refine WC.regionG rfl fun ops hG => ?_))
  refine WL.po (PO.loadA Try.underlying24 rfl rfl (Ev.tmp rfl) (by (repeat (first | exact List.Mem.head _ | apply List.Mem.tail))) rfl) (Nat.le_of_ble_eq_true rfl) ?_
  refine WL.callP Ev.func (Evs.cons (Ev.tmp rfl) Evs.nil) (mayR_ct _ (by first | assumption | exact ⟨by assumption, by assumption, by assumption, by assumption⟩) _ _) (Nat.le_of_ble_eq_true rfl) ?_
  refine WL.po (PO.not (Ev.tmp rfl)) (Nat.le_of_ble_eq_true rfl) ?_
  refine WL.nil (keepF (ts := [1, 2, 4, 5, 10]) rfl (toK (by assumption) ?_))
  (try clear hG ops)
  (repeat (first | refine WC.seqK fun K hK => ?_ | refine WC.block ?_ | refine WC.regionG rfl fun ops hG => ?_))
  refine WC.cond (Ev.tmp rfl) (fun c10 => ?_) (fun c10 => ?_)
  · have c10 : may s = false := by simpa using c10
    (repeat (first | refine WC.seqK fun K hK => ?_ | refine WC.block ?_ | refine WC.regionG rfl fun ops hG => ?_))
    refine WL.po (PO.loadA Try.underlying24 rfl rfl (Ev.tmp rfl) (by (repeat (first | exact List.Mem.head _ | apply List.Mem.tail))) rfl) (Nat.le_of_ble_eq_true rfl) ?_
    refine WL.po (PO.build Try.underlying29 rfl rfl rfl EvP.nil rfl) (Nat.le_of_ble_eq_true rfl) ?_
    refine WL.store rfl (Ev.tmp rfl) (Ev.tmp rfl) rfl rfl rfl rfl (by (repeat (first | exact Upd.here | apply Upd.next))) ?_
    refine WL.store rfl (Ev.tmp rfl) (Ev.tmp rfl) rfl rfl rfl rfl (by (repeat (first | exact Upd.here | apply Upd.next))) ?_
    refine WL.nil (keepF (ts := [4, 5]) rfl (toK (by assumption) ?_))
    (try clear hG ops)
    refine WC.ret (end2 (h' := h) (.inl rfl) rfl (RV.cellA Try.underlying24 rfl rfl rfl (by (repeat (first | exact List.Mem.head _ | apply List.Mem.tail))) rfl) (RV.cellA Try.underlying29 rfl rfl rfl (by (repeat (first | exact List.Mem.head _ | apply List.Mem.tail))) rfl) (View.le.refl m) (by (repeat (first | exact List.Sublist.refl _ | refine List.Sublist.cons_cons _ ?_ | apply List.Sublist.cons))) ?_)
    exact ⟨by rw [show rx s bit = (s, noH) by simp [rx, c10]]; rfl, rfl⟩
  · have c10 : may s = true := by simpa using c10
    have kb := may_bd c10
    refine WC.skip (keepF (ts := [1, 2, 4, 5]) rfl (toK (by assumption) ?_))
    (repeat (first | refine WC.seqK fun K hK => ?_ | refine WC.block ?_ | refine WC.regionG rfl fun ops hG => ?_))
    refine WL.po (PO.move (Ev.tmp rfl)) (Nat.le_of_ble_eq_true rfl) ?_
    refine WL.po (PO.bin (Ev.tmp rfl) Ev.const rfl) (Nat.le_of_ble_eq_true rfl) ?_
    refine WL.nil (keepF (ts := [1, 2, 4, 5, 14]) rfl (toK (by assumption) ?_))
    (try clear hG ops)
    (repeat refine WC.seqK fun K hK => ?_)
    refine WC.cutK (by assumption) [2, 4, 5] rfl (fun F' h' => (True) ∧ F' = [(1, .int .i64 (vb bit))] ∧ .pt b5 (.cells (encH noH).toArray 29 (0, 0)) :: .pt b4 (.cells (cellS zeroS).toArray 24 (0, 0)) :: .pt b2 (.cells (cellS s).toArray 24 (0, 0)) :: h = h') ?_ ?_
    · (repeat (first | refine WC.seqK fun K hK => ?_ | refine WC.block ?_ | refine WC.regionG rfl fun ops hG => ?_))
      refine WC.cond (Ev.tmp rfl) (fun c14 => ?_) (fun c14 => ?_)
      · (repeat (first | refine WC.seqK fun K hK => ?_ | refine WC.block ?_ | refine WC.regionG rfl fun ops hG => ?_))
        refine WL.po (PO.assign Ev.const) (Nat.le_of_ble_eq_true rfl) ?_
        refine WL.nil (meetI [(1, .int .i64 (vb bit))] (h'' := .pt b5 (.cells (encH noH).toArray 29 (0, 0)) :: .pt b4 (.cells (cellS zeroS).toArray 24 (0, 0)) :: .pt b2 (.cells (cellS s).toArray 24 (0, 0)) :: h) ?_ (by (repeat (first | exact Sub.nil | refine Sub.cons rfl ?_ | refine Sub.consE rfl (by simp; done) ?_))) (by (repeat (first | exact List.Sublist.refl _ | refine List.Sublist.cons_cons _ ?_ | apply List.Sublist.cons))) ⟨by trivial, rfl, rfl⟩)
        refine Sub.consE rfl (congrArg (Value.int .i64) (by unfold vb; rw [c14]; rfl)) ?_
        (repeat (first | exact Sub.nil | refine Sub.cons rfl ?_ | refine Sub.consE rfl (by simp; done) ?_))
      · refine WC.skip (meetI [(1, .int .i64 (vb bit))] (h'' := .pt b5 (.cells (encH noH).toArray 29 (0, 0)) :: .pt b4 (.cells (cellS zeroS).toArray 24 (0, 0)) :: .pt b2 (.cells (cellS s).toArray 24 (0, 0)) :: h) ?_ (by (repeat (first | exact Sub.nil | refine Sub.cons rfl ?_ | refine Sub.consE rfl (by simp; done) ?_))) (by (repeat (first | exact List.Sublist.refl _ | refine List.Sublist.cons_cons _ ?_ | apply List.Sublist.cons))) ⟨by trivial, rfl, rfl⟩)
        refine Sub.consE rfl (congrArg (Value.int .i64) (by unfold vb; rw [c14]; simpa using c14)) ?_
        (repeat (first | exact Sub.nil | refine Sub.cons rfl ?_ | refine Sub.consE rfl (by simp; done) ?_))
    rintro _ _ ⟨hJ, rfl, rfl⟩
    refine WC.frm rfl ?_
    (repeat (first | refine WC.seqK fun K hK => ?_ | refine WC.block ?_ | refine WC.regionG rfl fun ops hG => ?_))
    refine WL.po (PO.fieldAddr Try.underlying24 rfl (Nat.ne_of_beq_eq_false rfl) (Ev.tmp rfl)) (Nat.le_of_ble_eq_true rfl) ?_
    refine WL.po (PO.load1 Try.underlying22 rfl (Ev.tmp rfl) (by (repeat (first | exact List.Mem.head _ | apply List.Mem.tail))) rfl) (Nat.le_of_ble_eq_true rfl) ?_
    refine WL.po (PO.fieldAddr Try.underlying24 rfl (Nat.ne_of_beq_eq_false rfl) (Ev.tmp rfl)) (Nat.le_of_ble_eq_true rfl) ?_
    refine WL.po (PO.load1 Try.underlying3 rfl (Ev.tmp rfl) (by (repeat (first | exact List.Mem.head _ | apply List.Mem.tail))) rfl) (Nat.le_of_ble_eq_true rfl) ?_
    refine WL.callK Ev.func (Evs.cons (Ev.tmp rfl) (Evs.cons (Ev.tmp rfl) Evs.nil)) (low_ct _ _ _ _ (by omega)) (Nat.le_of_ble_eq_true rfl) ?_
    rintro _ _ ⟨a19, c19, k19, e19, rfl, rfl⟩
    refine WL.knowRow (a := a19) (by (repeat (first | exact List.Mem.head _ | apply List.Mem.tail))) fun p19 q19 r19 => ?_
    rw [lowN_len] at e19
    refine WL.po (PO.move (Ev.tmp rfl)) (Nat.le_of_ble_eq_true rfl) ?_
    refine WL.buildSlice EL36 rfl (EvP.cons (Ev.tmp rfl) EvP.nil) rfl rfl (by decide) rfl (Nat.le_of_ble_eq_true rfl) fun b21 => ?_
    refine WL.appendE EL36 (Ev.tmp rfl) (Ev.tmp rfl) (by first | assumption | exact Rd.ofSl (by assumption) | exact Rd.ofPt rfl (by decide) (by (repeat (first | exact List.Mem.head _ | apply List.Mem.tail))) | exact Rd.mono (by assumption) (View.le.refl _) (by (repeat (first | exact List.Sublist.refl _ | refine List.Sublist.cons_cons _ ?_ | apply List.Sublist.cons))) | exact Rd.inRow (by (repeat (first | exact List.Mem.head _ | apply List.Mem.tail))) (by assumption) (by assumption) (by assumption)) (by first | exact one_of rfl | exact fl_ones (fun _ => rfl) _) rfl (fl_snoc (enc := encI) _ (vb bit)) (by omega) (by omega) (fun v' => by (repeat (first | exact Upd.here | apply Upd.next))) (Nat.le_of_ble_eq_true rfl) fun a22 c22 => ?_
    subst e19
    refine WL.knowRow (a := a22) (by (repeat (first | exact List.Mem.head _ | apply List.Mem.tail))) fun p22 q22 r22 => ?_
    refine WL.po (PO.assign (Ev.tmp rfl)) (Nat.le_of_ble_eq_true rfl) ?_
    refine WL.nil (keepF (ts := [1, 2, 4, 5, 6]) rfl (toK (by assumption) ?_))
    (try clear hG ops)
    (repeat (first | refine WC.seqK fun K hK => ?_ | refine WC.block ?_ | refine WC.regionG rfl fun ops hG => ?_))
    refine WL.po (PO.build Try.underlying29 rfl rfl rfl EvP.nil rfl) (Nat.le_of_ble_eq_true rfl) ?_
    refine WL.alloc rfl rfl (Nat.le_of_ble_eq_true rfl) fun b7 => ?_
    refine WL.store rfl (Ev.tmp rfl) (Ev.tmp rfl) rfl rfl rfl rfl (by (repeat (first | exact Upd.here | apply Upd.next))) ?_
    refine WL.nil (keepF (ts := [1, 2, 4, 5, 6, 7]) rfl (toK (by assumption) ?_))
    (try clear hG ops)
    (repeat refine WC.seqK fun K hK => ?_)
    refine WC.cutK (by assumption) [2, 4, 5, 7] rfl (fun F' h' => ∃ a : Option Addr, ∃ k : Nat, ∃ c : Nat, ∃ L : List Int, ∃ d : Heard, (k = L.length ∧ rx s bit = ({ s with rl := (k : Int), rb := numL L }, d)) ∧ F' = [(6, .slice a k c)] ∧ .row (.slice a k c) 3 1 k (fl encI L) :: .pt b7 (.cells (encH d).toArray 29 (0, 0)) :: .pt b5 (.cells (encH noH).toArray 29 (0, 0)) :: .pt b4 (.cells (cellS zeroS).toArray 24 (0, 0)) :: .pt b2 (.cells (cellS s).toArray 24 (0, 0)) :: h = h') ?_ ?_
    · (repeat (first | refine WC.seqK fun K hK => ?_ | refine WC.block ?_ | refine WC.regionG rfl fun ops hG => ?_))
      refine WL.po (PO.move (Ev.tmp rfl)) (Nat.le_of_ble_eq_true rfl) ?_
      refine WL.po (PO.lenSl Try.underlying36 (Ev.tmp rfl)) (Nat.le_of_ble_eq_true rfl) ?_
      refine WL.po (PO.bin (Ev.tmp rfl) Ev.const rfl) (Nat.le_of_ble_eq_true rfl) ?_
      refine WL.po (PO.move (Ev.tmp rfl)) (Nat.le_of_ble_eq_true rfl) ?_
      refine WL.poG (GU.t (hG _ _ rfl) rfl) (fun hc => PO.move (Ev.tmp rfl)) (Nat.le_of_ble_eq_true rfl) ?_
      refine WL.poG (GU.t (hG _ _ rfl) rfl) (fun hc => PO.bin (Ev.gv rfl hc) Ev.const rfl) (Nat.le_of_ble_eq_true rfl) ?_
      refine WL.po (PO.pickAnd rfl rfl) (Nat.le_of_ble_eq_true rfl) ?_
      refine WL.po (PO.assign (Ev.tmp rfl)) (Nat.le_of_ble_eq_true rfl) ?_
      refine WL.nil (keepF (ts := [1, 2, 4, 5, 6, 7, 24]) rfl (toK (by assumption) ?_))
      (try clear hG ops)
      (repeat (first | refine WC.seqK fun K hK => ?_ | refine WC.block ?_ | refine WC.regionG rfl fun ops hG => ?_))
      refine WC.cond (Ev.tmp rfl) (fun c24 => ?_) (fun c24 => ?_)
      · (repeat (first | refine WC.seqK fun K hK => ?_ | refine WC.block ?_ | refine WC.regionG rfl fun ops hG => ?_))
        refine WL.addNil 3 1 ?_
        refine WL.po (PO.assign Ev.const) (Nat.le_of_ble_eq_true rfl) ?_
        refine WL.nil (meetI [(6, .slice none 0 0)] (h'' := .row (.slice none 0 0) 3 1 0 (fl encI ([])) :: .pt b7 (.cells (encH noH).toArray 29 (0, 0)) :: .pt b5 (.cells (encH noH).toArray 29 (0, 0)) :: .pt b4 (.cells (cellS zeroS).toArray 24 (0, 0)) :: .pt b2 (.cells (cellS s).toArray 24 (0, 0)) :: h) ?_ (by (repeat (first | exact Sub.nil | refine Sub.cons rfl ?_ | refine Sub.consE rfl (by simp; done) ?_))) (by (repeat (first | exact List.Sublist.refl _ | refine List.Sublist.cons_cons _ ?_ | apply List.Sublist.cons))) ⟨none, 0, 0, [], noH, ⟨rfl, rxR0 c10 c24⟩, rfl, rfl⟩)
        (repeat (first | exact Sub.nil | refine Sub.cons rfl ?_ | refine Sub.consE rfl (by simp; done) ?_))
      · (repeat (first | refine WC.seqK fun K hK => ?_ | refine WC.block ?_ | refine WC.regionG rfl fun ops hG => ?_))
        refine WL.po (PO.move (Ev.tmp rfl)) (Nat.le_of_ble_eq_true rfl) ?_
        refine WL.po (PO.lenSl Try.underlying36 (Ev.tmp rfl)) (Nat.le_of_ble_eq_true rfl) ?_
        refine WL.po (PO.bin (Ev.tmp rfl) Ev.const rfl) (Nat.le_of_ble_eq_true rfl) ?_
        refine WL.po (PO.move (Ev.tmp rfl)) (Nat.le_of_ble_eq_true rfl) ?_
        refine WL.poG (GU.t (hG _ _ rfl) rfl) (fun hc => PO.move (Ev.tmp rfl)) (Nat.le_of_ble_eq_true rfl) ?_
        refine WL.poG (GU.t (hG _ _ rfl) rfl) (fun hc => PO.bin (Ev.gv rfl hc) Ev.const rfl) (Nat.le_of_ble_eq_true rfl) ?_
        refine WL.po (PO.pickAnd rfl rfl) (Nat.le_of_ble_eq_true rfl) ?_
        refine WL.po (PO.assign (Ev.tmp rfl)) (Nat.le_of_ble_eq_true rfl) ?_
        refine WL.nil (keepF (ts := [1, 2, 4, 5, 6, 7, 32]) rfl (toK (by assumption) ?_))
        (try clear hG ops)
        (repeat (first | refine WC.seqK fun K hK => ?_ | refine WC.block ?_ | refine WC.regionG rfl fun ops hG => ?_))
        refine WC.cond (Ev.tmp rfl) (fun c32 => ?_) (fun c32 => ?_)
        · (repeat (first | refine WC.seqK fun K hK => ?_ | refine WC.block ?_ | refine WC.regionG rfl fun ops hG => ?_))
          refine WL.addNil 3 1 ?_
          refine WL.po (PO.assign Ev.const) (Nat.le_of_ble_eq_true rfl) ?_
          refine WL.nil (keepF (ts := [2, 4, 5, 6, 7]) rfl (toK (by assumption) ?_))
          (try clear hG ops)
          (repeat (first | refine WC.seqK fun K hK => ?_ | refine WC.block ?_ | refine WC.regionG rfl fun ops hG => ?_))
          refine WL.po (PO.fieldAddr Try.underlying29 rfl (Nat.ne_of_beq_eq_false rfl) (Ev.tmp rfl)) (Nat.le_of_ble_eq_true rfl) ?_
          refine WL.store rfl (Ev.tmp rfl) Ev.const rfl rfl rfl rfl (by (repeat (first | exact Upd.here | apply Upd.next))) ?_
          refine WL.nil (meetI [(6, .slice none 0 0)] (h'' := .row (.slice none 0 0) 3 1 0 (fl encI ([])) :: .pt b7 (.cells (encH (⟨2#8, 0#8⟩)).toArray 29 (0, 0)) :: .pt b5 (.cells (encH noH).toArray 29 (0, 0)) :: .pt b4 (.cells (cellS zeroS).toArray 24 (0, 0)) :: .pt b2 (.cells (cellS s).toArray 24 (0, 0)) :: h) ?_ (by (repeat (first | exact Sub.nil | refine Sub.cons rfl ?_ | refine Sub.consE rfl (by simp; done) ?_))) (by (repeat (first | exact List.Sublist.refl _ | refine List.Sublist.cons_cons _ ?_ | apply List.Sublist.cons))) ⟨none, 0, 0, [], ⟨2#8, 0#8⟩, ⟨rfl, rxR1 c10 c32⟩, rfl, rfl⟩)
          (repeat (first | exact Sub.nil | refine Sub.cons rfl ?_ | refine Sub.consE rfl (by simp; done) ?_))
        · (repeat (first | refine WC.seqK fun K hK => ?_ | refine WC.block ?_ | refine WC.regionG rfl fun ops hG => ?_))
          refine WL.po (PO.move (Ev.tmp rfl)) (Nat.le_of_ble_eq_true rfl) ?_
          refine WL.po (PO.lenSl Try.underlying36 (Ev.tmp rfl)) (Nat.le_of_ble_eq_true rfl) ?_
          refine WL.po (PO.bin (Ev.tmp rfl) Ev.const rfl) (Nat.le_of_ble_eq_true rfl) ?_
          refine WL.po (PO.move (Ev.tmp rfl)) (Nat.le_of_ble_eq_true rfl) ?_
          refine WL.poG (GU.t (hG _ _ rfl) rfl) (fun hc => PO.move (Ev.tmp rfl)) (Nat.le_of_ble_eq_true rfl) ?_
          refine WL.poG (GU.t (hG _ _ rfl) rfl) (fun hc => PO.bin (Ev.gv rfl hc) Ev.const rfl) (Nat.le_of_ble_eq_true rfl) ?_
          refine WL.po (PO.pickAnd rfl rfl) (Nat.le_of_ble_eq_true rfl) ?_
          refine WL.po (PO.assign (Ev.tmp rfl)) (Nat.le_of_ble_eq_true rfl) ?_
          refine WL.nil (keepF (ts := [2, 4, 5, 6, 7, 41]) rfl (toK (by assumption) ?_))
          (try clear hG ops)
          (repeat (first | refine WC.seqK fun K hK => ?_ | refine WC.block ?_ | refine WC.regionG rfl fun ops hG => ?_))
          refine WC.cond (Ev.tmp rfl) (fun c41 => ?_) (fun c41 => ?_)
          · have g41 := t_eq (and_l c41)
            (repeat (first | refine WC.seqK fun K hK => ?_ | refine WC.block ?_ | refine WC.regionG rfl fun ops hG => ?_))
            refine WL.po (PO.fieldAddr Try.underlying29 rfl (Nat.ne_of_beq_eq_false rfl) (Ev.tmp rfl)) (Nat.le_of_ble_eq_true rfl) ?_
            refine WL.store rfl (Ev.tmp rfl) Ev.const rfl rfl rfl rfl (by (repeat (first | exact Upd.here | apply Upd.next))) ?_
            refine WL.nil (keepF (ts := [2, 4, 5, 6, 7]) rfl (toK (by assumption) ?_))
            (try clear hG ops)
            (repeat (first | refine WC.seqK fun K hK => ?_ | refine WC.block ?_ | refine WC.regionG rfl fun ops hG => ?_))
            refine WL.po (PO.move (Ev.tmp rfl)) (Nat.le_of_ble_eq_true rfl) ?_
            refine WL.po (PO.sliceLH EL36.und EL36.size (Ev.tmp rfl) Ev.const Ev.const (l := 2) (u := 10) rfl rfl (by omega) (by omega)) (Nat.le_of_ble_eq_true rfl) ?_
            refine WL.callP Ev.func (Evs.cons (Ev.tmp rfl) Evs.nil) (number_ct _ _ _ _ _ _ (Rd.subF encI_len (l := lowN s.rb.toNat s.rl.toNat ++ [vb bit]) (Rd.inRow (by (repeat (first | exact List.Mem.head _ | apply List.Mem.tail))) (by rw [fl_len encI_len]; simp [lowN_len]) p22 q22) (by decide) (by omega))) (Nat.le_of_ble_eq_true rfl) ?_
            refine WL.po (PO.conv Try.underlying22 Try.underlying5 (Ev.tmp rfl)) (Nat.le_of_ble_eq_true rfl) ?_
            refine WL.po (PO.fieldAddr Try.underlying29 rfl (Nat.ne_of_beq_eq_false rfl) (Ev.tmp rfl)) (Nat.le_of_ble_eq_true rfl) ?_
            refine WL.store rfl (Ev.tmp rfl) (Ev.tmp rfl) rfl rfl rfl rfl (by (repeat (first | exact Upd.here | apply Upd.next))) ?_
            refine WL.nil (keepF (ts := [2, 4, 5, 7]) rfl (toK (by assumption) ?_))
            (try clear hG ops)
            (repeat (first | refine WC.seqK fun K hK => ?_ | refine WC.block ?_ | refine WC.regionG rfl fun ops hG => ?_))
            refine WL.addNil 3 1 ?_
            refine WL.po (PO.assign Ev.const) (Nat.le_of_ble_eq_true rfl) ?_
            refine WL.nil (meetI [(6, .slice none 0 0)] (h'' := .row (.slice none 0 0) 3 1 0 (fl encI ([])) :: .pt b7 (.cells (encH (⟨1#8, (numL (((lowN s.rb.toNat s.rl.toNat ++ [vb bit]).drop 2).take (10 - 2))).setWidth 8⟩)).toArray 29 (0, 0)) :: .pt b5 (.cells (encH noH).toArray 29 (0, 0)) :: .pt b4 (.cells (cellS zeroS).toArray 24 (0, 0)) :: .pt b2 (.cells (cellS s).toArray 24 (0, 0)) :: h) ?_ (by (repeat (first | exact Sub.nil | refine Sub.cons rfl ?_ | refine Sub.consE rfl (by simp; done) ?_))) (by (repeat (first | exact List.Sublist.refl _ | refine List.Sublist.cons_cons _ ?_ | apply List.Sublist.cons))) ⟨none, 0, 0, [], ⟨1#8, (numL (((lowN s.rb.toNat s.rl.toNat ++ [vb bit]).drop 2).take (10 - 2))).setWidth 8⟩, ⟨rfl, rxR2 c10 c41⟩, rfl, rfl⟩)
            (repeat (first | exact Sub.nil | refine Sub.cons rfl ?_ | refine Sub.consE rfl (by simp; done) ?_))
          · (repeat (first | refine WC.seqK fun K hK => ?_ | refine WC.block ?_ | refine WC.regionG rfl fun ops hG => ?_))
            refine WL.po (PO.move (Ev.tmp rfl)) (Nat.le_of_ble_eq_true rfl) ?_
            refine WL.po (PO.lenSl Try.underlying36 (Ev.tmp rfl)) (Nat.le_of_ble_eq_true rfl) ?_
            refine WL.po (PO.bin (Ev.tmp rfl) Ev.const rfl) (Nat.le_of_ble_eq_true rfl) ?_
            refine WL.po (PO.assign (Ev.tmp rfl)) (Nat.le_of_ble_eq_true rfl) ?_
            refine WL.nil (keepF (ts := [2, 4, 5, 6, 7, 55]) rfl (toK (by assumption) ?_))
            (try clear hG ops)
            (repeat (first | refine WC.seqK fun K hK => ?_ | refine WC.block ?_ | refine WC.regionG rfl fun ops hG => ?_))
            refine WC.cond (Ev.tmp rfl) (fun c55 => ?_) (fun c55 => ?_)
            · (repeat (first | refine WC.seqK fun K hK => ?_ | refine WC.block ?_ | refine WC.regionG rfl fun ops hG => ?_))
              refine WL.addNil 3 1 ?_
              refine WL.po (PO.assign Ev.const) (Nat.le_of_ble_eq_true rfl) ?_
              refine WL.nil (keepF (ts := [2, 4, 5, 6, 7]) rfl (toK (by assumption) ?_))
              (try clear hG ops)
              (repeat (first | refine WC.seqK fun K hK => ?_ | refine WC.block ?_ | refine WC.regionG rfl fun ops hG => ?_))
              refine WL.po (PO.fieldAddr Try.underlying29 rfl (Nat.ne_of_beq_eq_false rfl) (Ev.tmp rfl)) (Nat.le_of_ble_eq_true rfl) ?_
              refine WL.store rfl (Ev.tmp rfl) Ev.const rfl rfl rfl rfl (by (repeat (first | exact Upd.here | apply Upd.next))) ?_
              refine WL.nil (meetI [(6, .slice none 0 0)] (h'' := .row (.slice none 0 0) 3 1 0 (fl encI ([])) :: .pt b7 (.cells (encH (⟨3#8, 0#8⟩)).toArray 29 (0, 0)) :: .pt b5 (.cells (encH noH).toArray 29 (0, 0)) :: .pt b4 (.cells (cellS zeroS).toArray 24 (0, 0)) :: .pt b2 (.cells (cellS s).toArray 24 (0, 0)) :: h) ?_ (by (repeat (first | exact Sub.nil | refine Sub.cons rfl ?_ | refine Sub.consE rfl (by simp; done) ?_))) (by (repeat (first | exact List.Sublist.refl _ | refine List.Sublist.cons_cons _ ?_ | apply List.Sublist.cons))) ⟨none, 0, 0, [], ⟨3#8, 0#8⟩, ⟨rfl, rxR3 c10 c41 c55⟩, rfl, rfl⟩)
              (repeat (first | exact Sub.nil | refine Sub.cons rfl ?_ | refine Sub.consE rfl (by simp; done) ?_))
            · refine WC.take (r := .row (.slice a22 _ c22) 3 1 _ _) (by (repeat (first | exact Del.here | apply Del.next))) ?_
              refine WC.skip (meetI [(6, .slice a22 (s.rl.toNat + 1) c22)] (h'' := .row (.slice a22 (s.rl.toNat + 1) c22) 3 1 (s.rl.toNat + 1) (fl encI (lowN s.rb.toNat s.rl.toNat ++ [vb bit])) :: .pt b7 (.cells (encH noH).toArray 29 (0, 0)) :: .pt b5 (.cells (encH noH).toArray 29 (0, 0)) :: .pt b4 (.cells (cellS zeroS).toArray 24 (0, 0)) :: .pt b2 (.cells (cellS s).toArray 24 (0, 0)) :: h) ?_ (by (repeat (first | exact Sub.nil | refine Sub.cons rfl ?_ | refine Sub.consE rfl (by simp; done) ?_))) (by (repeat (first | exact List.Sublist.refl _ | refine List.Sublist.cons_cons _ ?_ | apply List.Sublist.cons))) ⟨a22, s.rl.toNat + 1, c22, lowN s.rb.toNat s.rl.toNat ++ [vb bit], noH, ⟨by simp [lowN_len], rxR4 c10 c24 c32 c55⟩, rfl, rfl⟩)
              (repeat (first | exact Sub.nil | refine Sub.cons rfl ?_ | refine Sub.consE rfl (by simp; done) ?_))
    rintro _ _ ⟨a, k, c, L, d, ⟨eL, eR⟩, rfl, rfl⟩
    refine WC.frm rfl ?_
    (repeat (first | refine WC.seqK fun K hK => ?_ | refine WC.block ?_ | refine WC.regionG rfl fun ops hG => ?_))
    refine WL.knowRow (a := a) (by (repeat (first | exact List.Mem.head _ | apply List.Mem.tail))) fun p q r => ?_
    refine WL.po (PO.move (Ev.tmp rfl)) (Nat.le_of_ble_eq_true rfl) ?_
    refine WL.po (PO.lenSl Try.underlying36 (Ev.tmp rfl)) (Nat.le_of_ble_eq_true rfl) ?_
    refine WL.po (PO.fieldAddr Try.underlying24 rfl (Nat.ne_of_beq_eq_false rfl) (Ev.tmp rfl)) (Nat.le_of_ble_eq_true rfl) ?_
    refine WL.store rfl (Ev.tmp rfl) (Ev.tmp rfl) rfl rfl rfl rfl (by (repeat (first | exact Upd.here | apply Upd.next))) ?_
    refine WL.nil (keepF (ts := [2, 4, 5, 6, 7]) rfl (toK (by assumption) ?_))
    (try clear hG ops)
    (repeat (first | refine WC.seqK fun K hK => ?_ | refine WC.block ?_ | refine WC.regionG rfl fun ops hG => ?_))
    refine WL.po (PO.move (Ev.tmp rfl)) (Nat.le_of_ble_eq_true rfl) ?_
    refine WL.callP Ev.func (Evs.cons (Ev.tmp rfl) Evs.nil) (number_ct _ _ _ _ _ _ (by first | assumption | exact Rd.ofSl (by assumption) | exact Rd.ofPt rfl (by decide) (by (repeat (first | exact List.Mem.head _ | apply List.Mem.tail))) | exact Rd.mono (by assumption) (View.le.refl _) (by (repeat (first | exact List.Sublist.refl _ | refine List.Sublist.cons_cons _ ?_ | apply List.Sublist.cons))) | exact Rd.inRow (by (repeat (first | exact List.Mem.head _ | apply List.Mem.tail))) (by assumption) (by assumption) (by assumption))) (Nat.le_of_ble_eq_true rfl) ?_
    refine WL.po (PO.fieldAddr Try.underlying24 rfl (Nat.ne_of_beq_eq_false rfl) (Ev.tmp rfl)) (Nat.le_of_ble_eq_true rfl) ?_
    refine WL.store rfl (Ev.tmp rfl) (Ev.tmp rfl) rfl rfl rfl rfl (by (repeat (first | exact Upd.here | apply Upd.next))) ?_
    refine WL.nil (keepF (ts := [2, 4, 5, 7]) rfl (toK (by assumption) ?_))
    (try clear hG ops)
    (repeat (first | refine WC.seqK fun K hK => ?_ | refine WC.block ?_ | refine WC.regionG rfl fun ops hG => ?_))
    refine WC.take (r := .pt b4 _) (by (repeat (first | exact Del.here | apply Del.next))) ?_
    refine WC.drawS [2] [0, 1, 2] [3] _ [_] mixed (fun _ _ _ _ _ h => h) [] (by kernel_rfl) ?_
    refine SR.po rfl rfl (PO.loadA Try.underlying24 rfl rfl (Ev.tmp rfl) (by (repeat (first | exact List.Mem.head _ | apply List.Mem.tail))) rfl) (Nat.le_of_ble_eq_true rfl) ?_
    refine SR.po rfl rfl (PO.loadA Try.underlying29 rfl rfl (Ev.tmp rfl) (by (repeat (first | exact List.Mem.head _ | apply List.Mem.tail))) rfl) (Nat.le_of_ble_eq_true rfl) ?_
    refine SR.store rfl rfl rfl (Ev.tmp rfl) (Ev.tmp rfl) rfl rfl rfl rfl (by (repeat (first | exact Upd.here | apply Upd.next))) ?_
    refine SR.nil rfl rfl ?_
    refine WL.store rfl (Ev.tmp rfl) (Ev.tmp rfl) rfl rfl rfl rfl (by (repeat (first | exact Upd.here | apply Upd.next))) ?_
    refine WL.nil (keepF (ts := [4, 5]) rfl (toK (by assumption) ?_))
    (try clear hG ops)
    refine WC.ret (end2 (h' := h) (.inl rfl) rfl (RV.cellA Try.underlying24 rfl rfl rfl (by (repeat (first | exact List.Mem.head _ | apply List.Mem.tail))) rfl) (RV.cellA Try.underlying29 rfl rfl rfl (by (repeat (first | exact List.Mem.head _ | apply List.Mem.tail))) rfl) (View.le.refl m) (by (repeat (first | exact List.Sublist.refl _ | refine List.Sublist.cons_cons _ ?_ | apply List.Sublist.cons))) ?_)
    exact ⟨by rw [eR]; rfl, rfl⟩
end Go.Proofs.Ytoeghfpkpppchaa

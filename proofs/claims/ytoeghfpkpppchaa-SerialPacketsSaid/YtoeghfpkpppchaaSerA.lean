/- serial: the program's functions on a link end. -/
import Derived.Test.YtoeghfpkpppchaaRows
import Derived.Test.YtoeghfpkpppchaaSerM
namespace Go.Proofs.Ytoeghfpkpppchaa
open Go.Eng Go.Ser

theorem mixed : Try.prog.follows .mixedOrders = true := by kernel_rfl
theorem EL35 : EL Try.prog 35 40 2 2 := ⟨_, _, rfl, rfl, rfl, rfl, rfl, rfl, by decide⟩
theorem EL36 : EL Try.prog 36 3 1 8 := ⟨_, _, rfl, rfl, rfl, rfl, rfl, rfl, by decide⟩
theorem EL37 : EL Try.prog 37 29 2 2 := ⟨_, _, rfl, rfl, rfl, rfl, rfl, rfl, by decide⟩
theorem EL56 : EL Try.prog 56 5 1 1 := ⟨_, _, rfl, rfl, rfl, rfl, rfl, rfl, by decide⟩

theorem begins_ct (b : BitVec 16) (k : Int) (h : List Res) (m : View) : CT Try.prog 36 [u16 b, .int .i64 k] h m (Pure1 h (.bool (begins b k))) := by
  refine CT.body Try.call36 Try.func36 rfl Try.ntmps36 (Nat.le_of_ble_eq_true rfl) rfl ?_
  (repeat (first | refine WC.seqK fun K hK => ?_ | refine WC.block ?_ | refine WC.regionG rfl fun ops hG => ?_))
  refine WL.po (PO.assign Ev.const) (Nat.le_of_ble_eq_true rfl) ?_
  refine WL.nil (keepF (ts := [0, 1]) rfl (toK (by assumption) ?_))
  (try clear hG ops)
  (repeat (first | refine WC.seqK fun K hK => ?_ | refine WC.block ?_ | refine WC.regionG rfl fun ops hG => ?_))
  refine WL.po (PO.move (Ev.tmp rfl)) (Nat.le_of_ble_eq_true rfl) ?_
  refine WL.po (PO.bin (Ev.tmp rfl) Ev.const rfl) (Nat.le_of_ble_eq_true rfl) ?_
  refine WL.po (PO.move (Ev.tmp rfl)) (Nat.le_of_ble_eq_true rfl) ?_
  refine WL.poG (GU.t (hG _ _ rfl) rfl) (fun hc => PO.move (Ev.tmp rfl)) (Nat.le_of_ble_eq_true rfl) ?_
  refine WL.poG (GU.t (hG _ _ rfl) rfl) (fun hc => PO.bin (Ev.gv rfl hc) Ev.const rfl) (Nat.le_of_ble_eq_true rfl) ?_
  refine WL.po (PO.pickAnd rfl rfl) (Nat.le_of_ble_eq_true rfl) ?_
  refine WL.po (PO.move (Ev.tmp rfl)) (Nat.le_of_ble_eq_true rfl) ?_
  refine WL.poG (GU.t (hG _ _ rfl) rfl) (fun hc => PO.move (Ev.tmp rfl)) (Nat.le_of_ble_eq_true rfl) ?_
  refine WL.poG (GU.t (hG _ _ rfl) rfl) (fun hc => PO.move (Ev.tmp rfl)) (Nat.le_of_ble_eq_true rfl) ?_
  refine WL.poG (GU.t (hG _ _ rfl) rfl) (fun hc => PO.shr (Ev.gv rfl hc) (Ev.gv rfl hc) (by first | omega | (simp at hc; omega))) (Nat.le_of_ble_eq_true rfl) ?_
  refine WL.poG (GU.t (hG _ _ rfl) rfl) (fun hc => PO.bin (Ev.gv rfl hc) Ev.const rfl) (Nat.le_of_ble_eq_true rfl) ?_
  refine WL.po (PO.pickAnd rfl rfl) (Nat.le_of_ble_eq_true rfl) ?_
  refine WL.po (PO.move (Ev.tmp rfl)) (Nat.le_of_ble_eq_true rfl) ?_
  refine WL.poG (GU.t (hG _ _ rfl) rfl) (fun hc => PO.move (Ev.tmp rfl)) (Nat.le_of_ble_eq_true rfl) ?_
  refine WL.poG (GU.t (hG _ _ rfl) rfl) (fun hc => PO.bin (Ev.gv rfl hc) Ev.const rfl) (Nat.le_of_ble_eq_true rfl) ?_
  refine WL.poG (GU.t (hG _ _ rfl) rfl) (fun hc => PO.move (Ev.tmp rfl)) (Nat.le_of_ble_eq_true rfl) ?_
  refine WL.poG (GU.t (hG _ _ rfl) rfl) (fun hc => PO.min (Ev.gv rfl hc) Ev.const) (Nat.le_of_ble_eq_true rfl) ?_
  refine WL.poG (GU.t (hG _ _ rfl) rfl) (fun hc => PO.shl Ev.const (Ev.gv rfl hc) (by first | omega | (simp at hc; omega))) (Nat.le_of_ble_eq_true rfl) ?_
  refine WL.poG (GU.t (hG _ _ rfl) rfl) (fun hc => PO.bin (Ev.gv rfl hc) Ev.const rfl) (Nat.le_of_ble_eq_true rfl) ?_
  refine WL.poG (GU.t (hG _ _ rfl) rfl) (fun hc => PO.bin (Ev.gv rfl hc) (Ev.gv rfl hc) rfl) (Nat.le_of_ble_eq_true rfl) ?_
  refine WL.po (PO.pickAnd rfl rfl) (Nat.le_of_ble_eq_true rfl) ?_
  refine WL.po (PO.assign (Ev.tmp rfl)) (Nat.le_of_ble_eq_true rfl) ?_
  refine WL.nil (keepF (ts := [4]) rfl (toK (by assumption) ?_))
  (try clear hG ops)
  refine WC.ret (end1 (h' := h) (.inl rfl) rfl (RV.tmp rfl) (View.le.refl m) (by (repeat (first | exact List.Sublist.refl _ | refine List.Sublist.cons_cons _ ?_ | apply List.Sublist.cons))) ?_)
  exact ⟨congrArg Value.bool (begins_int b k), rfl⟩
theorem ends_ct (b : BitVec 16) (k : Int) (h : List Res) (m : View) (hk : -9223372036854775808 ≤ k ∧ k ≤ 9223372036854775807) : CT Try.prog 35 [u16 b, .int .i64 k] h m (Pure1 h (.bool (ends b k))) := by
  refine CT.body Try.call35 Try.func35 rfl Try.ntmps35 (Nat.le_of_ble_eq_true rfl) rfl ?_
  (repeat (first | refine WC.seqK fun K hK => ?_ | refine WC.block ?_ | refine WC.regionG rfl fun ops hG => ?_))
  refine WL.po (PO.assign Ev.const) (Nat.le_of_ble_eq_true rfl) ?_
  refine WL.nil (keepF (ts := [0, 1]) rfl (toK (by assumption) ?_))
  (try clear hG ops)
  (repeat (first | refine WC.seqK fun K hK => ?_ | refine WC.block ?_ | refine WC.regionG rfl fun ops hG => ?_))
  refine WL.po (PO.move (Ev.tmp rfl)) (Nat.le_of_ble_eq_true rfl) ?_
  refine WL.po (PO.bin (Ev.tmp rfl) Ev.const rfl) (Nat.le_of_ble_eq_true rfl) ?_
  refine WL.po (PO.move (Ev.tmp rfl)) (Nat.le_of_ble_eq_true rfl) ?_
  refine WL.poG (GU.f (hG _ _ rfl) rfl) (fun hc => PO.move (Ev.tmp rfl)) (Nat.le_of_ble_eq_true rfl) ?_
  refine WL.poG (GU.f (hG _ _ rfl) rfl) (fun hc => PO.bin (Ev.gv rfl hc) Ev.const rfl) (Nat.le_of_ble_eq_true rfl) ?_
  refine WL.po (PO.pickOr rfl rfl) (Nat.le_of_ble_eq_true rfl) ?_
  refine WL.po (PO.move (Ev.tmp rfl)) (Nat.le_of_ble_eq_true rfl) ?_
  refine WL.poG (GU.f (hG _ _ rfl) rfl) (fun hc => PO.move (Ev.tmp rfl)) (Nat.le_of_ble_eq_true rfl) ?_
  refine WL.poG (GU.f (hG _ _ rfl) rfl) (fun hc => PO.move (Ev.tmp rfl)) (Nat.le_of_ble_eq_true rfl) ?_
  refine WL.poG (GU.f (hG _ _ rfl) rfl) (fun hc => PO.shr (Ev.gv rfl hc) (Ev.gv rfl hc) (by first | omega | (simp at hc; omega))) (Nat.le_of_ble_eq_true rfl) ?_
  refine WL.poG (GU.f (hG _ _ rfl) rfl) (fun hc => PO.bin (Ev.gv rfl hc) Ev.const rfl) (Nat.le_of_ble_eq_true rfl) ?_
  refine WL.po (PO.pickOr rfl rfl) (Nat.le_of_ble_eq_true rfl) ?_
  refine WL.nil (keepF (ts := [0, 1, 16]) rfl (toK (by assumption) ?_))
  (try clear hG ops)
  (repeat (first | refine WC.seqK fun K hK => ?_ | refine WC.block ?_ | refine WC.regionG rfl fun ops hG => ?_))
  refine WC.cond (Ev.tmp rfl) (fun c16 => ?_) (fun c16 => ?_)
  · rw [ends_int0] at c16
    (repeat (first | refine WC.seqK fun K hK => ?_ | refine WC.block ?_ | refine WC.regionG rfl fun ops hG => ?_))
    refine WL.po (PO.assign Ev.const) (Nat.le_of_ble_eq_true rfl) ?_
    refine WL.nil (keepF (ts := [4]) rfl (toK (by assumption) ?_))
    (try clear hG ops)
    refine WC.ret (end1 (h' := h) (.inl rfl) rfl (RV.tmp rfl) (View.le.refl m) (by (repeat (first | exact List.Sublist.refl _ | refine List.Sublist.cons_cons _ ?_ | apply List.Sublist.cons))) ?_)
    exact ⟨by unfold ends; rw [c16]; rfl, rfl⟩
  · rw [ends_int0] at c16
    have k0 : 0 ≤ k := by simp at c16; omega
    refine WC.skip (keepF (ts := [0, 1]) rfl (toK (by assumption) ?_))
    (repeat (first | refine WC.seqK fun K hK => ?_ | refine WC.block ?_ | refine WC.regionG rfl fun ops hG => ?_))
    refine WL.po (PO.move (Ev.tmp rfl)) (Nat.le_of_ble_eq_true rfl) ?_
    refine WL.po (PO.bin (Ev.tmp rfl) Ev.const rfl) (Nat.le_of_ble_eq_true rfl) ?_
    refine WL.po (PO.move (Ev.tmp rfl)) (Nat.le_of_ble_eq_true rfl) ?_
    refine WL.poG (GU.f (hG _ _ rfl) rfl) (fun hc => PO.move (Ev.tmp rfl)) (Nat.le_of_ble_eq_true rfl) ?_
    refine WL.poG (GU.f (hG _ _ rfl) rfl) (fun hc => PO.move (Ev.tmp rfl)) (Nat.le_of_ble_eq_true rfl) ?_
    refine WL.poG (GU.f (hG _ _ rfl) rfl) (fun hc => PO.subI (Ev.gv rfl hc) Ev.const (by first | omega | (simp at hc; omega))) (Nat.le_of_ble_eq_true rfl) ?_
    refine WL.poG (GU.f (hG _ _ rfl) rfl) (fun hc => PO.shr (Ev.gv rfl hc) (Ev.gv rfl hc) (by first | omega | (simp at hc; omega))) (Nat.le_of_ble_eq_true rfl) ?_
    refine WL.poG (GU.f (hG _ _ rfl) rfl) (fun hc => PO.bin (Ev.gv rfl hc) Ev.const rfl) (Nat.le_of_ble_eq_true rfl) ?_
    refine WL.poG (GU.f (hG _ _ rfl) rfl) (fun hc => PO.move (Ev.gv rfl hc)) (Nat.le_of_ble_eq_true rfl) ?_
    refine WL.poG (GU.nt (hG _ _ rfl) rfl) (fun hc => PO.move (Ev.tmp rfl)) (Nat.le_of_ble_eq_true rfl) ?_
    refine WL.poG (GU.nt (hG _ _ rfl) rfl) (fun hc => PO.bin (Ev.gv rfl hc) Ev.const rfl) (Nat.le_of_ble_eq_true rfl) ?_
    refine WL.poG (GU.nt (hG _ _ rfl) rfl) (fun hc => PO.move (Ev.gv rfl hc)) (Nat.le_of_ble_eq_true rfl) ?_
    refine WL.poG (GU.nf (hG _ _ rfl) rfl) (fun hc => PO.move (Ev.tmp rfl)) (Nat.le_of_ble_eq_true rfl) ?_
    refine WL.poG (GU.nf (hG _ _ rfl) rfl) (fun hc => PO.bin (Ev.gv rfl hc) Ev.const rfl) (Nat.le_of_ble_eq_true rfl) ?_
    refine WL.poG (GU.nf (hG _ _ rfl) rfl) (fun hc => PO.bin (Ev.gv rfl hc) Ev.const rfl) (Nat.le_of_ble_eq_true rfl) ?_
    refine WL.poG (GU.nt (hG _ _ rfl) rfl) (fun hc => PO.pickOrN hc rfl rfl) (Nat.le_of_ble_eq_true rfl) ?_
    refine WL.poG (GU.f (hG _ _ rfl) rfl) (fun hc => PO.pickAndN hc rfl rfl) (Nat.le_of_ble_eq_true rfl) ?_
    refine WL.po (PO.pickOr rfl rfl) (Nat.le_of_ble_eq_true rfl) ?_
    refine WL.po (PO.assign (Ev.tmp rfl)) (Nat.le_of_ble_eq_true rfl) ?_
    refine WL.nil (keepF (ts := [4]) rfl (toK (by assumption) ?_))
    (try clear hG ops)
    refine WC.ret (end1 (h' := h) (.inl rfl) rfl (RV.tmp rfl) (View.le.refl m) (by (repeat (first | exact List.Sublist.refl _ | refine List.Sublist.cons_cons _ ?_ | apply List.Sublist.cons))) ?_)
    exact ⟨by unfold ends; rw [c16]; exact congrArg Value.bool (ends_int b k), rfl⟩
theorem may_ct (s : Ser) (hk : I64 s) (h : List Res) (m : View) : CT Try.prog 16 [serV s] h m (Pure1 h (.bool (may s))) := by
  obtain ⟨k1, k2, k3, k4⟩ := hk
  refine CT.body Try.call16 Try.func16 rfl Try.ntmps16 (Nat.le_of_ble_eq_true rfl) rfl ?_
  (repeat (first | refine WC.seqK fun K hK => ?_ | refine WC.block ?_ | refine WC.regionG rfl fun ops hG => ?_))
  refine WL.box (Ev.tmp rfl) rfl (Nat.le_of_ble_eq_true rfl) fun b1 => ?_
  refine WL.po (PO.assign Ev.const) (Nat.le_of_ble_eq_true rfl) ?_
  refine WL.nil (keepF (ts := [1]) rfl (toK (by assumption) ?_))
  (try clear hG ops)
  (repeat (first | refine WC.seqK fun K hK => ?_ | refine WC.block ?_ | refine WC.regionG rfl fun ops hG => ?_))
  refine WL.po (PO.fieldAddr Try.underlying24 rfl (Nat.ne_of_beq_eq_false rfl) (Ev.tmp rfl)) (Nat.le_of_ble_eq_true rfl) ?_
  refine WL.po (PO.load1 Try.underlying22 rfl (Ev.tmp rfl) (by (repeat (first | exact List.Mem.head _ | apply List.Mem.tail))) rfl) (Nat.le_of_ble_eq_true rfl) ?_
  refine WL.po (PO.fieldAddr Try.underlying24 rfl (Nat.ne_of_beq_eq_false rfl) (Ev.tmp rfl)) (Nat.le_of_ble_eq_true rfl) ?_
  refine WL.po (PO.load1 Try.underlying3 rfl (Ev.tmp rfl) (by (repeat (first | exact List.Mem.head _ | apply List.Mem.tail))) rfl) (Nat.le_of_ble_eq_true rfl) ?_
  refine WL.callP Ev.func (Evs.cons (Ev.tmp rfl) (Evs.cons (Ev.tmp rfl) Evs.nil)) (ends_ct _ _ _ _ (by first | exact ⟨by assumption, by assumption⟩ | exact hk.1 | omega)) (Nat.le_of_ble_eq_true rfl) ?_
  refine WL.po (PO.move (Ev.tmp rfl)) (Nat.le_of_ble_eq_true rfl) ?_
  refine WL.poG (GU.t (hG _ _ rfl) rfl) (fun hc => PO.fieldAddr Try.underlying24 rfl (Nat.ne_of_beq_eq_false rfl) (Ev.tmp rfl)) (Nat.le_of_ble_eq_true rfl) ?_
  refine WL.poG (GU.t (hG _ _ rfl) rfl) (fun hc => PO.load1 Try.underlying22 rfl (Ev.gv rfl hc) (by (repeat (first | exact List.Mem.head _ | apply List.Mem.tail))) rfl) (Nat.le_of_ble_eq_true rfl) ?_
  refine WL.poG (GU.t (hG _ _ rfl) rfl) (fun hc => PO.fieldAddr Try.underlying24 rfl (Nat.ne_of_beq_eq_false rfl) (Ev.tmp rfl)) (Nat.le_of_ble_eq_true rfl) ?_
  refine WL.poG (GU.t (hG _ _ rfl) rfl) (fun hc => PO.load1 Try.underlying3 rfl (Ev.gv rfl hc) (by (repeat (first | exact List.Mem.head _ | apply List.Mem.tail))) rfl) (Nat.le_of_ble_eq_true rfl) ?_
  refine WL.callG (GU.t (hG _ _ rfl) rfl) (fun hc => ⟨Ev.func, (Evs.cons (Ev.gv rfl hc) (Evs.cons (Ev.gv rfl hc) Evs.nil)), begins_ct _ _ _ _⟩) (Nat.le_of_ble_eq_true rfl) ?_
  refine WL.po (PO.pickAnd rfl rfl) (Nat.le_of_ble_eq_true rfl) ?_
  refine WL.po (PO.move (Ev.tmp rfl)) (Nat.le_of_ble_eq_true rfl) ?_
  refine WL.poG (GU.t (hG _ _ rfl) rfl) (fun hc => PO.fieldAddr Try.underlying24 rfl (Nat.ne_of_beq_eq_false rfl) (Ev.tmp rfl)) (Nat.le_of_ble_eq_true rfl) ?_
  refine WL.poG (GU.t (hG _ _ rfl) rfl) (fun hc => PO.load1 Try.underlying4 rfl (Ev.gv rfl hc) (by (repeat (first | exact List.Mem.head _ | apply List.Mem.tail))) rfl) (Nat.le_of_ble_eq_true rfl) ?_
  refine WL.poG (GU.t (hG _ _ rfl) rfl) (fun hc => PO.move (Ev.gv rfl hc)) (Nat.le_of_ble_eq_true rfl) ?_
  refine WL.poG (GU.nf (hG _ _ rfl) rfl) (fun hc => PO.fieldAddr Try.underlying24 rfl (Nat.ne_of_beq_eq_false rfl) (Ev.tmp rfl)) (Nat.le_of_ble_eq_true rfl) ?_
  refine WL.poG (GU.nf (hG _ _ rfl) rfl) (fun hc => PO.load1 Try.underlying5 rfl (Ev.gv rfl hc) (by (repeat (first | exact List.Mem.head _ | apply List.Mem.tail))) rfl) (Nat.le_of_ble_eq_true rfl) ?_
  refine WL.poG (GU.nf (hG _ _ rfl) rfl) (fun hc => PO.bin (Ev.gv rfl hc) Ev.const rfl) (Nat.le_of_ble_eq_true rfl) ?_
  refine WL.poG (GU.t (hG _ _ rfl) rfl) (fun hc => PO.pickOrN hc rfl rfl) (Nat.le_of_ble_eq_true rfl) ?_
  refine WL.po (PO.pickAnd rfl rfl) (Nat.le_of_ble_eq_true rfl) ?_
  refine WL.po (PO.assign (Ev.tmp rfl)) (Nat.le_of_ble_eq_true rfl) ?_
  refine WL.nil (keepF (ts := [2]) rfl (toK (by assumption) ?_))
  (try clear hG ops)
  refine WC.ret (end1 (h' := h) (.inl rfl) rfl (RV.tmp rfl) (View.le.refl m) (by (repeat (first | exact List.Sublist.refl _ | refine List.Sublist.cons_cons _ ?_ | apply List.Sublist.cons))) ?_)
  exact ⟨congrArg Value.bool (by unfold may; rw [show ((s.by_.toNat : Int) == 0) = (s.by_ == 0#8) from beq8 s.by_ 0#8]), rfl⟩
def P2 (h : List Res) (v w : Value) : Value → View → List Res → Prop := Pure1 h (.tuple #[v, w])
theorem send_ct (s : Ser) (hk : I64 s) (b : BitVec 8) (h : List Res) (m : View) : CT Try.prog 24 [serV s, u8 b] h m (P2 h (serV (send s b).1) (.int .i64 (send s b).2)) := by
  refine CT.body Try.call24 Try.func24 rfl Try.ntmps24 (Nat.le_of_ble_eq_true rfl) rfl ?_
  (repeat (first | refine WC.seqK fun K hK => ?_ | refine WC.block ?_ | refine WC.regionG rfl fun ops hG => ?_))
  refine WL.box (Ev.tmp rfl) rfl (Nat.le_of_ble_eq_true rfl) fun b2 => ?_
  refine WL.alloc rfl rfl (Nat.le_of_ble_eq_true rfl) fun b4 => ?_
  refine WL.po (PO.assign Ev.const) (Nat.le_of_ble_eq_true rfl) ?_
  refine WL.nil (keepF (ts := [1, 2, 4]) rfl (toK (by assumption) ?_))
  (try clear hG ops)
  (repeat (first | refine WC.seqK fun K hK => ?_ | refine WC.block ?_ | refine WC.regionG rfl fun ops hG => ?_))
  refine WL.po (PO.loadA Try.underlying24 rfl rfl (Ev.tmp rfl) (by (repeat (first | exact List.Mem.head _ | apply List.Mem.tail))) rfl) (Nat.le_of_ble_eq_true rfl) ?_
  refine WL.callP Ev.func (Evs.cons (Ev.tmp rfl) Evs.nil) (may_ct _ (by first | assumption | exact ⟨by assumption, by assumption, by assumption, by assumption⟩) _ _) (Nat.le_of_ble_eq_true rfl) ?_
  refine WL.po (PO.not (Ev.tmp rfl)) (Nat.le_of_ble_eq_true rfl) ?_
  refine WL.po (PO.assign (Ev.tmp rfl)) (Nat.le_of_ble_eq_true rfl) ?_
  refine WL.nil (keepF (ts := [1, 2, 4, 6]) rfl (toK (by assumption) ?_))
  (try clear hG ops)
  (repeat (first | refine WC.seqK fun K hK => ?_ | refine WC.block ?_ | refine WC.regionG rfl fun ops hG => ?_))
  refine WC.cond (Ev.tmp rfl) (fun c6 => ?_) (fun c6 => ?_)
  · have c6 : may s = false := by simpa using c6
    (repeat (first | refine WC.seqK fun K hK => ?_ | refine WC.block ?_ | refine WC.regionG rfl fun ops hG => ?_))
    refine WL.po (PO.build Try.underlying24 rfl rfl rfl EvP.nil rfl) (Nat.le_of_ble_eq_true rfl) ?_
    refine WL.store rfl (Ev.tmp rfl) (Ev.tmp rfl) rfl rfl rfl rfl (by (repeat (first | exact Upd.here | apply Upd.next))) ?_
    refine WL.po (PO.assign Ev.const) (Nat.le_of_ble_eq_true rfl) ?_
    refine WL.nil (keepF (ts := [4, 5]) rfl (toK (by assumption) ?_))
    (try clear hG ops)
    refine WC.ret (end2 (h' := h) (.inl rfl) rfl (RV.cellA Try.underlying24 rfl rfl rfl (by (repeat (first | exact List.Mem.head _ | apply List.Mem.tail))) rfl) (RV.tmp rfl) (View.le.refl m) (by (repeat (first | exact List.Sublist.refl _ | refine List.Sublist.cons_cons _ ?_ | apply List.Sublist.cons))) ?_)
    exact ⟨by simp [send, c6]; rfl, rfl⟩
  · have c6 : may s = true := by simpa using c6
    (repeat (first | refine WC.seqK fun K hK => ?_ | refine WC.block ?_ | refine WC.regionG rfl fun ops hG => ?_))
    refine WL.po (PO.fieldAddr Try.underlying24 rfl (Nat.ne_of_beq_eq_false rfl) (Ev.tmp rfl)) (Nat.le_of_ble_eq_true rfl) ?_
    refine WL.po (PO.load1 Try.underlying4 rfl (Ev.tmp rfl) (by (repeat (first | exact List.Mem.head _ | apply List.Mem.tail))) rfl) (Nat.le_of_ble_eq_true rfl) ?_
    refine WL.po (PO.assign (Ev.tmp rfl)) (Nat.le_of_ble_eq_true rfl) ?_
    refine WL.nil (keepF (ts := [1, 2, 4, 11]) rfl (toK (by assumption) ?_))
    (try clear hG ops)
    (repeat (first | refine WC.seqK fun K hK => ?_ | refine WC.block ?_ | refine WC.regionG rfl fun ops hG => ?_))
    refine WC.cond (Ev.tmp rfl) (fun c11 => ?_) (fun c11 => ?_)
    · (repeat (first | refine WC.seqK fun K hK => ?_ | refine WC.block ?_ | refine WC.regionG rfl fun ops hG => ?_))
      refine WL.po (PO.build Try.underlying24 rfl rfl rfl EvP.nil rfl) (Nat.le_of_ble_eq_true rfl) ?_
      refine WL.store rfl (Ev.tmp rfl) (Ev.tmp rfl) rfl rfl rfl rfl (by (repeat (first | exact Upd.here | apply Upd.next))) ?_
      refine WL.po (PO.assign Ev.const) (Nat.le_of_ble_eq_true rfl) ?_
      refine WL.nil (keepF (ts := [4, 5]) rfl (toK (by assumption) ?_))
      (try clear hG ops)
      refine WC.ret (end2 (h' := h) (.inl rfl) rfl (RV.cellA Try.underlying24 rfl rfl rfl (by (repeat (first | exact List.Mem.head _ | apply List.Mem.tail))) rfl) (RV.tmp rfl) (View.le.refl m) (by (repeat (first | exact List.Sublist.refl _ | refine List.Sublist.cons_cons _ ?_ | apply List.Sublist.cons))) ?_)
      exact ⟨by simp [send, c6, c11]; rfl, rfl⟩
    · refine WC.skip (keepF (ts := [1, 2, 4]) rfl (toK (by assumption) ?_))
      (repeat (first | refine WC.seqK fun K hK => ?_ | refine WC.block ?_ | refine WC.regionG rfl fun ops hG => ?_))
      refine WL.po (PO.move (Ev.tmp rfl)) (Nat.le_of_ble_eq_true rfl) ?_
      refine WL.po (PO.fieldAddr Try.underlying24 rfl (Nat.ne_of_beq_eq_false rfl) (Ev.tmp rfl)) (Nat.le_of_ble_eq_true rfl) ?_
      refine WL.store rfl (Ev.tmp rfl) Ev.const rfl rfl rfl rfl (by (repeat (first | exact Upd.here | apply Upd.next))) ?_
      refine WL.po (PO.fieldAddr Try.underlying24 rfl (Nat.ne_of_beq_eq_false rfl) (Ev.tmp rfl)) (Nat.le_of_ble_eq_true rfl) ?_
      refine WL.store rfl (Ev.tmp rfl) (Ev.tmp rfl) rfl rfl rfl rfl (by (repeat (first | exact Upd.here | apply Upd.next))) ?_
      refine WL.nil (keepF (ts := [2, 4]) rfl (toK (by assumption) ?_))
      (try clear hG ops)
      (repeat (first | refine WC.seqK fun K hK => ?_ | refine WC.block ?_ | refine WC.regionG rfl fun ops hG => ?_))
      refine WL.po (PO.loadA Try.underlying24 rfl rfl (Ev.tmp rfl) (by (repeat (first | exact List.Mem.head _ | apply List.Mem.tail))) rfl) (Nat.le_of_ble_eq_true rfl) ?_
      refine WL.store rfl (Ev.tmp rfl) (Ev.tmp rfl) rfl rfl rfl rfl (by (repeat (first | exact Upd.here | apply Upd.next))) ?_
      refine WL.po (PO.assign Ev.const) (Nat.le_of_ble_eq_true rfl) ?_
      refine WL.nil (keepF (ts := [4, 5]) rfl (toK (by assumption) ?_))
      (try clear hG ops)
      refine WC.ret (end2 (h' := h) (.inl rfl) rfl (RV.cellA Try.underlying24 rfl rfl rfl (by (repeat (first | exact List.Mem.head _ | apply List.Mem.tail))) rfl) (RV.tmp rfl) (View.le.refl m) (by (repeat (first | exact List.Sublist.refl _ | refine List.Sublist.cons_cons _ ?_ | apply List.Sublist.cons))) ?_)
      exact ⟨by simp [send, c6, c11]; rfl, rfl⟩
theorem ack_ct (s : Ser) (hk : I64 s) (h : List Res) (m : View) : CT Try.prog 26 [serV s] h m (P2 h (serV (ack s).1) (.int .i64 (ack s).2)) := by
  refine CT.body Try.call26 Try.func26 rfl Try.ntmps26 (Nat.le_of_ble_eq_true rfl) rfl ?_
  (repeat (first | refine WC.seqK fun K hK => ?_ | refine WC.block ?_ | refine WC.regionG rfl fun ops hG => ?_))
  refine WL.box (Ev.tmp rfl) rfl (Nat.le_of_ble_eq_true rfl) fun b1 => ?_
  refine WL.alloc rfl rfl (Nat.le_of_ble_eq_true rfl) fun b2 => ?_
  refine WL.po (PO.assign Ev.const) (Nat.le_of_ble_eq_true rfl) ?_
  refine WL.nil (keepF (ts := [1, 2]) rfl (toK (by assumption) ?_))
  (try clear hG ops)
  (repeat (first | refine WC.seqK fun K hK => ?_ | refine WC.block ?_ | refine WC.regionG rfl fun ops hG => ?_))
  refine WL.po (PO.loadA Try.underlying24 rfl rfl (Ev.tmp rfl) (by (repeat (first | exact List.Mem.head _ | apply List.Mem.tail))) rfl) (Nat.le_of_ble_eq_true rfl) ?_
  refine WL.callP Ev.func (Evs.cons (Ev.tmp rfl) Evs.nil) (may_ct _ (by first | assumption | exact ⟨by assumption, by assumption, by assumption, by assumption⟩) _ _) (Nat.le_of_ble_eq_true rfl) ?_
  refine WL.po (PO.not (Ev.tmp rfl)) (Nat.le_of_ble_eq_true rfl) ?_
  refine WL.po (PO.assign (Ev.tmp rfl)) (Nat.le_of_ble_eq_true rfl) ?_
  refine WL.nil (keepF (ts := [1, 2, 4]) rfl (toK (by assumption) ?_))
  (try clear hG ops)
  (repeat (first | refine WC.seqK fun K hK => ?_ | refine WC.block ?_ | refine WC.regionG rfl fun ops hG => ?_))
  refine WC.cond (Ev.tmp rfl) (fun c4 => ?_) (fun c4 => ?_)
  · have c4 : may s = false := by simpa using c4
    (repeat (first | refine WC.seqK fun K hK => ?_ | refine WC.block ?_ | refine WC.regionG rfl fun ops hG => ?_))
    refine WL.po (PO.build Try.underlying24 rfl rfl rfl EvP.nil rfl) (Nat.le_of_ble_eq_true rfl) ?_
    refine WL.store rfl (Ev.tmp rfl) (Ev.tmp rfl) rfl rfl rfl rfl (by (repeat (first | exact Upd.here | apply Upd.next))) ?_
    refine WL.po (PO.assign Ev.const) (Nat.le_of_ble_eq_true rfl) ?_
    refine WL.nil (keepF (ts := [2, 3]) rfl (toK (by assumption) ?_))
    (try clear hG ops)
    refine WC.ret (end2 (h' := h) (.inl rfl) rfl (RV.cellA Try.underlying24 rfl rfl rfl (by (repeat (first | exact List.Mem.head _ | apply List.Mem.tail))) rfl) (RV.tmp rfl) (View.le.refl m) (by (repeat (first | exact List.Sublist.refl _ | refine List.Sublist.cons_cons _ ?_ | apply List.Sublist.cons))) ?_)
    exact ⟨by simp [ack, c4]; rfl, rfl⟩
  · have c4 : may s = true := by simpa using c4
    (repeat (first | refine WC.seqK fun K hK => ?_ | refine WC.block ?_ | refine WC.regionG rfl fun ops hG => ?_))
    refine WL.po (PO.fieldAddr Try.underlying24 rfl (Nat.ne_of_beq_eq_false rfl) (Ev.tmp rfl)) (Nat.le_of_ble_eq_true rfl) ?_
    refine WL.po (PO.load1 Try.underlying4 rfl (Ev.tmp rfl) (by (repeat (first | exact List.Mem.head _ | apply List.Mem.tail))) rfl) (Nat.le_of_ble_eq_true rfl) ?_
    refine WL.po (PO.assign (Ev.tmp rfl)) (Nat.le_of_ble_eq_true rfl) ?_
    refine WL.nil (keepF (ts := [1, 2, 9]) rfl (toK (by assumption) ?_))
    (try clear hG ops)
    (repeat (first | refine WC.seqK fun K hK => ?_ | refine WC.block ?_ | refine WC.regionG rfl fun ops hG => ?_))
    refine WC.cond (Ev.tmp rfl) (fun c9 => ?_) (fun c9 => ?_)
    · (repeat (first | refine WC.seqK fun K hK => ?_ | refine WC.block ?_ | refine WC.regionG rfl fun ops hG => ?_))
      refine WL.po (PO.build Try.underlying24 rfl rfl rfl EvP.nil rfl) (Nat.le_of_ble_eq_true rfl) ?_
      refine WL.store rfl (Ev.tmp rfl) (Ev.tmp rfl) rfl rfl rfl rfl (by (repeat (first | exact Upd.here | apply Upd.next))) ?_
      refine WL.po (PO.assign Ev.const) (Nat.le_of_ble_eq_true rfl) ?_
      refine WL.nil (keepF (ts := [2, 3]) rfl (toK (by assumption) ?_))
      (try clear hG ops)
      refine WC.ret (end2 (h' := h) (.inl rfl) rfl (RV.cellA Try.underlying24 rfl rfl rfl (by (repeat (first | exact List.Mem.head _ | apply List.Mem.tail))) rfl) (RV.tmp rfl) (View.le.refl m) (by (repeat (first | exact List.Sublist.refl _ | refine List.Sublist.cons_cons _ ?_ | apply List.Sublist.cons))) ?_)
      exact ⟨by simp [ack, c4, c9]; rfl, rfl⟩
    · refine WC.skip (keepF (ts := [1, 2]) rfl (toK (by assumption) ?_))
      (repeat (first | refine WC.seqK fun K hK => ?_ | refine WC.block ?_ | refine WC.regionG rfl fun ops hG => ?_))
      refine WL.po (PO.fieldAddr Try.underlying24 rfl (Nat.ne_of_beq_eq_false rfl) (Ev.tmp rfl)) (Nat.le_of_ble_eq_true rfl) ?_
      refine WL.store rfl (Ev.tmp rfl) Ev.const rfl rfl rfl rfl (by (repeat (first | exact Upd.here | apply Upd.next))) ?_
      refine WL.nil (keepF (ts := [1, 2]) rfl (toK (by assumption) ?_))
      (try clear hG ops)
      (repeat (first | refine WC.seqK fun K hK => ?_ | refine WC.block ?_ | refine WC.regionG rfl fun ops hG => ?_))
      refine WL.po (PO.loadA Try.underlying24 rfl rfl (Ev.tmp rfl) (by (repeat (first | exact List.Mem.head _ | apply List.Mem.tail))) rfl) (Nat.le_of_ble_eq_true rfl) ?_
      refine WL.store rfl (Ev.tmp rfl) (Ev.tmp rfl) rfl rfl rfl rfl (by (repeat (first | exact Upd.here | apply Upd.next))) ?_
      refine WL.po (PO.assign Ev.const) (Nat.le_of_ble_eq_true rfl) ?_
      refine WL.nil (keepF (ts := [2, 3]) rfl (toK (by assumption) ?_))
      (try clear hG ops)
      refine WC.ret (end2 (h' := h) (.inl rfl) rfl (RV.cellA Try.underlying24 rfl rfl rfl (by (repeat (first | exact List.Mem.head _ | apply List.Mem.tail))) rfl) (RV.tmp rfl) (View.le.refl m) (by (repeat (first | exact List.Sublist.refl _ | refine List.Sublist.cons_cons _ ?_ | apply List.Sublist.cons))) ?_)
      exact ⟨by simp [ack, c4, c9]; rfl, rfl⟩
theorem tx_ct (s : Ser) (hk : I64 s) (h : List Res) (m : View) : CT Try.prog 11 [serV s] h m (P2 h (serV (tx s).1) (.int .i64 (tx s).2)) := by
  obtain ⟨k1, k2, k3, k4⟩ := hk
  refine CT.body Try.call11 Try.func11 rfl Try.ntmps11 (Nat.le_of_ble_eq_true rfl) rfl ?_
  (repeat (first | refine WC.seqK fun K hK => ?_ | refine WC.block ?_ | refine WC.regionG rfl fun ops hG => ?_))
  refine WL.box (Ev.tmp rfl) rfl (Nat.le_of_ble_eq_true rfl) fun b1 => ?_
  refine WL.alloc rfl rfl (Nat.le_of_ble_eq_true rfl) fun b2 => ?_
  refine WL.po (PO.assign Ev.const) (Nat.le_of_ble_eq_true rfl) ?_
  refine WL.nil (keepF (ts := [1, 2]) rfl (toK (by assumption) ?_))
  (try clear hG ops)
  (repeat (first | refine WC.seqK fun K hK => ?_ | refine WC.block ?_ | refine WC.regionG rfl fun ops hG => ?_))
  refine WL.po (PO.loadA Try.underlying24 rfl rfl (Ev.tmp rfl) (by (repeat (first | exact List.Mem.head _ | apply List.Mem.tail))) rfl) (Nat.le_of_ble_eq_true rfl) ?_
  refine WL.callP Ev.func (Evs.cons (Ev.tmp rfl) Evs.nil) (may_ct _ (by first | assumption | exact ⟨by assumption, by assumption, by assumption, by assumption⟩) _ _) (Nat.le_of_ble_eq_true rfl) ?_
  refine WL.po (PO.not (Ev.tmp rfl)) (Nat.le_of_ble_eq_true rfl) ?_
  refine WL.po (PO.assign (Ev.tmp rfl)) (Nat.le_of_ble_eq_true rfl) ?_
  refine WL.nil (keepF (ts := [1, 2, 4]) rfl (toK (by assumption) ?_))
  (try clear hG ops)
  (repeat (first | refine WC.seqK fun K hK => ?_ | refine WC.block ?_ | refine WC.regionG rfl fun ops hG => ?_))
  refine WC.cond (Ev.tmp rfl) (fun c4 => ?_) (fun c4 => ?_)
  · have c4 : may s = false := by simpa using c4
    (repeat (first | refine WC.seqK fun K hK => ?_ | refine WC.block ?_ | refine WC.regionG rfl fun ops hG => ?_))
    refine WL.po (PO.loadA Try.underlying24 rfl rfl (Ev.tmp rfl) (by (repeat (first | exact List.Mem.head _ | apply List.Mem.tail))) rfl) (Nat.le_of_ble_eq_true rfl) ?_
    refine WL.store rfl (Ev.tmp rfl) (Ev.tmp rfl) rfl rfl rfl rfl (by (repeat (first | exact Upd.here | apply Upd.next))) ?_
    refine WL.po (PO.assign Ev.const) (Nat.le_of_ble_eq_true rfl) ?_
    refine WL.nil (keepF (ts := [2, 3]) rfl (toK (by assumption) ?_))
    (try clear hG ops)
    refine WC.ret (end2 (h' := h) (.inl rfl) rfl (RV.cellA Try.underlying24 rfl rfl rfl (by (repeat (first | exact List.Mem.head _ | apply List.Mem.tail))) rfl) (RV.tmp rfl) (View.le.refl m) (by (repeat (first | exact List.Sublist.refl _ | refine List.Sublist.cons_cons _ ?_ | apply List.Sublist.cons))) ?_)
    exact ⟨by rw [show tx s = (s, 0) by simp [tx, c4]]; rfl, rfl⟩
  · have c4 : may s = true := by simpa using c4
    (repeat (first | refine WC.seqK fun K hK => ?_ | refine WC.block ?_ | refine WC.regionG rfl fun ops hG => ?_))
    refine WL.po (PO.fieldAddr Try.underlying24 rfl (Nat.ne_of_beq_eq_false rfl) (Ev.tmp rfl)) (Nat.le_of_ble_eq_true rfl) ?_
    refine WL.po (PO.load1 Try.underlying3 rfl (Ev.tmp rfl) (by (repeat (first | exact List.Mem.head _ | apply List.Mem.tail))) rfl) (Nat.le_of_ble_eq_true rfl) ?_
    refine WL.po (PO.bin (Ev.tmp rfl) Ev.const rfl) (Nat.le_of_ble_eq_true rfl) ?_
    refine WL.po (PO.assign (Ev.tmp rfl)) (Nat.le_of_ble_eq_true rfl) ?_
    refine WL.nil (keepF (ts := [1, 2, 9]) rfl (toK (by assumption) ?_))
    (try clear hG ops)
    (repeat (first | refine WC.seqK fun K hK => ?_ | refine WC.block ?_ | refine WC.regionG rfl fun ops hG => ?_))
    refine WC.cond (Ev.tmp rfl) (fun c9 => ?_) (fun c9 => ?_)
    · replace c9 := of_decide_eq_true c9
      (repeat (first | refine WC.seqK fun K hK => ?_ | refine WC.block ?_ | refine WC.regionG rfl fun ops hG => ?_))
      refine WL.po (PO.fieldAddr Try.underlying24 rfl (Nat.ne_of_beq_eq_false rfl) (Ev.tmp rfl)) (Nat.le_of_ble_eq_true rfl) ?_
      refine WL.po (PO.load1 Try.underlying22 rfl (Ev.tmp rfl) (by (repeat (first | exact List.Mem.head _ | apply List.Mem.tail))) rfl) (Nat.le_of_ble_eq_true rfl) ?_
      refine WL.po (PO.bin (Ev.tmp rfl) Ev.const rfl) (Nat.le_of_ble_eq_true rfl) ?_
      refine WL.po (PO.conv Try.underlying22 Try.underlying3 (Ev.tmp rfl)) (Nat.le_of_ble_eq_true rfl) ?_
      refine WL.po (PO.assign (Ev.tmp rfl)) (Nat.le_of_ble_eq_true rfl) ?_
      refine WL.nil (keepF (ts := [1, 2, 3]) rfl (toK (by assumption) ?_))
      (try clear hG ops)
      (repeat (first | refine WC.seqK fun K hK => ?_ | refine WC.block ?_ | refine WC.regionG rfl fun ops hG => ?_))
      refine WL.po (PO.fieldAddr Try.underlying24 rfl (Nat.ne_of_beq_eq_false rfl) (Ev.tmp rfl)) (Nat.le_of_ble_eq_true rfl) ?_
      refine WL.po (PO.load1 Try.underlying22 rfl (Ev.tmp rfl) (by (repeat (first | exact List.Mem.head _ | apply List.Mem.tail))) rfl) (Nat.le_of_ble_eq_true rfl) ?_
      refine WL.po (PO.shr (Ev.tmp rfl) Ev.const (by decide)) (Nat.le_of_ble_eq_true rfl) ?_
      refine WL.po (PO.fieldAddr Try.underlying24 rfl (Nat.ne_of_beq_eq_false rfl) (Ev.tmp rfl)) (Nat.le_of_ble_eq_true rfl) ?_
      refine WL.store rfl (Ev.tmp rfl) (Ev.tmp rfl) rfl rfl rfl rfl (by (repeat (first | exact Upd.here | apply Upd.next))) ?_
      refine WL.nil (keepF (ts := [1, 2, 3]) rfl (toK (by assumption) ?_))
      (try clear hG ops)
      (repeat (first | refine WC.seqK fun K hK => ?_ | refine WC.block ?_ | refine WC.regionG rfl fun ops hG => ?_))
      refine WL.po (PO.fieldAddr Try.underlying24 rfl (Nat.ne_of_beq_eq_false rfl) (Ev.tmp rfl)) (Nat.le_of_ble_eq_true rfl) ?_
      refine WL.po (PO.load1 Try.underlying3 rfl (Ev.tmp rfl) (by (repeat (first | exact List.Mem.head _ | apply List.Mem.tail))) rfl) (Nat.le_of_ble_eq_true rfl) ?_
      refine WL.po (PO.subI (Ev.tmp rfl) Ev.const (by omega)) (Nat.le_of_ble_eq_true rfl) ?_
      refine WL.po (PO.fieldAddr Try.underlying24 rfl (Nat.ne_of_beq_eq_false rfl) (Ev.tmp rfl)) (Nat.le_of_ble_eq_true rfl) ?_
      refine WL.store rfl (Ev.tmp rfl) (Ev.tmp rfl) rfl rfl rfl rfl (by (repeat (first | exact Upd.here | apply Upd.next))) ?_
      refine WL.nil (keepF (ts := [1, 2, 3]) rfl (toK (by assumption) ?_))
      (try clear hG ops)
      (repeat (first | refine WC.seqK fun K hK => ?_ | refine WC.block ?_ | refine WC.regionG rfl fun ops hG => ?_))
      refine WL.po (PO.loadA Try.underlying24 rfl rfl (Ev.tmp rfl) (by (repeat (first | exact List.Mem.head _ | apply List.Mem.tail))) rfl) (Nat.le_of_ble_eq_true rfl) ?_
      refine WL.po (PO.move (Ev.tmp rfl)) (Nat.le_of_ble_eq_true rfl) ?_
      refine WL.store rfl (Ev.tmp rfl) (Ev.tmp rfl) rfl rfl rfl rfl (by (repeat (first | exact Upd.here | apply Upd.next))) ?_
      refine WL.po (PO.assign (Ev.tmp rfl)) (Nat.le_of_ble_eq_true rfl) ?_
      refine WL.nil (keepF (ts := [2, 3]) rfl (toK (by assumption) ?_))
      (try clear hG ops)
      refine WC.ret (end2 (h' := h) (.inl rfl) rfl (RV.cellA Try.underlying24 rfl rfl rfl (by (repeat (first | exact List.Mem.head _ | apply List.Mem.tail))) rfl) (RV.tmp rfl) (View.le.refl m) (by (repeat (first | exact List.Sublist.refl _ | refine List.Sublist.cons_cons _ ?_ | apply List.Sublist.cons))) ?_)
      exact ⟨by simp only [tx, c4, c9, if_true]; exact tx_int s, rfl⟩
    · replace c9 := of_decide_eq_false c9
      (repeat (first | refine WC.seqK fun K hK => ?_ | refine WC.block ?_ | refine WC.regionG rfl fun ops hG => ?_))
      refine WL.po (PO.fieldAddr Try.underlying24 rfl (Nat.ne_of_beq_eq_false rfl) (Ev.tmp rfl)) (Nat.le_of_ble_eq_true rfl) ?_
      refine WL.po (PO.load1 Try.underlying4 rfl (Ev.tmp rfl) (by (repeat (first | exact List.Mem.head _ | apply List.Mem.tail))) rfl) (Nat.le_of_ble_eq_true rfl) ?_
      refine WL.po (PO.assign (Ev.tmp rfl)) (Nat.le_of_ble_eq_true rfl) ?_
      refine WL.nil (keepF (ts := [1, 2, 27]) rfl (toK (by assumption) ?_))
      (try clear hG ops)
      (repeat (first | refine WC.seqK fun K hK => ?_ | refine WC.block ?_ | refine WC.regionG rfl fun ops hG => ?_))
      refine WC.cond (Ev.tmp rfl) (fun c27 => ?_) (fun c27 => ?_)
      · (repeat (first | refine WC.seqK fun K hK => ?_ | refine WC.block ?_ | refine WC.regionG rfl fun ops hG => ?_))
        refine WL.po (PO.fieldAddr Try.underlying24 rfl (Nat.ne_of_beq_eq_false rfl) (Ev.tmp rfl)) (Nat.le_of_ble_eq_true rfl) ?_
        refine WL.store rfl (Ev.tmp rfl) Ev.const rfl rfl rfl rfl (by (repeat (first | exact Upd.here | apply Upd.next))) ?_
        refine WL.nil (keepF (ts := [1, 2]) rfl (toK (by assumption) ?_))
        (try clear hG ops)
        (repeat (first | refine WC.seqK fun K hK => ?_ | refine WC.block ?_ | refine WC.regionG rfl fun ops hG => ?_))
        refine WL.po (PO.fieldAddr Try.underlying24 rfl (Nat.ne_of_beq_eq_false rfl) (Ev.tmp rfl)) (Nat.le_of_ble_eq_true rfl) ?_
        refine WL.store rfl (Ev.tmp rfl) Ev.const rfl rfl rfl rfl (by (repeat (first | exact Upd.here | apply Upd.next))) ?_
        refine WL.po (PO.fieldAddr Try.underlying24 rfl (Nat.ne_of_beq_eq_false rfl) (Ev.tmp rfl)) (Nat.le_of_ble_eq_true rfl) ?_
        refine WL.store rfl (Ev.tmp rfl) Ev.const rfl rfl rfl rfl (by (repeat (first | exact Upd.here | apply Upd.next))) ?_
        refine WL.nil (keepF (ts := [1, 2]) rfl (toK (by assumption) ?_))
        (try clear hG ops)
        (repeat (first | refine WC.seqK fun K hK => ?_ | refine WC.block ?_ | refine WC.regionG rfl fun ops hG => ?_))
        refine WL.po (PO.loadA Try.underlying24 rfl rfl (Ev.tmp rfl) (by (repeat (first | exact List.Mem.head _ | apply List.Mem.tail))) rfl) (Nat.le_of_ble_eq_true rfl) ?_
        refine WL.store rfl (Ev.tmp rfl) (Ev.tmp rfl) rfl rfl rfl rfl (by (repeat (first | exact Upd.here | apply Upd.next))) ?_
        refine WL.po (PO.assign Ev.const) (Nat.le_of_ble_eq_true rfl) ?_
        refine WL.nil (keepF (ts := [2, 3]) rfl (toK (by assumption) ?_))
        (try clear hG ops)
        refine WC.ret (end2 (h' := h) (.inl rfl) rfl (RV.cellA Try.underlying24 rfl rfl rfl (by (repeat (first | exact List.Mem.head _ | apply List.Mem.tail))) rfl) (RV.tmp rfl) (View.le.refl m) (by (repeat (first | exact List.Sublist.refl _ | refine List.Sublist.cons_cons _ ?_ | apply List.Sublist.cons))) ?_)
        exact ⟨by simp [tx, c4, c9, c27]; rfl, rfl⟩
      · (repeat (first | refine WC.seqK fun K hK => ?_ | refine WC.block ?_ | refine WC.regionG rfl fun ops hG => ?_))
        refine WL.po (PO.fieldAddr Try.underlying24 rfl (Nat.ne_of_beq_eq_false rfl) (Ev.tmp rfl)) (Nat.le_of_ble_eq_true rfl) ?_
        refine WL.po (PO.load1 Try.underlying4 rfl (Ev.tmp rfl) (by (repeat (first | exact List.Mem.head _ | apply List.Mem.tail))) rfl) (Nat.le_of_ble_eq_true rfl) ?_
        refine WL.po (PO.assign (Ev.tmp rfl)) (Nat.le_of_ble_eq_true rfl) ?_
        refine WL.nil (keepF (ts := [1, 2, 34]) rfl (toK (by assumption) ?_))
        (try clear hG ops)
        (repeat (first | refine WC.seqK fun K hK => ?_ | refine WC.block ?_ | refine WC.regionG rfl fun ops hG => ?_))
        refine WC.cond (Ev.tmp rfl) (fun c34 => ?_) (fun c34 => ?_)
        · (repeat (first | refine WC.seqK fun K hK => ?_ | refine WC.block ?_ | refine WC.regionG rfl fun ops hG => ?_))
          refine WL.po (PO.fieldAddr Try.underlying24 rfl (Nat.ne_of_beq_eq_false rfl) (Ev.tmp rfl)) (Nat.le_of_ble_eq_true rfl) ?_
          refine WL.po (PO.load1 Try.underlying5 rfl (Ev.tmp rfl) (by (repeat (first | exact List.Mem.head _ | apply List.Mem.tail))) rfl) (Nat.le_of_ble_eq_true rfl) ?_
          refine WL.po (PO.conv Try.underlying5 Try.underlying22 (Ev.tmp rfl)) (Nat.le_of_ble_eq_true rfl) ?_
          refine WL.po (PO.shl (Ev.tmp rfl) Ev.const (by decide)) (Nat.le_of_ble_eq_true rfl) ?_
          refine WL.po (PO.bin Ev.const (Ev.tmp rfl) rfl) (Nat.le_of_ble_eq_true rfl) ?_
          refine WL.po (PO.fieldAddr Try.underlying24 rfl (Nat.ne_of_beq_eq_false rfl) (Ev.tmp rfl)) (Nat.le_of_ble_eq_true rfl) ?_
          refine WL.store rfl (Ev.tmp rfl) (Ev.tmp rfl) rfl rfl rfl rfl (by (repeat (first | exact Upd.here | apply Upd.next))) ?_
          refine WL.po (PO.fieldAddr Try.underlying24 rfl (Nat.ne_of_beq_eq_false rfl) (Ev.tmp rfl)) (Nat.le_of_ble_eq_true rfl) ?_
          refine WL.store rfl (Ev.tmp rfl) Ev.const rfl rfl rfl rfl (by (repeat (first | exact Upd.here | apply Upd.next))) ?_
          refine WL.nil (keepF (ts := [1, 2]) rfl (toK (by assumption) ?_))
          (try clear hG ops)
          (repeat (first | refine WC.seqK fun K hK => ?_ | refine WC.block ?_ | refine WC.regionG rfl fun ops hG => ?_))
          refine WL.po (PO.fieldAddr Try.underlying24 rfl (Nat.ne_of_beq_eq_false rfl) (Ev.tmp rfl)) (Nat.le_of_ble_eq_true rfl) ?_
          refine WL.store rfl (Ev.tmp rfl) Ev.const rfl rfl rfl rfl (by (repeat (first | exact Upd.here | apply Upd.next))) ?_
          refine WL.po (PO.fieldAddr Try.underlying24 rfl (Nat.ne_of_beq_eq_false rfl) (Ev.tmp rfl)) (Nat.le_of_ble_eq_true rfl) ?_
          refine WL.store rfl (Ev.tmp rfl) Ev.const rfl rfl rfl rfl (by (repeat (first | exact Upd.here | apply Upd.next))) ?_
          refine WL.nil (keepF (ts := [1, 2]) rfl (toK (by assumption) ?_))
          (try clear hG ops)
          (repeat (first | refine WC.seqK fun K hK => ?_ | refine WC.block ?_ | refine WC.regionG rfl fun ops hG => ?_))
          refine WL.po (PO.loadA Try.underlying24 rfl rfl (Ev.tmp rfl) (by (repeat (first | exact List.Mem.head _ | apply List.Mem.tail))) rfl) (Nat.le_of_ble_eq_true rfl) ?_
          refine WL.store rfl (Ev.tmp rfl) (Ev.tmp rfl) rfl rfl rfl rfl (by (repeat (first | exact Upd.here | apply Upd.next))) ?_
          refine WL.po (PO.assign Ev.const) (Nat.le_of_ble_eq_true rfl) ?_
          refine WL.nil (keepF (ts := [2, 3]) rfl (toK (by assumption) ?_))
          (try clear hG ops)
          refine WC.ret (end2 (h' := h) (.inl rfl) rfl (RV.cellA Try.underlying24 rfl rfl rfl (by (repeat (first | exact List.Mem.head _ | apply List.Mem.tail))) rfl) (RV.tmp rfl) (View.le.refl m) (by (repeat (first | exact List.Sublist.refl _ | refine List.Sublist.cons_cons _ ?_ | apply List.Sublist.cons))) ?_)
          exact ⟨by simp [tx, c4, c9, c27, c34]; rw [tx_int2 s]; rfl, rfl⟩
        · refine WC.skip (keepF (ts := [1, 2]) rfl (toK (by assumption) ?_))
          (repeat (first | refine WC.seqK fun K hK => ?_ | refine WC.block ?_ | refine WC.regionG rfl fun ops hG => ?_))
          refine WL.po (PO.loadA Try.underlying24 rfl rfl (Ev.tmp rfl) (by (repeat (first | exact List.Mem.head _ | apply List.Mem.tail))) rfl) (Nat.le_of_ble_eq_true rfl) ?_
          refine WL.store rfl (Ev.tmp rfl) (Ev.tmp rfl) rfl rfl rfl rfl (by (repeat (first | exact Upd.here | apply Upd.next))) ?_
          refine WL.po (PO.assign Ev.const) (Nat.le_of_ble_eq_true rfl) ?_
          refine WL.nil (keepF (ts := [2, 3]) rfl (toK (by assumption) ?_))
          (try clear hG ops)
          refine WC.ret (end2 (h' := h) (.inl rfl) rfl (RV.cellA Try.underlying24 rfl rfl rfl (by (repeat (first | exact List.Mem.head _ | apply List.Mem.tail))) rfl) (RV.tmp rfl) (View.le.refl m) (by (repeat (first | exact List.Sublist.refl _ | refine List.Sublist.cons_cons _ ?_ | apply List.Sublist.cons))) ?_)
          exact ⟨by rw [show tx s = (s, 0) by simp [tx, c4, c9, c27, c34]]; rfl, rfl⟩
theorem rx_ct (s : Ser) (hk : I64 s) (bit : Int) (h : List Res) (m : View) : CT Try.prog 13 [serV s, .int .i64 bit] h m (P2 h (serV (rx s bit).1) (hV (rx s bit).2)) := by
  obtain ⟨k1, k2, k3, k4⟩ := hk
  refine CT.body Try.call13 Try.func13 rfl Try.ntmps13 (Nat.le_of_ble_eq_true rfl) rfl ?_
  (repeat (first | refine WC.seqK fun K hK => ?_ | refine WC.block ?_ | refine WC.regionG rfl fun ops hG => ?_))
  refine WL.box (Ev.tmp rfl) rfl (Nat.le_of_ble_eq_true rfl) fun b2 => ?_
  refine WL.alloc rfl rfl (Nat.le_of_ble_eq_true rfl) fun b4 => ?_
  refine WL.alloc rfl rfl (Nat.le_of_ble_eq_true rfl) fun b5 => ?_
  refine WL.nil (keepF (ts := [1, 2, 4, 5]) rfl (toK (by assumption) ?_))
  (try clear hG ops)
  (repeat (first | refine WC.seqK fun K hK => ?_ | refine WC.block ?_ | refine WC.regionG rfl fun ops hG => ?_))
  refine WL.po (PO.loadA Try.underlying24 rfl rfl (Ev.tmp rfl) (by (repeat (first | exact List.Mem.head _ | apply List.Mem.tail))) rfl) (Nat.le_of_ble_eq_true rfl) ?_
  refine WL.callP Ev.func (Evs.cons (Ev.tmp rfl) Evs.nil) (may_ct _ (by first | assumption | exact ⟨by assumption, by assumption, by assumption, by assumption⟩) _ _) (Nat.le_of_ble_eq_true rfl) ?_
  refine WL.po (PO.not (Ev.tmp rfl)) (Nat.le_of_ble_eq_true rfl) ?_
  refine WL.nil (keepF (ts := [1, 2, 4, 5, 9]) rfl (toK (by assumption) ?_))
  (try clear hG ops)
  (repeat (first | refine WC.seqK fun K hK => ?_ | refine WC.block ?_ | refine WC.regionG rfl fun ops hG => ?_))
  refine WC.cond (Ev.tmp rfl) (fun c9 => ?_) (fun c9 => ?_)
  · have c9 : may s = false := by simpa using c9
    (repeat (first | refine WC.seqK fun K hK => ?_ | refine WC.block ?_ | refine WC.regionG rfl fun ops hG => ?_))
    refine WC.take (r := .pt b4 _) (by (repeat (first | exact Del.here | apply Del.next))) ?_
    refine WC.drawS [2] [0, 1, 2] [3] _ [_] mixed (fun _ _ _ _ _ h => h) [] (by kernel_rfl) ?_
    refine SR.po rfl rfl (PO.loadA Try.underlying24 rfl rfl (Ev.tmp rfl) (by (repeat (first | exact List.Mem.head _ | apply List.Mem.tail))) rfl) (Nat.le_of_ble_eq_true rfl) ?_
    refine SR.po rfl rfl (PO.loadA Try.underlying29 rfl rfl (Ev.tmp rfl) (by (repeat (first | exact List.Mem.head _ | apply List.Mem.tail))) rfl) (Nat.le_of_ble_eq_true rfl) ?_
    refine SR.store rfl rfl rfl (Ev.tmp rfl) (Ev.tmp rfl) rfl rfl rfl rfl (by (repeat (first | exact Upd.here | apply Upd.next))) ?_
    refine SR.nil rfl rfl ?_
    refine WL.store rfl (Ev.tmp rfl) (Ev.tmp rfl) rfl rfl rfl rfl (by (repeat (first | exact Upd.here | apply Upd.next))) ?_
    refine WL.nil (keepF (ts := [4, 5]) rfl (toK (by assumption) ?_))
    (try clear hG ops)
    refine WC.ret (end2 (h' := h) (.inl rfl) rfl (RV.cellA Try.underlying24 rfl rfl rfl (by (repeat (first | exact List.Mem.head _ | apply List.Mem.tail))) rfl) (RV.cellA Try.underlying29 rfl rfl rfl (by (repeat (first | exact List.Mem.head _ | apply List.Mem.tail))) rfl) (View.le.refl m) (by (repeat (first | exact List.Sublist.refl _ | refine List.Sublist.cons_cons _ ?_ | apply List.Sublist.cons))) ?_)
    exact ⟨by rw [show rx s bit = (s, noH) by simp [rx, c9]]; rfl, rfl⟩
  · have c9 : may s = true := by simpa using c9
    have kb := may_bd c9
    refine WC.skip (keepF (ts := [1, 2, 4, 5]) rfl (toK (by assumption) ?_))
    (repeat (first | refine WC.seqK fun K hK => ?_ | refine WC.block ?_ | refine WC.regionG rfl fun ops hG => ?_))
    refine WL.po (PO.move (Ev.tmp rfl)) (Nat.le_of_ble_eq_true rfl) ?_
    refine WL.po (PO.bin (Ev.tmp rfl) Ev.const rfl) (Nat.le_of_ble_eq_true rfl) ?_
    refine WL.po (PO.assign (Ev.tmp rfl)) (Nat.le_of_ble_eq_true rfl) ?_
    refine WL.nil (keepF (ts := [2, 4, 5, 6]) rfl (toK (by assumption) ?_))
    (try clear hG ops)
    (repeat (first | refine WC.seqK fun K hK => ?_ | refine WC.block ?_ | refine WC.regionG rfl fun ops hG => ?_))
    refine WL.po (PO.fieldAddr Try.underlying24 rfl (Nat.ne_of_beq_eq_false rfl) (Ev.tmp rfl)) (Nat.le_of_ble_eq_true rfl) ?_
    refine WL.po (PO.load1 Try.underlying3 rfl (Ev.tmp rfl) (by (repeat (first | exact List.Mem.head _ | apply List.Mem.tail))) rfl) (Nat.le_of_ble_eq_true rfl) ?_
    refine WL.po (PO.bin (Ev.tmp rfl) Ev.const rfl) (Nat.le_of_ble_eq_true rfl) ?_
    refine WL.po (PO.move (Ev.tmp rfl)) (Nat.le_of_ble_eq_true rfl) ?_
    refine WL.poG (GU.t (hG _ _ rfl) rfl) (fun hc => PO.move (Ev.tmp rfl)) (Nat.le_of_ble_eq_true rfl) ?_
    refine WL.poG (GU.t (hG _ _ rfl) rfl) (fun hc => PO.not (Ev.gv rfl hc)) (Nat.le_of_ble_eq_true rfl) ?_
    refine WL.po (PO.pickAnd rfl rfl) (Nat.le_of_ble_eq_true rfl) ?_
    refine WL.po (PO.assign (Ev.tmp rfl)) (Nat.le_of_ble_eq_true rfl) ?_
    refine WL.nil (keepF (ts := [2, 4, 5, 6, 28]) rfl (toK (by assumption) ?_))
    (try clear hG ops)
    (repeat (first | refine WC.seqK fun K hK => ?_ | refine WC.block ?_ | refine WC.regionG rfl fun ops hG => ?_))
    refine WC.cond (Ev.tmp rfl) (fun c28 => ?_) (fun c28 => ?_)
    · (repeat (first | refine WC.seqK fun K hK => ?_ | refine WC.block ?_ | refine WC.regionG rfl fun ops hG => ?_))
      refine WC.take (r := .pt b4 _) (by (repeat (first | exact Del.here | apply Del.next))) ?_
      refine WC.drawS [2] [0, 1, 2] [3] _ [_] mixed (fun _ _ _ _ _ h => h) [] (by kernel_rfl) ?_
      refine SR.po rfl rfl (PO.loadA Try.underlying24 rfl rfl (Ev.tmp rfl) (by (repeat (first | exact List.Mem.head _ | apply List.Mem.tail))) rfl) (Nat.le_of_ble_eq_true rfl) ?_
      refine SR.po rfl rfl (PO.loadA Try.underlying29 rfl rfl (Ev.tmp rfl) (by (repeat (first | exact List.Mem.head _ | apply List.Mem.tail))) rfl) (Nat.le_of_ble_eq_true rfl) ?_
      refine SR.store rfl rfl rfl (Ev.tmp rfl) (Ev.tmp rfl) rfl rfl rfl rfl (by (repeat (first | exact Upd.here | apply Upd.next))) ?_
      refine SR.nil rfl rfl ?_
      refine WL.store rfl (Ev.tmp rfl) (Ev.tmp rfl) rfl rfl rfl rfl (by (repeat (first | exact Upd.here | apply Upd.next))) ?_
      refine WL.nil (keepF (ts := [4, 5]) rfl (toK (by assumption) ?_))
      (try clear hG ops)
      refine WC.ret (end2 (h' := h) (.inl rfl) rfl (RV.cellA Try.underlying24 rfl rfl rfl (by (repeat (first | exact List.Mem.head _ | apply List.Mem.tail))) rfl) (RV.cellA Try.underlying29 rfl rfl rfl (by (repeat (first | exact List.Mem.head _ | apply List.Mem.tail))) rfl) (View.le.refl m) (by (repeat (first | exact List.Sublist.refl _ | refine List.Sublist.cons_cons _ ?_ | apply List.Sublist.cons))) ?_)
      exact ⟨by rw [rx_none c9 c28]; rfl, rfl⟩
    · (repeat (first | refine WC.seqK fun K hK => ?_ | refine WC.block ?_ | refine WC.regionG rfl fun ops hG => ?_))
      refine WL.po (PO.fieldAddr Try.underlying24 rfl (Nat.ne_of_beq_eq_false rfl) (Ev.tmp rfl)) (Nat.le_of_ble_eq_true rfl) ?_
      refine WL.po (PO.load1 Try.underlying3 rfl (Ev.tmp rfl) (by (repeat (first | exact List.Mem.head _ | apply List.Mem.tail))) rfl) (Nat.le_of_ble_eq_true rfl) ?_
      refine WL.po (PO.bin (Ev.tmp rfl) Ev.const rfl) (Nat.le_of_ble_eq_true rfl) ?_
      refine WL.po (PO.move (Ev.tmp rfl)) (Nat.le_of_ble_eq_true rfl) ?_
      refine WL.poG (GU.t (hG _ _ rfl) rfl) (fun hc => PO.move (Ev.tmp rfl)) (Nat.le_of_ble_eq_true rfl) ?_
      refine WL.poG (GU.t (hG _ _ rfl) rfl) (fun hc => PO.not (Ev.gv rfl hc)) (Nat.le_of_ble_eq_true rfl) ?_
      refine WL.po (PO.pickAnd rfl rfl) (Nat.le_of_ble_eq_true rfl) ?_
      refine WL.po (PO.assign (Ev.tmp rfl)) (Nat.le_of_ble_eq_true rfl) ?_
      refine WL.nil (keepF (ts := [2, 4, 5, 6, 38]) rfl (toK (by assumption) ?_))
      (try clear hG ops)
      (repeat (first | refine WC.seqK fun K hK => ?_ | refine WC.block ?_ | refine WC.regionG rfl fun ops hG => ?_))
      refine WC.cond (Ev.tmp rfl) (fun c38 => ?_) (fun c38 => ?_)
      · (repeat (first | refine WC.seqK fun K hK => ?_ | refine WC.block ?_ | refine WC.regionG rfl fun ops hG => ?_))
        refine WL.po (PO.fieldAddr Try.underlying29 rfl (Nat.ne_of_beq_eq_false rfl) (Ev.tmp rfl)) (Nat.le_of_ble_eq_true rfl) ?_
        refine WL.store rfl (Ev.tmp rfl) Ev.const rfl rfl rfl rfl (by (repeat (first | exact Upd.here | apply Upd.next))) ?_
        refine WL.nil (keepF (ts := [2, 4, 5]) rfl (toK (by assumption) ?_))
        (try clear hG ops)
        (repeat (first | refine WC.seqK fun K hK => ?_ | refine WC.block ?_ | refine WC.regionG rfl fun ops hG => ?_))
        refine WL.po (PO.fieldAddr Try.underlying24 rfl (Nat.ne_of_beq_eq_false rfl) (Ev.tmp rfl)) (Nat.le_of_ble_eq_true rfl) ?_
        refine WL.store rfl (Ev.tmp rfl) Ev.const rfl rfl rfl rfl (by (repeat (first | exact Upd.here | apply Upd.next))) ?_
        refine WL.po (PO.fieldAddr Try.underlying24 rfl (Nat.ne_of_beq_eq_false rfl) (Ev.tmp rfl)) (Nat.le_of_ble_eq_true rfl) ?_
        refine WL.store rfl (Ev.tmp rfl) Ev.const rfl rfl rfl rfl (by (repeat (first | exact Upd.here | apply Upd.next))) ?_
        refine WL.nil (keepF (ts := [2, 4, 5]) rfl (toK (by assumption) ?_))
        (try clear hG ops)
        (repeat (first | refine WC.seqK fun K hK => ?_ | refine WC.block ?_ | refine WC.regionG rfl fun ops hG => ?_))
        refine WC.take (r := .pt b4 _) (by (repeat (first | exact Del.here | apply Del.next))) ?_
        refine WC.drawS [2] [0, 1, 2] [3] _ [_] mixed (fun _ _ _ _ _ h => h) [] (by kernel_rfl) ?_
        refine SR.po rfl rfl (PO.loadA Try.underlying24 rfl rfl (Ev.tmp rfl) (by (repeat (first | exact List.Mem.head _ | apply List.Mem.tail))) rfl) (Nat.le_of_ble_eq_true rfl) ?_
        refine SR.po rfl rfl (PO.loadA Try.underlying29 rfl rfl (Ev.tmp rfl) (by (repeat (first | exact List.Mem.head _ | apply List.Mem.tail))) rfl) (Nat.le_of_ble_eq_true rfl) ?_
        refine SR.store rfl rfl rfl (Ev.tmp rfl) (Ev.tmp rfl) rfl rfl rfl rfl (by (repeat (first | exact Upd.here | apply Upd.next))) ?_
        refine SR.nil rfl rfl ?_
        refine WL.store rfl (Ev.tmp rfl) (Ev.tmp rfl) rfl rfl rfl rfl (by (repeat (first | exact Upd.here | apply Upd.next))) ?_
        refine WL.nil (keepF (ts := [4, 5]) rfl (toK (by assumption) ?_))
        (try clear hG ops)
        refine WC.ret (end2 (h' := h) (.inl rfl) rfl (RV.cellA Try.underlying24 rfl rfl rfl (by (repeat (first | exact List.Mem.head _ | apply List.Mem.tail))) rfl) (RV.cellA Try.underlying29 rfl rfl rfl (by (repeat (first | exact List.Mem.head _ | apply List.Mem.tail))) rfl) (View.le.refl m) (by (repeat (first | exact List.Sublist.refl _ | refine List.Sublist.cons_cons _ ?_ | apply List.Sublist.cons))) ?_)
        first
          | exact ⟨by rw [rx_ack c9 c28 c38]; rfl, rfl⟩
          | exact ⟨by rw [rx_bad c9 c28 c38 c47]; rfl, rfl⟩
          | exact ⟨by rw [rx_byte c9 c28 c38 c47 c55]; exact congrArg (fun x => Value.tuple #[serV { s with rl := 0, rb := 0#16 }, .agg #[.int .u8 1, .int .u8 x]]) (rx_int2 s), rfl⟩
      · (repeat (first | refine WC.seqK fun K hK => ?_ | refine WC.block ?_ | refine WC.regionG rfl fun ops hG => ?_))
        refine WL.po (PO.fieldAddr Try.underlying24 rfl (Nat.ne_of_beq_eq_false rfl) (Ev.tmp rfl)) (Nat.le_of_ble_eq_true rfl) ?_
        refine WL.po (PO.load1 Try.underlying3 rfl (Ev.tmp rfl) (by (repeat (first | exact List.Mem.head _ | apply List.Mem.tail))) rfl) (Nat.le_of_ble_eq_true rfl) ?_
        refine WL.po (PO.bin (Ev.tmp rfl) Ev.const rfl) (Nat.le_of_ble_eq_true rfl) ?_
        refine WL.po (PO.move (Ev.tmp rfl)) (Nat.le_of_ble_eq_true rfl) ?_
        refine WL.poG (GU.t (hG _ _ rfl) rfl) (fun hc => PO.move (Ev.tmp rfl)) (Nat.le_of_ble_eq_true rfl) ?_
        refine WL.po (PO.pickAnd rfl rfl) (Nat.le_of_ble_eq_true rfl) ?_
        refine WL.po (PO.assign (Ev.tmp rfl)) (Nat.le_of_ble_eq_true rfl) ?_
        refine WL.nil (keepF (ts := [2, 4, 5, 6, 47]) rfl (toK (by assumption) ?_))
        (try clear hG ops)
        (repeat (first | refine WC.seqK fun K hK => ?_ | refine WC.block ?_ | refine WC.regionG rfl fun ops hG => ?_))
        refine WC.cond (Ev.tmp rfl) (fun c47 => ?_) (fun c47 => ?_)
        · (repeat (first | refine WC.seqK fun K hK => ?_ | refine WC.block ?_ | refine WC.regionG rfl fun ops hG => ?_))
          refine WL.po (PO.fieldAddr Try.underlying29 rfl (Nat.ne_of_beq_eq_false rfl) (Ev.tmp rfl)) (Nat.le_of_ble_eq_true rfl) ?_
          refine WL.store rfl (Ev.tmp rfl) Ev.const rfl rfl rfl rfl (by (repeat (first | exact Upd.here | apply Upd.next))) ?_
          refine WL.nil (keepF (ts := [2, 4, 5]) rfl (toK (by assumption) ?_))
          (try clear hG ops)
          (repeat (first | refine WC.seqK fun K hK => ?_ | refine WC.block ?_ | refine WC.regionG rfl fun ops hG => ?_))
          refine WL.po (PO.fieldAddr Try.underlying24 rfl (Nat.ne_of_beq_eq_false rfl) (Ev.tmp rfl)) (Nat.le_of_ble_eq_true rfl) ?_
          refine WL.store rfl (Ev.tmp rfl) Ev.const rfl rfl rfl rfl (by (repeat (first | exact Upd.here | apply Upd.next))) ?_
          refine WL.po (PO.fieldAddr Try.underlying24 rfl (Nat.ne_of_beq_eq_false rfl) (Ev.tmp rfl)) (Nat.le_of_ble_eq_true rfl) ?_
          refine WL.store rfl (Ev.tmp rfl) Ev.const rfl rfl rfl rfl (by (repeat (first | exact Upd.here | apply Upd.next))) ?_
          refine WL.nil (keepF (ts := [2, 4, 5]) rfl (toK (by assumption) ?_))
          (try clear hG ops)
          (repeat (first | refine WC.seqK fun K hK => ?_ | refine WC.block ?_ | refine WC.regionG rfl fun ops hG => ?_))
          refine WC.take (r := .pt b4 _) (by (repeat (first | exact Del.here | apply Del.next))) ?_
          refine WC.drawS [2] [0, 1, 2] [3] _ [_] mixed (fun _ _ _ _ _ h => h) [] (by kernel_rfl) ?_
          refine SR.po rfl rfl (PO.loadA Try.underlying24 rfl rfl (Ev.tmp rfl) (by (repeat (first | exact List.Mem.head _ | apply List.Mem.tail))) rfl) (Nat.le_of_ble_eq_true rfl) ?_
          refine SR.po rfl rfl (PO.loadA Try.underlying29 rfl rfl (Ev.tmp rfl) (by (repeat (first | exact List.Mem.head _ | apply List.Mem.tail))) rfl) (Nat.le_of_ble_eq_true rfl) ?_
          refine SR.store rfl rfl rfl (Ev.tmp rfl) (Ev.tmp rfl) rfl rfl rfl rfl (by (repeat (first | exact Upd.here | apply Upd.next))) ?_
          refine SR.nil rfl rfl ?_
          refine WL.store rfl (Ev.tmp rfl) (Ev.tmp rfl) rfl rfl rfl rfl (by (repeat (first | exact Upd.here | apply Upd.next))) ?_
          refine WL.nil (keepF (ts := [4, 5]) rfl (toK (by assumption) ?_))
          (try clear hG ops)
          refine WC.ret (end2 (h' := h) (.inl rfl) rfl (RV.cellA Try.underlying24 rfl rfl rfl (by (repeat (first | exact List.Mem.head _ | apply List.Mem.tail))) rfl) (RV.cellA Try.underlying29 rfl rfl rfl (by (repeat (first | exact List.Mem.head _ | apply List.Mem.tail))) rfl) (View.le.refl m) (by (repeat (first | exact List.Sublist.refl _ | refine List.Sublist.cons_cons _ ?_ | apply List.Sublist.cons))) ?_)
          first
            | exact ⟨by rw [rx_ack c9 c28 c38]; rfl, rfl⟩
            | exact ⟨by rw [rx_bad c9 c28 c38 c47]; rfl, rfl⟩
            | exact ⟨by rw [rx_byte c9 c28 c38 c47 c55]; exact congrArg (fun x => Value.tuple #[serV { s with rl := 0, rb := 0#16 }, .agg #[.int .u8 1, .int .u8 x]]) (rx_int2 s), rfl⟩
        · (repeat (first | refine WC.seqK fun K hK => ?_ | refine WC.block ?_ | refine WC.regionG rfl fun ops hG => ?_))
          refine WL.po (PO.fieldAddr Try.underlying24 rfl (Nat.ne_of_beq_eq_false rfl) (Ev.tmp rfl)) (Nat.le_of_ble_eq_true rfl) ?_
          refine WL.po (PO.load1 Try.underlying3 rfl (Ev.tmp rfl) (by (repeat (first | exact List.Mem.head _ | apply List.Mem.tail))) rfl) (Nat.le_of_ble_eq_true rfl) ?_
          refine WL.po (PO.bin (Ev.tmp rfl) Ev.const rfl) (Nat.le_of_ble_eq_true rfl) ?_
          refine WL.po (PO.assign (Ev.tmp rfl)) (Nat.le_of_ble_eq_true rfl) ?_
          refine WL.nil (keepF (ts := [2, 4, 5, 6, 55]) rfl (toK (by assumption) ?_))
          (try clear hG ops)
          (repeat (first | refine WC.seqK fun K hK => ?_ | refine WC.block ?_ | refine WC.regionG rfl fun ops hG => ?_))
          refine WC.cond (Ev.tmp rfl) (fun c55 => ?_) (fun c55 => ?_)
          · (repeat (first | refine WC.seqK fun K hK => ?_ | refine WC.block ?_ | refine WC.regionG rfl fun ops hG => ?_))
            refine WL.po (PO.fieldAddr Try.underlying24 rfl (Nat.ne_of_beq_eq_false rfl) (Ev.tmp rfl)) (Nat.le_of_ble_eq_true rfl) ?_
            refine WL.po (PO.load1 Try.underlying22 rfl (Ev.tmp rfl) (by (repeat (first | exact List.Mem.head _ | apply List.Mem.tail))) rfl) (Nat.le_of_ble_eq_true rfl) ?_
            refine WL.po (PO.shr (Ev.tmp rfl) Ev.const (by decide)) (Nat.le_of_ble_eq_true rfl) ?_
            refine WL.po (PO.conv Try.underlying22 Try.underlying5 (Ev.tmp rfl)) (Nat.le_of_ble_eq_true rfl) ?_
            refine WL.po (PO.build Try.underlying29 rfl rfl rfl (EvP.cons Ev.const (EvP.cons (Ev.tmp rfl) EvP.nil)) rfl) (Nat.le_of_ble_eq_true rfl) ?_
            refine WL.store rfl (Ev.tmp rfl) (Ev.tmp rfl) rfl rfl rfl rfl (by (repeat (first | exact Upd.here | apply Upd.next))) ?_
            refine WL.nil (keepF (ts := [2, 4, 5]) rfl (toK (by assumption) ?_))
            (try clear hG ops)
            (repeat (first | refine WC.seqK fun K hK => ?_ | refine WC.block ?_ | refine WC.regionG rfl fun ops hG => ?_))
            refine WL.po (PO.fieldAddr Try.underlying24 rfl (Nat.ne_of_beq_eq_false rfl) (Ev.tmp rfl)) (Nat.le_of_ble_eq_true rfl) ?_
            refine WL.store rfl (Ev.tmp rfl) Ev.const rfl rfl rfl rfl (by (repeat (first | exact Upd.here | apply Upd.next))) ?_
            refine WL.po (PO.fieldAddr Try.underlying24 rfl (Nat.ne_of_beq_eq_false rfl) (Ev.tmp rfl)) (Nat.le_of_ble_eq_true rfl) ?_
            refine WL.store rfl (Ev.tmp rfl) Ev.const rfl rfl rfl rfl (by (repeat (first | exact Upd.here | apply Upd.next))) ?_
            refine WL.nil (keepF (ts := [2, 4, 5]) rfl (toK (by assumption) ?_))
            (try clear hG ops)
            (repeat (first | refine WC.seqK fun K hK => ?_ | refine WC.block ?_ | refine WC.regionG rfl fun ops hG => ?_))
            refine WC.take (r := .pt b4 _) (by (repeat (first | exact Del.here | apply Del.next))) ?_
            refine WC.drawS [2] [0, 1, 2] [3] _ [_] mixed (fun _ _ _ _ _ h => h) [] (by kernel_rfl) ?_
            refine SR.po rfl rfl (PO.loadA Try.underlying24 rfl rfl (Ev.tmp rfl) (by (repeat (first | exact List.Mem.head _ | apply List.Mem.tail))) rfl) (Nat.le_of_ble_eq_true rfl) ?_
            refine SR.po rfl rfl (PO.loadA Try.underlying29 rfl rfl (Ev.tmp rfl) (by (repeat (first | exact List.Mem.head _ | apply List.Mem.tail))) rfl) (Nat.le_of_ble_eq_true rfl) ?_
            refine SR.store rfl rfl rfl (Ev.tmp rfl) (Ev.tmp rfl) rfl rfl rfl rfl (by (repeat (first | exact Upd.here | apply Upd.next))) ?_
            refine SR.nil rfl rfl ?_
            refine WL.store rfl (Ev.tmp rfl) (Ev.tmp rfl) rfl rfl rfl rfl (by (repeat (first | exact Upd.here | apply Upd.next))) ?_
            refine WL.nil (keepF (ts := [4, 5]) rfl (toK (by assumption) ?_))
            (try clear hG ops)
            refine WC.ret (end2 (h' := h) (.inl rfl) rfl (RV.cellA Try.underlying24 rfl rfl rfl (by (repeat (first | exact List.Mem.head _ | apply List.Mem.tail))) rfl) (RV.cellA Try.underlying29 rfl rfl rfl (by (repeat (first | exact List.Mem.head _ | apply List.Mem.tail))) rfl) (View.le.refl m) (by (repeat (first | exact List.Sublist.refl _ | refine List.Sublist.cons_cons _ ?_ | apply List.Sublist.cons))) ?_)
            first
              | exact ⟨by rw [rx_ack c9 c28 c38]; rfl, rfl⟩
              | exact ⟨by rw [rx_bad c9 c28 c38 c47]; rfl, rfl⟩
              | exact ⟨by rw [rx_byte c9 c28 c38 c47 c55]; exact congrArg (fun x => Value.tuple #[serV { s with rl := 0, rb := 0#16 }, .agg #[.int .u8 1, .int .u8 x]]) (rx_int2 s), rfl⟩
          · (repeat (first | refine WC.seqK fun K hK => ?_ | refine WC.block ?_ | refine WC.regionG rfl fun ops hG => ?_))
            refine WL.po (PO.move (Ev.tmp rfl)) (Nat.le_of_ble_eq_true rfl) ?_
            refine WL.nil (keepF (ts := [2, 4, 5, 14]) rfl (toK (by assumption) ?_))
            (try clear hG ops)
            (repeat (first | refine WC.seqK fun K hK => ?_ | refine WC.block ?_ | refine WC.regionG rfl fun ops hG => ?_))
            refine WC.cond (Ev.tmp rfl) (fun c14 => ?_) (fun c14 => ?_)
            · have e14 : (bit != 0) = true := c14
              (repeat (first | refine WC.seqK fun K hK => ?_ | refine WC.block ?_ | refine WC.regionG rfl fun ops hG => ?_))
              refine WC.drawS [] [0, 1, 2, 3, 4] [5, 6, 7] _ [] mixed (fun _ _ _ _ _ h => h) [] (by kernel_rfl) ?_
              refine SR.po rfl rfl (PO.fieldAddr Try.underlying24 rfl (Nat.ne_of_beq_eq_false rfl) (Ev.tmp rfl)) (Nat.le_of_ble_eq_true rfl) ?_
              refine SR.po rfl rfl (PO.load1 Try.underlying22 rfl (Ev.tmp rfl) (by (repeat (first | exact List.Mem.head _ | apply List.Mem.tail))) rfl) (Nat.le_of_ble_eq_true rfl) ?_
              refine SR.po rfl rfl (PO.fieldAddr Try.underlying24 rfl (Nat.ne_of_beq_eq_false rfl) (Ev.tmp rfl)) (Nat.le_of_ble_eq_true rfl) ?_
              refine SR.po rfl rfl (PO.load1 Try.underlying3 rfl (Ev.tmp rfl) (by (repeat (first | exact List.Mem.head _ | apply List.Mem.tail))) rfl) (Nat.le_of_ble_eq_true rfl) ?_
              refine SR.po rfl rfl (PO.shl Ev.const (Ev.tmp rfl) (by omega)) (Nat.le_of_ble_eq_true rfl) ?_
              refine SR.nil rfl rfl ?_
              refine WL.po (PO.bin (Ev.tmp rfl) (Ev.tmp rfl) rfl) (Nat.le_of_ble_eq_true rfl) ?_
              refine WL.po (PO.fieldAddr Try.underlying24 rfl (Nat.ne_of_beq_eq_false rfl) (Ev.tmp rfl)) (Nat.le_of_ble_eq_true rfl) ?_
              refine WL.store rfl (Ev.tmp rfl) (Ev.tmp rfl) rfl rfl rfl rfl (by (repeat (first | exact Upd.here | apply Upd.next))) ?_
              refine WL.nil (keepF (ts := [2, 4, 5]) rfl (toK (by assumption) ?_))
              (try clear hG ops)
              (repeat (first | refine WC.seqK fun K hK => ?_ | refine WC.block ?_ | refine WC.regionG rfl fun ops hG => ?_))
              refine WL.po (PO.fieldAddr Try.underlying24 rfl (Nat.ne_of_beq_eq_false rfl) (Ev.tmp rfl)) (Nat.le_of_ble_eq_true rfl) ?_
              refine WL.po (PO.load1 Try.underlying3 rfl (Ev.tmp rfl) (by (repeat (first | exact List.Mem.head _ | apply List.Mem.tail))) rfl) (Nat.le_of_ble_eq_true rfl) ?_
              refine WL.po (PO.addI (Ev.tmp rfl) Ev.const (by omega)) (Nat.le_of_ble_eq_true rfl) ?_
              refine WL.po (PO.fieldAddr Try.underlying24 rfl (Nat.ne_of_beq_eq_false rfl) (Ev.tmp rfl)) (Nat.le_of_ble_eq_true rfl) ?_
              refine WL.store rfl (Ev.tmp rfl) (Ev.tmp rfl) rfl rfl rfl rfl (by (repeat (first | exact Upd.here | apply Upd.next))) ?_
              refine WL.nil (keepF (ts := [2, 4, 5]) rfl (toK (by assumption) ?_))
              (try clear hG ops)
              (repeat (first | refine WC.seqK fun K hK => ?_ | refine WC.block ?_ | refine WC.regionG rfl fun ops hG => ?_))
              refine WC.take (r := .pt b4 _) (by (repeat (first | exact Del.here | apply Del.next))) ?_
              refine WC.drawS [2] [0, 1, 2] [3] _ [_] mixed (fun _ _ _ _ _ h => h) [] (by kernel_rfl) ?_
              refine SR.po rfl rfl (PO.loadA Try.underlying24 rfl rfl (Ev.tmp rfl) (by (repeat (first | exact List.Mem.head _ | apply List.Mem.tail))) rfl) (Nat.le_of_ble_eq_true rfl) ?_
              refine SR.po rfl rfl (PO.loadA Try.underlying29 rfl rfl (Ev.tmp rfl) (by (repeat (first | exact List.Mem.head _ | apply List.Mem.tail))) rfl) (Nat.le_of_ble_eq_true rfl) ?_
              refine SR.store rfl rfl rfl (Ev.tmp rfl) (Ev.tmp rfl) rfl rfl rfl rfl (by (repeat (first | exact Upd.here | apply Upd.next))) ?_
              refine SR.nil rfl rfl ?_
              refine WL.store rfl (Ev.tmp rfl) (Ev.tmp rfl) rfl rfl rfl rfl (by (repeat (first | exact Upd.here | apply Upd.next))) ?_
              refine WL.nil (keepF (ts := [4, 5]) rfl (toK (by assumption) ?_))
              (try clear hG ops)
              refine WC.ret (end2 (h' := h) (.inl rfl) rfl (RV.cellA Try.underlying24 rfl rfl rfl (by (repeat (first | exact List.Mem.head _ | apply List.Mem.tail))) rfl) (RV.cellA Try.underlying29 rfl rfl rfl (by (repeat (first | exact List.Mem.head _ | apply List.Mem.tail))) rfl) (View.le.refl m) (by (repeat (first | exact List.Sublist.refl _ | refine List.Sublist.cons_cons _ ?_ | apply List.Sublist.cons))) ?_)
              exact ⟨by rw [rx_go c9 c28 c38 c47 c55, e14]; first | exact congrArg (fun x => Value.tuple #[.agg #[u16 s.tb, .int .i64 s.tl, .bool s.ack, .bool s.data, u8 s.by_, .int .i64 (s.rl + 1), .int .u16 x], hV noH]) (rx_int s) | rfl, rfl⟩
            · have e14 : (bit != 0) = false := c14
              refine WC.skip (keepF (ts := [2, 4, 5]) rfl (toK (by assumption) ?_))
              (repeat (first | refine WC.seqK fun K hK => ?_ | refine WC.block ?_ | refine WC.regionG rfl fun ops hG => ?_))
              refine WL.po (PO.fieldAddr Try.underlying24 rfl (Nat.ne_of_beq_eq_false rfl) (Ev.tmp rfl)) (Nat.le_of_ble_eq_true rfl) ?_
              refine WL.po (PO.load1 Try.underlying3 rfl (Ev.tmp rfl) (by (repeat (first | exact List.Mem.head _ | apply List.Mem.tail))) rfl) (Nat.le_of_ble_eq_true rfl) ?_
              refine WL.po (PO.addI (Ev.tmp rfl) Ev.const (by omega)) (Nat.le_of_ble_eq_true rfl) ?_
              refine WL.po (PO.fieldAddr Try.underlying24 rfl (Nat.ne_of_beq_eq_false rfl) (Ev.tmp rfl)) (Nat.le_of_ble_eq_true rfl) ?_
              refine WL.store rfl (Ev.tmp rfl) (Ev.tmp rfl) rfl rfl rfl rfl (by (repeat (first | exact Upd.here | apply Upd.next))) ?_
              refine WL.nil (keepF (ts := [2, 4, 5]) rfl (toK (by assumption) ?_))
              (try clear hG ops)
              (repeat (first | refine WC.seqK fun K hK => ?_ | refine WC.block ?_ | refine WC.regionG rfl fun ops hG => ?_))
              refine WC.take (r := .pt b4 _) (by (repeat (first | exact Del.here | apply Del.next))) ?_
              refine WC.drawS [2] [0, 1, 2] [3] _ [_] mixed (fun _ _ _ _ _ h => h) [] (by kernel_rfl) ?_
              refine SR.po rfl rfl (PO.loadA Try.underlying24 rfl rfl (Ev.tmp rfl) (by (repeat (first | exact List.Mem.head _ | apply List.Mem.tail))) rfl) (Nat.le_of_ble_eq_true rfl) ?_
              refine SR.po rfl rfl (PO.loadA Try.underlying29 rfl rfl (Ev.tmp rfl) (by (repeat (first | exact List.Mem.head _ | apply List.Mem.tail))) rfl) (Nat.le_of_ble_eq_true rfl) ?_
              refine SR.store rfl rfl rfl (Ev.tmp rfl) (Ev.tmp rfl) rfl rfl rfl rfl (by (repeat (first | exact Upd.here | apply Upd.next))) ?_
              refine SR.nil rfl rfl ?_
              refine WL.store rfl (Ev.tmp rfl) (Ev.tmp rfl) rfl rfl rfl rfl (by (repeat (first | exact Upd.here | apply Upd.next))) ?_
              refine WL.nil (keepF (ts := [4, 5]) rfl (toK (by assumption) ?_))
              (try clear hG ops)
              refine WC.ret (end2 (h' := h) (.inl rfl) rfl (RV.cellA Try.underlying24 rfl rfl rfl (by (repeat (first | exact List.Mem.head _ | apply List.Mem.tail))) rfl) (RV.cellA Try.underlying29 rfl rfl rfl (by (repeat (first | exact List.Mem.head _ | apply List.Mem.tail))) rfl) (View.le.refl m) (by (repeat (first | exact List.Sublist.refl _ | refine List.Sublist.cons_cons _ ?_ | apply List.Sublist.cons))) ?_)
              exact ⟨by rw [rx_go c9 c28 c38 c47 c55, e14]; first | exact congrArg (fun x => Value.tuple #[.agg #[u16 s.tb, .int .i64 s.tl, .bool s.ack, .bool s.data, u8 s.by_, .int .i64 (s.rl + 1), .int .u16 x], hV noH]) (rx_int s) | rfl, rfl⟩
end Go.Proofs.Ytoeghfpkpppchaa

/- object: the small functions' contracts. -/
import Derived.Test.YtdfobghpbbohdaaRows
import Derived.Test.YtdfobghpbbohdaaObjM
namespace Go.Proofs.Ytdfobghpbbohdaa
open Go.Eng Go.Obj

theorem mixed : Try.prog.follows .mixedOrders = true := by kernel_rfl
theorem EL22 : EL Try.prog 22 5 1 1 := ⟨_, _, rfl, rfl, rfl, rfl, rfl, rfl, by decide⟩

def mayB (n : Nat) (e a b : Int) : Bool := decide ((n : Int) > 0) && decide ((n : Int) ≤ 32768) && decide (e ≥ 0) && decide (e < n) && decide (a ≥ 0) && decide (a ≤ 16384) && decide (b ≥ 0) && decide (b ≤ 16384)

theorem may_ct (s : Option Addr) (len cap : Nat) (e a b : Int) (h : List Res) (m : View) :
    CT Try.prog 13 [.agg #[.slice s len cap, .int .i64 e, .int .i64 a, .int .i64 b]] h m (Pure1 h (.bool (mayB len e a b))) := by
  refine CT.body Try.call13 Try.func13 rfl Try.ntmps13 (Nat.le_of_ble_eq_true rfl) rfl ?_
  (repeat (first | refine WC.seqK fun K hK => ?_ | refine WC.block ?_ | refine WC.regionG rfl fun ops hG => ?_))
  refine WL.box (Ev.tmp rfl) rfl (Nat.le_of_ble_eq_true rfl) fun b1 => ?_
  refine WL.po (PO.assign Ev.const) (Nat.le_of_ble_eq_true rfl) ?_
  refine WL.nil (keepF (ts := [0, 1, 2]) rfl (toK (by assumption) ?_)); (try clear hG ops)
  (repeat (first | refine WC.seqK fun K hK => ?_ | refine WC.block ?_ | refine WC.regionG rfl fun ops hG => ?_))
  refine WL.po (PO.fieldAddr Try.underlying24 rfl (Nat.ne_of_beq_eq_false rfl) (Ev.tmp rfl)) (Nat.le_of_ble_eq_true rfl) ?_
  refine WL.po (PO.load1 Try.underlying22 rfl (Ev.tmp rfl) (by (repeat (first | exact List.Mem.head _ | apply List.Mem.tail))) rfl) (Nat.le_of_ble_eq_true rfl) ?_
  refine WL.po (PO.lenSl Try.underlying22 (Ev.tmp rfl)) (Nat.le_of_ble_eq_true rfl) ?_
  refine WL.po (PO.bin (Ev.tmp rfl) Ev.const rfl) (Nat.le_of_ble_eq_true rfl) ?_
  refine WL.po (PO.move (Ev.tmp rfl)) (Nat.le_of_ble_eq_true rfl) ?_
  refine WL.poT (hG _ _ rfl) rfl (fun hc => PO.fieldAddr Try.underlying24 rfl (Nat.ne_of_beq_eq_false rfl) (Ev.tmp rfl)) (Nat.le_of_ble_eq_true rfl) ?_
  refine WL.poT (hG _ _ rfl) rfl (fun hc => PO.load1 Try.underlying22 rfl (Ev.gv rfl hc) (by (repeat (first | exact List.Mem.head _ | apply List.Mem.tail))) rfl) (Nat.le_of_ble_eq_true rfl) ?_
  refine WL.poT (hG _ _ rfl) rfl (fun hc => PO.lenSl Try.underlying22 (Ev.gv rfl hc)) (Nat.le_of_ble_eq_true rfl) ?_
  refine WL.poT (hG _ _ rfl) rfl (fun hc => PO.bin (Ev.gv rfl hc) Ev.const rfl) (Nat.le_of_ble_eq_true rfl) ?_
  refine WL.po (PO.pickAnd rfl rfl) (Nat.le_of_ble_eq_true rfl) ?_
  refine WL.po (PO.move (Ev.tmp rfl)) (Nat.le_of_ble_eq_true rfl) ?_
  refine WL.poT (hG _ _ rfl) rfl (fun hc => PO.fieldAddr Try.underlying24 rfl (Nat.ne_of_beq_eq_false rfl) (Ev.tmp rfl)) (Nat.le_of_ble_eq_true rfl) ?_
  refine WL.poT (hG _ _ rfl) rfl (fun hc => PO.load1 Try.underlying3 rfl (Ev.gv rfl hc) (by (repeat (first | exact List.Mem.head _ | apply List.Mem.tail))) rfl) (Nat.le_of_ble_eq_true rfl) ?_
  refine WL.poT (hG _ _ rfl) rfl (fun hc => PO.bin (Ev.gv rfl hc) Ev.const rfl) (Nat.le_of_ble_eq_true rfl) ?_
  refine WL.po (PO.pickAnd rfl rfl) (Nat.le_of_ble_eq_true rfl) ?_
  refine WL.po (PO.move (Ev.tmp rfl)) (Nat.le_of_ble_eq_true rfl) ?_
  refine WL.poT (hG _ _ rfl) rfl (fun hc => PO.fieldAddr Try.underlying24 rfl (Nat.ne_of_beq_eq_false rfl) (Ev.tmp rfl)) (Nat.le_of_ble_eq_true rfl) ?_
  refine WL.poT (hG _ _ rfl) rfl (fun hc => PO.load1 Try.underlying3 rfl (Ev.gv rfl hc) (by (repeat (first | exact List.Mem.head _ | apply List.Mem.tail))) rfl) (Nat.le_of_ble_eq_true rfl) ?_
  refine WL.poT (hG _ _ rfl) rfl (fun hc => PO.fieldAddr Try.underlying24 rfl (Nat.ne_of_beq_eq_false rfl) (Ev.tmp rfl)) (Nat.le_of_ble_eq_true rfl) ?_
  refine WL.poT (hG _ _ rfl) rfl (fun hc => PO.load1 Try.underlying22 rfl (Ev.gv rfl hc) (by (repeat (first | exact List.Mem.head _ | apply List.Mem.tail))) rfl) (Nat.le_of_ble_eq_true rfl) ?_
  refine WL.poT (hG _ _ rfl) rfl (fun hc => PO.lenSl Try.underlying22 (Ev.gv rfl hc)) (Nat.le_of_ble_eq_true rfl) ?_
  refine WL.poT (hG _ _ rfl) rfl (fun hc => PO.bin (Ev.gv rfl hc) (Ev.gv rfl hc) rfl) (Nat.le_of_ble_eq_true rfl) ?_
  refine WL.po (PO.pickAnd rfl rfl) (Nat.le_of_ble_eq_true rfl) ?_
  refine WL.po (PO.move (Ev.tmp rfl)) (Nat.le_of_ble_eq_true rfl) ?_
  refine WL.poT (hG _ _ rfl) rfl (fun hc => PO.fieldAddr Try.underlying24 rfl (Nat.ne_of_beq_eq_false rfl) (Ev.tmp rfl)) (Nat.le_of_ble_eq_true rfl) ?_
  refine WL.poT (hG _ _ rfl) rfl (fun hc => PO.load1 Try.underlying3 rfl (Ev.gv rfl hc) (by (repeat (first | exact List.Mem.head _ | apply List.Mem.tail))) rfl) (Nat.le_of_ble_eq_true rfl) ?_
  refine WL.poT (hG _ _ rfl) rfl (fun hc => PO.bin (Ev.gv rfl hc) Ev.const rfl) (Nat.le_of_ble_eq_true rfl) ?_
  refine WL.po (PO.pickAnd rfl rfl) (Nat.le_of_ble_eq_true rfl) ?_
  refine WL.po (PO.move (Ev.tmp rfl)) (Nat.le_of_ble_eq_true rfl) ?_
  refine WL.poT (hG _ _ rfl) rfl (fun hc => PO.fieldAddr Try.underlying24 rfl (Nat.ne_of_beq_eq_false rfl) (Ev.tmp rfl)) (Nat.le_of_ble_eq_true rfl) ?_
  refine WL.poT (hG _ _ rfl) rfl (fun hc => PO.load1 Try.underlying3 rfl (Ev.gv rfl hc) (by (repeat (first | exact List.Mem.head _ | apply List.Mem.tail))) rfl) (Nat.le_of_ble_eq_true rfl) ?_
  refine WL.poT (hG _ _ rfl) rfl (fun hc => PO.bin (Ev.gv rfl hc) Ev.const rfl) (Nat.le_of_ble_eq_true rfl) ?_
  refine WL.po (PO.pickAnd rfl rfl) (Nat.le_of_ble_eq_true rfl) ?_
  refine WL.po (PO.move (Ev.tmp rfl)) (Nat.le_of_ble_eq_true rfl) ?_
  refine WL.poT (hG _ _ rfl) rfl (fun hc => PO.fieldAddr Try.underlying24 rfl (Nat.ne_of_beq_eq_false rfl) (Ev.tmp rfl)) (Nat.le_of_ble_eq_true rfl) ?_
  refine WL.poT (hG _ _ rfl) rfl (fun hc => PO.load1 Try.underlying3 rfl (Ev.gv rfl hc) (by (repeat (first | exact List.Mem.head _ | apply List.Mem.tail))) rfl) (Nat.le_of_ble_eq_true rfl) ?_
  refine WL.poT (hG _ _ rfl) rfl (fun hc => PO.bin (Ev.gv rfl hc) Ev.const rfl) (Nat.le_of_ble_eq_true rfl) ?_
  refine WL.po (PO.pickAnd rfl rfl) (Nat.le_of_ble_eq_true rfl) ?_
  refine WL.po (PO.move (Ev.tmp rfl)) (Nat.le_of_ble_eq_true rfl) ?_
  refine WL.poT (hG _ _ rfl) rfl (fun hc => PO.fieldAddr Try.underlying24 rfl (Nat.ne_of_beq_eq_false rfl) (Ev.tmp rfl)) (Nat.le_of_ble_eq_true rfl) ?_
  refine WL.poT (hG _ _ rfl) rfl (fun hc => PO.load1 Try.underlying3 rfl (Ev.gv rfl hc) (by (repeat (first | exact List.Mem.head _ | apply List.Mem.tail))) rfl) (Nat.le_of_ble_eq_true rfl) ?_
  refine WL.poT (hG _ _ rfl) rfl (fun hc => PO.bin (Ev.gv rfl hc) Ev.const rfl) (Nat.le_of_ble_eq_true rfl) ?_
  refine WL.po (PO.pickAnd rfl rfl) (Nat.le_of_ble_eq_true rfl) ?_
  refine WL.po (PO.assign (Ev.tmp rfl)) (Nat.le_of_ble_eq_true rfl) ?_
  refine WL.nil (keepF (ts := [0, 1, 2]) rfl (toK (by assumption) ?_)); (try clear hG ops)
  exact WC.ret (end1 (.inl rfl) rfl (RV.tmp rfl) (View.le.refl m) (by (repeat (first | exact List.Sublist.refl _ | refine List.Sublist.cons_cons _ ?_ | apply List.Sublist.cons))) ⟨rfl, rfl⟩)

theorem mayR_ct (s : Option Addr) (len cap : Nat) (e a b : Int) (h : List Res) (m : View) :
    CT Try.prog 14 [.agg #[.slice s len cap, .int .i64 e, .int .i64 a, .int .i64 b]] h m (Pure1 h (.bool (mayB len e a b))) := by
  refine CT.body Try.call14 Try.func14 rfl Try.ntmps14 (Nat.le_of_ble_eq_true rfl) rfl ?_
  (repeat (first | refine WC.seqK fun K hK => ?_ | refine WC.block ?_ | refine WC.regionG rfl fun ops hG => ?_))
  refine WL.box (Ev.tmp rfl) rfl (Nat.le_of_ble_eq_true rfl) fun b1 => ?_
  refine WL.po (PO.assign Ev.const) (Nat.le_of_ble_eq_true rfl) ?_
  refine WL.nil (keepF (ts := [0, 1, 2]) rfl (toK (by assumption) ?_)); (try clear hG ops)
  (repeat (first | refine WC.seqK fun K hK => ?_ | refine WC.block ?_ | refine WC.regionG rfl fun ops hG => ?_))
  refine WL.po (PO.fieldAddr Try.underlying24 rfl (Nat.ne_of_beq_eq_false rfl) (Ev.tmp rfl)) (Nat.le_of_ble_eq_true rfl) ?_
  refine WL.po (PO.load1 Try.underlying22 rfl (Ev.tmp rfl) (by (repeat (first | exact List.Mem.head _ | apply List.Mem.tail))) rfl) (Nat.le_of_ble_eq_true rfl) ?_
  refine WL.po (PO.lenSl Try.underlying22 (Ev.tmp rfl)) (Nat.le_of_ble_eq_true rfl) ?_
  refine WL.po (PO.bin (Ev.tmp rfl) Ev.const rfl) (Nat.le_of_ble_eq_true rfl) ?_
  refine WL.po (PO.move (Ev.tmp rfl)) (Nat.le_of_ble_eq_true rfl) ?_
  refine WL.poT (hG _ _ rfl) rfl (fun hc => PO.fieldAddr Try.underlying24 rfl (Nat.ne_of_beq_eq_false rfl) (Ev.tmp rfl)) (Nat.le_of_ble_eq_true rfl) ?_
  refine WL.poT (hG _ _ rfl) rfl (fun hc => PO.load1 Try.underlying22 rfl (Ev.gv rfl hc) (by (repeat (first | exact List.Mem.head _ | apply List.Mem.tail))) rfl) (Nat.le_of_ble_eq_true rfl) ?_
  refine WL.poT (hG _ _ rfl) rfl (fun hc => PO.lenSl Try.underlying22 (Ev.gv rfl hc)) (Nat.le_of_ble_eq_true rfl) ?_
  refine WL.poT (hG _ _ rfl) rfl (fun hc => PO.bin (Ev.gv rfl hc) Ev.const rfl) (Nat.le_of_ble_eq_true rfl) ?_
  refine WL.po (PO.pickAnd rfl rfl) (Nat.le_of_ble_eq_true rfl) ?_
  refine WL.po (PO.move (Ev.tmp rfl)) (Nat.le_of_ble_eq_true rfl) ?_
  refine WL.poT (hG _ _ rfl) rfl (fun hc => PO.fieldAddr Try.underlying24 rfl (Nat.ne_of_beq_eq_false rfl) (Ev.tmp rfl)) (Nat.le_of_ble_eq_true rfl) ?_
  refine WL.poT (hG _ _ rfl) rfl (fun hc => PO.load1 Try.underlying3 rfl (Ev.gv rfl hc) (by (repeat (first | exact List.Mem.head _ | apply List.Mem.tail))) rfl) (Nat.le_of_ble_eq_true rfl) ?_
  refine WL.poT (hG _ _ rfl) rfl (fun hc => PO.bin (Ev.gv rfl hc) Ev.const rfl) (Nat.le_of_ble_eq_true rfl) ?_
  refine WL.po (PO.pickAnd rfl rfl) (Nat.le_of_ble_eq_true rfl) ?_
  refine WL.po (PO.move (Ev.tmp rfl)) (Nat.le_of_ble_eq_true rfl) ?_
  refine WL.poT (hG _ _ rfl) rfl (fun hc => PO.fieldAddr Try.underlying24 rfl (Nat.ne_of_beq_eq_false rfl) (Ev.tmp rfl)) (Nat.le_of_ble_eq_true rfl) ?_
  refine WL.poT (hG _ _ rfl) rfl (fun hc => PO.load1 Try.underlying3 rfl (Ev.gv rfl hc) (by (repeat (first | exact List.Mem.head _ | apply List.Mem.tail))) rfl) (Nat.le_of_ble_eq_true rfl) ?_
  refine WL.poT (hG _ _ rfl) rfl (fun hc => PO.fieldAddr Try.underlying24 rfl (Nat.ne_of_beq_eq_false rfl) (Ev.tmp rfl)) (Nat.le_of_ble_eq_true rfl) ?_
  refine WL.poT (hG _ _ rfl) rfl (fun hc => PO.load1 Try.underlying22 rfl (Ev.gv rfl hc) (by (repeat (first | exact List.Mem.head _ | apply List.Mem.tail))) rfl) (Nat.le_of_ble_eq_true rfl) ?_
  refine WL.poT (hG _ _ rfl) rfl (fun hc => PO.lenSl Try.underlying22 (Ev.gv rfl hc)) (Nat.le_of_ble_eq_true rfl) ?_
  refine WL.poT (hG _ _ rfl) rfl (fun hc => PO.bin (Ev.gv rfl hc) (Ev.gv rfl hc) rfl) (Nat.le_of_ble_eq_true rfl) ?_
  refine WL.po (PO.pickAnd rfl rfl) (Nat.le_of_ble_eq_true rfl) ?_
  refine WL.po (PO.move (Ev.tmp rfl)) (Nat.le_of_ble_eq_true rfl) ?_
  refine WL.poT (hG _ _ rfl) rfl (fun hc => PO.fieldAddr Try.underlying24 rfl (Nat.ne_of_beq_eq_false rfl) (Ev.tmp rfl)) (Nat.le_of_ble_eq_true rfl) ?_
  refine WL.poT (hG _ _ rfl) rfl (fun hc => PO.load1 Try.underlying3 rfl (Ev.gv rfl hc) (by (repeat (first | exact List.Mem.head _ | apply List.Mem.tail))) rfl) (Nat.le_of_ble_eq_true rfl) ?_
  refine WL.poT (hG _ _ rfl) rfl (fun hc => PO.bin (Ev.gv rfl hc) Ev.const rfl) (Nat.le_of_ble_eq_true rfl) ?_
  refine WL.po (PO.pickAnd rfl rfl) (Nat.le_of_ble_eq_true rfl) ?_
  refine WL.po (PO.move (Ev.tmp rfl)) (Nat.le_of_ble_eq_true rfl) ?_
  refine WL.poT (hG _ _ rfl) rfl (fun hc => PO.fieldAddr Try.underlying24 rfl (Nat.ne_of_beq_eq_false rfl) (Ev.tmp rfl)) (Nat.le_of_ble_eq_true rfl) ?_
  refine WL.poT (hG _ _ rfl) rfl (fun hc => PO.load1 Try.underlying3 rfl (Ev.gv rfl hc) (by (repeat (first | exact List.Mem.head _ | apply List.Mem.tail))) rfl) (Nat.le_of_ble_eq_true rfl) ?_
  refine WL.poT (hG _ _ rfl) rfl (fun hc => PO.bin (Ev.gv rfl hc) Ev.const rfl) (Nat.le_of_ble_eq_true rfl) ?_
  refine WL.po (PO.pickAnd rfl rfl) (Nat.le_of_ble_eq_true rfl) ?_
  refine WL.po (PO.move (Ev.tmp rfl)) (Nat.le_of_ble_eq_true rfl) ?_
  refine WL.poT (hG _ _ rfl) rfl (fun hc => PO.fieldAddr Try.underlying24 rfl (Nat.ne_of_beq_eq_false rfl) (Ev.tmp rfl)) (Nat.le_of_ble_eq_true rfl) ?_
  refine WL.poT (hG _ _ rfl) rfl (fun hc => PO.load1 Try.underlying3 rfl (Ev.gv rfl hc) (by (repeat (first | exact List.Mem.head _ | apply List.Mem.tail))) rfl) (Nat.le_of_ble_eq_true rfl) ?_
  refine WL.poT (hG _ _ rfl) rfl (fun hc => PO.bin (Ev.gv rfl hc) Ev.const rfl) (Nat.le_of_ble_eq_true rfl) ?_
  refine WL.po (PO.pickAnd rfl rfl) (Nat.le_of_ble_eq_true rfl) ?_
  refine WL.po (PO.move (Ev.tmp rfl)) (Nat.le_of_ble_eq_true rfl) ?_
  refine WL.poT (hG _ _ rfl) rfl (fun hc => PO.fieldAddr Try.underlying24 rfl (Nat.ne_of_beq_eq_false rfl) (Ev.tmp rfl)) (Nat.le_of_ble_eq_true rfl) ?_
  refine WL.poT (hG _ _ rfl) rfl (fun hc => PO.load1 Try.underlying3 rfl (Ev.gv rfl hc) (by (repeat (first | exact List.Mem.head _ | apply List.Mem.tail))) rfl) (Nat.le_of_ble_eq_true rfl) ?_
  refine WL.poT (hG _ _ rfl) rfl (fun hc => PO.bin (Ev.gv rfl hc) Ev.const rfl) (Nat.le_of_ble_eq_true rfl) ?_
  refine WL.po (PO.pickAnd rfl rfl) (Nat.le_of_ble_eq_true rfl) ?_
  refine WL.po (PO.assign (Ev.tmp rfl)) (Nat.le_of_ble_eq_true rfl) ?_
  refine WL.nil (keepF (ts := [0, 1, 2]) rfl (toK (by assumption) ?_)); (try clear hG ops)
  refine WC.ret (end1 (.inl rfl) rfl (RV.tmp rfl) (View.le.refl m) (by (repeat (first | exact List.Sublist.refl _ | refine List.Sublist.cons_cons _ ?_ | apply List.Sublist.cons))) ⟨?_, rfl⟩)
  have : decide ((len : Int) ≥ 1) = decide ((len : Int) > 0) := by rw [decide_eq_decide]; omega
  unfold mayB
  rw [this]

theorem sum_ct (s : Option Addr) (len cap : Nat) (bs : List UInt8) (h : List Res) (m : View) (hs : Rd m h s len cap 1 (bv bs)) :
    CT Try.prog 21 [.slice s len cap] h m (Pure1 h (u32 (crc bs))) := by
  have hmx := hs.mx
  have hle := hs.le
  have hlen : bs.length = len := by have := hs.len; simpa [bv_len] using this
  refine CT.body Try.call21 Try.func21 rfl Try.ntmps21 (Nat.le_of_ble_eq_true rfl) rfl ?_
  (repeat (first | refine WC.seqK fun K hK => ?_ | refine WC.block ?_ | refine WC.regionG rfl fun ops hG => ?_))
  refine WL.po (PO.assign Ev.const) (Nat.le_of_ble_eq_true rfl) ?_
  refine WL.nil (keepF (ts := [0, 2, 3, 5, 6, 7, 8, 9, 16, 17]) rfl (toK (by assumption) ?_)); (try clear hG ops)
  (repeat (first | refine WC.seqK fun K hK => ?_ | refine WC.block ?_ | refine WC.regionG rfl fun ops hG => ?_))
  refine WL.po (PO.assign Ev.const) (Nat.le_of_ble_eq_true rfl) ?_
  refine WL.nil (keepF (ts := [0, 2, 3, 5, 6, 7, 8, 9, 16, 17]) rfl (toK (by assumption) ?_)); (try clear hG ops)
  (repeat (first | refine WC.seqK fun K hK => ?_ | refine WC.block ?_ | refine WC.regionG rfl fun ops hG => ?_))
  refine WL.po (PO.move (Ev.tmp rfl)) (Nat.le_of_ble_eq_true rfl) ?_
  refine WL.po (PO.lenSl Try.underlying22 (Ev.tmp rfl)) (Nat.le_of_ble_eq_true rfl) ?_
  refine WL.po (PO.move Ev.const) (Nat.le_of_ble_eq_true rfl) ?_
  refine WL.nil (keepF (ts := [0, 2, 3, 5, 6, 7, 8, 9, 16, 17]) rfl (toK (by assumption) ?_)); (try clear hG ops)
  (repeat (first | refine WC.seqK fun K hK => ?_ | refine WC.block ?_ | refine WC.regionG rfl fun ops hG => ?_))
  refine WC.loop (fun μ F h' m' => ∃ k : Nat, k ≤ len ∧ μ = len - k ∧ F = [(0, .slice s len cap), (3, u32 (crcR (bs.take k))), (6, .slice s len cap), (7, .int .i64 len), (8, .int .i64 k)] ∧ h = h' ∧ m = m') len
    [(0, .slice s len cap), (3, u32 (crcR (bs.take 0))), (6, .slice s len cap), (7, .int .i64 len), (8, .int .i64 (0 : Nat))] (by (repeat (first | exact Sub.nil | refine Sub.cons rfl ?_))) ⟨0, by omega, by omega, rfl, rfl, rfl⟩ ?_
  rintro _ _ _ _ ⟨k, hk, rfl, rfl, rfl, rfl⟩
  (repeat (first | refine WC.seqK fun K hK => ?_ | refine WC.block ?_ | refine WC.regionG rfl fun ops hG => ?_))
  refine WL.po (PO.bin (Ev.tmp rfl) (Ev.tmp rfl) rfl) (Nat.le_of_ble_eq_true rfl) ?_
  refine WL.nil (keepF (ts := [0, 2, 3, 5, 6, 7, 8, 9, 16, 17]) rfl (toK (by assumption) ?_)); (try clear hG ops)
  (repeat (first | refine WC.seqK fun K hK => ?_ | refine WC.block ?_ | refine WC.regionG rfl fun ops hG => ?_))
  refine WC.cond (Ev.tmp rfl) (fun hc => ?_) (fun hc => ?_)
  · simp only [decide_eq_true_eq] at hc
    have hkl : k < len := by omega
    have hb : bs[k]? = some (bs[k]'(by omega)) := List.getElem?_eq_getElem (by omega)
    generalize bs[k]'(by omega) = b at hb
    refine WC.skip (keepF (ts := [0, 2, 3, 5, 6, 7, 8, 9, 16, 17]) rfl (toK (by assumption) ?_))
    (repeat (first | refine WC.seqK fun K hK => ?_ | refine WC.block ?_ | refine WC.regionG rfl fun ops hG => ?_))
    refine WL.po (PO.idx EL22.und EL22.size EL22.posz (Ev.tmp rfl) (Ev.tmp rfl) hs rfl hkl) (Nat.le_of_ble_eq_true rfl) ?_
    refine WL.po (PO.loadE Try.underlying5 rfl hs (Ev.tmp rfl) (by rw [Nat.mul_one]; exact bv_get hb)) (Nat.le_of_ble_eq_true rfl) ?_
    refine WL.po (PO.assign (Ev.tmp rfl)) (Nat.le_of_ble_eq_true rfl) ?_
    refine WL.nil (keepF (ts := [0, 2, 3, 5, 6, 7, 8, 9, 16, 17]) rfl (toK (by assumption) ?_)); (try clear hG ops)
    (repeat (first | refine WC.seqK fun K hK => ?_ | refine WC.block ?_ | refine WC.regionG rfl fun ops hG => ?_))
    refine WL.po (PO.move (Ev.tmp rfl)) (Nat.le_of_ble_eq_true rfl) ?_
    refine WL.po (PO.move (Ev.tmp rfl)) (Nat.le_of_ble_eq_true rfl) ?_
    refine WL.po (PO.conv Try.underlying5 Try.underlying37 (Ev.tmp rfl)) (Nat.le_of_ble_eq_true rfl) ?_
    refine WL.po (PO.eq (v' := u32 (crcR (bs.take k) ^^^ ext8 b)) (PO.bin (Ev.tmp rfl) (Ev.tmp rfl) rfl) (by rw [ext8_int]; exact congrArg (Value.int .u32) (bxor_u32 _ _))) (Nat.le_of_ble_eq_true rfl) ?_
    refine WL.po (PO.assign (Ev.tmp rfl)) (Nat.le_of_ble_eq_true rfl) ?_
    refine WL.nil (keepF (ts := [0, 2, 3, 5, 6, 7, 8, 9, 16, 17]) rfl (toK (by assumption) ?_)); (try clear hG ops)
    (repeat (first | refine WC.seqK fun K hK => ?_ | refine WC.block ?_ | refine WC.regionG rfl fun ops hG => ?_))
    refine WL.po (PO.move Ev.const) (Nat.le_of_ble_eq_true rfl) ?_
    refine WL.nil (keepF (ts := [0, 2, 3, 5, 6, 7, 8, 9, 16, 17]) rfl (toK (by assumption) ?_)); (try clear hG ops)
    (repeat (first | refine WC.seqK fun K hK => ?_ | refine WC.block ?_ | refine WC.regionG rfl fun ops hG => ?_))
    refine WC.loop (fun μ F h' m' => ∃ j : Nat, j ≤ 8 ∧ μ = 8 - j ∧ F = [(0, .slice s len cap), (3, u32 (itn st1 j (crcR (bs.take k) ^^^ ext8 b))), (6, .slice s len cap), (7, .int .i64 len), (8, .int .i64 k), (16, .int .i64 j)] ∧ h = h' ∧ m = m') 8
      [(0, .slice s len cap), (3, u32 (itn st1 0 (crcR (bs.take k) ^^^ ext8 b))), (6, .slice s len cap), (7, .int .i64 len), (8, .int .i64 k), (16, .int .i64 (0 : Nat))] (by (repeat (first | exact Sub.nil | refine Sub.cons rfl ?_))) ⟨0, by omega, by omega, rfl, rfl, rfl⟩ ?_
    rintro _ _ _ _ ⟨j, hj, rfl, rfl, rfl, rfl⟩
    (repeat (first | refine WC.seqK fun K hK => ?_ | refine WC.block ?_ | refine WC.regionG rfl fun ops hG => ?_))
    refine WL.po (PO.bin (Ev.tmp rfl) Ev.const rfl) (Nat.le_of_ble_eq_true rfl) ?_
    refine WL.nil (keepF (ts := [0, 2, 3, 5, 6, 7, 8, 9, 16, 17]) rfl (toK (by assumption) ?_)); (try clear hG ops)
    (repeat (first | refine WC.seqK fun K hK => ?_ | refine WC.block ?_ | refine WC.regionG rfl fun ops hG => ?_))
    refine WC.cond (Ev.tmp rfl) (fun hc2 => ?_) (fun hc2 => ?_)
    · simp only [decide_eq_true_eq] at hc2
      refine WC.skip (keepF (ts := [0, 2, 3, 5, 6, 7, 8, 9, 16, 17]) rfl (toK (by assumption) ?_))
      (repeat (first | refine WC.seqK fun K hK => ?_ | refine WC.block ?_ | refine WC.regionG rfl fun ops hG => ?_))
      refine WL.po (PO.move (Ev.tmp rfl)) (Nat.le_of_ble_eq_true rfl) ?_
      refine WL.po (PO.shr (Ev.tmp rfl) Ev.const (by decide)) (Nat.le_of_ble_eq_true rfl) ?_
      refine WL.po (PO.move (Ev.tmp rfl)) (Nat.le_of_ble_eq_true rfl) ?_
      refine WL.po (PO.bin (Ev.tmp rfl) Ev.const rfl) (Nat.le_of_ble_eq_true rfl) ?_
      refine WL.po (PO.bin Ev.const (Ev.tmp rfl) rfl) (Nat.le_of_ble_eq_true rfl) ?_
      refine WL.po (PO.eq (v' := u32 (itn st1 (j + 1) (crcR (bs.take k) ^^^ ext8 b))) (PO.bin (Ev.tmp rfl) (Ev.tmp rfl) rfl) (by rw [itn_succ]; exact congrArg (Value.int .u32) (st1_int _))) (Nat.le_of_ble_eq_true rfl) ?_
      refine WL.po (PO.assign (Ev.tmp rfl)) (Nat.le_of_ble_eq_true rfl) ?_
      refine WL.nil (keepF (ts := [0, 2, 3, 5, 6, 7, 8, 9, 16, 17]) rfl (toK (by assumption) ?_)); (try clear hG ops)
      (repeat (first | refine WC.seqK fun K hK => ?_ | refine WC.block ?_ | refine WC.regionG rfl fun ops hG => ?_))
      refine WL.po (PO.addI (Ev.tmp rfl) Ev.const (by omega)) (Nat.le_of_ble_eq_true rfl) ?_
      refine WL.po (PO.move (Ev.tmp rfl)) (Nat.le_of_ble_eq_true rfl) ?_
      refine WL.nil (loopBack (8 - (j + 1)) _ (by omega) ?_ ⟨j + 1, by omega, rfl, rfl, rfl, rfl⟩)
      (repeat (first | exact Sub.nil | refine Sub.cons rfl ?_))
    · simp only [decide_eq_false_iff_not] at hc2
      have : j = 8 := by omega
      subst this
      refine WC.exit (keepF (ts := [0, 2, 3, 5, 6, 7, 8, 9, 16, 17]) rfl (toK (by assumption) ?_))
      (repeat (first | refine WC.seqK fun K hK => ?_ | refine WC.block ?_ | refine WC.regionG rfl fun ops hG => ?_))
      refine WL.po (PO.addI (Ev.tmp rfl) Ev.const (by omega)) (Nat.le_of_ble_eq_true rfl) ?_
      refine WL.po (PO.move (Ev.tmp rfl)) (Nat.le_of_ble_eq_true rfl) ?_
      refine WL.nil (loopBack (len - (k + 1)) _ (by omega) ?_ ⟨k + 1, by omega, rfl, rfl, rfl, rfl⟩)
      rw [crcR_take bs k b hb]
      (repeat (first | exact Sub.nil | refine Sub.cons rfl ?_))
  · simp only [decide_eq_false_iff_not] at hc
    have : k = len := by omega
    subst this
    refine WC.exit (keepF (ts := [0, 2, 3, 5, 6, 7, 8, 9, 16, 17]) rfl (toK (by assumption) ?_))
    (repeat (first | refine WC.seqK fun K hK => ?_ | refine WC.block ?_ | refine WC.regionG rfl fun ops hG => ?_))
    refine WL.po (PO.move (Ev.tmp rfl)) (Nat.le_of_ble_eq_true rfl) ?_
    refine WL.po (PO.compl (Ev.tmp rfl)) (Nat.le_of_ble_eq_true rfl) ?_
    refine WL.po (PO.assign (Ev.tmp rfl)) (Nat.le_of_ble_eq_true rfl) ?_
    refine WL.nil (keepF (ts := [0, 2, 3, 5, 6, 7, 8, 9, 16, 17]) rfl (toK (by assumption) ?_)); (try clear hG ops)
    refine WC.ret (end1 (.inl rfl) rfl (RV.tmp rfl) (View.le.refl m) (by (repeat (first | exact List.Sublist.refl _ | refine List.Sublist.cons_cons _ ?_ | apply List.Sublist.cons))) ⟨?_, rfl⟩)
    have e : bs.take bs.length = bs := List.take_of_length_le (Nat.le_refl _)
    rw [← hlen, e]
    exact congrArg (Value.int .u32) (compl_u32 _)

theorem sumR_ct (s : Option Addr) (len cap : Nat) (bs : List UInt8) (h : List Res) (m : View) (hs : Rd m h s len cap 1 (bv bs)) :
    CT Try.prog 22 [.slice s len cap] h m (Pure1 h (u32 (crc bs))) := by
  have hmx := hs.mx
  have hle := hs.le
  have hlen : bs.length = len := by have := hs.len; simpa [bv_len] using this
  refine CT.body Try.call22 Try.func22 rfl Try.ntmps22 (Nat.le_of_ble_eq_true rfl) rfl ?_
  (repeat (first | refine WC.seqK fun K hK => ?_ | refine WC.block ?_ | refine WC.regionG rfl fun ops hG => ?_))
  refine WL.po (PO.assign Ev.const) (Nat.le_of_ble_eq_true rfl) ?_
  refine WL.nil (keepF (ts := [0, 2, 3, 4, 5, 6, 7, 11, 20, 32]) rfl (toK (by assumption) ?_)); (try clear hG ops)
  (repeat (first | refine WC.seqK fun K hK => ?_ | refine WC.block ?_ | refine WC.regionG rfl fun ops hG => ?_))
  refine WL.po (PO.assign Ev.const) (Nat.le_of_ble_eq_true rfl) ?_
  refine WL.nil (keepF (ts := [0, 2, 3, 4, 5, 6, 7, 11, 20, 32]) rfl (toK (by assumption) ?_)); (try clear hG ops)
  (repeat (first | refine WC.seqK fun K hK => ?_ | refine WC.block ?_ | refine WC.regionG rfl fun ops hG => ?_))
  refine WL.po (PO.assign Ev.const) (Nat.le_of_ble_eq_true rfl) ?_
  refine WL.nil (keepF (ts := [0, 2, 3, 4, 5, 6, 7, 11, 20, 32]) rfl (toK (by assumption) ?_)); (try clear hG ops)
  (repeat (first | refine WC.seqK fun K hK => ?_ | refine WC.block ?_ | refine WC.regionG rfl fun ops hG => ?_))
  refine WC.loop (fun μ F h' m' => ∃ k : Nat, k ≤ len ∧ μ = len - k ∧ F = [(0, .slice s len cap), (3, u32 (crcR (bs.take k))), (4, .int .i64 k)] ∧ h = h' ∧ m = m') len
    [(0, .slice s len cap), (3, u32 (crcR (bs.take 0))), (4, .int .i64 (0 : Nat))] (by (repeat (first | exact Sub.nil | refine Sub.cons rfl ?_))) ⟨0, by omega, by omega, rfl, rfl, rfl⟩ ?_
  rintro _ _ _ _ ⟨k, hk, rfl, rfl, rfl, rfl⟩
  (repeat (first | refine WC.seqK fun K hK => ?_ | refine WC.block ?_ | refine WC.regionG rfl fun ops hG => ?_))
  refine WL.po (PO.move (Ev.tmp rfl)) (Nat.le_of_ble_eq_true rfl) ?_
  refine WL.po (PO.move (Ev.tmp rfl)) (Nat.le_of_ble_eq_true rfl) ?_
  refine WL.po (PO.lenSl Try.underlying22 (Ev.tmp rfl)) (Nat.le_of_ble_eq_true rfl) ?_
  refine WL.po (PO.bin (Ev.tmp rfl) (Ev.tmp rfl) rfl) (Nat.le_of_ble_eq_true rfl) ?_
  refine WL.nil (keepF (ts := [0, 2, 3, 4, 5, 6, 7, 11, 20, 32]) rfl (toK (by assumption) ?_)); (try clear hG ops)
  (repeat (first | refine WC.seqK fun K hK => ?_ | refine WC.block ?_ | refine WC.regionG rfl fun ops hG => ?_))
  refine WC.cond (Ev.tmp rfl) (fun hc => ?_) (fun hc => ?_)
  · simp only [decide_eq_true_eq] at hc
    have hkl : k < len := by omega
    have hb : bs[k]? = some (bs[k]'(by omega)) := List.getElem?_eq_getElem (by omega)
    generalize bs[k]'(by omega) = b at hb
    refine WC.skip (keepF (ts := [0, 2, 3, 4, 5, 6, 7, 11, 20, 32]) rfl (toK (by assumption) ?_))
    (repeat (first | refine WC.seqK fun K hK => ?_ | refine WC.block ?_ | refine WC.regionG rfl fun ops hG => ?_))
    refine WL.po (PO.move (Ev.tmp rfl)) (Nat.le_of_ble_eq_true rfl) ?_
    refine WL.po (PO.move (Ev.tmp rfl)) (Nat.le_of_ble_eq_true rfl) ?_
    refine WL.po (PO.idx EL22.und EL22.size EL22.posz (Ev.tmp rfl) (Ev.tmp rfl) hs rfl hkl) (Nat.le_of_ble_eq_true rfl) ?_
    refine WL.po (PO.loadE Try.underlying5 rfl hs (Ev.tmp rfl) (by rw [Nat.mul_one]; exact bv_get hb)) (Nat.le_of_ble_eq_true rfl) ?_
    refine WL.po (PO.eq (v' := u32 (ext8 b)) (PO.conv Try.underlying5 Try.underlying37 (Ev.tmp rfl)) (congrArg (Value.int .u32) (ext8_int b))) (Nat.le_of_ble_eq_true rfl) ?_
    refine WL.po (PO.assign (Ev.tmp rfl)) (Nat.le_of_ble_eq_true rfl) ?_
    refine WL.nil (keepF (ts := [0, 2, 3, 4, 5, 6, 7, 11, 20, 32]) rfl (toK (by assumption) ?_)); (try clear hG ops)
    (repeat (first | refine WC.seqK fun K hK => ?_ | refine WC.block ?_ | refine WC.regionG rfl fun ops hG => ?_))
    refine WL.po (PO.assign Ev.const) (Nat.le_of_ble_eq_true rfl) ?_
    refine WL.nil (keepF (ts := [0, 2, 3, 4, 5, 6, 7, 11, 20, 32]) rfl (toK (by assumption) ?_)); (try clear hG ops)
    (repeat (first | refine WC.seqK fun K hK => ?_ | refine WC.block ?_ | refine WC.regionG rfl fun ops hG => ?_))
    refine WC.loop (fun μ F h' m' => ∃ j : Nat, j ≤ 8 ∧ μ = 8 - j ∧ F = [(0, .slice s len cap), (3, u32 (itn stR j (ext8 b, crcR (bs.take k))).2), (4, .int .i64 k), (5, u32 (itn stR j (ext8 b, crcR (bs.take k))).1), (6, .int .i64 j)] ∧ h = h' ∧ m = m') 8
      [(0, .slice s len cap), (3, u32 (itn stR 0 (ext8 b, crcR (bs.take k))).2), (4, .int .i64 k), (5, u32 (itn stR 0 (ext8 b, crcR (bs.take k))).1), (6, .int .i64 (0 : Nat))] (by (repeat (first | exact Sub.nil | refine Sub.cons rfl ?_))) ⟨0, by omega, by omega, rfl, rfl, rfl⟩ ?_
    rintro _ _ _ _ ⟨j, hj, rfl, rfl, rfl, rfl⟩
    (repeat (first | refine WC.seqK fun K hK => ?_ | refine WC.block ?_ | refine WC.regionG rfl fun ops hG => ?_))
    refine WL.po (PO.move (Ev.tmp rfl)) (Nat.le_of_ble_eq_true rfl) ?_
    refine WL.po (PO.bin (Ev.tmp rfl) Ev.const rfl) (Nat.le_of_ble_eq_true rfl) ?_
    refine WL.nil (keepF (ts := [0, 2, 3, 4, 5, 6, 7, 11, 20, 32]) rfl (toK (by assumption) ?_)); (try clear hG ops)
    (repeat (first | refine WC.seqK fun K hK => ?_ | refine WC.block ?_ | refine WC.regionG rfl fun ops hG => ?_))
    refine WC.cond (Ev.tmp rfl) (fun hc2 => ?_) (fun hc2 => ?_)
    · simp only [decide_eq_true_eq] at hc2
      refine WC.skip (keepF (ts := [0, 2, 3, 4, 5, 6, 7, 11, 20, 32]) rfl (toK (by assumption) ?_))
      have hst := itn_succ stR j (ext8 b, crcR (bs.take k))
      generalize hq : itn stR (j + 1) (ext8 b, crcR (bs.take k)) = q at hst
      generalize itn stR j (ext8 b, crcR (bs.take k)) = p at hst ⊢
      (repeat (first | refine WC.seqK fun K hK => ?_ | refine WC.block ?_ | refine WC.regionG rfl fun ops hG => ?_))
      refine WL.po (PO.move (Ev.tmp rfl)) (Nat.le_of_ble_eq_true rfl) ?_
      refine WL.po (PO.move (Ev.tmp rfl)) (Nat.le_of_ble_eq_true rfl) ?_
      refine WL.po (PO.bin (Ev.tmp rfl) (Ev.tmp rfl) rfl) (Nat.le_of_ble_eq_true rfl) ?_
      refine WL.po (PO.rem (Ev.tmp rfl) Ev.const (by decide)) (Nat.le_of_ble_eq_true rfl) ?_
      refine WL.po (PO.assign (Ev.tmp rfl)) (Nat.le_of_ble_eq_true rfl) ?_
      refine WL.nil (keepF (ts := [0, 2, 3, 4, 5, 6, 7, 11, 20, 32]) rfl (toK (by assumption) ?_)); (try clear hG ops)
      (repeat (first | refine WC.seqK fun K hK => ?_ | refine WC.block ?_ | refine WC.regionG rfl fun ops hG => ?_))
      refine WL.po (PO.move (Ev.tmp rfl)) (Nat.le_of_ble_eq_true rfl) ?_
      refine WL.po (PO.eq (v' := u32 (p.1 >>> 1)) (PO.quo (Ev.tmp rfl) Ev.const (by decide)) (congrArg (Value.int .u32) (half_u32 _))) (Nat.le_of_ble_eq_true rfl) ?_
      refine WL.po (PO.assign (Ev.tmp rfl)) (Nat.le_of_ble_eq_true rfl) ?_
      refine WL.nil (keepF (ts := [0, 2, 3, 4, 5, 6, 7, 11, 20, 32]) rfl (toK (by assumption) ?_)); (try clear hG ops)
      (repeat (first | refine WC.seqK fun K hK => ?_ | refine WC.block ?_ | refine WC.regionG rfl fun ops hG => ?_))
      refine WL.po (PO.move (Ev.tmp rfl)) (Nat.le_of_ble_eq_true rfl) ?_
      refine WL.po (PO.eq (v' := u32 (p.2 >>> 1)) (PO.quo (Ev.tmp rfl) Ev.const (by decide)) (congrArg (Value.int .u32) (half_u32 _))) (Nat.le_of_ble_eq_true rfl) ?_
      refine WL.po (PO.assign (Ev.tmp rfl)) (Nat.le_of_ble_eq_true rfl) ?_
      refine WL.nil (keepF (ts := [0, 2, 3, 4, 5, 6, 7, 11, 20, 32]) rfl (toK (by assumption) ?_)); (try clear hG ops)
      (repeat (first | refine WC.seqK fun K hK => ?_ | refine WC.block ?_ | refine WC.regionG rfl fun ops hG => ?_))
      refine WL.po (PO.move (Ev.tmp rfl)) (Nat.le_of_ble_eq_true rfl) ?_
      refine WL.po (PO.bin (Ev.tmp rfl) Ev.const rfl) (Nat.le_of_ble_eq_true rfl) ?_
      refine WL.nil (keepF (ts := [0, 2, 3, 4, 5, 6, 7, 11, 20, 32]) rfl (toK (by assumption) ?_)); (try clear hG ops)
      refine WC.cond (Ev.tmp rfl) (fun hf => ?_) (fun hf => ?_)
      · rw [feed_u32] at hf
        (repeat (first | refine WC.seqK fun K hK => ?_ | refine WC.block ?_ | refine WC.regionG rfl fun ops hG => ?_))
        refine WL.po (PO.move (Ev.tmp rfl)) (Nat.le_of_ble_eq_true rfl) ?_
        refine WL.po (PO.eq (v' := u32 q.2) (PO.bin (Ev.tmp rfl) Ev.const rfl) (by rw [hst]; unfold stR; rw [hf]; exact congrArg (Value.int .u32) (bxor_u32 _ crcP))) (Nat.le_of_ble_eq_true rfl) ?_
        refine WL.po (PO.assign (Ev.tmp rfl)) (Nat.le_of_ble_eq_true rfl) ?_
        refine WL.nil (keepF (ts := [0, 2, 3, 4, 5, 6, 7, 11, 20, 32]) rfl (toK (by assumption) ?_)); (try clear hG ops)
        (repeat (first | refine WC.seqK fun K hK => ?_ | refine WC.block ?_ | refine WC.regionG rfl fun ops hG => ?_))
        refine WL.po (PO.move (Ev.tmp rfl)) (Nat.le_of_ble_eq_true rfl) ?_
        refine WL.po (PO.addI (Ev.tmp rfl) Ev.const (by omega)) (Nat.le_of_ble_eq_true rfl) ?_
        refine WL.po (PO.assign (Ev.tmp rfl)) (Nat.le_of_ble_eq_true rfl) ?_
        refine WL.nil (loopBack (8 - (j + 1)) [(0, .slice s len cap), (3, u32 q.2), (4, .int .i64 k), (5, u32 q.1), (6, .int .i64 (j + 1 : Nat))] (by omega) ?_ ⟨j + 1, by omega, rfl, ?_, rfl, rfl⟩)
        · rw [hst]
          (repeat (first | exact Sub.nil | refine Sub.cons rfl ?_))
        · rw [hq]
      · rw [feed_u32] at hf
        refine WC.skip (keepF (ts := [0, 2, 3, 4, 5, 6, 7, 11, 20, 32]) rfl (toK (by assumption) ?_))
        (repeat (first | refine WC.seqK fun K hK => ?_ | refine WC.block ?_ | refine WC.regionG rfl fun ops hG => ?_))
        refine WL.po (PO.move (Ev.tmp rfl)) (Nat.le_of_ble_eq_true rfl) ?_
        refine WL.po (PO.addI (Ev.tmp rfl) Ev.const (by omega)) (Nat.le_of_ble_eq_true rfl) ?_
        refine WL.po (PO.assign (Ev.tmp rfl)) (Nat.le_of_ble_eq_true rfl) ?_
        refine WL.nil (loopBack (8 - (j + 1)) [(0, .slice s len cap), (3, u32 q.2), (4, .int .i64 k), (5, u32 q.1), (6, .int .i64 (j + 1 : Nat))] (by omega) ?_ ⟨j + 1, by omega, rfl, ?_, rfl, rfl⟩)
        · have e2 : q.2 = p.2 >>> 1 := by rw [hst]; unfold stR; rw [hf]; simp
          have e1 : q.1 = p.1 >>> 1 := by rw [hst]; rfl
          rw [e1, e2]
          (repeat (first | exact Sub.nil | refine Sub.cons rfl ?_))
        · rw [hq]
    · simp only [decide_eq_false_iff_not] at hc2
      have : j = 8 := by omega
      subst this
      refine WC.exit (keepF (ts := [0, 2, 3, 4, 5, 6, 7, 11, 20, 32]) rfl (toK (by assumption) ?_))
      (repeat (first | refine WC.seqK fun K hK => ?_ | refine WC.block ?_ | refine WC.regionG rfl fun ops hG => ?_))
      refine WL.po (PO.move (Ev.tmp rfl)) (Nat.le_of_ble_eq_true rfl) ?_
      refine WL.po (PO.addI (Ev.tmp rfl) Ev.const (by omega)) (Nat.le_of_ble_eq_true rfl) ?_
      refine WL.po (PO.assign (Ev.tmp rfl)) (Nat.le_of_ble_eq_true rfl) ?_
      refine WL.nil (loopBack (len - (k + 1)) _ (by omega) ?_ ⟨k + 1, by omega, rfl, rfl, rfl, rfl⟩)
      rw [crcR_take bs k b hb, ← itn_stR8]
      (repeat (first | exact Sub.nil | refine Sub.cons rfl ?_))
  · simp only [decide_eq_false_iff_not] at hc
    have : k = len := by omega
    subst this
    refine WC.exit (keepF (ts := [0, 2, 3, 4, 5, 6, 7, 11, 20, 32]) rfl (toK (by assumption) ?_))
    (repeat (first | refine WC.seqK fun K hK => ?_ | refine WC.block ?_ | refine WC.regionG rfl fun ops hG => ?_))
    refine WL.po (PO.move (Ev.tmp rfl)) (Nat.le_of_ble_eq_true rfl) ?_
    refine WL.po (PO.bin Ev.const (Ev.tmp rfl) rfl) (Nat.le_of_ble_eq_true rfl) ?_
    refine WL.po (PO.assign (Ev.tmp rfl)) (Nat.le_of_ble_eq_true rfl) ?_
    refine WL.nil (keepF (ts := [0, 2, 3, 4, 5, 6, 7, 11, 20, 32]) rfl (toK (by assumption) ?_)); (try clear hG ops)
    refine WC.ret (end1 (.inl rfl) rfl (RV.tmp rfl) (View.le.refl m) (by (repeat (first | exact List.Sublist.refl _ | refine List.Sublist.cons_cons _ ?_ | apply List.Sublist.cons))) ⟨?_, rfl⟩)
    have e : bs.take bs.length = bs := List.take_of_length_le (Nat.le_refl _)
    rw [← hlen, e]
    exact congrArg (Value.int .u32) (neg_u32 _)

theorem equal_ct (s s' : Option Addr) (n c n' c' : Nat) (xs ys : List UInt8) (h : List Res) (m : View) (h1 : Rd m h s n c 1 (bv xs)) (h2 : Rd m h s' n' c' 1 (bv ys)) :
    CT Try.prog 15 [.slice s n c, .slice s' n' c'] h m (Pure1 h (.bool (xs == ys))) := by
  refine CT.body Try.call15 Try.func15 rfl Try.ntmps15 (Nat.le_of_ble_eq_true rfl) rfl ?_
  (repeat (first | refine WC.seqK fun K hK => ?_ | refine WC.block ?_ | refine WC.regionG rfl fun ops hG => ?_))
  refine WL.po (PO.assign Ev.const) (Nat.le_of_ble_eq_true rfl) ?_
  refine WL.nil (keepF (ts := [0, 1, 4]) rfl (toK (by assumption) ?_)); (try clear hG ops)
  (repeat (first | refine WC.seqK fun K hK => ?_ | refine WC.block ?_ | refine WC.regionG rfl fun ops hG => ?_))
  refine WL.po (PO.move (Ev.tmp rfl)) (Nat.le_of_ble_eq_true rfl) ?_
  refine WL.po (PO.strOf Try.underlying22 Try.underlying5 Try.underlying9 (Ev.tmp rfl) h1) (Nat.le_of_ble_eq_true rfl) ?_
  refine WL.po (PO.move (Ev.tmp rfl)) (Nat.le_of_ble_eq_true rfl) ?_
  refine WL.po (PO.strOf Try.underlying22 Try.underlying5 Try.underlying9 (Ev.tmp rfl) h2) (Nat.le_of_ble_eq_true rfl) ?_
  refine WL.po (PO.eqlS (Ev.tmp rfl) (Ev.tmp rfl)) (Nat.le_of_ble_eq_true rfl) ?_
  refine WL.po (PO.assign (Ev.tmp rfl)) (Nat.le_of_ble_eq_true rfl) ?_
  refine WL.nil (keepF (ts := [0, 1, 4]) rfl (toK (by assumption) ?_)); (try clear hG ops)
  exact WC.ret (end1 (.inl rfl) rfl (RV.tmp rfl) (View.le.refl m) (by (repeat (first | exact List.Sublist.refl _ | refine List.Sublist.cons_cons _ ?_ | apply List.Sublist.cons))) ⟨rfl, rfl⟩)

/-- A slice of the call's own. -/
def Own (h : List Res) (n : Nat) (xs : List UInt8) : Value → View → List Res → Prop := fun v _ h' => ∃ a c, v = .slice a n c ∧ h' = .row (.slice a n c) 5 1 n (bv xs) :: h

theorem clone_ct (s : Option Addr) (n c : Nat) (xs : List UInt8) (h : List Res) (m : View) (hs : Rd m h s n c 1 (bv xs)) (hb : n ≤ 140737488355328) :
    CT Try.prog 18 [.slice s n c] h m (Own h n xs) := by
  refine CT.body Try.call18 Try.func18 rfl Try.ntmps18 (Nat.le_of_ble_eq_true rfl) rfl ?_
  (repeat (first | refine WC.seqK fun K hK => ?_ | refine WC.block ?_ | refine WC.regionG rfl fun ops hG => ?_))
  refine WL.po (PO.assign Ev.const) (Nat.le_of_ble_eq_true rfl) ?_
  refine WL.nil (keepF (ts := [0, 2, 4]) rfl (toK (by assumption) ?_)); (try clear hG ops)
  (repeat (first | refine WC.seqK fun K hK => ?_ | refine WC.block ?_ | refine WC.regionG rfl fun ops hG => ?_))
  refine WL.po (PO.move (Ev.tmp rfl)) (Nat.le_of_ble_eq_true rfl) ?_
  refine WL.po (PO.eqlNil Try.underlying22 (Ev.tmp rfl) Ev.const) (Nat.le_of_ble_eq_true rfl) ?_
  refine WL.nil (keepF (ts := [0, 2, 4]) rfl (toK (by assumption) ?_)); (try clear hG ops)
  (repeat (first | refine WC.seqK fun K hK => ?_ | refine WC.block ?_ | refine WC.regionG rfl fun ops hG => ?_))
  refine WC.cond (Ev.tmp rfl) (fun hc => ?_) (fun hc => ?_)
  · have : s = none := by simpa using hc
    subst this
    refine WC.know (A := bv xs = []) (fun w st => ?_) fun h0 => ?_
    · cases hx : bv xs with
      | nil => rfl
      | cons y ys => obtain ⟨b, off, e, _⟩ := hs.at_ w st 0 y (by rw [hx]; rfl); cases e
    have hn : n = 0 := by have := hs.len; rw [h0] at this; simpa using this.symm
    subst hn
    (repeat (first | refine WC.seqK fun K hK => ?_ | refine WC.block ?_ | refine WC.regionG rfl fun ops hG => ?_))
    refine WL.po (PO.assign Ev.const) (Nat.le_of_ble_eq_true rfl) ?_
    refine WL.nil (keepF (ts := [0, 2, 4]) rfl (toK (by assumption) ?_)); (try clear hG ops)
    refine WC.addNil 5 1 (WC.ret (end1 (.inl rfl) rfl (RV.tmp rfl) (View.le.refl m) (List.Sublist.refl _) ⟨none, 0, rfl, by rw [h0]⟩))
  · refine WC.skip (keepF (ts := [0, 2, 4]) rfl (toK (by assumption) ?_))
    (repeat (first | refine WC.seqK fun K hK => ?_ | refine WC.block ?_ | refine WC.regionG rfl fun ops hG => ?_))
    refine WL.buildSlice0 EL22 (Nat.le_of_ble_eq_true rfl) fun b5 => ?_
    refine WL.po (PO.move (Ev.tmp rfl)) (Nat.le_of_ble_eq_true rfl) ?_
    refine WL.append EL22 (Ev.tmp rfl) (Ev.tmp rfl) hs.cons (bv_one xs) (by omega) (by omega) (fun v' => Upd.here) (Nat.le_of_ble_eq_true rfl) fun a' c' => ?_
    rw [Nat.zero_add, List.nil_append]
    refine WL.po (PO.assign (Ev.tmp rfl)) (Nat.le_of_ble_eq_true rfl) ?_
    refine WL.nil (keepF (ts := [0, 2, 4]) rfl (toK (by assumption) ?_)); (try clear hG ops)
    exact WC.ret (end1 (.inl rfl) rfl (RV.tmp rfl) (View.le.refl m) (List.Sublist.refl _) ⟨a', c', rfl, rfl⟩)

theorem word_ct (s : Option Addr) (n c : Nat) (b0 b1 b2 b3 : UInt8) (l : List UInt8) (h : List Res) (m : View) (hs : Rd m h s n c 1 (bv (b0 :: b1 :: b2 :: b3 :: l))) :
    CT Try.prog 27 [.slice s n c] h m (Pure1 h (.int .i64 (rd4 (b0 :: b1 :: b2 :: b3 :: l)))) := by
  have hn : 4 ≤ n := by have := hs.len; simp [bv] at this; omega
  refine CT.body Try.call27 Try.func27 rfl Try.ntmps27 (Nat.le_of_ble_eq_true rfl) rfl ?_
  (repeat (first | refine WC.seqK fun K hK => ?_ | refine WC.block ?_ | refine WC.regionG rfl fun ops hG => ?_))
  refine WL.po (PO.assign Ev.const) (Nat.le_of_ble_eq_true rfl) ?_
  refine WL.nil (keepF (ts := [0, 2]) rfl (toK (by assumption) ?_)); (try clear hG ops)
  (repeat (first | refine WC.seqK fun K hK => ?_ | refine WC.block ?_ | refine WC.regionG rfl fun ops hG => ?_))
  refine WC.drawS [] [0, 1, 2, 3, 4, 5, 6, 7, 8, 9, 10, 11, 12, 13, 14, 15, 16, 17, 18, 19, 20, 21, 22] [23] h [] mixed (by kernel_rfl) ?_
  refine SR.po rfl rfl (PO.move (Ev.tmp rfl)) (Nat.le_of_ble_eq_true rfl) ?_
  refine SR.po rfl rfl (PO.idx EL22.und EL22.size EL22.posz (Ev.tmp rfl) Ev.const hs rfl (q := 0) (by omega)) (Nat.le_of_ble_eq_true rfl) ?_
  refine SR.po rfl rfl (PO.loadE Try.underlying5 rfl hs (Ev.tmp rfl) rfl) (Nat.le_of_ble_eq_true rfl) ?_
  refine SR.po rfl rfl (PO.conv Try.underlying5 Try.underlying37 (Ev.tmp rfl)) (Nat.le_of_ble_eq_true rfl) ?_
  refine SR.po rfl rfl (PO.move (Ev.tmp rfl)) (Nat.le_of_ble_eq_true rfl) ?_
  refine SR.po rfl rfl (PO.idx EL22.und EL22.size EL22.posz (Ev.tmp rfl) Ev.const hs rfl (q := 1) (by omega)) (Nat.le_of_ble_eq_true rfl) ?_
  refine SR.po rfl rfl (PO.loadE Try.underlying5 rfl hs (Ev.tmp rfl) rfl) (Nat.le_of_ble_eq_true rfl) ?_
  refine SR.po rfl rfl (PO.conv Try.underlying5 Try.underlying37 (Ev.tmp rfl)) (Nat.le_of_ble_eq_true rfl) ?_
  refine SR.po rfl rfl (PO.shl (Ev.tmp rfl) Ev.const (by decide)) (Nat.le_of_ble_eq_true rfl) ?_
  refine SR.po rfl rfl (PO.bin (Ev.tmp rfl) (Ev.tmp rfl) rfl) (Nat.le_of_ble_eq_true rfl) ?_
  refine SR.po rfl rfl (PO.move (Ev.tmp rfl)) (Nat.le_of_ble_eq_true rfl) ?_
  refine SR.po rfl rfl (PO.idx EL22.und EL22.size EL22.posz (Ev.tmp rfl) Ev.const hs rfl (q := 2) (by omega)) (Nat.le_of_ble_eq_true rfl) ?_
  refine SR.po rfl rfl (PO.loadE Try.underlying5 rfl hs (Ev.tmp rfl) rfl) (Nat.le_of_ble_eq_true rfl) ?_
  refine SR.po rfl rfl (PO.conv Try.underlying5 Try.underlying37 (Ev.tmp rfl)) (Nat.le_of_ble_eq_true rfl) ?_
  refine SR.po rfl rfl (PO.shl (Ev.tmp rfl) Ev.const (by decide)) (Nat.le_of_ble_eq_true rfl) ?_
  refine SR.po rfl rfl (PO.bin (Ev.tmp rfl) (Ev.tmp rfl) rfl) (Nat.le_of_ble_eq_true rfl) ?_
  refine SR.po rfl rfl (PO.move (Ev.tmp rfl)) (Nat.le_of_ble_eq_true rfl) ?_
  refine SR.po rfl rfl (PO.idx EL22.und EL22.size EL22.posz (Ev.tmp rfl) Ev.const hs rfl (q := 3) (by omega)) (Nat.le_of_ble_eq_true rfl) ?_
  refine SR.po rfl rfl (PO.loadE Try.underlying5 rfl hs (Ev.tmp rfl) rfl) (Nat.le_of_ble_eq_true rfl) ?_
  refine SR.po rfl rfl (PO.conv Try.underlying5 Try.underlying37 (Ev.tmp rfl)) (Nat.le_of_ble_eq_true rfl) ?_
  refine SR.po rfl rfl (PO.shl (Ev.tmp rfl) Ev.const (by decide)) (Nat.le_of_ble_eq_true rfl) ?_
  refine SR.po rfl rfl (PO.bin (Ev.tmp rfl) (Ev.tmp rfl) rfl) (Nat.le_of_ble_eq_true rfl) ?_
  refine SR.po rfl rfl (PO.eq (PO.conv Try.underlying37 Try.underlying3 (Ev.tmp rfl)) (congrArg (Value.int .i64) (word_int b0 b1 b2 b3 l))) (Nat.le_of_ble_eq_true rfl) ?_
  refine SR.nil rfl rfl ?_
  refine WL.po (PO.assign (Ev.tmp rfl)) (Nat.le_of_ble_eq_true rfl) ?_
  refine WL.nil (keepF (ts := [2]) rfl (toK (by assumption) ?_))
  exact WC.ret (end1 (.inl rfl) rfl (RV.tmp rfl) (View.le.refl m) (by (repeat (first | exact List.Sublist.refl _ | refine List.Sublist.cons_cons _ ?_ | apply List.Sublist.cons))) ⟨rfl, rfl⟩)
theorem number_ct (s : Option Addr) (n c : Nat) (b0 b1 b2 b3 : UInt8) (l : List UInt8) (h : List Res) (m : View) (hs : Rd m h s n c 1 (bv (b0 :: b1 :: b2 :: b3 :: l))) :
    CT Try.prog 28 [.slice s n c] h m (Pure1 h (.int .u32 (rd4 (b0 :: b1 :: b2 :: b3 :: l)))) := by
  have hn : 4 ≤ n := by have := hs.len; simp [bv] at this; omega
  refine CT.body Try.call28 Try.func28 rfl Try.ntmps28 (Nat.le_of_ble_eq_true rfl) rfl ?_
  (repeat (first | refine WC.seqK fun K hK => ?_ | refine WC.block ?_ | refine WC.regionG rfl fun ops hG => ?_))
  refine WL.po (PO.assign Ev.const) (Nat.le_of_ble_eq_true rfl) ?_
  refine WL.nil (keepF (ts := [0, 2]) rfl (toK (by assumption) ?_)); (try clear hG ops)
  (repeat (first | refine WC.seqK fun K hK => ?_ | refine WC.block ?_ | refine WC.regionG rfl fun ops hG => ?_))
  refine WC.drawS [] [0, 1, 2, 3, 4, 5, 6, 7, 8, 9, 10, 11, 12, 13, 14, 15, 16, 17, 18, 19, 20, 21] [22] h [] mixed (by kernel_rfl) ?_
  refine SR.po rfl rfl (PO.move (Ev.tmp rfl)) (Nat.le_of_ble_eq_true rfl) ?_
  refine SR.po rfl rfl (PO.idx EL22.und EL22.size EL22.posz (Ev.tmp rfl) Ev.const hs rfl (q := 0) (by omega)) (Nat.le_of_ble_eq_true rfl) ?_
  refine SR.po rfl rfl (PO.loadE Try.underlying5 rfl hs (Ev.tmp rfl) rfl) (Nat.le_of_ble_eq_true rfl) ?_
  refine SR.po rfl rfl (PO.conv Try.underlying5 Try.underlying37 (Ev.tmp rfl)) (Nat.le_of_ble_eq_true rfl) ?_
  refine SR.po rfl rfl (PO.move (Ev.tmp rfl)) (Nat.le_of_ble_eq_true rfl) ?_
  refine SR.po rfl rfl (PO.idx EL22.und EL22.size EL22.posz (Ev.tmp rfl) Ev.const hs rfl (q := 1) (by omega)) (Nat.le_of_ble_eq_true rfl) ?_
  refine SR.po rfl rfl (PO.loadE Try.underlying5 rfl hs (Ev.tmp rfl) rfl) (Nat.le_of_ble_eq_true rfl) ?_
  refine SR.po rfl rfl (PO.conv Try.underlying5 Try.underlying37 (Ev.tmp rfl)) (Nat.le_of_ble_eq_true rfl) ?_
  refine SR.po rfl rfl (PO.bin Ev.const (Ev.tmp rfl) rfl) (Nat.le_of_ble_eq_true rfl) ?_
  refine SR.po rfl rfl (PO.bin (Ev.tmp rfl) (Ev.tmp rfl) rfl) (Nat.le_of_ble_eq_true rfl) ?_
  refine SR.po rfl rfl (PO.move (Ev.tmp rfl)) (Nat.le_of_ble_eq_true rfl) ?_
  refine SR.po rfl rfl (PO.idx EL22.und EL22.size EL22.posz (Ev.tmp rfl) Ev.const hs rfl (q := 2) (by omega)) (Nat.le_of_ble_eq_true rfl) ?_
  refine SR.po rfl rfl (PO.loadE Try.underlying5 rfl hs (Ev.tmp rfl) rfl) (Nat.le_of_ble_eq_true rfl) ?_
  refine SR.po rfl rfl (PO.conv Try.underlying5 Try.underlying37 (Ev.tmp rfl)) (Nat.le_of_ble_eq_true rfl) ?_
  refine SR.po rfl rfl (PO.bin Ev.const (Ev.tmp rfl) rfl) (Nat.le_of_ble_eq_true rfl) ?_
  refine SR.po rfl rfl (PO.bin (Ev.tmp rfl) (Ev.tmp rfl) rfl) (Nat.le_of_ble_eq_true rfl) ?_
  refine SR.po rfl rfl (PO.move (Ev.tmp rfl)) (Nat.le_of_ble_eq_true rfl) ?_
  refine SR.po rfl rfl (PO.idx EL22.und EL22.size EL22.posz (Ev.tmp rfl) Ev.const hs rfl (q := 3) (by omega)) (Nat.le_of_ble_eq_true rfl) ?_
  refine SR.po rfl rfl (PO.loadE Try.underlying5 rfl hs (Ev.tmp rfl) rfl) (Nat.le_of_ble_eq_true rfl) ?_
  refine SR.po rfl rfl (PO.conv Try.underlying5 Try.underlying37 (Ev.tmp rfl)) (Nat.le_of_ble_eq_true rfl) ?_
  refine SR.po rfl rfl (PO.bin Ev.const (Ev.tmp rfl) rfl) (Nat.le_of_ble_eq_true rfl) ?_
  refine SR.po rfl rfl (PO.eq (PO.bin (Ev.tmp rfl) (Ev.tmp rfl) rfl) (congrArg (Value.int .u32) (number_int b0 b1 b2 b3 l))) (Nat.le_of_ble_eq_true rfl) ?_
  refine SR.nil rfl rfl ?_
  refine WL.po (PO.assign (Ev.tmp rfl)) (Nat.le_of_ble_eq_true rfl) ?_
  refine WL.nil (keepF (ts := [2]) rfl (toK (by assumption) ?_))
  exact WC.ret (end1 (.inl rfl) rfl (RV.tmp rfl) (View.le.refl m) (by (repeat (first | exact List.Sublist.refl _ | refine List.Sublist.cons_cons _ ?_ | apply List.Sublist.cons))) ⟨rfl, rfl⟩)
end Go.Proofs.Ytdfobghpbbohdaa

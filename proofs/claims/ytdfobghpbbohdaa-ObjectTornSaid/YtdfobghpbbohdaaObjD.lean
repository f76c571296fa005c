/- The laws' own functions: awake, flip. -/
import Derived.Test.YtdfobghpbbohdaaObjC
namespace Go.Proofs.Ytdfobghpbbohdaa
open Go.Eng Go.Obj

def aw21 : List UInt8 := [116, 111, 98, 49, 1, 0, 0, 0, 0, 0, 0, 0, 3, 0, 0, 0, 5, 0, 0, 0, 245]
def aw9 : List UInt8 := [49, 50, 51, 52, 53, 54, 55, 56, 57]
theorem aw_pre : (decide (aw21.length ≤ (enc [245] (0 : Int).toNat (3 : Int).toNat (5 : Int).toNat).length) && ((enc [245] (0 : Int).toNat (3 : Int).toNat (5 : Int).toNat).take aw21.length == aw21)) = true := by kernel_rfl
theorem aw_sum9 : u32 (crc aw9) = .int .u32 3421780262 := congrArg (fun r : BitVec 32 => u32 r) (show crc aw9 = 0xCBF43926#32 by kernel_rfl)
theorem aw_sum0 : u32 (crc []) = .int .u32 0 := congrArg (fun r : BitVec 32 => u32 r) (show crc [] = 0#32 by kernel_rfl)
theorem aw_sum1 : u32 (crc [0]) = .int .u32 3523407757 := congrArg (fun r : BitVec 32 => u32 r) (show crc [0] = 0xD202EF8D#32 by kernel_rfl)

theorem awake_ct (h : List Res) (m : View) : CT Try.prog 16 [] h m (Pure1 h (.bool true)) := by
  refine CT.body Try.call16 Try.func16 rfl Try.ntmps16 (Nat.le_of_ble_eq_true rfl) rfl ?_
  (repeat (first | refine WC.seqK fun K hK => ?_ | refine WC.block ?_ | refine WC.regionG rfl fun ops hG => ?_))
  refine WL.po (PO.assign Ev.const) (Nat.le_of_ble_eq_true rfl) ?_
  refine WL.nil (keepF (ts := [0, 1, 2, 4, 5]) rfl (toK (by assumption) ?_)); (try clear hG ops)
  (repeat (first | refine WC.seqK fun K hK => ?_ | refine WC.block ?_ | refine WC.regionG rfl fun ops hG => ?_))
  refine WL.buildSlice EL22 rfl (EvP.cons Ev.const EvP.nil) rfl rfl (by decide) rfl (Nat.le_of_ble_eq_true rfl) fun b7 => ?_
  refine WL.po (PO.build Try.underlying24 rfl rfl rfl (EvP.cons (Ev.tmp rfl) (EvP.cons Ev.const (EvP.cons Ev.const EvP.nil))) rfl) (Nat.le_of_ble_eq_true rfl) ?_
  refine WL.call Ev.func (Evs.cons (Ev.tmp rfl) Evs.nil) (put_ct _ 1 [245] 0 3 5 _ _ (Rd.ofPt (cs := bv [245]) rfl (by decide) (by (repeat (first | exact List.Mem.head _ | apply List.Mem.tail))))) (Nat.le_of_ble_eq_true rfl) ?_
  rintro _ m1 _ hm1 (⟨hmay, -, -⟩ | ⟨-, a1, c1, rfl, rfl⟩)
  · exact absurd hmay (by decide)
  refine WL.po (PO.move (Ev.tmp rfl)) (Nat.le_of_ble_eq_true rfl) ?_
  refine WL.po (PO.extract (Ev.tmp rfl) rfl) (Nat.le_of_ble_eq_true rfl) ?_
  refine WL.po (PO.extract (Ev.tmp rfl) rfl) (Nat.le_of_ble_eq_true rfl) ?_
  refine WL.po (PO.assign (Ev.tmp rfl)) (Nat.le_of_ble_eq_true rfl) ?_
  refine WL.po (PO.assign (Ev.tmp rfl)) (Nat.le_of_ble_eq_true rfl) ?_
  refine WL.nil (keepF (ts := [0, 1, 2, 4, 5]) rfl (toK (by assumption) ?_)); (try clear hG ops)
  (repeat (first | refine WC.seqK fun K hK => ?_ | refine WC.block ?_ | refine WC.regionG rfl fun ops hG => ?_))
  refine WL.call Ev.func (Evs.cons Ev.const Evs.nil) (get_ct none 0 0 [] _ _ (Rd.nilB _ _)) (Nat.le_of_ble_eq_true rfl) ?_
  rintro _ m2 _ hm2 (⟨-, rfl, rfl⟩ | ⟨hmay, -⟩)
  rotate_left
  · exact absurd hmay (by decide)
  refine WL.po (PO.move (Ev.tmp rfl)) (Nat.le_of_ble_eq_true rfl) ?_
  refine WL.po (PO.extract (Ev.tmp rfl) rfl) (Nat.le_of_ble_eq_true rfl) ?_
  refine WL.po (PO.extract (Ev.tmp rfl) rfl) (Nat.le_of_ble_eq_true rfl) ?_
  refine WL.alloc rfl rfl (Nat.le_of_ble_eq_true rfl) fun b3 => ?_
  refine WL.store rfl (Ev.tmp rfl) (Ev.tmp rfl) rfl rfl rfl rfl (by (repeat (first | exact Upd.here | apply Upd.next))) ?_
  refine WL.po (PO.assign (Ev.tmp rfl)) (Nat.le_of_ble_eq_true rfl) ?_
  refine WL.nil (keepF (ts := [0, 1, 2, 4, 5]) rfl (toK (by assumption) ?_)); (try clear hG ops)
  (repeat (first | refine WC.seqK fun K hK => ?_ | refine WC.block ?_ | refine WC.regionG rfl fun ops hG => ?_))
  refine WL.buildSlice EL22 rfl (EvP.cons Ev.const EvP.nil) rfl rfl (by decide) rfl (Nat.le_of_ble_eq_true rfl) fun b16 => ?_
  refine WL.po (PO.assign (Ev.tmp rfl)) (Nat.le_of_ble_eq_true rfl) ?_
  refine WL.nil (keepF (ts := [0, 1, 2, 4, 5]) rfl (toK (by assumption) ?_)); (try clear hG ops)
  (repeat (first | refine WC.seqK fun K hK => ?_ | refine WC.block ?_ | refine WC.regionG rfl fun ops hG => ?_))
  refine WL.po (PO.move (Ev.tmp rfl)) (Nat.le_of_ble_eq_true rfl) ?_
  refine WL.po (PO.bin (Ev.tmp rfl) Ev.const rfl) (Nat.le_of_ble_eq_true rfl) ?_
  refine WL.po (PO.move (Ev.tmp rfl)) (Nat.le_of_ble_eq_true rfl) ?_
  refine WL.unT (hG _ _ rfl) rfl rfl ?_
  refine WL.po (PO.move (Ev.tmp rfl)) (Nat.le_of_ble_eq_true rfl) ?_
  refine WL.unT (hG _ _ rfl) rfl rfl ?_
  refine WL.po (PO.lenSl Try.underlying22 (Ev.tmp rfl)) (Nat.le_of_ble_eq_true rfl) ?_
  refine WL.unT (hG _ _ rfl) rfl rfl ?_
  refine WL.po (PO.bin (Ev.tmp rfl) Ev.const rfl) (Nat.le_of_ble_eq_true rfl) ?_
  refine WL.po (PO.pickAnd rfl rfl) (Nat.le_of_ble_eq_true rfl) ?_
  refine WL.po (PO.move (Ev.tmp rfl)) (Nat.le_of_ble_eq_true rfl) ?_
  refine WL.unT (hG _ _ rfl) rfl rfl ?_
  refine WL.po (PO.move (Ev.tmp rfl)) (Nat.le_of_ble_eq_true rfl) ?_
  refine WL.unT (hG _ _ rfl) rfl rfl ?_
  refine WL.buildSlice EL22 rfl (EvP.cons Ev.const (EvP.cons Ev.const (EvP.cons Ev.const (EvP.cons Ev.const (EvP.cons Ev.const (EvP.cons Ev.const (EvP.cons Ev.const (EvP.cons Ev.const (EvP.cons Ev.const (EvP.cons Ev.const (EvP.cons Ev.const (EvP.cons Ev.const (EvP.cons Ev.const (EvP.cons Ev.const (EvP.cons Ev.const (EvP.cons Ev.const (EvP.cons Ev.const (EvP.cons Ev.const (EvP.cons Ev.const (EvP.cons Ev.const (EvP.cons Ev.const EvP.nil))))))))))))))))))))) rfl rfl (by decide) rfl (Nat.le_of_ble_eq_true rfl) fun b26 => ?_
  refine WL.knowRow (a := a1) (by (repeat (first | exact List.Mem.head _ | apply List.Mem.tail))) fun hk1 hk2 hk3 => ?_
  refine WL.unT (hG _ _ rfl) rfl rfl ?_
  refine WL.call Ev.func (Evs.cons (Ev.tmp rfl) (Evs.cons (Ev.tmp rfl) Evs.nil)) ((prefix_ct _ _ _ _ _ _ (enc [245] (0 : Int).toNat (3 : Int).toNat (5 : Int).toNat) aw21 _ _ (Rd.ofRow hk3 hk1 hk2 (by (repeat (first | exact List.Mem.head _ | apply List.Mem.tail)))) (Rd.ofPt (cs := bv aw21) rfl (by decide) (by (repeat (first | exact List.Mem.head _ | apply List.Mem.tail))))).val (congrArg Value.bool aw_pre)) (Nat.le_of_ble_eq_true rfl) ?_
  rintro _ m3 _ hm3 ⟨rfl, rfl⟩
  refine WL.po (PO.pickAnd rfl rfl) (Nat.le_of_ble_eq_true rfl) ?_
  refine WL.po (PO.move (Ev.tmp rfl)) (Nat.le_of_ble_eq_true rfl) ?_
  refine WL.unT (hG _ _ rfl) rfl rfl ?_
  refine WL.po (PO.move (Ev.tmp rfl)) (Nat.le_of_ble_eq_true rfl) ?_
  refine WL.unT (hG _ _ rfl) rfl rfl ?_
  refine WL.po (PO.bin (Ev.tmp rfl) Ev.const rfl) (Nat.le_of_ble_eq_true rfl) ?_
  refine WL.po (PO.pickAnd rfl rfl) (Nat.le_of_ble_eq_true rfl) ?_
  refine WL.po (PO.move (Ev.tmp rfl)) (Nat.le_of_ble_eq_true rfl) ?_
  refine WL.unT (hG _ _ rfl) rfl rfl ?_
  refine WL.buildSlice EL22 rfl (EvP.cons Ev.const (EvP.cons Ev.const (EvP.cons Ev.const (EvP.cons Ev.const (EvP.cons Ev.const (EvP.cons Ev.const (EvP.cons Ev.const (EvP.cons Ev.const (EvP.cons Ev.const EvP.nil))))))))) rfl rfl (by decide) rfl (Nat.le_of_ble_eq_true rfl) fun b34 => ?_
  refine WL.unT (hG _ _ rfl) rfl rfl ?_
  refine WL.mark Try.underlying22 Try.underlying5 (Ev.tmp rfl) (by (repeat (first | exact Upd.here | apply Upd.next))) (Nat.le_of_ble_eq_true rfl) ?_
  refine WL.unT (hG _ _ rfl) rfl rfl ?_
  refine WL.call Ev.func (Evs.cons (Ev.tmp rfl) Evs.nil) ((sum_ct _ _ _ aw9 _ _ (Rd.ofPt (cs := bv aw9) rfl (by decide) (by (repeat (first | exact List.Mem.head _ | apply List.Mem.tail))))).val aw_sum9) (Nat.le_of_ble_eq_true rfl) ?_
  rintro _ m4 _ hm4 ⟨rfl, rfl⟩
  refine WL.unT (hG _ _ rfl) rfl rfl ?_
  refine WL.po (PO.bin (Ev.tmp rfl) Ev.const rfl) (Nat.le_of_ble_eq_true rfl) ?_
  refine WL.po (PO.pickAnd rfl rfl) (Nat.le_of_ble_eq_true rfl) ?_
  refine WL.po (PO.move (Ev.tmp rfl)) (Nat.le_of_ble_eq_true rfl) ?_
  refine WL.unT (hG _ _ rfl) rfl rfl ?_
  refine WL.call Ev.func (Evs.cons Ev.const Evs.nil) ((sum_ct none 0 0 [] _ _ (Rd.nilB _ _)).val aw_sum0) (Nat.le_of_ble_eq_true rfl) ?_
  rintro _ m5 _ hm5 ⟨rfl, rfl⟩
  refine WL.unT (hG _ _ rfl) rfl rfl ?_
  refine WL.po (PO.bin (Ev.tmp rfl) Ev.const rfl) (Nat.le_of_ble_eq_true rfl) ?_
  refine WL.po (PO.pickAnd rfl rfl) (Nat.le_of_ble_eq_true rfl) ?_
  refine WL.po (PO.move (Ev.tmp rfl)) (Nat.le_of_ble_eq_true rfl) ?_
  refine WL.unT (hG _ _ rfl) rfl rfl ?_
  refine WL.buildSlice EL22 rfl (EvP.cons Ev.const EvP.nil) rfl rfl (by decide) rfl (Nat.le_of_ble_eq_true rfl) fun b44 => ?_
  refine WL.unT (hG _ _ rfl) rfl rfl ?_
  refine WL.call Ev.func (Evs.cons (Ev.tmp rfl) Evs.nil) ((sum_ct _ _ _ [0] _ _ (Rd.ofPt (cs := bv [0]) rfl (by decide) (by (repeat (first | exact List.Mem.head _ | apply List.Mem.tail))))).val aw_sum1) (Nat.le_of_ble_eq_true rfl) ?_
  rintro _ m6 _ hm6 ⟨rfl, rfl⟩
  refine WL.unT (hG _ _ rfl) rfl rfl ?_
  refine WL.po (PO.bin (Ev.tmp rfl) Ev.const rfl) (Nat.le_of_ble_eq_true rfl) ?_
  refine WL.po (PO.pickAnd rfl rfl) (Nat.le_of_ble_eq_true rfl) ?_
  refine WL.po (PO.move (Ev.tmp rfl)) (Nat.le_of_ble_eq_true rfl) ?_
  refine WL.unT (hG _ _ rfl) rfl rfl ?_
  refine WL.po (PO.move (Ev.tmp rfl)) (Nat.le_of_ble_eq_true rfl) ?_
  refine WL.unT (hG _ _ rfl) rfl rfl ?_
  refine WL.po (PO.build Try.underlying24 rfl rfl rfl (EvP.cons (Ev.tmp rfl) (EvP.cons Ev.const EvP.nil)) rfl) (Nat.le_of_ble_eq_true rfl) ?_
  refine WL.unT (hG _ _ rfl) rfl rfl ?_
  refine WL.call Ev.func (Evs.cons (Ev.tmp rfl) Evs.nil) ((may_ct _ 1 1 0 16384 0 _ _).val (v' := .bool true) rfl) (Nat.le_of_ble_eq_true rfl) ?_
  rintro _ m7 _ hm7 ⟨rfl, rfl⟩
  refine WL.po (PO.pickAnd rfl rfl) (Nat.le_of_ble_eq_true rfl) ?_
  refine WL.po (PO.move (Ev.tmp rfl)) (Nat.le_of_ble_eq_true rfl) ?_
  refine WL.unT (hG _ _ rfl) rfl rfl ?_
  refine WL.po (PO.move (Ev.tmp rfl)) (Nat.le_of_ble_eq_true rfl) ?_
  refine WL.unT (hG _ _ rfl) rfl rfl ?_
  refine WL.po (PO.build Try.underlying24 rfl rfl rfl (EvP.cons (Ev.tmp rfl) (EvP.cons Ev.const EvP.nil)) rfl) (Nat.le_of_ble_eq_true rfl) ?_
  refine WL.unT (hG _ _ rfl) rfl rfl ?_
  refine WL.call Ev.func (Evs.cons (Ev.tmp rfl) Evs.nil) ((may_ct _ 1 1 0 0 16385 _ _).val (v' := .bool false) rfl) (Nat.le_of_ble_eq_true rfl) ?_
  rintro _ m8 _ hm8 ⟨rfl, rfl⟩
  refine WL.unT (hG _ _ rfl) rfl rfl ?_
  refine WL.po (PO.not (Ev.tmp rfl)) (Nat.le_of_ble_eq_true rfl) ?_
  refine WL.po (PO.pickAnd rfl rfl) (Nat.le_of_ble_eq_true rfl) ?_
  refine WL.po (PO.move (Ev.tmp rfl)) (Nat.le_of_ble_eq_true rfl) ?_
  refine WL.unT (hG _ _ rfl) rfl rfl ?_
  refine WL.po (PO.move (Ev.tmp rfl)) (Nat.le_of_ble_eq_true rfl) ?_
  refine WL.unT (hG _ _ rfl) rfl rfl ?_
  refine WL.po (PO.build Try.underlying24 rfl rfl rfl (EvP.cons (Ev.tmp rfl) (EvP.cons Ev.const EvP.nil)) rfl) (Nat.le_of_ble_eq_true rfl) ?_
  refine WL.unT (hG _ _ rfl) rfl rfl ?_
  refine WL.call Ev.func (Evs.cons (Ev.tmp rfl) Evs.nil) ((may_ct _ 1 1 1 0 0 _ _).val (v' := .bool false) rfl) (Nat.le_of_ble_eq_true rfl) ?_
  rintro _ m9 _ hm9 ⟨rfl, rfl⟩
  refine WL.unT (hG _ _ rfl) rfl rfl ?_
  refine WL.po (PO.not (Ev.tmp rfl)) (Nat.le_of_ble_eq_true rfl) ?_
  refine WL.po (PO.pickAnd rfl rfl) (Nat.le_of_ble_eq_true rfl) ?_
  refine WL.po (PO.move (Ev.tmp rfl)) (Nat.le_of_ble_eq_true rfl) ?_
  refine WL.unT (hG _ _ rfl) rfl rfl ?_
  refine WL.po (PO.build Try.underlying24 rfl rfl rfl EvP.nil rfl) (Nat.le_of_ble_eq_true rfl) ?_
  refine WL.unT (hG _ _ rfl) rfl rfl ?_
  refine WL.call Ev.func (Evs.cons (Ev.tmp rfl) Evs.nil) ((may_ct none 0 0 0 0 0 _ _).val (v' := .bool false) rfl) (Nat.le_of_ble_eq_true rfl) ?_
  rintro _ m10 _ hm10 ⟨rfl, rfl⟩
  refine WL.unT (hG _ _ rfl) rfl rfl ?_
  refine WL.po (PO.not (Ev.tmp rfl)) (Nat.le_of_ble_eq_true rfl) ?_
  refine WL.po (PO.pickAnd rfl rfl) (Nat.le_of_ble_eq_true rfl) ?_
  refine WL.po (PO.assign (Ev.tmp rfl)) (Nat.le_of_ble_eq_true rfl) ?_
  refine WL.nil (keepF (ts := [0, 1, 2, 4, 5]) rfl (toK (by assumption) ?_)); (try clear hG ops)
  exact WC.ret (end1 (h' := h) (.inl rfl) rfl (RV.tmp rfl) (hm1.trans (hm2.trans (hm3.trans (hm4.trans (hm5.trans (hm6.trans (hm7.trans (hm8.trans (hm9.trans hm10))))))))) (by (repeat (first | exact List.Sublist.refl _ | refine List.Sublist.cons_cons _ ?_ | apply List.Sublist.cons))) ⟨rfl, rfl⟩)
end Go.Proofs.Ytdfobghpbbohdaa

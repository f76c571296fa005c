/- object: Four, HasPrefix, Same, own, Put. -/
import Derived.Test.YtdfobghpbbohdaaObjA
namespace Go.Proofs.Ytdfobghpbbohdaa
open Go.Eng Go.Obj

/-- The bytes of a number, in a new block. -/
def Lit4 (h : List Res) (xs : List UInt8) : Value → View → List Res → Prop := fun v _ h' => ∃ b, v = .slice (some ⟨b, 0, none⟩) 4 4 ∧ h' = .pt b (.cells (bv xs).toArray 5 (0, 0)) :: h

theorem four_ct (k : Nat) (hk : k < 4294967296) (h : List Res) (m : View) : CT Try.prog 25 [.int .u32 k] h m (Lit4 h (le4 k)) := by
  refine CT.body Try.call25 Try.func25 rfl Try.ntmps25 (Nat.le_of_ble_eq_true rfl) rfl ?_
  (repeat (first | refine WC.seqK fun K hK => ?_ | refine WC.block ?_ | refine WC.regionG rfl fun ops hG => ?_))
  refine WL.po (PO.assign Ev.const) (Nat.le_of_ble_eq_true rfl) ?_
  refine WL.nil (keepF (ts := [0, 2]) rfl (toK (by assumption) ?_)); (try clear hG ops)
  (repeat (first | refine WC.seqK fun K hK => ?_ | refine WC.block ?_ | refine WC.regionG rfl fun ops hG => ?_))
  refine WL.po (PO.move (Ev.tmp rfl)) (Nat.le_of_ble_eq_true rfl) ?_
  refine WL.po (PO.rem (Ev.tmp rfl) Ev.const (by decide)) (Nat.le_of_ble_eq_true rfl) ?_
  refine WL.po (PO.eq (PO.conv Try.underlying37 Try.underlying5 (Ev.tmp rfl)) (congrArg (Value.int .u8) (b0_int k hk))) (Nat.le_of_ble_eq_true rfl) ?_
  refine WL.po (PO.move (Ev.tmp rfl)) (Nat.le_of_ble_eq_true rfl) ?_
  refine WL.po (PO.quo (Ev.tmp rfl) Ev.const (by decide)) (Nat.le_of_ble_eq_true rfl) ?_
  refine WL.po (PO.rem (Ev.tmp rfl) Ev.const (by decide)) (Nat.le_of_ble_eq_true rfl) ?_
  refine WL.po (PO.eq (PO.conv Try.underlying37 Try.underlying5 (Ev.tmp rfl)) (congrArg (Value.int .u8) (b1_int k hk))) (Nat.le_of_ble_eq_true rfl) ?_
  refine WL.po (PO.move (Ev.tmp rfl)) (Nat.le_of_ble_eq_true rfl) ?_
  refine WL.po (PO.quo (Ev.tmp rfl) Ev.const (by decide)) (Nat.le_of_ble_eq_true rfl) ?_
  refine WL.po (PO.rem (Ev.tmp rfl) Ev.const (by decide)) (Nat.le_of_ble_eq_true rfl) ?_
  refine WL.po (PO.eq (PO.conv Try.underlying37 Try.underlying5 (Ev.tmp rfl)) (congrArg (Value.int .u8) (b2_int k hk))) (Nat.le_of_ble_eq_true rfl) ?_
  refine WL.po (PO.move (Ev.tmp rfl)) (Nat.le_of_ble_eq_true rfl) ?_
  refine WL.po (PO.quo (Ev.tmp rfl) Ev.const (by decide)) (Nat.le_of_ble_eq_true rfl) ?_
  refine WL.po (PO.eq (PO.conv Try.underlying37 Try.underlying5 (Ev.tmp rfl)) (congrArg (Value.int .u8) (b3_int k hk))) (Nat.le_of_ble_eq_true rfl) ?_
  refine WL.buildSlice EL22 rfl (EvP.cons (Ev.tmp rfl) (EvP.cons (Ev.tmp rfl) (EvP.cons (Ev.tmp rfl) (EvP.cons (Ev.tmp rfl) EvP.nil)))) rfl rfl (by decide) rfl (Nat.le_of_ble_eq_true rfl) fun b17 => ?_
  refine WL.po (PO.assign (Ev.tmp rfl)) (Nat.le_of_ble_eq_true rfl) ?_
  refine WL.nil (keepF (ts := [0, 2]) rfl (toK (by assumption) ?_)); (try clear hG ops)
  exact WC.ret (end1 (.inl rfl) rfl (RV.tmp rfl) (View.le.refl m) (List.Sublist.refl _) ⟨b17, rfl, rfl⟩)

theorem prefix_ct (s s' : Option Addr) (n c n' c' : Nat) (xs ys : List UInt8) (h : List Res) (m : View) (h1 : Rd m h s n c 1 (bv xs)) (h2 : Rd m h s' n' c' 1 (bv ys)) :
    CT Try.prog 26 [.slice s n c, .slice s' n' c'] h m (Pure1 h (.bool (decide (ys.length ≤ xs.length) && (xs.take ys.length == ys)))) := by
  have hn : xs.length = n := by have := h1.len; simpa [bv_len] using this
  have hn' : ys.length = n' := by have := h2.len; simpa [bv_len] using this
  have hle := h1.le
  refine CT.body Try.call26 Try.func26 rfl Try.ntmps26 (Nat.le_of_ble_eq_true rfl) rfl ?_
  (repeat (first | refine WC.seqK fun K hK => ?_ | refine WC.block ?_ | refine WC.regionG rfl fun ops hG => ?_))
  refine WL.po (PO.assign Ev.const) (Nat.le_of_ble_eq_true rfl) ?_
  refine WL.nil (keepF (ts := [0, 1, 4]) rfl (toK (by assumption) ?_)); (try clear hG ops)
  (repeat (first | refine WC.seqK fun K hK => ?_ | refine WC.block ?_ | refine WC.regionG rfl fun ops hG => ?_))
  refine WL.po (PO.move (Ev.tmp rfl)) (Nat.le_of_ble_eq_true rfl) ?_
  refine WL.po (PO.lenSl Try.underlying22 (Ev.tmp rfl)) (Nat.le_of_ble_eq_true rfl) ?_
  refine WL.po (PO.move (Ev.tmp rfl)) (Nat.le_of_ble_eq_true rfl) ?_
  refine WL.po (PO.lenSl Try.underlying22 (Ev.tmp rfl)) (Nat.le_of_ble_eq_true rfl) ?_
  refine WL.po (PO.bin (Ev.tmp rfl) (Ev.tmp rfl) rfl) (Nat.le_of_ble_eq_true rfl) ?_
  refine WL.po (PO.move (Ev.tmp rfl)) (Nat.le_of_ble_eq_true rfl) ?_
  refine WL.poT (hG _ _ rfl) rfl (fun hc => PO.move (Ev.tmp rfl)) (Nat.le_of_ble_eq_true rfl) ?_
  refine WL.poT (hG _ _ rfl) rfl (fun hc => PO.move (Ev.tmp rfl)) (Nat.le_of_ble_eq_true rfl) ?_
  refine WL.poT (hG _ _ rfl) rfl (fun hc => PO.lenSl Try.underlying22 (Ev.gv rfl hc)) (Nat.le_of_ble_eq_true rfl) ?_
  refine WL.poT (v := .slice (sl1 s 0 c 1) n' c) (hG _ _ rfl) rfl (fun hc => ?_) (Nat.le_of_ble_eq_true rfl) ?_
  · simp only [decide_eq_true_eq] at hc
    exact PO.sliceH EL22.und EL22.size (Ev.gv rfl (by simpa using hc)) (Ev.gv rfl (by simpa using hc)) rfl (by omega)
  refine WL.poT (hG _ _ rfl) rfl (fun hc => PO.move (Ev.tmp rfl)) (Nat.le_of_ble_eq_true rfl) ?_
  refine WL.callT (v := .bool (xs.take ys.length == ys)) (hG _ _ rfl) rfl (fun hc => ⟨Ev.func, Evs.cons (Ev.gv rfl hc) (Evs.cons (Ev.gv rfl hc) Evs.nil), ?_⟩) (Nat.le_of_ble_eq_true rfl) fun m' hm => ?_
  · simp only [decide_eq_true_eq] at hc
    refine equal_ct _ _ _ _ _ _ _ _ _ _ ?_ h2
    have := h1.sub (l := 0) (k := n') (Nat.zero_le _) (by omega)
    simp only [Nat.sub_zero, List.drop_zero, Nat.mul_one, bv_take] at this
    rw [hn']; exact this
  refine WL.po (PO.pickAnd rfl rfl) (Nat.le_of_ble_eq_true rfl) ?_
  refine WL.po (PO.assign (Ev.tmp rfl)) (Nat.le_of_ble_eq_true rfl) ?_
  refine WL.nil (keepF (ts := [0, 1, 4]) rfl (toK (by assumption) ?_)); (try clear hG ops)
  refine WC.ret (end1 (.inl rfl) rfl (RV.tmp rfl) hm (List.Sublist.refl _) ⟨?_, rfl⟩)
  have : decide ((n : Int) ≥ n') = decide (ys.length ≤ xs.length) := by rw [decide_eq_decide]; omega
  rw [this]

theorem same_ct (s s' : Option Addr) (n c n' c' : Nat) (xs ys : List UInt8) (e a b e' a' b' : Int) (h : List Res) (m : View) (h1 : Rd m h s n c 1 (bv xs)) (h2 : Rd m h s' n' c' 1 (bv ys)) :
    CT Try.prog 20 [.agg #[.slice s n c, .int .i64 e, .int .i64 a, .int .i64 b], .agg #[.slice s' n' c', .int .i64 e', .int .i64 a', .int .i64 b']] h m (Pure1 h (.bool ((xs == ys) && (e == e') && (a == a') && (b == b')))) := by
  refine CT.body Try.call20 Try.func20 rfl Try.ntmps20 (Nat.le_of_ble_eq_true rfl) rfl ?_
  (repeat (first | refine WC.seqK fun K hK => ?_ | refine WC.block ?_ | refine WC.regionG rfl fun ops hG => ?_))
  refine WL.box (Ev.tmp rfl) rfl (Nat.le_of_ble_eq_true rfl) fun b2 => ?_
  refine WL.box (Ev.tmp rfl) rfl (Nat.le_of_ble_eq_true rfl) fun b3 => ?_
  refine WL.po (PO.assign Ev.const) (Nat.le_of_ble_eq_true rfl) ?_
  refine WL.nil (keepF (ts := [0, 1, 2, 3, 4]) rfl (toK (by assumption) ?_)); (try clear hG ops)
  (repeat (first | refine WC.seqK fun K hK => ?_ | refine WC.block ?_ | refine WC.regionG rfl fun ops hG => ?_))
  refine WL.po (PO.fieldAddr Try.underlying24 rfl (Nat.ne_of_beq_eq_false rfl) (Ev.tmp rfl)) (Nat.le_of_ble_eq_true rfl) ?_
  refine WL.po (PO.load1 Try.underlying22 rfl (Ev.tmp rfl) (by (repeat (first | exact List.Mem.head _ | apply List.Mem.tail))) rfl) (Nat.le_of_ble_eq_true rfl) ?_
  refine WL.po (PO.strOf Try.underlying22 Try.underlying5 Try.underlying9 (Ev.tmp rfl) h1.cons.cons) (Nat.le_of_ble_eq_true rfl) ?_
  refine WL.po (PO.fieldAddr Try.underlying24 rfl (Nat.ne_of_beq_eq_false rfl) (Ev.tmp rfl)) (Nat.le_of_ble_eq_true rfl) ?_
  refine WL.po (PO.load1 Try.underlying22 rfl (Ev.tmp rfl) (by (repeat (first | exact List.Mem.head _ | apply List.Mem.tail))) rfl) (Nat.le_of_ble_eq_true rfl) ?_
  refine WL.po (PO.strOf Try.underlying22 Try.underlying5 Try.underlying9 (Ev.tmp rfl) h2.cons.cons) (Nat.le_of_ble_eq_true rfl) ?_
  refine WL.po (PO.eqlS (Ev.tmp rfl) (Ev.tmp rfl)) (Nat.le_of_ble_eq_true rfl) ?_
  refine WL.po (PO.move (Ev.tmp rfl)) (Nat.le_of_ble_eq_true rfl) ?_
  refine WL.poT (hG _ _ rfl) rfl (fun hc => PO.fieldAddr Try.underlying24 rfl (Nat.ne_of_beq_eq_false rfl) (Ev.tmp rfl)) (Nat.le_of_ble_eq_true rfl) ?_
  refine WL.poT (hG _ _ rfl) rfl (fun hc => PO.load1 Try.underlying3 rfl (Ev.gv rfl hc) (by (repeat (first | exact List.Mem.head _ | apply List.Mem.tail))) rfl) (Nat.le_of_ble_eq_true rfl) ?_
  refine WL.poT (hG _ _ rfl) rfl (fun hc => PO.fieldAddr Try.underlying24 rfl (Nat.ne_of_beq_eq_false rfl) (Ev.tmp rfl)) (Nat.le_of_ble_eq_true rfl) ?_
  refine WL.poT (hG _ _ rfl) rfl (fun hc => PO.load1 Try.underlying3 rfl (Ev.gv rfl hc) (by (repeat (first | exact List.Mem.head _ | apply List.Mem.tail))) rfl) (Nat.le_of_ble_eq_true rfl) ?_
  refine WL.poT (hG _ _ rfl) rfl (fun hc => PO.bin (Ev.gv rfl hc) (Ev.gv rfl hc) rfl) (Nat.le_of_ble_eq_true rfl) ?_
  refine WL.po (PO.pickAnd rfl rfl) (Nat.le_of_ble_eq_true rfl) ?_
  refine WL.po (PO.move (Ev.tmp rfl)) (Nat.le_of_ble_eq_true rfl) ?_
  refine WL.poT (hG _ _ rfl) rfl (fun hc => PO.fieldAddr Try.underlying24 rfl (Nat.ne_of_beq_eq_false rfl) (Ev.tmp rfl)) (Nat.le_of_ble_eq_true rfl) ?_
  refine WL.poT (hG _ _ rfl) rfl (fun hc => PO.load1 Try.underlying3 rfl (Ev.gv rfl hc) (by (repeat (first | exact List.Mem.head _ | apply List.Mem.tail))) rfl) (Nat.le_of_ble_eq_true rfl) ?_
  refine WL.poT (hG _ _ rfl) rfl (fun hc => PO.fieldAddr Try.underlying24 rfl (Nat.ne_of_beq_eq_false rfl) (Ev.tmp rfl)) (Nat.le_of_ble_eq_true rfl) ?_
  refine WL.poT (hG _ _ rfl) rfl (fun hc => PO.load1 Try.underlying3 rfl (Ev.gv rfl hc) (by (repeat (first | exact List.Mem.head _ | apply List.Mem.tail))) rfl) (Nat.le_of_ble_eq_true rfl) ?_
  refine WL.poT (hG _ _ rfl) rfl (fun hc => PO.bin (Ev.gv rfl hc) (Ev.gv rfl hc) rfl) (Nat.le_of_ble_eq_true rfl) ?_
  refine WL.po (PO.pickAnd rfl rfl) (Nat.le_of_ble_eq_true rfl) ?_
  refine WL.po (PO.move (Ev.tmp rfl)) (Nat.le_of_ble_eq_true rfl) ?_
  refine WL.poT (hG _ _ rfl) rfl (fun hc => PO.fieldAddr Try.underlying24 rfl (Nat.ne_of_beq_eq_false rfl) (Ev.tmp rfl)) (Nat.le_of_ble_eq_true rfl) ?_
  refine WL.poT (hG _ _ rfl) rfl (fun hc => PO.load1 Try.underlying3 rfl (Ev.gv rfl hc) (by (repeat (first | exact List.Mem.head _ | apply List.Mem.tail))) rfl) (Nat.le_of_ble_eq_true rfl) ?_
  refine WL.poT (hG _ _ rfl) rfl (fun hc => PO.fieldAddr Try.underlying24 rfl (Nat.ne_of_beq_eq_false rfl) (Ev.tmp rfl)) (Nat.le_of_ble_eq_true rfl) ?_
  refine WL.poT (hG _ _ rfl) rfl (fun hc => PO.load1 Try.underlying3 rfl (Ev.gv rfl hc) (by (repeat (first | exact List.Mem.head _ | apply List.Mem.tail))) rfl) (Nat.le_of_ble_eq_true rfl) ?_
  refine WL.poT (hG _ _ rfl) rfl (fun hc => PO.bin (Ev.gv rfl hc) (Ev.gv rfl hc) rfl) (Nat.le_of_ble_eq_true rfl) ?_
  refine WL.po (PO.pickAnd rfl rfl) (Nat.le_of_ble_eq_true rfl) ?_
  refine WL.po (PO.assign (Ev.tmp rfl)) (Nat.le_of_ble_eq_true rfl) ?_
  refine WL.nil (keepF (ts := [0, 1, 2, 3, 4]) rfl (toK (by assumption) ?_)); (try clear hG ops)
  exact WC.ret (end1 (.inl rfl) rfl (RV.tmp rfl) (View.le.refl m) (by (repeat (first | exact List.Sublist.refl _ | refine List.Sublist.cons_cons _ ?_ | apply List.Sublist.cons))) ⟨rfl, rfl⟩)

theorem own_ct (s : Option Addr) (n c : Nat) (xs : List UInt8) (e a b : Int) (h : List Res) (m : View) (h1 : Rd m h s n c 1 (bv xs)) (hb : n ≤ 140737488355328) :
    CT Try.prog 10 [.agg #[.slice s n c, .int .i64 e, .int .i64 a, .int .i64 b]] h m
      (fun v _ h' => ∃ a' c', v = .agg #[.slice a' n c', .int .i64 e, .int .i64 a, .int .i64 b] ∧ h' = .row (.slice a' n c') 5 1 n (bv xs) :: h) := by
  refine CT.body Try.call10 Try.func10 rfl Try.ntmps10 (Nat.le_of_ble_eq_true rfl) rfl ?_
  (repeat (first | refine WC.seqK fun K hK => ?_ | refine WC.block ?_ | refine WC.regionG rfl fun ops hG => ?_))
  refine WL.box (Ev.tmp rfl) rfl (Nat.le_of_ble_eq_true rfl) fun b1 => ?_
  refine WL.alloc rfl rfl (Nat.le_of_ble_eq_true rfl) fun b2 => ?_
  refine WL.nil (keepF (ts := [0, 1, 2]) rfl (toK (by assumption) ?_)); (try clear hG ops)
  (repeat (first | refine WC.seqK fun K hK => ?_ | refine WC.block ?_ | refine WC.regionG rfl fun ops hG => ?_))
  refine WL.po (PO.fieldAddr Try.underlying24 rfl (Nat.ne_of_beq_eq_false rfl) (Ev.tmp rfl)) (Nat.le_of_ble_eq_true rfl) ?_
  refine WL.po (PO.load1 Try.underlying22 rfl (Ev.tmp rfl) (by (repeat (first | exact List.Mem.head _ | apply List.Mem.tail))) rfl) (Nat.le_of_ble_eq_true rfl) ?_
  refine WL.call Ev.func (Evs.cons (Ev.tmp rfl) Evs.nil) (clone_ct _ _ _ xs _ _ h1.cons.cons hb) (Nat.le_of_ble_eq_true rfl) ?_
  rintro _ m1 _ hm ⟨a', c', rfl, rfl⟩
  refine WL.po (PO.fieldAddr Try.underlying24 rfl (Nat.ne_of_beq_eq_false rfl) (Ev.tmp rfl)) (Nat.le_of_ble_eq_true rfl) ?_
  refine WL.store rfl (Ev.tmp rfl) (Ev.tmp rfl) rfl rfl rfl rfl (by (repeat (first | exact Upd.here | apply Upd.next))) ?_
  refine WL.nil (keepF (ts := [0, 1, 2]) rfl (toK (by assumption) ?_)); (try clear hG ops)
  (repeat (first | refine WC.seqK fun K hK => ?_ | refine WC.block ?_ | refine WC.regionG rfl fun ops hG => ?_))
  refine WL.po (PO.loadA Try.underlying24 rfl rfl (Ev.tmp rfl) (by (repeat (first | exact List.Mem.head _ | apply List.Mem.tail))) rfl) (Nat.le_of_ble_eq_true rfl) ?_
  refine WL.store rfl (Ev.tmp rfl) (Ev.tmp rfl) rfl rfl rfl rfl (by (repeat (first | exact Upd.here | apply Upd.next))) ?_
  refine WL.nil (keepF (ts := [0, 1, 2]) rfl (toK (by assumption) ?_)); (try clear hG ops)
  exact WC.ret (end1 (.inl rfl) rfl (RV.cellA Try.underlying24 rfl rfl rfl (by (repeat (first | exact List.Mem.head _ | apply List.Mem.tail))) rfl) hm (by (repeat (first | exact List.Sublist.refl _ | refine List.Sublist.cons_cons _ ?_ | apply List.Sublist.cons))) ⟨a', c', rfl, rfl⟩)

/-- Put's own 'number': four bytes behind those that stand. -/
theorem num_ct (k : Nat) (_ : k < 4294967296) (pre : List UInt8) (z L cap b5 b4 : Nat) (a : Option Addr) (hL : pre.length + (4 + z) = L) (hc : L ≤ cap) (hx : cap ≤ 9223372036854775807) (h : List Res) (m : View) :
    CT Try.prog 24 [.int .u32 k, .pointer (some ⟨b5, 0, none⟩), .pointer (some ⟨b4, 0, none⟩)]
      (.row (.slice a L cap) 5 1 L (bv pre ++ zer (4 + z)) :: .pt b5 (.cells [.int .i64 pre.length].toArray 3 (0, 0)) :: .pt b4 (.cells [.slice a L cap].toArray 22 (0, 0)) :: h) m
      (fun _ _ h' => h' = .row (.slice a L cap) 5 1 L (bv (pre ++ le4 k) ++ zer z) :: .pt b5 (.cells [.int .i64 ((pre ++ le4 k).length : Nat)].toArray 3 (0, 0)) :: .pt b4 (.cells [.slice a L cap].toArray 22 (0, 0)) :: h) := by
  have hl4 : (le4 k).length = 4 := rfl
  have hlp : ((pre ++ le4 k).length : Int) = (pre.length : Int) + 4 := by rw [List.length_append, hl4]; omega
  refine CT.body Try.call24 Try.func24 rfl Try.ntmps24 (Nat.le_of_ble_eq_true rfl) rfl ?_
  (repeat (first | refine WC.seqK fun K hK => ?_ | refine WC.block ?_ | refine WC.regionG rfl fun ops hG => ?_))
  refine WC.drawS [15, 16] [0, 1, 2, 3, 4, 5, 6, 7, 8, 9, 10, 11, 12, 13, 14, 15, 16, 17] [18] (.pt b5 _ :: .pt b4 _ :: h) [_] mixed (by kernel_rfl) ?_
  refine SR.po rfl rfl (PO.load1 Try.underlying3 rfl (Ev.tmp rfl) (by (repeat (first | exact List.Mem.head _ | apply List.Mem.tail))) rfl) (Nat.le_of_ble_eq_true rfl) ?_
  refine SR.po rfl rfl (PO.load1 Try.underlying22 rfl (Ev.tmp rfl) (by (repeat (first | exact List.Mem.head _ | apply List.Mem.tail))) rfl) (Nat.le_of_ble_eq_true rfl) ?_
  refine SR.po rfl rfl (PO.load1 Try.underlying3 rfl (Ev.tmp rfl) (by (repeat (first | exact List.Mem.head _ | apply List.Mem.tail))) rfl) (Nat.le_of_ble_eq_true rfl) ?_
  refine SR.po rfl rfl (PO.sliceL EL22.und EL22.size (Ev.tmp rfl) (Ev.tmp rfl) rfl (by omega)) (Nat.le_of_ble_eq_true rfl) ?_
  refine SR.po rfl rfl (PO.move (Ev.tmp rfl)) (Nat.le_of_ble_eq_true rfl) ?_
  refine SR.po rfl rfl (PO.eq (PO.conv Try.underlying37 Try.underlying5 (Ev.tmp rfl)) (congrArg (Value.int .u8) (byte_wrap k))) (Nat.le_of_ble_eq_true rfl) ?_
  refine SR.po rfl rfl (PO.move (Ev.tmp rfl)) (Nat.le_of_ble_eq_true rfl) ?_
  refine SR.po rfl rfl (PO.shr (Ev.tmp rfl) Ev.const (by decide)) (Nat.le_of_ble_eq_true rfl) ?_
  refine SR.po rfl rfl (PO.eq (PO.conv Try.underlying37 Try.underlying5 (Ev.tmp rfl)) (congrArg (Value.int .u8) (c1_int k))) (Nat.le_of_ble_eq_true rfl) ?_
  refine SR.po rfl rfl (PO.move (Ev.tmp rfl)) (Nat.le_of_ble_eq_true rfl) ?_
  refine SR.po rfl rfl (PO.shr (Ev.tmp rfl) Ev.const (by decide)) (Nat.le_of_ble_eq_true rfl) ?_
  refine SR.po rfl rfl (PO.eq (PO.conv Try.underlying37 Try.underlying5 (Ev.tmp rfl)) (congrArg (Value.int .u8) (c2_int k))) (Nat.le_of_ble_eq_true rfl) ?_
  refine SR.po rfl rfl (PO.move (Ev.tmp rfl)) (Nat.le_of_ble_eq_true rfl) ?_
  refine SR.po rfl rfl (PO.shr (Ev.tmp rfl) Ev.const (by decide)) (Nat.le_of_ble_eq_true rfl) ?_
  refine SR.po rfl rfl (PO.eq (PO.conv Try.underlying37 Try.underlying5 (Ev.tmp rfl)) (congrArg (Value.int .u8) (c3_int k))) (Nat.le_of_ble_eq_true rfl) ?_
  refine SR.buildSlice rfl rfl EL22 rfl (EvP.cons (Ev.tmp rfl) (EvP.cons (Ev.tmp rfl) (EvP.cons (Ev.tmp rfl) (EvP.cons (Ev.tmp rfl) EvP.nil)))) rfl rfl (by decide) rfl (Nat.le_of_ble_eq_true rfl) fun b19 => ?_
  refine SR.copy (ys := bv (le4 k)) (k := 4) rfl rfl EL22 (Ev.tmp rfl) (Ev.tmp rfl) (Rd.ofPt rfl (by omega) (List.Mem.head _)) (bv_one _) (by omega) (by omega) (by omega) (Upd.next Upd.here) (Nat.le_of_ble_eq_true rfl) ?_
  rw [show List.take pre.length (bv pre ++ zer (4 + z)) ++ bv (le4 k) ++ List.drop (pre.length + 4) (bv pre ++ zer (4 + z)) = bv (pre ++ le4 k) ++ zer z from splice_pre pre (le4 k) z]
  refine SR.po rfl rfl (PO.addI (Ev.tmp rfl) (Ev.tmp rfl) (by omega)) (Nat.le_of_ble_eq_true rfl) ?_
  refine SR.nil rfl rfl ?_
  refine WL.store rfl (Ev.tmp rfl) (Ev.tmp rfl) rfl rfl rfl rfl (by (repeat (first | exact Upd.here | apply Upd.next))) ?_
  exact WL.nil (end0 (h' := .row _ 5 1 L _ :: .pt b5 _ :: .pt b4 _ :: h) (.inr rfl) rfl (View.le.refl m) (by (repeat (first | exact List.Sublist.refl _ | refine List.Sublist.cons_cons _ ?_ | apply List.Sublist.cons))) (by rw [hlp]; rfl))

def obV (s : Option Addr) (n c : Nat) (e a b : Int) : Value := .agg #[.slice s n c, .int .i64 e, .int .i64 a, .int .i64 b]

/-- What Put hands back. -/
def PutR (h : List Res) (code : List UInt8) (e a b : Int) : Value → View → List Res → Prop := fun v _ h' =>
  (mayB code.length e a b = false ∧ v = .tuple #[.slice none 0 0, .int .i64 2] ∧ h' = h) ∨
  (mayB code.length e a b = true ∧ ∃ a' c', v = .tuple #[.slice a' (code.length + 24) c', .int .i64 0] ∧ h' = .row (.slice a' (code.length + 24) c') 5 1 (code.length + 24) (bv (enc code e.toNat a.toNat b.toNat)) :: h)

theorem mayB_spec {n : Nat} {e a b : Int} (h : mayB n e a b = true) : 0 < n ∧ n ≤ 32768 ∧ 0 ≤ e ∧ e < n ∧ 0 ≤ a ∧ a ≤ 16384 ∧ 0 ≤ b ∧ b ≤ 16384 := by
  simp only [mayB, Bool.and_eq_true, decide_eq_true_eq] at h
  omega

theorem put_ct (s : Option Addr) (c : Nat) (code : List UInt8) (e a b : Int) (h : List Res) (m : View) (h1 : Rd m h s code.length c 1 (bv code)) :
    CT Try.prog 11 [.agg #[.slice s code.length c, .int .i64 e, .int .i64 a, .int .i64 b]] h m (PutR h code e a b) := by
  refine CT.body Try.call11 Try.func11 rfl Try.ntmps11 (Nat.le_of_ble_eq_true rfl) rfl ?_
  (repeat (first | refine WC.seqK fun K hK => ?_ | refine WC.block ?_ | refine WC.regionG rfl fun ops hG => ?_))
  refine WL.box (Ev.tmp rfl) rfl (Nat.le_of_ble_eq_true rfl) fun b1 => ?_
  refine WL.po (PO.assign Ev.const) (Nat.le_of_ble_eq_true rfl) ?_
  refine WL.po (PO.assign Ev.const) (Nat.le_of_ble_eq_true rfl) ?_
  refine WL.nil (keepF (ts := [0, 1, 2, 3, 4, 5, 6, 9]) rfl (toK (by assumption) ?_)); (try clear hG ops)
  (repeat (first | refine WC.seqK fun K hK => ?_ | refine WC.block ?_ | refine WC.regionG rfl fun ops hG => ?_))
  refine WL.po (PO.loadA Try.underlying24 rfl rfl (Ev.tmp rfl) (by (repeat (first | exact List.Mem.head _ | apply List.Mem.tail))) rfl) (Nat.le_of_ble_eq_true rfl) ?_
  refine WL.call Ev.func (Evs.cons (Ev.tmp rfl) Evs.nil) (may_ct _ _ _ _ _ _ _ _) (Nat.le_of_ble_eq_true rfl) ?_
  rintro _ m1 _ hm ⟨rfl, rfl⟩
  refine WL.po (PO.not (Ev.tmp rfl)) (Nat.le_of_ble_eq_true rfl) ?_
  refine WL.nil (keepF (ts := [0, 1, 2, 3, 4, 5, 6, 9]) rfl (toK (by assumption) ?_)); (try clear hG ops)
  (repeat (first | refine WC.seqK fun K hK => ?_ | refine WC.block ?_ | refine WC.regionG rfl fun ops hG => ?_))
  refine WC.cond (Ev.tmp rfl) (fun hc => ?_) (fun hc => ?_)
  · (repeat (first | refine WC.seqK fun K hK => ?_ | refine WC.block ?_ | refine WC.regionG rfl fun ops hG => ?_))
    refine WL.po (PO.assign Ev.const) (Nat.le_of_ble_eq_true rfl) ?_
    refine WL.po (PO.assign Ev.const) (Nat.le_of_ble_eq_true rfl) ?_
    refine WL.nil (keepF (ts := [0, 1, 2, 3, 4, 5, 6, 9]) rfl (toK (by assumption) ?_)); (try clear hG ops)
    exact WC.ret (end2 (.inl rfl) rfl (RV.tmp rfl) (RV.tmp rfl) hm (by (repeat (first | exact List.Sublist.refl _ | refine List.Sublist.cons_cons _ ?_ | apply List.Sublist.cons))) (.inl ⟨by simpa using hc, rfl, rfl⟩))
  · refine WC.skip (keepF (ts := [0, 1, 2, 3, 4, 5, 6, 9]) rfl (toK (by assumption) ?_))
    have hmay : mayB code.length e a b = true := by simpa using hc
    obtain ⟨q1, q2, q3, q4, q5, q6, q7, q8⟩ := mayB_spec hmay
    (repeat (first | refine WC.seqK fun K hK => ?_ | refine WC.block ?_ | refine WC.regionG rfl fun ops hG => ?_))
    refine WL.po (PO.fieldAddr Try.underlying24 rfl (Nat.ne_of_beq_eq_false rfl) (Ev.tmp rfl)) (Nat.le_of_ble_eq_true rfl) ?_
    refine WL.po (PO.load1 Try.underlying22 rfl (Ev.tmp rfl) (by (repeat (first | exact List.Mem.head _ | apply List.Mem.tail))) rfl) (Nat.le_of_ble_eq_true rfl) ?_
    refine WL.po (PO.lenSl Try.underlying22 (Ev.tmp rfl)) (Nat.le_of_ble_eq_true rfl) ?_
    refine WL.po (PO.addI Ev.const (Ev.tmp rfl) (by omega)) (Nat.le_of_ble_eq_true rfl) ?_
    refine WL.po (PO.addI (Ev.tmp rfl) Ev.const (by omega)) (Nat.le_of_ble_eq_true rfl) ?_
    refine WL.make (z := .int .u8 0) (q := code.length + 24) EL22 rfl rfl (Ev.tmp rfl) (Ev.tmp rfl) (by omega) (by omega) (by omega) (Nat.le_of_ble_eq_true rfl) fun b15 => ?_
    refine WL.alloc rfl rfl (Nat.le_of_ble_eq_true rfl) fun b4 => ?_
    refine WL.store rfl (Ev.tmp rfl) (Ev.tmp rfl) rfl rfl rfl rfl (by (repeat (first | exact Upd.here | apply Upd.next))) ?_
    refine WL.nil (keepF (ts := [0, 1, 2, 3, 4, 5, 6, 9]) rfl (toK (by assumption) ?_)); (try clear hG ops)
    (repeat (first | refine WC.seqK fun K hK => ?_ | refine WC.block ?_ | refine WC.regionG rfl fun ops hG => ?_))
    refine WL.po (PO.load1 Try.underlying22 rfl (Ev.tmp rfl) (by (repeat (first | exact List.Mem.head _ | apply List.Mem.tail))) rfl) (Nat.le_of_ble_eq_true rfl) ?_
    refine WL.copyS (bs := magic) EL22 (Ev.tmp rfl) Ev.const (by omega) (by show 4 ≤ _; omega) (Upd.next Upd.here) (Nat.le_of_ble_eq_true rfl) ?_
    rw [start_row]
    refine WL.alloc rfl rfl (Nat.le_of_ble_eq_true rfl) fun b5 => ?_
    refine WL.store rfl (Ev.tmp rfl) (Ev.tmp rfl) rfl rfl rfl rfl (by (repeat (first | exact Upd.here | apply Upd.next))) ?_
    refine WL.nil (keepF (ts := [0, 1, 2, 3, 4, 5, 6, 9]) rfl (toK (by assumption) ?_)); (try clear hG ops)
    (repeat (first | refine WC.seqK fun K hK => ?_ | refine WC.block ?_ | refine WC.regionG rfl fun ops hG => ?_))
    refine WL.po (PO.makeFunc Evs.nil (Evs.cons (Ev.tmp rfl) (Evs.cons (Ev.tmp rfl) Evs.nil))) (Nat.le_of_ble_eq_true rfl) ?_
    refine WL.po (PO.assign (Ev.tmp rfl)) (Nat.le_of_ble_eq_true rfl) ?_
    refine WL.nil (keepF (ts := [0, 1, 2, 3, 4, 5, 6, 9]) rfl (toK (by assumption) ?_)); (try clear hG ops)
    (repeat (first | refine WC.seqK fun K hK => ?_ | refine WC.block ?_ | refine WC.regionG rfl fun ops hG => ?_))
    refine WL.po (PO.move (Ev.tmp rfl)) (Nat.le_of_ble_eq_true rfl) ?_
    refine WL.po (PO.fieldAddr Try.underlying24 rfl (Nat.ne_of_beq_eq_false rfl) (Ev.tmp rfl)) (Nat.le_of_ble_eq_true rfl) ?_
    refine WL.po (PO.load1 Try.underlying22 rfl (Ev.tmp rfl) (by (repeat (first | exact List.Mem.head _ | apply List.Mem.tail))) rfl) (Nat.le_of_ble_eq_true rfl) ?_
    refine WL.po (PO.lenSl Try.underlying22 (Ev.tmp rfl)) (Nat.le_of_ble_eq_true rfl) ?_
    refine WL.po (PO.eq (PO.conv Try.underlying3 Try.underlying37 (Ev.tmp rfl)) (congrArg (Value.int .u32) (len_u32 _ q2))) (Nat.le_of_ble_eq_true rfl) ?_
    refine WL.perm (Del.perm (r := .row _ _ _ _ _) (by (repeat (first | exact Del.here | apply Del.next)))) ?_
    refine WL.call (Ev.tmp rfl) (Evs.cons (Ev.tmp rfl) Evs.nil) (num_ct code.length (by omega) magic (4 + (4 + (4 + (code.length + 4)))) _ _ _ _ _ (by show 4 + _ = _; omega) (Nat.le_refl _) (by omega) _ _) (Nat.le_of_ble_eq_true rfl) ?_
    rintro _ m2 _ hm2 rfl
    refine WL.nil (keepF (ts := [0, 1, 2, 3, 4, 5, 6, 9]) rfl (toK (by assumption) ?_)); (try clear hG ops)
    (repeat (first | refine WC.seqK fun K hK => ?_ | refine WC.block ?_ | refine WC.regionG rfl fun ops hG => ?_))
    refine WL.po (PO.move (Ev.tmp rfl)) (Nat.le_of_ble_eq_true rfl) ?_
    refine WL.po (PO.fieldAddr Try.underlying24 rfl (Nat.ne_of_beq_eq_false rfl) (Ev.tmp rfl)) (Nat.le_of_ble_eq_true rfl) ?_
    refine WL.po (PO.load1 Try.underlying3 rfl (Ev.tmp rfl) (by (repeat (first | exact List.Mem.head _ | apply List.Mem.tail))) rfl) (Nat.le_of_ble_eq_true rfl) ?_
    refine WL.po (PO.eq (PO.conv Try.underlying3 Try.underlying37 (Ev.tmp rfl)) (congrArg (Value.int .u32) (u32_of e q3 (by omega)))) (Nat.le_of_ble_eq_true rfl) ?_
    refine WL.call (Ev.tmp rfl) (Evs.cons (Ev.tmp rfl) Evs.nil) (num_ct e.toNat (by omega) _ (4 + (4 + (code.length + 4))) _ _ _ _ _ (by simp [magic, le4]; omega) (Nat.le_refl _) (by omega) _ _) (Nat.le_of_ble_eq_true rfl) ?_
    rintro _ m3 _ hm3 rfl
    refine WL.nil (keepF (ts := [0, 1, 2, 3, 4, 5, 6, 9]) rfl (toK (by assumption) ?_)); (try clear hG ops)
    (repeat (first | refine WC.seqK fun K hK => ?_ | refine WC.block ?_ | refine WC.regionG rfl fun ops hG => ?_))
    refine WL.po (PO.move (Ev.tmp rfl)) (Nat.le_of_ble_eq_true rfl) ?_
    refine WL.po (PO.fieldAddr Try.underlying24 rfl (Nat.ne_of_beq_eq_false rfl) (Ev.tmp rfl)) (Nat.le_of_ble_eq_true rfl) ?_
    refine WL.po (PO.load1 Try.underlying3 rfl (Ev.tmp rfl) (by (repeat (first | exact List.Mem.head _ | apply List.Mem.tail))) rfl) (Nat.le_of_ble_eq_true rfl) ?_
    refine WL.po (PO.eq (PO.conv Try.underlying3 Try.underlying37 (Ev.tmp rfl)) (congrArg (Value.int .u32) (u32_of a q5 (by omega)))) (Nat.le_of_ble_eq_true rfl) ?_
    refine WL.call (Ev.tmp rfl) (Evs.cons (Ev.tmp rfl) Evs.nil) (num_ct a.toNat (by omega) _ (4 + (code.length + 4)) _ _ _ _ _ (by simp [magic, le4]; omega) (Nat.le_refl _) (by omega) _ _) (Nat.le_of_ble_eq_true rfl) ?_
    rintro _ m4 _ hm4 rfl
    refine WL.nil (keepF (ts := [0, 1, 2, 3, 4, 5, 6, 9]) rfl (toK (by assumption) ?_)); (try clear hG ops)
    (repeat (first | refine WC.seqK fun K hK => ?_ | refine WC.block ?_ | refine WC.regionG rfl fun ops hG => ?_))
    refine WL.po (PO.move (Ev.tmp rfl)) (Nat.le_of_ble_eq_true rfl) ?_
    refine WL.po (PO.fieldAddr Try.underlying24 rfl (Nat.ne_of_beq_eq_false rfl) (Ev.tmp rfl)) (Nat.le_of_ble_eq_true rfl) ?_
    refine WL.po (PO.load1 Try.underlying3 rfl (Ev.tmp rfl) (by (repeat (first | exact List.Mem.head _ | apply List.Mem.tail))) rfl) (Nat.le_of_ble_eq_true rfl) ?_
    refine WL.po (PO.eq (PO.conv Try.underlying3 Try.underlying37 (Ev.tmp rfl)) (congrArg (Value.int .u32) (u32_of b q7 (by omega)))) (Nat.le_of_ble_eq_true rfl) ?_
    refine WL.call (Ev.tmp rfl) (Evs.cons (Ev.tmp rfl) Evs.nil) (num_ct b.toNat (by omega) _ (code.length + 4) _ _ _ _ _ (by simp [magic, le4]; omega) (Nat.le_refl _) (by omega) _ _) (Nat.le_of_ble_eq_true rfl) ?_
    rintro _ m5 _ hm5 rfl
    refine WL.nil (keepF (ts := [0, 1, 2, 3, 4, 5, 6, 9]) rfl (toK (by assumption) ?_)); (try clear hG ops)
    (repeat (first | refine WC.seqK fun K hK => ?_ | refine WC.block ?_ | refine WC.regionG rfl fun ops hG => ?_))
    have hpl : (magic ++ le4 code.length ++ le4 e.toNat ++ le4 a.toNat ++ le4 b.toNat).length = 20 := by simp [magic, le4]
    have hbody : magic ++ le4 code.length ++ le4 e.toNat ++ le4 a.toNat ++ le4 b.toNat ++ code = body code e.toNat a.toNat b.toNat := rfl
    have hbl := body_len code e.toNat a.toNat b.toNat
    generalize magic ++ le4 code.length ++ le4 e.toNat ++ le4 a.toNat ++ le4 b.toNat = pre at hpl hbody ⊢
    have hsp := splice_pre pre code 4
    rw [hbody] at hsp
    have hbl2 : ((body code e.toNat a.toNat b.toNat).length : Int) = (pre.length : Int) + code.length := by omega
    refine WC.drawS [6] [0, 1, 2, 3, 4, 5, 6, 7] [8] (.pt b5 _ :: .pt b4 _ :: .pt b1 _ :: h) [_] mixed (by kernel_rfl) ?_
    refine SR.po rfl rfl (PO.load1 Try.underlying3 rfl (Ev.tmp rfl) (by (repeat (first | exact List.Mem.head _ | apply List.Mem.tail))) rfl) (Nat.le_of_ble_eq_true rfl) ?_
    refine SR.po rfl rfl (PO.load1 Try.underlying22 rfl (Ev.tmp rfl) (by (repeat (first | exact List.Mem.head _ | apply List.Mem.tail))) rfl) (Nat.le_of_ble_eq_true rfl) ?_
    refine SR.po rfl rfl (PO.load1 Try.underlying3 rfl (Ev.tmp rfl) (by (repeat (first | exact List.Mem.head _ | apply List.Mem.tail))) rfl) (Nat.le_of_ble_eq_true rfl) ?_
    refine SR.po rfl rfl (PO.sliceL EL22.und EL22.size (Ev.tmp rfl) (Ev.tmp rfl) rfl (by omega)) (Nat.le_of_ble_eq_true rfl) ?_
    refine SR.po rfl rfl (PO.fieldAddr Try.underlying24 rfl (Nat.ne_of_beq_eq_false rfl) (Ev.tmp rfl)) (Nat.le_of_ble_eq_true rfl) ?_
    refine SR.po rfl rfl (PO.load1 Try.underlying22 rfl (Ev.tmp rfl) (by (repeat (first | exact List.Mem.head _ | apply List.Mem.tail))) rfl) (Nat.le_of_ble_eq_true rfl) ?_
    refine SR.copy rfl rfl EL22 (Ev.tmp rfl) (Ev.tmp rfl) (h1.mono (hm.trans (hm2.trans (hm3.trans (hm4.trans hm5)))) (by (repeat (first | exact List.Sublist.refl _ | refine List.Sublist.cons_cons _ ?_ | apply List.Sublist.cons)))) (bv_one _) q1 (by omega) (by omega) Upd.here (Nat.le_of_ble_eq_true rfl) ?_
    rw [hsp]
    refine SR.po rfl rfl (PO.eq (PO.addI (Ev.tmp rfl) (Ev.tmp rfl) (by omega)) (congrArg (Value.int .i64) hbl2.symm)) (Nat.le_of_ble_eq_true rfl) ?_
    refine SR.nil rfl rfl ?_
    refine WL.store rfl (Ev.tmp rfl) (Ev.tmp rfl) rfl rfl rfl rfl (by (repeat (first | exact Upd.here | apply Upd.next))) ?_
    refine WL.nil (keepF (ts := [0, 1, 2, 3, 4, 5, 6, 9]) rfl (toK (by assumption) ?_)); (try clear hG ops)
    (repeat (first | refine WC.seqK fun K hK => ?_ | refine WC.block ?_ | refine WC.regionG rfl fun ops hG => ?_))
    generalize hbd : body code e.toNat a.toNat b.toNat = bd at hbl ⊢
    refine WL.po (PO.move (Ev.tmp rfl)) (Nat.le_of_ble_eq_true rfl) ?_
    refine WL.po (PO.load1 Try.underlying22 rfl (Ev.tmp rfl) (by (repeat (first | exact List.Mem.head _ | apply List.Mem.tail))) rfl) (Nat.le_of_ble_eq_true rfl) ?_
    refine WL.po (PO.load1 Try.underlying3 rfl (Ev.tmp rfl) (by (repeat (first | exact List.Mem.head _ | apply List.Mem.tail))) rfl) (Nat.le_of_ble_eq_true rfl) ?_
    refine WL.po (PO.sliceH EL22.und EL22.size (Ev.tmp rfl) (Ev.tmp rfl) rfl (by omega)) (Nat.le_of_ble_eq_true rfl) ?_
    refine WL.call Ev.func (Evs.cons (Ev.tmp rfl) Evs.nil) (sum_ct _ _ _ bd _ _ (Rd_pre (Rd.ofRow (by simp [bv_len, zer, hbl]) (Nat.le_refl _) (by omega) (List.Mem.head _)) (by omega))) (Nat.le_of_ble_eq_true rfl) ?_
    rintro _ m6 _ hm6 ⟨rfl, rfl⟩
    refine WL.call (Ev.tmp rfl) (Evs.cons (Ev.tmp rfl) Evs.nil) (num_ct (crc bd).toNat (crc bd).isLt bd 0 _ _ _ _ _ (by omega) (Nat.le_refl _) (by omega) _ _) (Nat.le_of_ble_eq_true rfl) ?_
    rintro _ m7 _ hm7 rfl
    rw [enc_row]
    refine WL.nil (keepF (ts := [0, 1, 2, 3, 4, 5, 6, 9]) rfl (toK (by assumption) ?_)); (try clear hG ops)
    (repeat (first | refine WC.seqK fun K hK => ?_ | refine WC.block ?_ | refine WC.regionG rfl fun ops hG => ?_))
    refine WL.po (PO.load1 Try.underlying22 rfl (Ev.tmp rfl) (by (repeat (first | exact List.Mem.head _ | apply List.Mem.tail))) rfl) (Nat.le_of_ble_eq_true rfl) ?_
    refine WL.po (PO.assign (Ev.tmp rfl)) (Nat.le_of_ble_eq_true rfl) ?_
    refine WL.po (PO.assign Ev.const) (Nat.le_of_ble_eq_true rfl) ?_
    refine WL.nil (keepF (ts := [0, 1, 2, 3, 4, 5, 6, 9]) rfl (toK (by assumption) ?_)); (try clear hG ops)
    have he : bd ++ le4 (crc bd).toNat = enc code e.toNat a.toNat b.toNat := by unfold enc; rw [hbd]
    rw [he]
    exact WC.ret (end2 (.inl rfl) rfl (RV.tmp rfl) (RV.tmp rfl) (hm.trans (hm2.trans (hm3.trans (hm4.trans (hm5.trans (hm6.trans hm7)))))) (by (repeat (first | exact List.Sublist.refl _ | refine List.Sublist.cons_cons _ ?_ | apply List.Sublist.cons))) (.inr ⟨hmay, _, _, rfl, rfl⟩))

theorem putR_ct (s : Option Addr) (c : Nat) (code : List UInt8) (e a b : Int) (h : List Res) (m : View) (h1 : Rd m h s code.length c 1 (bv code)) :
    CT Try.prog 12 [.agg #[.slice s code.length c, .int .i64 e, .int .i64 a, .int .i64 b]] h m (PutR h code e a b) := by
  refine CT.body Try.call12 Try.func12 rfl Try.ntmps12 (Nat.le_of_ble_eq_true rfl) rfl ?_
  (repeat (first | refine WC.seqK fun K hK => ?_ | refine WC.block ?_ | refine WC.regionG rfl fun ops hG => ?_))
  refine WL.box (Ev.tmp rfl) rfl (Nat.le_of_ble_eq_true rfl) fun b1 => ?_
  refine WL.po (PO.assign Ev.const) (Nat.le_of_ble_eq_true rfl) ?_
  refine WL.po (PO.assign Ev.const) (Nat.le_of_ble_eq_true rfl) ?_
  refine WL.nil (keepF (ts := [0, 1, 2, 3, 4, 7]) rfl (toK (by assumption) ?_)); (try clear hG ops)
  (repeat (first | refine WC.seqK fun K hK => ?_ | refine WC.block ?_ | refine WC.regionG rfl fun ops hG => ?_))
  refine WL.po (PO.loadA Try.underlying24 rfl rfl (Ev.tmp rfl) (by (repeat (first | exact List.Mem.head _ | apply List.Mem.tail))) rfl) (Nat.le_of_ble_eq_true rfl) ?_
  refine WL.call Ev.func (Evs.cons (Ev.tmp rfl) Evs.nil) (mayR_ct _ _ _ _ _ _ _ _) (Nat.le_of_ble_eq_true rfl) ?_
  rintro _ m1 _ hm ⟨rfl, rfl⟩
  refine WL.po (PO.not (Ev.tmp rfl)) (Nat.le_of_ble_eq_true rfl) ?_
  refine WL.nil (keepF (ts := [0, 1, 2, 3, 4, 7]) rfl (toK (by assumption) ?_)); (try clear hG ops)
  (repeat (first | refine WC.seqK fun K hK => ?_ | refine WC.block ?_ | refine WC.regionG rfl fun ops hG => ?_))
  refine WC.cond (Ev.tmp rfl) (fun hc => ?_) (fun hc => ?_)
  · (repeat (first | refine WC.seqK fun K hK => ?_ | refine WC.block ?_ | refine WC.regionG rfl fun ops hG => ?_))
    refine WL.po (PO.assign Ev.const) (Nat.le_of_ble_eq_true rfl) ?_
    refine WL.po (PO.assign Ev.const) (Nat.le_of_ble_eq_true rfl) ?_
    refine WL.nil (keepF (ts := [0, 1, 2, 3, 4, 7]) rfl (toK (by assumption) ?_)); (try clear hG ops)
    exact WC.ret (end2 (.inl rfl) rfl (RV.tmp rfl) (RV.tmp rfl) hm (by (repeat (first | exact List.Sublist.refl _ | refine List.Sublist.cons_cons _ ?_ | apply List.Sublist.cons))) (.inl ⟨by simpa using hc, rfl, rfl⟩))
  · refine WC.skip (keepF (ts := [0, 1, 2, 3, 4, 7]) rfl (toK (by assumption) ?_))
    have hmay : mayB code.length e a b = true := by simpa using hc
    obtain ⟨q1, q2, q3, q4, q5, q6, q7, q8⟩ := mayB_spec hmay
    (repeat (first | refine WC.seqK fun K hK => ?_ | refine WC.block ?_ | refine WC.regionG rfl fun ops hG => ?_))
    refine WL.buildSlice EL22 rfl (EvP.cons Ev.const (EvP.cons Ev.const (EvP.cons Ev.const (EvP.cons Ev.const EvP.nil)))) rfl rfl (by decide) rfl (Nat.le_of_ble_eq_true rfl) fun b8 => ?_
    refine WL.ptRow (cs := bv magic) (k := 4) (sz := 1) rfl (by decide) Upd.here ?_
    refine WL.po (PO.assign (Ev.tmp rfl)) (Nat.le_of_ble_eq_true rfl) ?_
    refine WL.nil (keepF (ts := [0, 1, 2, 3, 4, 7]) rfl (toK (by assumption) ?_)); (try clear hG ops)
    (repeat (first | refine WC.seqK fun K hK => ?_ | refine WC.block ?_ | refine WC.regionG rfl fun ops hG => ?_))
    refine WL.po (PO.move (Ev.tmp rfl)) (Nat.le_of_ble_eq_true rfl) ?_
    refine WL.po (PO.fieldAddr Try.underlying24 rfl (Nat.ne_of_beq_eq_false rfl) (Ev.tmp rfl)) (Nat.le_of_ble_eq_true rfl) ?_
    refine WL.po (PO.load1 Try.underlying22 rfl (Ev.tmp rfl) (by (repeat (first | exact List.Mem.head _ | apply List.Mem.tail))) rfl) (Nat.le_of_ble_eq_true rfl) ?_
    refine WL.po (PO.lenSl Try.underlying22 (Ev.tmp rfl)) (Nat.le_of_ble_eq_true rfl) ?_
    refine WL.po (PO.eq (PO.conv Try.underlying3 Try.underlying37 (Ev.tmp rfl)) (congrArg (Value.int .u32) (len_u32 _ q2))) (Nat.le_of_ble_eq_true rfl) ?_
    refine WL.call Ev.func (Evs.cons (Ev.tmp rfl) Evs.nil) (four_ct _ (by omega) _ _) (Nat.le_of_ble_eq_true rfl) ?_
    rintro _ m2 _ hm2 ⟨b2, rfl, rfl⟩
    refine WL.append EL22 (Ev.tmp rfl) (Ev.tmp rfl) (Rd.ofPt rfl (by omega) (List.Mem.head _)) (bv_one _) (by omega) (by omega) (fun v' => Upd.next Upd.here) (Nat.le_of_ble_eq_true rfl) fun a2 c2 => ?_
    rw [bv_app]
    refine WL.po (PO.assign (Ev.tmp rfl)) (Nat.le_of_ble_eq_true rfl) ?_
    refine WL.nil (keepF (ts := [0, 1, 2, 3, 4, 7]) rfl (toK (by assumption) ?_)); (try clear hG ops)
    (repeat (first | refine WC.seqK fun K hK => ?_ | refine WC.block ?_ | refine WC.regionG rfl fun ops hG => ?_))
    refine WL.po (PO.move (Ev.tmp rfl)) (Nat.le_of_ble_eq_true rfl) ?_
    refine WL.po (PO.fieldAddr Try.underlying24 rfl (Nat.ne_of_beq_eq_false rfl) (Ev.tmp rfl)) (Nat.le_of_ble_eq_true rfl) ?_
    refine WL.po (PO.load1 Try.underlying3 rfl (Ev.tmp rfl) (by (repeat (first | exact List.Mem.head _ | apply List.Mem.tail))) rfl) (Nat.le_of_ble_eq_true rfl) ?_
    refine WL.po (PO.eq (PO.conv Try.underlying3 Try.underlying37 (Ev.tmp rfl)) (congrArg (Value.int .u32) (u32_of e q3 (by omega)))) (Nat.le_of_ble_eq_true rfl) ?_
    refine WL.call Ev.func (Evs.cons (Ev.tmp rfl) Evs.nil) (four_ct _ (by omega) _ _) (Nat.le_of_ble_eq_true rfl) ?_
    rintro _ m3 _ hm3 ⟨b3, rfl, rfl⟩
    refine WL.append EL22 (Ev.tmp rfl) (Ev.tmp rfl) (Rd.ofPt rfl (by omega) (List.Mem.head _)) (bv_one _) (by omega) (by omega) (fun v' => Upd.next (Upd.next Upd.here)) (Nat.le_of_ble_eq_true rfl) fun a3 c3 => ?_
    rw [bv_app]
    refine WL.po (PO.assign (Ev.tmp rfl)) (Nat.le_of_ble_eq_true rfl) ?_
    refine WL.nil (keepF (ts := [0, 1, 2, 3, 4, 7]) rfl (toK (by assumption) ?_)); (try clear hG ops)
    (repeat (first | refine WC.seqK fun K hK => ?_ | refine WC.block ?_ | refine WC.regionG rfl fun ops hG => ?_))
    refine WL.po (PO.move (Ev.tmp rfl)) (Nat.le_of_ble_eq_true rfl) ?_
    refine WL.po (PO.fieldAddr Try.underlying24 rfl (Nat.ne_of_beq_eq_false rfl) (Ev.tmp rfl)) (Nat.le_of_ble_eq_true rfl) ?_
    refine WL.po (PO.load1 Try.underlying3 rfl (Ev.tmp rfl) (by (repeat (first | exact List.Mem.head _ | apply List.Mem.tail))) rfl) (Nat.le_of_ble_eq_true rfl) ?_
    refine WL.po (PO.eq (PO.conv Try.underlying3 Try.underlying37 (Ev.tmp rfl)) (congrArg (Value.int .u32) (u32_of a q5 (by omega)))) (Nat.le_of_ble_eq_true rfl) ?_
    refine WL.call Ev.func (Evs.cons (Ev.tmp rfl) Evs.nil) (four_ct _ (by omega) _ _) (Nat.le_of_ble_eq_true rfl) ?_
    rintro _ m4 _ hm4 ⟨b4, rfl, rfl⟩
    refine WL.append EL22 (Ev.tmp rfl) (Ev.tmp rfl) (Rd.ofPt rfl (by omega) (List.Mem.head _)) (bv_one _) (by omega) (by omega) (fun v' => Upd.next (Upd.next (Upd.next Upd.here))) (Nat.le_of_ble_eq_true rfl) fun a4 c4 => ?_
    rw [bv_app]
    refine WL.po (PO.assign (Ev.tmp rfl)) (Nat.le_of_ble_eq_true rfl) ?_
    refine WL.nil (keepF (ts := [0, 1, 2, 3, 4, 7]) rfl (toK (by assumption) ?_)); (try clear hG ops)
    (repeat (first | refine WC.seqK fun K hK => ?_ | refine WC.block ?_ | refine WC.regionG rfl fun ops hG => ?_))
    refine WL.po (PO.move (Ev.tmp rfl)) (Nat.le_of_ble_eq_true rfl) ?_
    refine WL.po (PO.fieldAddr Try.underlying24 rfl (Nat.ne_of_beq_eq_false rfl) (Ev.tmp rfl)) (Nat.le_of_ble_eq_true rfl) ?_
    refine WL.po (PO.load1 Try.underlying3 rfl (Ev.tmp rfl) (by (repeat (first | exact List.Mem.head _ | apply List.Mem.tail))) rfl) (Nat.le_of_ble_eq_true rfl) ?_
    refine WL.po (PO.eq (PO.conv Try.underlying3 Try.underlying37 (Ev.tmp rfl)) (congrArg (Value.int .u32) (u32_of b q7 (by omega)))) (Nat.le_of_ble_eq_true rfl) ?_
    refine WL.call Ev.func (Evs.cons (Ev.tmp rfl) Evs.nil) (four_ct _ (by omega) _ _) (Nat.le_of_ble_eq_true rfl) ?_
    rintro _ m5 _ hm5 ⟨b5, rfl, rfl⟩
    refine WL.append EL22 (Ev.tmp rfl) (Ev.tmp rfl) (Rd.ofPt rfl (by omega) (List.Mem.head _)) (bv_one _) (by omega) (by omega) (fun v' => Upd.next (Upd.next (Upd.next (Upd.next Upd.here)))) (Nat.le_of_ble_eq_true rfl) fun a5 c5 => ?_
    rw [bv_app]
    refine WL.po (PO.assign (Ev.tmp rfl)) (Nat.le_of_ble_eq_true rfl) ?_
    refine WL.nil (keepF (ts := [0, 1, 2, 3, 4, 7]) rfl (toK (by assumption) ?_)); (try clear hG ops)
    (repeat (first | refine WC.seqK fun K hK => ?_ | refine WC.block ?_ | refine WC.regionG rfl fun ops hG => ?_))
    refine WL.po (PO.move (Ev.tmp rfl)) (Nat.le_of_ble_eq_true rfl) ?_
    refine WL.po (PO.fieldAddr Try.underlying24 rfl (Nat.ne_of_beq_eq_false rfl) (Ev.tmp rfl)) (Nat.le_of_ble_eq_true rfl) ?_
    refine WL.po (PO.load1 Try.underlying22 rfl (Ev.tmp rfl) (by (repeat (first | exact List.Mem.head _ | apply List.Mem.tail))) rfl) (Nat.le_of_ble_eq_true rfl) ?_
    refine WL.append EL22 (Ev.tmp rfl) (Ev.tmp rfl) (h1.mono (hm.trans (hm2.trans (hm3.trans (hm4.trans hm5)))) (by (repeat (first | exact List.Sublist.refl _ | refine List.Sublist.cons_cons _ ?_ | apply List.Sublist.cons)))) (bv_one _) (by omega) (by omega) (fun v' => Upd.next (Upd.next (Upd.next (Upd.next Upd.here)))) (Nat.le_of_ble_eq_true rfl) fun a6 c6 => ?_
    rw [bv_app, show magic ++ le4 code.length ++ le4 e.toNat ++ le4 a.toNat ++ le4 b.toNat ++ code = body code e.toNat a.toNat b.toNat from rfl]
    refine WL.po (PO.assign (Ev.tmp rfl)) (Nat.le_of_ble_eq_true rfl) ?_
    refine WL.nil (keepF (ts := [0, 1, 2, 3, 4, 7]) rfl (toK (by assumption) ?_)); (try clear hG ops)
    have hbl := body_len code e.toNat a.toNat b.toNat
    generalize hbd : body code e.toNat a.toNat b.toNat = bd at hbl ⊢
    (repeat (first | refine WC.seqK fun K hK => ?_ | refine WC.block ?_ | refine WC.regionG rfl fun ops hG => ?_))
    refine WL.po (PO.move (Ev.tmp rfl)) (Nat.le_of_ble_eq_true rfl) ?_
    refine WL.po (PO.move (Ev.tmp rfl)) (Nat.le_of_ble_eq_true rfl) ?_
    refine WL.knowRow (a := a6) (by (repeat (first | exact List.Mem.head _ | apply List.Mem.tail))) fun hk1 hk2 hk3 => ?_
    refine WL.call Ev.func (Evs.cons (Ev.tmp rfl) Evs.nil) (sumR_ct _ _ _ bd _ _ (Rd.ofRow hk3 hk1 hk2 (by (repeat (first | exact List.Mem.head _ | apply List.Mem.tail))))) (Nat.le_of_ble_eq_true rfl) ?_
    rintro _ m6 _ hm6 ⟨rfl, rfl⟩
    refine WL.call Ev.func (Evs.cons (Ev.tmp rfl) Evs.nil) (four_ct _ (crc bd).isLt _ _) (Nat.le_of_ble_eq_true rfl) ?_
    rintro _ m7 _ hm7 ⟨b7, rfl, rfl⟩
    refine WL.append EL22 (Ev.tmp rfl) (Ev.tmp rfl) (Rd.ofPt rfl (by omega) (List.Mem.head _)) (bv_one _) (by omega) (by omega) (fun v' => Upd.next (Upd.next (Upd.next (Upd.next (Upd.next Upd.here))))) (Nat.le_of_ble_eq_true rfl) fun a7 c7 => ?_
    rw [bv_app]
    refine WL.po (PO.assign (Ev.tmp rfl)) (Nat.le_of_ble_eq_true rfl) ?_
    refine WL.po (PO.assign Ev.const) (Nat.le_of_ble_eq_true rfl) ?_
    refine WL.nil (keepF (ts := [0, 1, 2, 3, 4, 7]) rfl (toK (by assumption) ?_)); (try clear hG ops)
    rw [show 4 + 4 + 4 + 4 + 4 + code.length + 4 = code.length + 24 from by omega]
    have he : bd ++ le4 (crc bd).toNat = enc code e.toNat a.toNat b.toNat := by unfold enc; rw [hbd]
    rw [he]
    exact WC.ret (end2 (.inl rfl) rfl (RV.tmp rfl) (RV.tmp rfl) (hm.trans (hm2.trans (hm3.trans (hm4.trans (hm5.trans (hm6.trans hm7)))))) (by (repeat (first | exact List.Sublist.refl _ | refine List.Sublist.cons_cons _ ?_ | apply List.Sublist.cons))) (.inr ⟨hmay, _, _, rfl, rfl⟩))
end Go.Proofs.Ytdfobghpbbohdaa

/- The law Linear. -/
import Derived.Test.YtdfobghpbbohdaaObjE
import Derived.Test.YtdfobghpbbohdaaObjP
namespace Go.Eng
open Go Go.RowKit
theorem PO.min3 {P : Program} {n : Nat} {F : Fm} {h : List Res} {m : View} {ty : TypeId} {pos : String} {after : Array Edge} {dst : Option Tmp} {g : Option (Nat × Bool)} {x y z : Operand} {ts : Array TypeId} {a b c : Nat}
    (ex : Ev n F x (.int .i64 a)) (ey : Ev n F y (.int .i64 b)) (ez : Ev n F z (.int .i64 c)) :
    PO P ⟨dst, .call ⟨.builtin .min, #[x, y, z], ts⟩, ty, pos, after, g⟩ n F h m (.int .i64 (min a (min b c) : Nat)) := .mk fun f w ha _ => by
  have e : (if (c : Int) < (if (b : Int) < a then (b : Int) else a) then (c : Int) else (if (b : Int) < a then (b : Int) else a)) = ((min a (min b c) : Nat) : Int) := by
    split <;> split <;> omega
  rw [← e]
  simp [execOp, resolve, invoke, builtin, ex f ha, ey f ha, ez f ha, Builtin.min_, Builtin.min2]
end Go.Eng
namespace Go.Proofs.Ytdfobghpbbohdaa
open Go.Eng Go.Obj

theorem linear_law (s0 s1 s2 : Option Addr) (n0 c0 n1 c1 n2 c2 : Nat) (us bs cs : List UInt8) (h : List Res) (m : View) (h0 : Rd m h s0 n0 c0 1 (bv us)) (h1 : Rd m h s1 n1 c1 1 (bv bs)) (h2 : Rd m h s2 n2 c2 1 (bv cs)) (hb : n0 ≤ 140737488355328) :
    CT Try.prog 8 [.slice s0 n0 c0, .slice s1 n1 c1, .slice s2 n2 c2] h m Law := by
  have hl0 := h0.lenB
  have hl1 := h1.lenB
  have hl2 := h2.lenB
  have hX := x3_len us bs cs
  generalize hN : min n0 (min n1 n2) = N
  have hXN : (x3 us bs cs).length = N := by omega
  refine CT.body Try.call8 Try.func8 rfl Try.ntmps8 (Nat.le_of_ble_eq_true rfl) rfl ?_
  (repeat (first | refine WC.seqK fun K hK => ?_ | refine WC.block ?_ | refine WC.regionG rfl fun ops hG => ?_))
  refine WL.po (PO.assign Ev.const) (Nat.le_of_ble_eq_true rfl) ?_
  refine WL.nil (keepF (ts := [0, 1, 2, 6, 7, 8, 9, 20, 21, 22]) rfl (toK (by assumption) ?_)); (try clear hG ops)
  (repeat (first | refine WC.seqK fun K hK => ?_ | refine WC.block ?_ | refine WC.regionG rfl fun ops hG => ?_))
  refine WL.po (PO.move (Ev.tmp rfl)) (Nat.le_of_ble_eq_true rfl) ?_
  refine WL.po (PO.lenSl Try.underlying22 (Ev.tmp rfl)) (Nat.le_of_ble_eq_true rfl) ?_
  refine WL.po (PO.move (Ev.tmp rfl)) (Nat.le_of_ble_eq_true rfl) ?_
  refine WL.po (PO.lenSl Try.underlying22 (Ev.tmp rfl)) (Nat.le_of_ble_eq_true rfl) ?_
  refine WL.po (PO.move (Ev.tmp rfl)) (Nat.le_of_ble_eq_true rfl) ?_
  refine WL.po (PO.lenSl Try.underlying22 (Ev.tmp rfl)) (Nat.le_of_ble_eq_true rfl) ?_
  refine WL.po (PO.eq (PO.min3 (Ev.tmp rfl) (Ev.tmp rfl) (Ev.tmp rfl)) (congrArg (fun k : Nat => Value.int .i64 k) hN)) (Nat.le_of_ble_eq_true rfl) ?_
  refine WL.po (PO.assign (Ev.tmp rfl)) (Nat.le_of_ble_eq_true rfl) ?_
  refine WL.nil (keepF (ts := [0, 1, 2, 6, 7, 8, 9, 20, 21, 22]) rfl (toK (by assumption) ?_)); (try clear hG ops)
  (repeat (first | refine WC.seqK fun K hK => ?_ | refine WC.block ?_ | refine WC.regionG rfl fun ops hG => ?_))
  refine WL.po (PO.move (Ev.tmp rfl)) (Nat.le_of_ble_eq_true rfl) ?_
  refine WL.make EL22 rfl rfl (Ev.tmp rfl) (Ev.tmp rfl) rfl (by omega) (by omega) (Nat.le_of_ble_eq_true rfl) fun b8 => ?_
  refine WL.po (PO.assign (Ev.tmp rfl)) (Nat.le_of_ble_eq_true rfl) ?_
  refine WL.nil (keepF (ts := [0, 1, 2, 6, 7, 8, 9, 20, 21, 22]) rfl (toK (by assumption) ?_)); (try clear hG ops)
  (repeat (first | refine WC.seqK fun K hK => ?_ | refine WC.block ?_ | refine WC.regionG rfl fun ops hG => ?_))
  refine WL.po (PO.move (Ev.tmp rfl)) (Nat.le_of_ble_eq_true rfl) ?_
  refine WL.po (PO.lenSl Try.underlying22 (Ev.tmp rfl)) (Nat.le_of_ble_eq_true rfl) ?_
  refine WL.po (PO.move Ev.const) (Nat.le_of_ble_eq_true rfl) ?_
  refine WL.nil (keepF (ts := [0, 1, 2, 6, 7, 8, 9, 20, 21, 22]) rfl (toK (by assumption) ?_)); (try clear hG ops)
  (repeat (first | refine WC.seqK fun K hK => ?_ | refine WC.block ?_ | refine WC.regionG rfl fun ops hG => ?_))
  refine WC.loop (fun μ F h' m' => ∃ i : Nat, i ≤ N ∧ μ = N - i ∧ F = [(0, .slice s0 n0 c0), (1, .slice s1 n1 c1), (2, .slice s2 n2 c2), (7, .int .i64 N), (8, .slice (some ⟨b8, 0, none⟩) N N), (20, .int .i64 N), (21, .int .i64 i)] ∧
      h' = .row (.slice (some ⟨b8, 0, none⟩) N N) 5 1 N (bv ((x3 us bs cs).take i) ++ zer (N - i)) :: h ∧ m' = m) N
    [(0, .slice s0 n0 c0), (1, .slice s1 n1 c1), (2, .slice s2 n2 c2), (7, .int .i64 N), (8, .slice (some ⟨b8, 0, none⟩) N N), (20, .int .i64 N), (21, .int .i64 (0 : Nat))] (by (repeat (first | exact Sub.nil | refine Sub.cons rfl ?_))) ⟨0, by omega, by omega, rfl, by simp [bv, zer], rfl⟩ ?_
  rintro _ _ _ _ ⟨i, hi, rfl, rfl, rfl, rfl⟩
  (repeat (first | refine WC.seqK fun K hK => ?_ | refine WC.block ?_ | refine WC.regionG rfl fun ops hG => ?_))
  refine WL.po (PO.bin (Ev.tmp rfl) (Ev.tmp rfl) rfl) (Nat.le_of_ble_eq_true rfl) ?_
  refine WL.nil (keepF (ts := [0, 1, 2, 6, 7, 8, 9, 20, 21, 22]) rfl (toK (by assumption) ?_)); (try clear hG ops)
  (repeat (first | refine WC.seqK fun K hK => ?_ | refine WC.block ?_ | refine WC.regionG rfl fun ops hG => ?_))
  refine WC.cond (Ev.tmp rfl) (fun hc => ?_) (fun hc => ?_)
  · simp only [decide_eq_true_eq] at hc
    have hiN : i < N := by omega
    have ha : us[i]? = some (us[i]'(by omega)) := List.getElem?_eq_getElem (by omega)
    have hb' : bs[i]? = some (bs[i]'(by omega)) := List.getElem?_eq_getElem (by omega)
    have hc' : cs[i]? = some (cs[i]'(by omega)) := List.getElem?_eq_getElem (by omega)
    generalize us[i]'(by omega) = a at ha
    generalize bs[i]'(by omega) = b at hb'
    generalize cs[i]'(by omega) = d at hc'
    have hx := x3_get us bs cs i a b d ha hb' hc'
    refine WC.skip (keepF (ts := [0, 1, 2, 6, 7, 8, 9, 20, 21, 22]) rfl (toK (by assumption) ?_))
    (repeat (first | refine WC.seqK fun K hK => ?_ | refine WC.block ?_ | refine WC.regionG rfl fun ops hG => ?_))
    refine WL.po (PO.move (Ev.tmp rfl)) (Nat.le_of_ble_eq_true rfl) ?_
    refine WL.po (PO.assign (Ev.tmp rfl)) (Nat.le_of_ble_eq_true rfl) ?_
    refine WL.nil (keepF (ts := [0, 1, 2, 6, 7, 8, 9, 20, 21, 22]) rfl (toK (by assumption) ?_)); (try clear hG ops)
    (repeat (first | refine WC.seqK fun K hK => ?_ | refine WC.block ?_ | refine WC.regionG rfl fun ops hG => ?_))
    refine WC.drawS [] [0, 1, 2, 3, 4, 5, 6, 7, 8, 9, 10, 11, 12, 13, 14, 15] [16, 17] (_ :: h) [] mixed (by kernel_rfl) ?_
    refine SR.po rfl rfl (PO.move (Ev.tmp rfl)) (Nat.le_of_ble_eq_true rfl) ?_
    refine SR.po rfl rfl (PO.move (Ev.tmp rfl)) (Nat.le_of_ble_eq_true rfl) ?_
    refine SR.po rfl rfl (PO.move (Ev.tmp rfl)) (Nat.le_of_ble_eq_true rfl) ?_
    refine SR.po rfl rfl (PO.move (Ev.tmp rfl)) (Nat.le_of_ble_eq_true rfl) ?_
    refine SR.po rfl rfl (PO.idx EL22.und EL22.size EL22.posz (Ev.tmp rfl) (Ev.tmp rfl) h0.cons rfl (by omega)) (Nat.le_of_ble_eq_true rfl) ?_
    refine SR.po rfl rfl (PO.loadE Try.underlying5 rfl h0.cons (Ev.tmp rfl) (by rw [Nat.mul_one]; exact bv_get ha)) (Nat.le_of_ble_eq_true rfl) ?_
    refine SR.po rfl rfl (PO.move (Ev.tmp rfl)) (Nat.le_of_ble_eq_true rfl) ?_
    refine SR.po rfl rfl (PO.move (Ev.tmp rfl)) (Nat.le_of_ble_eq_true rfl) ?_
    refine SR.po rfl rfl (PO.idx EL22.und EL22.size EL22.posz (Ev.tmp rfl) (Ev.tmp rfl) h1.cons rfl (by omega)) (Nat.le_of_ble_eq_true rfl) ?_
    refine SR.po rfl rfl (PO.loadE Try.underlying5 rfl h1.cons (Ev.tmp rfl) (by rw [Nat.mul_one]; exact bv_get hb')) (Nat.le_of_ble_eq_true rfl) ?_
    refine SR.po rfl rfl (PO.eq (PO.bin (Ev.tmp rfl) (Ev.tmp rfl) rfl) (congrArg (Value.int .u8) (bxor_u8 a b))) (Nat.le_of_ble_eq_true rfl) ?_
    refine SR.po rfl rfl (PO.move (Ev.tmp rfl)) (Nat.le_of_ble_eq_true rfl) ?_
    refine SR.po rfl rfl (PO.move (Ev.tmp rfl)) (Nat.le_of_ble_eq_true rfl) ?_
    refine SR.po rfl rfl (PO.idx EL22.und EL22.size EL22.posz (Ev.tmp rfl) (Ev.tmp rfl) h2.cons rfl (by omega)) (Nat.le_of_ble_eq_true rfl) ?_
    refine SR.po rfl rfl (PO.loadE Try.underlying5 rfl h2.cons (Ev.tmp rfl) (by rw [Nat.mul_one]; exact bv_get hc')) (Nat.le_of_ble_eq_true rfl) ?_
    refine SR.po rfl rfl (PO.eq (PO.bin (Ev.tmp rfl) (Ev.tmp rfl) rfl) (congrArg (Value.int .u8) (bxor_u8 (a ^^^ b) d))) (Nat.le_of_ble_eq_true rfl) ?_
    refine SR.nil rfl rfl ?_
    have hlen : (bv ((x3 us bs cs).take i) ++ zer (N - i)).length = N * 1 := by simp [bv, zer]; omega
    refine WL.po (PO.idx EL22.und EL22.size EL22.posz (Ev.tmp rfl) (Ev.tmp rfl) (Rd.ofRow hlen (Nat.le_refl _) (by omega) (List.Mem.head _)) rfl hiN) (Nat.le_of_ble_eq_true rfl) ?_
    refine WL.storeR rfl (Ev.tmp rfl) (Ev.tmp rfl) rfl rfl (by rw [hlen]; omega) Upd.here ?_
    rw [Nat.mul_one, show N - i = (N - (i + 1)) + 1 by omega, set_row _ _ _ _ hx]
    refine WL.nil (keepF (ts := [0, 1, 2, 6, 7, 8, 9, 20, 21, 22]) rfl (toK (by assumption) ?_)); (try clear hG ops)
    (repeat (first | refine WC.seqK fun K hK => ?_ | refine WC.block ?_ | refine WC.regionG rfl fun ops hG => ?_))
    refine WL.po (PO.addI (Ev.tmp rfl) Ev.const (by omega)) (Nat.le_of_ble_eq_true rfl) ?_
    refine WL.po (PO.move (Ev.tmp rfl)) (Nat.le_of_ble_eq_true rfl) ?_
    refine WL.nil (loopBack (N - (i + 1)) _ (by omega) ?_ ⟨i + 1, by omega, rfl, rfl, rfl, rfl⟩)
    (repeat (first | exact Sub.nil | refine Sub.cons rfl ?_))
  · simp only [decide_eq_false_iff_not] at hc
    have : i = N := by omega
    subst this
    refine WC.exit (keepF (ts := [0, 1, 2, 6, 7, 8, 9, 20, 21, 22]) rfl (toK (by assumption) ?_))
    have hz : bv ((x3 us bs cs).take i) ++ zer (i - i) = bv (x3 (us.take i) (bs.take i) (cs.take i)) := by rw [x3_take]; simp [zer]
    rw [hz]
    have hrow : (bv (x3 (us.take i) (bs.take i) (cs.take i))).length = i * 1 := by rw [x3_take]; simp [bv]; omega
    (repeat (first | refine WC.seqK fun K hK => ?_ | refine WC.block ?_ | refine WC.regionG rfl fun ops hG => ?_))
    refine WC.drawS [1, 5, 9, 14, 18] [0, 2, 3, 4, 6, 7, 8, 11, 12, 13, 1, 5, 9, 10, 14, 15, 16, 17, 18, 19] [20] (_ :: h) [] mixed (by kernel_rfl) ?_
    refine SR.po rfl rfl (PO.move (Ev.tmp rfl)) (Nat.le_of_ble_eq_true rfl) ?_
    refine SR.po rfl rfl (PO.move (Ev.tmp rfl)) (Nat.le_of_ble_eq_true rfl) ?_
    refine SR.po rfl rfl (PO.move (Ev.tmp rfl)) (Nat.le_of_ble_eq_true rfl) ?_
    refine SR.po rfl rfl (PO.sliceH EL22.und EL22.size (Ev.tmp rfl) (Ev.tmp rfl) rfl (by have := h0.le; omega)) (Nat.le_of_ble_eq_true rfl) ?_
    refine SR.po rfl rfl (PO.move (Ev.tmp rfl)) (Nat.le_of_ble_eq_true rfl) ?_
    refine SR.po rfl rfl (PO.move (Ev.tmp rfl)) (Nat.le_of_ble_eq_true rfl) ?_
    refine SR.po rfl rfl (PO.sliceH EL22.und EL22.size (Ev.tmp rfl) (Ev.tmp rfl) rfl (by have := h1.le; omega)) (Nat.le_of_ble_eq_true rfl) ?_
    refine SR.po rfl rfl (PO.move (Ev.tmp rfl)) (Nat.le_of_ble_eq_true rfl) ?_
    refine SR.po rfl rfl (PO.move (Ev.tmp rfl)) (Nat.le_of_ble_eq_true rfl) ?_
    refine SR.po rfl rfl (PO.sliceH EL22.und EL22.size (Ev.tmp rfl) (Ev.tmp rfl) rfl (by have := h2.le; omega)) (Nat.le_of_ble_eq_true rfl) ?_
    refine SR.call1 rfl rfl Ev.func (Evs.cons (Ev.tmp rfl) Evs.nil) (fun fr => sum_ct _ _ _ _ _ _ (Rd.fr (Rd.ofRow hrow (Nat.le_refl _) (by omega) (List.Mem.head _)) fr)) (Nat.le_of_ble_eq_true rfl) fun m1 hm1 => ?_
    refine SR.call1 rfl rfl Ev.func (Evs.cons (Ev.tmp rfl) Evs.nil) (fun fr => sum_ct _ _ _ _ _ _ (Rd.fr ((h0.takeB (k := i) (by omega)).mono hm1 (by (repeat (first | exact List.Sublist.refl _ | refine List.Sublist.cons_cons _ ?_ | apply List.Sublist.cons)))) fr)) (Nat.le_of_ble_eq_true rfl) fun m2 hm2 => ?_
    refine SR.call1 rfl rfl Ev.func (Evs.cons (Ev.tmp rfl) Evs.nil) (fun fr => sum_ct _ _ _ _ _ _ (Rd.fr ((h1.takeB (k := i) (by omega)).mono (hm1.trans hm2) (by (repeat (first | exact List.Sublist.refl _ | refine List.Sublist.cons_cons _ ?_ | apply List.Sublist.cons)))) fr)) (Nat.le_of_ble_eq_true rfl) fun m3 hm3 => ?_
    refine SR.po rfl rfl (PO.eq (PO.bin (Ev.tmp rfl) (Ev.tmp rfl) rfl) (congrArg (Value.int .u32) (bxor_u32 _ _))) (Nat.le_of_ble_eq_true rfl) ?_
    refine SR.call1 rfl rfl Ev.func (Evs.cons (Ev.tmp rfl) Evs.nil) (fun fr => sum_ct _ _ _ _ _ _ (Rd.fr ((h2.takeB (k := i) (by omega)).mono (hm1.trans (hm2.trans hm3)) (by (repeat (first | exact List.Sublist.refl _ | refine List.Sublist.cons_cons _ ?_ | apply List.Sublist.cons)))) fr)) (Nat.le_of_ble_eq_true rfl) fun m4 hm4 => ?_
    refine SR.po rfl rfl (PO.eq (PO.bin (Ev.tmp rfl) (Ev.tmp rfl) rfl) (congrArg (Value.int .u32) (bxor_u32 _ _))) (Nat.le_of_ble_eq_true rfl) ?_
    rw [crc_x3 _ _ _ (by simp; omega) (by simp; omega)]
    refine SR.po rfl rfl (PO.bin (Ev.tmp rfl) (Ev.tmp rfl) rfl) (Nat.le_of_ble_eq_true rfl) ?_
    refine SR.po rfl rfl (PO.move (Ev.tmp rfl)) (Nat.le_of_ble_eq_true rfl) ?_
    refine SR.callT (v := .bool true) rfl rfl rfl rfl (fun hc => ⟨Ev.func, Evs.nil, fun fr => awake_ct _ _⟩) (Nat.le_of_ble_eq_true rfl) fun m5 hm5 => ?_
    refine SR.po rfl rfl (PO.pickAnd rfl rfl) (Nat.le_of_ble_eq_true rfl) ?_
    refine SR.nil rfl rfl ?_
    refine WL.po (PO.assign (Ev.tmp rfl)) (Nat.le_of_ble_eq_true rfl) ?_
    refine WL.nil (keepF (ts := [0, 1, 2, 6, 7, 8, 9, 20, 21, 22]) rfl (toK (by assumption) ?_)); (try clear hG ops)
    exact WC.ret (end1 (h' := h) (.inl rfl) rfl (RV.tmp rfl) (hm1.trans (hm2.trans (hm3.trans (hm4.trans hm5)))) (by (repeat (first | exact List.Sublist.refl _ | refine List.Sublist.cons_cons _ ?_ | apply List.Sublist.cons))) (by simp [Law]))
end Go.Proofs.Ytdfobghpbbohdaa

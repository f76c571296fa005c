/- lex: LexNumbers. -/
import Derived.Test.YtddnoaffkinkkaaDoorLawE
import Derived.Test.YtddnoaffkinkkaaDoorLexNu
import Derived.Test.YtddnoaffkinkkaaDoorEng17
namespace Go.Proofs.YtddnoaffkinkkaaDoor
open Go.Eng Go.Lx Go.Ty
set_option maxRecDepth 100000
theorem trim_ct (x : B) (h : List Res) (m : View) : CT Tryd.prog 33 [str x, str [48]] h m (Pure1 h (str (x.dropWhile (· == 48)))) :=
  CT.ofCalls Tryd.call33 fun w _ => Tryd.strings_TrimLeft_one ⟨x.toArray⟩ 48 (by decide) w
theorem numbers_law (v : Int) (w1 : Nat) (h : List Res) (m : View) (hg : Glob m) (hp : Pow m) (hv : -2147483648 ≤ v ∧ v ≤ 2147483647) (_h1 : w1 < 256) : CT Tryd.prog 12 [.int .i32 v, .int .u8 w1] h m Law := by
  have hl9 : (wordP v true).length = 9 := by unfold wordP; rw [if_pos rfl, List.length_cons, hexDig_len]
  have hz : w1 % 11 ≤ 10 := by have := Nat.mod_lt w1 (show 0 < 11 by decide); omega
  have htr : (((wordP v true).drop 1).take (8 - 1)).length ≤ 7 := by rw [List.length_take]; omega
  have hdw : ((((wordP v true).drop 1).take (8 - 1)).dropWhile (· == 48)).length ≤ 7 := Nat.le_trans (List.dropWhile_sublist _).length_le htr
  refine CT.body Tryd.call12 Tryd.func12 rfl Tryd.ntmps12 (Nat.le_of_ble_eq_true rfl) rfl ?_
  (repeat (first | refine WC.seqK fun K hK => ?_ | refine WC.block ?_ | refine WC.regionG rfl fun ops hG => ?_))
  refine WL.po (PO.assign Ev.const) (Nat.le_of_ble_eq_true rfl) ?_
  refine WL.nil (keepF (ts := [0, 1]) rfl (toK (by assumption) ?_))
  (try clear hG ops)
  (repeat (first | refine WC.seqK fun K hK => ?_ | refine WC.block ?_ | refine WC.regionG rfl fun ops hG => ?_))
  refine WL.po (PO.move (Ev.tmp rfl)) (Nat.le_of_ble_eq_true rfl) ?_
  refine WL.callP Ev.func (Evs.cons (Ev.tmp rfl) (Evs.cons Ev.const Evs.nil)) (wordP_ct v true _ _ hp hv) (Nat.le_of_ble_eq_true rfl) ?_
  refine WL.po (PO.assign (Ev.tmp rfl)) (Nat.le_of_ble_eq_true rfl) ?_
  refine WL.nil (keepF (ts := [0, 1, 5]) rfl (toK (by assumption) ?_))
  (try clear hG ops)
  (repeat (first | refine WC.seqK fun K hK => ?_ | refine WC.block ?_ | refine WC.regionG rfl fun ops hG => ?_))
  refine WC.drawS [2, 3, 4, 9, 15, 21, 22] [0, 1, 2, 3, 4, 5, 6, 7, 8, 9, 10, 11, 12, 13, 14, 17, 18, 20, 15, 16, 19, 21, 22] [23, 24, 25] _ [] mixed (fun _ _ _ _ _ h => h) [] (by kernel_rfl) ?_
  refine SR.po rfl rfl (PO.move (Ev.tmp rfl)) (Nat.le_of_ble_eq_true rfl) ?_
  refine SR.po rfl rfl (PO.move (Ev.tmp rfl)) (Nat.le_of_ble_eq_true rfl) ?_
  refine SR.callP rfl rfl Ev.func (Evs.cons (Ev.tmp rfl) Evs.nil) (fun fr => number_ct _ _ _) (Nat.le_of_ble_eq_true rfl) ?_
  refine SR.buildSlice rfl rfl EL28 rfl (EvP.cons (Ev.tmp rfl) EvP.nil) rfl rfl (by decide) rfl (Nat.le_of_ble_eq_true rfl) fun b12 => ?_
  refine SR.callP rfl rfl Ev.func (Evs.cons (Ev.tmp rfl) (Evs.cons (Ev.tmp rfl) Evs.nil)) (fun fr => CT.val (reads_ct (wordP v true) (some ⟨b12, 0, none⟩) 1 1 [numT v] _ _ hg (by omega) (Rd.ofPt rfl (by decide) (List.mem_append_right _ (List.Mem.head _)))) (congrArg Value.bool (hex_read v hv))) (Nat.le_of_ble_eq_true rfl) ?_
  refine SR.po rfl rfl (PO.not (Ev.tmp rfl)) (Nat.le_of_ble_eq_true rfl) ?_
  refine SR.po rfl rfl (PO.move (Ev.tmp rfl)) (Nat.le_of_ble_eq_true rfl) ?_
  refine SR.poU rfl rfl (GU.f rfl rfl) rfl (PO.move (Ev.tmp rfl)) (Nat.le_of_ble_eq_true rfl) ?_
  refine SR.poU rfl rfl (GU.f rfl rfl) rfl (PO.catS (Ev.tmp rfl) Ev.const (by simp; omega)) (Nat.le_of_ble_eq_true rfl) ?_
  refine SR.callU rfl rfl (GU.f rfl rfl) rfl Ev.func (Evs.cons (Ev.tmp rfl) (Evs.cons Ev.const Evs.nil)) (fun fr => CT.val (fails_ct (wordP v true ++ [48]) 0 _ _ hg (by rw [List.length_append, hl9]; decide)) (congrArg Value.bool (hex_long v))) (Nat.le_of_ble_eq_true rfl) ?_
  refine SR.poU rfl rfl (GU.f rfl rfl) rfl (PO.not (Ev.tmp rfl)) (Nat.le_of_ble_eq_true rfl) ?_
  refine SR.po rfl rfl (PO.pickOr rfl rfl) (Nat.le_of_ble_eq_true rfl) ?_
  refine SR.po rfl rfl (PO.move (Ev.tmp rfl)) (Nat.le_of_ble_eq_true rfl) ?_
  refine SR.poU rfl rfl (GU.f rfl rfl) rfl (PO.move (Ev.tmp rfl)) (Nat.le_of_ble_eq_true rfl) ?_
  refine SR.poU rfl rfl (GU.f rfl rfl) rfl (PO.sliceSLH Tryd.underlying9 (Ev.tmp rfl) Ev.const Ev.const (l := 1) (u := 8) rfl rfl (by omega) (by omega)) (Nat.le_of_ble_eq_true rfl) ?_
  refine SR.poU rfl rfl (GU.f rfl rfl) rfl (PO.move (Ev.tmp rfl)) (Nat.le_of_ble_eq_true rfl) ?_
  refine SR.poU rfl rfl (GU.f rfl rfl) rfl (PO.sliceSL Tryd.underlying9 (Ev.tmp rfl) Ev.const (l := 8) rfl (by omega)) (Nat.le_of_ble_eq_true rfl) ?_
  refine SR.poU rfl rfl (GU.f rfl rfl) rfl (PO.move (Ev.tmp rfl)) (Nat.le_of_ble_eq_true rfl) ?_
  refine SR.callU rfl rfl (GU.f rfl rfl) rfl Ev.func (Evs.cons (Ev.tmp rfl) (Evs.cons Ev.const Evs.nil)) (fun fr => CT.argsE rfl (trim_ct (((wordP v true).drop 1).take (8 - 1)) _ _)) (Nat.le_of_ble_eq_true rfl) ?_
  refine SR.poU rfl rfl (GU.f rfl rfl) rfl (PO.catS Ev.const (Ev.tmp rfl) (by rw [List.length_singleton]; omega)) (Nat.le_of_ble_eq_true rfl) ?_
  refine SR.poU rfl rfl (GU.f rfl rfl) rfl (PO.catS (Ev.tmp rfl) (Ev.tmp rfl) (by rw [List.length_append, List.length_singleton, List.length_drop]; omega)) (Nat.le_of_ble_eq_true rfl) ?_
  refine SR.callU rfl rfl (GU.f rfl rfl) rfl Ev.func (Evs.cons (Ev.tmp rfl) Evs.nil) (fun fr => number_ct _ _ _) (Nat.le_of_ble_eq_true rfl) ?_
  refine SR.buildSliceU rfl rfl (GU.f rfl rfl) rfl EL28 rfl (EvP.cons (Ev.tmp rfl) EvP.nil) rfl rfl (by decide) rfl (Nat.le_of_ble_eq_true rfl) fun b31 => ?_
  refine SR.nil rfl rfl ?_
  refine WL.unG (GU.f rfl rfl) rfl ?_
  refine WL.callP Ev.func (Evs.cons (Ev.tmp rfl) (Evs.cons (Ev.tmp rfl) Evs.nil)) (CT.val (reads_ct ([35] ++ (((wordP v true).drop 1).take (8 - 1)).dropWhile (· == 48) ++ (wordP v true).drop 8) (some ⟨b31, 0, none⟩) 1 1 [numT v] _ _ hg (by rw [List.length_append, List.length_append, List.length_singleton, List.length_drop]; omega) (Rd.ofPt rfl (by decide) (by (repeat (first | exact List.Mem.head _ | apply List.Mem.tail))))) (congrArg Value.bool (hex_trim v hv))) (Nat.le_of_ble_eq_true rfl) ?_
  refine WL.unG (GU.f rfl rfl) rfl ?_
  refine WL.po (PO.not (Ev.tmp rfl)) (Nat.le_of_ble_eq_true rfl) ?_
  refine WL.po (PO.pickOr rfl rfl) (Nat.le_of_ble_eq_true rfl) ?_
  refine WL.nil (keepF (ts := [0, 1, 34]) rfl (toK (by assumption) ?_))
  (try clear hG ops)
  (repeat (first | refine WC.seqK fun K hK => ?_ | refine WC.block ?_ | refine WC.regionG rfl fun ops hG => ?_))
  refine WC.cond (Ev.tmp rfl) (fun c34 => ?_) (fun c34 => ?_)
  · simp at c34
  · refine WC.skip (keepF (ts := [0, 1]) rfl (toK (by assumption) ?_))
    (repeat (first | refine WC.seqK fun K hK => ?_ | refine WC.block ?_ | refine WC.regionG rfl fun ops hG => ?_))
    refine WL.po (PO.move (Ev.tmp rfl)) (Nat.le_of_ble_eq_true rfl) ?_
    refine WL.po (PO.bin (Ev.tmp rfl) Ev.const rfl) (Nat.le_of_ble_eq_true rfl) ?_
    refine WL.nil (keepF (ts := [0, 1, 36]) rfl (toK (by assumption) ?_))
    (try clear hG ops)
    (repeat (first | refine WC.seqK fun K hK => ?_ | refine WC.block ?_ | refine WC.regionG rfl fun ops hG => ?_))
    refine WC.cond (Ev.tmp rfl) (fun c36 => ?_) (fun c36 => ?_)
    · replace c36 := of_decide_eq_true c36
      (repeat (first | refine WC.seqK fun K hK => ?_ | refine WC.block ?_ | refine WC.regionG rfl fun ops hG => ?_))
      refine WL.callP Ev.func Evs.nil (awake_ct _ _ hg hp) (Nat.le_of_ble_eq_true rfl) ?_
      refine WL.po (PO.assign (Ev.tmp rfl)) (Nat.le_of_ble_eq_true rfl) ?_
      refine WL.nil (keepF (ts := [4]) rfl (toK (by assumption) ?_))
      (try clear hG ops)
      refine WC.ret (end1 (h' := h) (.inl rfl) rfl (RV.tmp rfl) (View.le.refl m) (by (repeat (first | exact List.Sublist.refl _ | refine List.Sublist.cons_cons _ ?_ | apply List.Sublist.cons))) ?_)
      rfl
    · replace c36 := of_decide_eq_false c36
      have hv0 : 0 ≤ v ∧ v ≤ 2147483647 := by omega
      have hnl := numS_le (z := w1 % 11) (n := v) hz hv0
      refine WC.skip (keepF (ts := [0, 1]) rfl (toK (by assumption) ?_))
      (repeat (first | refine WC.seqK fun K hK => ?_ | refine WC.block ?_ | refine WC.regionG rfl fun ops hG => ?_))
      refine WL.po (PO.move (Ev.tmp rfl)) (Nat.le_of_ble_eq_true rfl) ?_
      refine WL.po (PO.rem (Ev.tmp rfl) Ev.const (by decide)) (Nat.le_of_ble_eq_true rfl) ?_
      refine WL.val (v' := .int .u8 ((w1 % 11 : Nat) : Int)) (congrArg (Value.int .u8) (tmodS w1 11)) ?_
      refine WL.po (PO.conv Tryd.underlying5 Tryd.underlying3 (Ev.tmp rfl)) (Nat.le_of_ble_eq_true rfl) ?_
      refine WL.val (v' := .int .i64 ((w1 % 11 : Nat) : Int)) (congrArg (Value.int .i64) (wrapS (by omega))) ?_
      refine WL.callP Ev.func (Evs.cons Ev.const (Evs.cons (Ev.tmp rfl) Evs.nil)) (CT.argsE rfl (repeat_ct 48 (w1 % 11) _ _ (by omega))) (Nat.le_of_ble_eq_true rfl) ?_
      refine WL.po (PO.move (Ev.tmp rfl)) (Nat.le_of_ble_eq_true rfl) ?_
      refine WL.callP Ev.func (Evs.cons (Ev.tmp rfl) (Evs.cons Ev.const Evs.nil)) (wordP_ct v false _ _ hp hv) (Nat.le_of_ble_eq_true rfl) ?_
      refine WL.po (PO.catS (Ev.tmp rfl) (Ev.tmp rfl) (by have := hnl; unfold numS at this; rw [List.length_append] at this; omega)) (Nat.le_of_ble_eq_true rfl) ?_
      refine WL.val (v' := str (numS (w1 % 11) v)) rfl ?_
      refine WL.po (PO.assign (Ev.tmp rfl)) (Nat.le_of_ble_eq_true rfl) ?_
      refine WL.nil (keepF (ts := [0, 6]) rfl (toK (by assumption) ?_))
      (try clear hG ops)
      (repeat (first | refine WC.seqK fun K hK => ?_ | refine WC.block ?_ | refine WC.regionG rfl fun ops hG => ?_))
      refine WL.po (PO.move (Ev.tmp rfl)) (Nat.le_of_ble_eq_true rfl) ?_
      refine WL.po (PO.lenS Tryd.underlying9 (Ev.tmp rfl)) (Nat.le_of_ble_eq_true rfl) ?_
      refine WL.po (PO.bin (Ev.tmp rfl) Ev.const rfl) (Nat.le_of_ble_eq_true rfl) ?_
      refine WL.nil (keepF (ts := [0, 6, 47]) rfl (toK (by assumption) ?_))
      (try clear hG ops)
      (repeat (first | refine WC.seqK fun K hK => ?_ | refine WC.block ?_ | refine WC.regionG rfl fun ops hG => ?_))
      refine WC.cond (Ev.tmp rfl) (fun c47 => ?_) (fun c47 => ?_)
      · have h10 : 10 < (numS (w1 % 11) v).length := by have := of_decide_eq_true c47; omega
        (repeat (first | refine WC.seqK fun K hK => ?_ | refine WC.block ?_ | refine WC.regionG rfl fun ops hG => ?_))
        refine WL.po (PO.move (Ev.tmp rfl)) (Nat.le_of_ble_eq_true rfl) ?_
        refine WL.callP Ev.func (Evs.cons (Ev.tmp rfl) (Evs.cons Ev.const Evs.nil)) (CT.val (fails_ct (numS (w1 % 11) v) 0 _ _ hg (by omega)) (congrArg Value.bool (num_long hz hv0 h10))) (Nat.le_of_ble_eq_true rfl) ?_
        refine WL.po (PO.move (Ev.tmp rfl)) (Nat.le_of_ble_eq_true rfl) ?_
        refine WL.callG (GU.t (hG _ _ rfl) rfl) (fun hc => ⟨Ev.func, Evs.nil, awake_ct _ _ hg hp⟩) (Nat.le_of_ble_eq_true rfl) ?_
        refine WL.po (PO.pickAnd rfl rfl) (Nat.le_of_ble_eq_true rfl) ?_
        refine WL.po (PO.assign (Ev.tmp rfl)) (Nat.le_of_ble_eq_true rfl) ?_
        refine WL.nil (keepF (ts := [4]) rfl (toK (by assumption) ?_))
        (try clear hG ops)
        refine WC.ret (end1 (h' := h) (.inl rfl) rfl (RV.tmp rfl) (View.le.refl m) (by (repeat (first | exact List.Sublist.refl _ | refine List.Sublist.cons_cons _ ?_ | apply List.Sublist.cons))) ?_)
        rfl
      · have h10 : (numS (w1 % 11) v).length ≤ 10 := by have := of_decide_eq_false c47; omega
        refine WC.skip (keepF (ts := [0, 6]) rfl (toK (by assumption) ?_))
        (repeat (first | refine WC.seqK fun K hK => ?_ | refine WC.block ?_ | refine WC.regionG rfl fun ops hG => ?_))
        refine WL.po (PO.move (Ev.tmp rfl)) (Nat.le_of_ble_eq_true rfl) ?_
        refine WL.po (PO.move (Ev.tmp rfl)) (Nat.le_of_ble_eq_true rfl) ?_
        refine WL.callP Ev.func (Evs.cons (Ev.tmp rfl) Evs.nil) (number_ct _ _ _) (Nat.le_of_ble_eq_true rfl) ?_
        refine WL.buildSlice EL28 rfl (EvP.cons (Ev.tmp rfl) EvP.nil) rfl rfl (by decide) rfl (Nat.le_of_ble_eq_true rfl) fun b56 => ?_
        refine WL.callP Ev.func (Evs.cons (Ev.tmp rfl) (Evs.cons (Ev.tmp rfl) Evs.nil)) (CT.val (reads_ct (numS (w1 % 11) v) (some ⟨b56, 0, none⟩) 1 1 [numT v] _ _ hg (by omega) (Rd.ofPt rfl (by decide) (by (repeat (first | exact List.Mem.head _ | apply List.Mem.tail))))) (congrArg Value.bool (num_read hv0 h10))) (Nat.le_of_ble_eq_true rfl) ?_
        refine WL.po (PO.move (Ev.tmp rfl)) (Nat.le_of_ble_eq_true rfl) ?_
        refine WL.poG (GU.t (hG _ _ rfl) rfl) (fun hc => PO.move (Ev.tmp rfl)) (Nat.le_of_ble_eq_true rfl) ?_
        refine WL.poG (GU.t (hG _ _ rfl) rfl) (fun hc => PO.catS (Ev.gv rfl hc) Ev.const (by simp; omega)) (Nat.le_of_ble_eq_true rfl) ?_
        refine WL.callG (GU.t (hG _ _ rfl) rfl) (fun hc => ⟨Ev.func, (Evs.cons (Ev.gv rfl hc) (Evs.cons Ev.const Evs.nil)), CT.val (fails_ct (numS (w1 % 11) v ++ [120]) 0 _ _ hg (by rw [List.length_append, List.length_singleton]; omega)) (congrArg Value.bool (num_sign hz hv0 (by decide) (by decide)))⟩) (Nat.le_of_ble_eq_true rfl) ?_
        refine WL.po (PO.pickAnd rfl rfl) (Nat.le_of_ble_eq_true rfl) ?_
        refine WL.po (PO.move (Ev.tmp rfl)) (Nat.le_of_ble_eq_true rfl) ?_
        refine WL.poG (GU.t (hG _ _ rfl) rfl) (fun hc => PO.move (Ev.tmp rfl)) (Nat.le_of_ble_eq_true rfl) ?_
        refine WL.poG (GU.t (hG _ _ rfl) rfl) (fun hc => PO.catS (Ev.gv rfl hc) Ev.const (by simp; omega)) (Nat.le_of_ble_eq_true rfl) ?_
        refine WL.callG (GU.t (hG _ _ rfl) rfl) (fun hc => ⟨Ev.func, (Evs.cons (Ev.gv rfl hc) (Evs.cons Ev.const Evs.nil)), CT.val (fails_ct (numS (w1 % 11) v ++ [46]) 0 _ _ hg (by rw [List.length_append, List.length_singleton]; omega)) (congrArg Value.bool (num_sign hz hv0 (by decide) (by decide)))⟩) (Nat.le_of_ble_eq_true rfl) ?_
        refine WL.po (PO.pickAnd rfl rfl) (Nat.le_of_ble_eq_true rfl) ?_
        refine WL.po (PO.move (Ev.tmp rfl)) (Nat.le_of_ble_eq_true rfl) ?_
        refine WL.callG (GU.t (hG _ _ rfl) rfl) (fun hc => ⟨Ev.func, Evs.nil, awake_ct _ _ hg hp⟩) (Nat.le_of_ble_eq_true rfl) ?_
        refine WL.po (PO.pickAnd rfl rfl) (Nat.le_of_ble_eq_true rfl) ?_
        refine WL.po (PO.assign (Ev.tmp rfl)) (Nat.le_of_ble_eq_true rfl) ?_
        refine WL.nil (keepF (ts := [4]) rfl (toK (by assumption) ?_))
        (try clear hG ops)
        refine WC.ret (end1 (h' := h) (.inl rfl) rfl (RV.tmp rfl) (View.le.refl m) (by (repeat (first | exact List.Sublist.refl _ | refine List.Sublist.cons_cons _ ?_ | apply List.Sublist.cons))) ?_)
        rfl
end Go.Proofs.YtddnoaffkinkkaaDoor

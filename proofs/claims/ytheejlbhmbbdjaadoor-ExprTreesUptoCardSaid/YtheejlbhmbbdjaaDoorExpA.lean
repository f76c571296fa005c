/- expr: words, parts, walked. -/
import Derived.Test.YtheejlbhmbbdjaaDoorLexB
import Derived.Test.YtheejlbhmbbdjaaDoorExpM
namespace Go.Proofs.YtheejlbhmbbdjaaDoor
open Go.Eng Go.Xp Go
set_option maxRecDepth 100000
theorem prim_ct (k : Int) (h : List Res) (m : View) : CT Tryd.prog 54 [.int .u8 k] h m (Pure1 h (str (primP k))) := by
  refine CT.body Tryd.call54 Tryd.func54 rfl Tryd.ntmps54 (leB rfl) rfl ?_
  (repeat (first | refine WC.seqK fun K hK => ?_ | refine WC.block ?_ | refine WC.regionG rfl fun ops hG => ?_))
  refine WL.po (PO.assign Ev.const) (leB rfl) ?_
  refine WL.nil (keepF (ts := [0]) rfl (toK (by assumption) ?_))
  (try clear hG ops)
  (repeat (first | refine WC.seqK fun K hK => ?_ | refine WC.block ?_ | refine WC.regionG rfl fun ops hG => ?_))
  refine WL.po (PO.move (Ev.tmp rfl)) (leB rfl) ?_
  refine WL.nil (keepF (ts := [3]) rfl (toK (by assumption) ?_))
  (try clear hG ops)
  (repeat (first | refine WC.seqK fun K hK => ?_ | refine WC.block ?_ | refine WC.regionG rfl fun ops hG => ?_))
  refine WL.po (PO.bin (Ev.tmp rfl) Ev.const rfl) (leB rfl) ?_
  refine WL.po (PO.assign (Ev.tmp rfl)) (leB rfl) ?_
  refine WL.nil (keepF (ts := [3, 4]) rfl (toK (by assumption) ?_))
  (try clear hG ops)
  (repeat (first | refine WC.seqK fun K hK => ?_ | refine WC.block ?_ | refine WC.regionG rfl fun ops hG => ?_))
  refine WC.cond (Ev.tmp rfl) (fun c4 => ?_) (fun c4 => ?_)
  · replace c4 := t_eq c4
    (repeat (first | refine WC.seqK fun K hK => ?_ | refine WC.block ?_ | refine WC.regionG rfl fun ops hG => ?_))
    refine WL.po (PO.assign Ev.const) (leB rfl) ?_
    refine WL.nil (keepF (ts := [2]) rfl (toK (by assumption) ?_))
    (try clear hG ops)
    refine WC.ret (end1 (h' := h) (.inl rfl) rfl (RV.tmp rfl) (View.le.refl m) (by (repeat (first | exact sub0 _ | exact subA _ _ | refine subC _ ?_ | apply subK | refine subT _ ?_))) ?_)
    exact ⟨by unfold primP; rw [if_pos c4], rfl⟩
  · replace c4 := f_eq c4
    (repeat (first | refine WC.seqK fun K hK => ?_ | refine WC.block ?_ | refine WC.regionG rfl fun ops hG => ?_))
    refine WL.po (PO.bin (Ev.tmp rfl) Ev.const rfl) (leB rfl) ?_
    refine WL.po (PO.assign (Ev.tmp rfl)) (leB rfl) ?_
    refine WL.nil (keepF (ts := [3, 6]) rfl (toK (by assumption) ?_))
    (try clear hG ops)
    (repeat (first | refine WC.seqK fun K hK => ?_ | refine WC.block ?_ | refine WC.regionG rfl fun ops hG => ?_))
    refine WC.cond (Ev.tmp rfl) (fun c6 => ?_) (fun c6 => ?_)
    · replace c6 := t_eq c6
      (repeat (first | refine WC.seqK fun K hK => ?_ | refine WC.block ?_ | refine WC.regionG rfl fun ops hG => ?_))
      refine WL.po (PO.assign Ev.const) (leB rfl) ?_
      refine WL.nil (keepF (ts := [2]) rfl (toK (by assumption) ?_))
      (try clear hG ops)
      refine WC.ret (end1 (h' := h) (.inl rfl) rfl (RV.tmp rfl) (View.le.refl m) (by (repeat (first | exact sub0 _ | exact subA _ _ | refine subC _ ?_ | apply subK | refine subT _ ?_))) ?_)
      exact ⟨by unfold primP; rw [if_neg c4, if_pos c6], rfl⟩
    · replace c6 := f_eq c6
      (repeat (first | refine WC.seqK fun K hK => ?_ | refine WC.block ?_ | refine WC.regionG rfl fun ops hG => ?_))
      refine WL.po (PO.bin (Ev.tmp rfl) Ev.const rfl) (leB rfl) ?_
      refine WL.po (PO.assign (Ev.tmp rfl)) (leB rfl) ?_
      refine WL.nil (keepF (ts := [8]) rfl (toK (by assumption) ?_))
      (try clear hG ops)
      (repeat (first | refine WC.seqK fun K hK => ?_ | refine WC.block ?_ | refine WC.regionG rfl fun ops hG => ?_))
      refine WC.cond (Ev.tmp rfl) (fun c8 => ?_) (fun c8 => ?_)
      · replace c8 := t_eq c8
        (repeat (first | refine WC.seqK fun K hK => ?_ | refine WC.block ?_ | refine WC.regionG rfl fun ops hG => ?_))
        refine WL.po (PO.assign Ev.const) (leB rfl) ?_
        refine WL.nil (keepF (ts := [2]) rfl (toK (by assumption) ?_))
        (try clear hG ops)
        refine WC.ret (end1 (h' := h) (.inl rfl) rfl (RV.tmp rfl) (View.le.refl m) (by (repeat (first | exact sub0 _ | exact subA _ _ | refine subC _ ?_ | apply subK | refine subT _ ?_))) ?_)
        exact ⟨by unfold primP; rw [if_neg c4, if_neg c6, if_pos c8], rfl⟩
      · replace c8 := f_eq c8
        refine WC.skip (keepF (ts := []) rfl (toK (by assumption) ?_))
        (repeat (first | refine WC.seqK fun K hK => ?_ | refine WC.block ?_ | refine WC.regionG rfl fun ops hG => ?_))
        refine WL.po (PO.assign Ev.const) (leB rfl) ?_
        refine WL.nil (keepF (ts := [2]) rfl (toK (by assumption) ?_))
        (try clear hG ops)
        refine WC.ret (end1 (h' := h) (.inl rfl) rfl (RV.tmp rfl) (View.le.refl m) (by (repeat (first | exact sub0 _ | exact subA _ _ | refine subC _ ?_ | apply subK | refine subT _ ?_))) ?_)
        exact ⟨by unfold primP; rw [if_neg c4, if_neg c6, if_neg c8], rfl⟩
theorem wrap8 {o : Int} (h : 0 ≤ o ∧ o ≤ 255) : IntKind.i64.wrap o = o := by
  rw [IntKind.wrap_i64]
  omega
theorem word_ct (o : Int) (ho : 0 ≤ o ∧ o ≤ 255) (h : List Res) (m : View) : CT Tryd.prog 25 [.int .u8 o] h m (Pure1 h (.tuple #[str (wordP o).1, .bool (wordP o).2])) := by
  have hw := wrap8 ho
  refine CT.body Tryd.call25 Tryd.func25 rfl Tryd.ntmps25 (leB rfl) rfl ?_
  (repeat (first | refine WC.seqK fun K hK => ?_ | refine WC.block ?_ | refine WC.regionG rfl fun ops hG => ?_))
  refine WL.po (PO.assign Ev.const) (leB rfl) ?_
  refine WL.po (PO.assign Ev.const) (leB rfl) ?_
  refine WL.nil (keepF (ts := [0]) rfl (toK (by assumption) ?_))
  (try clear hG ops)
  (repeat (first | refine WC.seqK fun K hK => ?_ | refine WC.block ?_ | refine WC.regionG rfl fun ops hG => ?_))
  refine WL.po (PO.buildArr Tryd.underlying84 rfl rfl rfl (EvP.cons Ev.const (EvP.cons Ev.const (EvP.cons Ev.const (EvP.cons Ev.const (EvP.cons Ev.const (EvP.cons Ev.const (EvP.cons Ev.const (EvP.cons Ev.const (EvP.cons Ev.const (EvP.cons Ev.const (EvP.cons Ev.const (EvP.cons Ev.const (EvP.cons Ev.const (EvP.cons Ev.const (EvP.cons Ev.const (EvP.cons Ev.const (EvP.cons Ev.const (EvP.cons Ev.const (EvP.cons Ev.const (EvP.cons Ev.const (EvP.cons Ev.const (EvP.cons Ev.const (EvP.cons Ev.const (EvP.cons Ev.const (EvP.cons Ev.const (EvP.cons Ev.const (EvP.cons Ev.const EvP.nil))))))))))))))))))))))))))) rfl) (leB rfl) ?_
  refine WL.alloc rfl rfl (leB rfl) fun b4 => ?_
  refine WL.store rfl (Ev.tmp rfl) (Ev.tmp rfl) rfl rfl rfl rfl (by (repeat (first | exact Upd.here | apply Upd.next))) ?_
  refine WL.nil (keepF (ts := [0, 4]) rfl (toK (by assumption) ?_))
  (try clear hG ops)
  (repeat (first | refine WC.seqK fun K hK => ?_ | refine WC.block ?_ | refine WC.regionG rfl fun ops hG => ?_))
  refine WL.po (PO.move (Ev.tmp rfl)) (leB rfl) ?_
  refine WL.po (PO.bin (Ev.tmp rfl) Ev.const rfl) (leB rfl) ?_
  refine WL.po (PO.move (Ev.tmp rfl)) (leB rfl) ?_
  refine WL.poG (GU.f (hG _ _ rfl) rfl) (fun hc => PO.move (Ev.tmp rfl)) (leB rfl) ?_
  refine WL.poG (GU.f (hG _ _ rfl) rfl) (fun hc => PO.conv Tryd.underlying23 Tryd.underlying3 (Ev.gv rfl hc)) (leB rfl) ?_
  refine WL.poG (GU.f (hG _ _ rfl) rfl) (fun hc => PO.bin (Ev.gv rfl hc) Ev.const rfl) (leB rfl) ?_
  refine WL.po (PO.pickOr rfl rfl) (leB rfl) ?_
  refine WL.nil (keepF (ts := [0, 4, 12]) rfl (toK (by assumption) ?_))
  (try clear hG ops)
  (repeat (first | refine WC.seqK fun K hK => ?_ | refine WC.block ?_ | refine WC.regionG rfl fun ops hG => ?_))
  refine WC.cond (Ev.tmp rfl) (fun c12 => ?_) (fun c12 => ?_)
  · rw [hw] at c12
    (repeat (first | refine WC.seqK fun K hK => ?_ | refine WC.block ?_ | refine WC.regionG rfl fun ops hG => ?_))
    refine WL.po (PO.assign Ev.const) (leB rfl) ?_
    refine WL.po (PO.assign Ev.const) (leB rfl) ?_
    refine WL.nil (keepF (ts := [2, 3]) rfl (toK (by assumption) ?_))
    (try clear hG ops)
    refine WC.ret (end2 (h' := h) (.inl rfl) rfl (RV.tmp rfl) (RV.tmp rfl) (View.le.refl m) (by (repeat (first | exact sub0 _ | exact subA _ _ | refine subC _ ?_ | apply subK | refine subT _ ?_))) ?_)
    exact ⟨by unfold wordP; rw [if_pos c12], rfl⟩
  · rw [hw] at c12
    have ho2 : o < 27 := by have := and_n (a := true) (b := decide (o ≥ 27)) (by cases h9 : (o == 0) <;> simp_all); simpa using this
    have hq : o = (o.toNat : Int) := by omega
    have hv : (wordsL.map str)[0 + o.toNat * 1]? = some (str (wordsL.getD o.toNat [])) := by
      rw [Nat.zero_add, Nat.mul_one, List.getElem?_map, List.getD_eq_getElem?_getD, List.getElem?_eq_getElem (show o.toNat < wordsL.length by show o.toNat < 27; omega)]
      rfl
    refine WC.skip (keepF (ts := [0, 4]) rfl (toK (by assumption) ?_))
    (repeat (first | refine WC.seqK fun K hK => ?_ | refine WC.block ?_ | refine WC.regionG rfl fun ops hG => ?_))
    refine WL.po (PO.move (Ev.tmp rfl)) (leB rfl) ?_
    refine WL.po (PO.idxA (sz := 1) Tryd.underlying84 rfl (Ev.tmp rfl) (Ev.tmp rfl) (q := o.toNat) hq (by omega)) (leB rfl) ?_
    refine WL.po (PO.load1 Tryd.underlying9 rfl (Ev.tmp rfl) (List.Mem.head _) hv) (leB rfl) ?_
    refine WL.po (PO.assign (Ev.tmp rfl)) (leB rfl) ?_
    refine WL.po (PO.assign Ev.const) (leB rfl) ?_
    refine WL.nil (keepF (ts := [2, 3]) rfl (toK (by assumption) ?_))
    (try clear hG ops)
    refine WC.ret (end2 (h' := h) (.inl rfl) rfl (RV.tmp rfl) (RV.tmp rfl) (View.le.refl m) (by (repeat (first | exact sub0 _ | exact subA _ _ | refine subC _ ?_ | apply subK | refine subT _ ?_))) ?_)
    exact ⟨by unfold wordP; rw [if_neg (by rw [c12]; decide)], rfl⟩
theorem parts_ct {m : View} (hg : Glob m) (e : Ex) (hw : Wf e) (h : List Res) : CT Tryd.prog 37 [exV e] h m (Pure1 h (.tuple #[.int .i64 (partsP e).1, .bool (partsP e).2])) := by
  obtain ⟨⟨hk, ho, ht⟩, hn, hs⟩ := hw.spec
  have hs2 : e.s.length ≤ 9223372036854775807 := by omega
  refine CT.body Tryd.call37 Tryd.func37 rfl Tryd.ntmps37 (leB rfl) rfl ?_
  (repeat (first | refine WC.seqK fun K hK => ?_ | refine WC.block ?_ | refine WC.regionG rfl fun ops hG => ?_))
  refine WL.box (Ev.tmp rfl) rfl (leB rfl) fun b1 => ?_
  refine WL.po (PO.assign Ev.const) (leB rfl) ?_
  refine WL.po (PO.assign Ev.const) (leB rfl) ?_
  refine WL.nil (keepF (ts := [1, 2]) rfl (toK (by assumption) ?_))
  (try clear hG ops)
  (repeat (first | refine WC.seqK fun K hK => ?_ | refine WC.block ?_ | refine WC.regionG rfl fun ops hG => ?_))
  refine WL.po (PO.loadA Tryd.underlying27 rfl rfl (Ev.tmp rfl) (by (repeat (first | exact mem0 _ | apply memT))) rfl) (leB rfl) ?_
  refine WL.alloc rfl rfl (leB rfl) fun b4 => ?_
  refine WL.store rfl (Ev.tmp rfl) (Ev.tmp rfl) rfl rfl rfl rfl (by (repeat (first | exact Upd.here | apply Upd.next))) ?_
  refine WL.nil (keepF (ts := [1, 2, 4]) rfl (toK (by assumption) ?_))
  (try clear hG ops)
  (repeat (first | refine WC.seqK fun K hK => ?_ | refine WC.block ?_ | refine WC.regionG rfl fun ops hG => ?_))
  refine WL.po (PO.fieldAddr Tryd.underlying27 rfl (Nat.ne_of_beq_eq_false rfl) (Ev.tmp rfl)) (leB rfl) ?_
  refine WL.store rfl (Ev.tmp rfl) Ev.const rfl rfl rfl rfl (by (repeat (first | exact Upd.here | apply Upd.next))) ?_
  refine WL.po (PO.fieldAddr Tryd.underlying27 rfl (Nat.ne_of_beq_eq_false rfl) (Ev.tmp rfl)) (leB rfl) ?_
  refine WL.store rfl (Ev.tmp rfl) Ev.const rfl rfl rfl rfl (by (repeat (first | exact Upd.here | apply Upd.next))) ?_
  refine WL.nil (keepF (ts := [1, 2, 4]) rfl (toK (by assumption) ?_))
  (try clear hG ops)
  (repeat (first | refine WC.seqK fun K hK => ?_ | refine WC.block ?_ | refine WC.regionG rfl fun ops hG => ?_))
  refine WL.po (PO.fieldAddr Tryd.underlying27 rfl (Nat.ne_of_beq_eq_false rfl) (Ev.tmp rfl)) (leB rfl) ?_
  refine WL.po (PO.load1 Tryd.underlying22 rfl (Ev.tmp rfl) (by (repeat (first | exact mem0 _ | apply memT))) rfl) (leB rfl) ?_
  refine WL.nil (keepF (ts := [1, 2, 4, 9]) rfl (toK (by assumption) ?_))
  (try clear hG ops)
  (repeat refine WC.seqK fun K hK => ?_)
  refine WC.cutK (by assumption) [4] rfl (fun F' h' => ∃ nn : Int, ∃ o' : Int, ∃ t' : Int, ∃ n' : Int, ∃ s' : B, (partsP e = (nn, fin o' t' n' s')) ∧ F' = [(2, .int .i64 nn)] ∧ .pt b4 (.cells [.int .u8 0, .int .u8 o', .int .u8 t', .int .i32 n', str s', .slice none 0 0].toArray 27 (0, 0)) :: h = h') ?_ ?_
  · (repeat (first | refine WC.seqK fun K hK => ?_ | refine WC.block ?_ | refine WC.regionG rfl fun ops hG => ?_))
    refine WL.po (PO.bin (Ev.tmp rfl) Ev.const rfl) (leB rfl) ?_
    refine WL.po (PO.assign (Ev.tmp rfl)) (leB rfl) ?_
    refine WL.nil (keepF (ts := [1, 2, 4, 9, 10]) rfl (toK (by assumption) ?_))
    (try clear hG ops)
    (repeat (first | refine WC.seqK fun K hK => ?_ | refine WC.block ?_ | refine WC.regionG rfl fun ops hG => ?_))
    refine WC.cond (Ev.tmp rfl) (fun c10 => ?_) (fun c10 => ?_)
    · replace c10 := t_eq c10
      (repeat (first | refine WC.seqK fun K hK => ?_ | refine WC.block ?_ | refine WC.regionG rfl fun ops hG => ?_))
      refine WL.po (PO.fieldAddr Tryd.underlying27 rfl (Nat.ne_of_beq_eq_false rfl) (Ev.tmp rfl)) (leB rfl) ?_
      refine WL.store rfl (Ev.tmp rfl) Ev.const rfl rfl rfl rfl (by (repeat (first | exact Upd.here | apply Upd.next))) ?_
      refine WL.nil (meetI [(2, .int .i64 0)] (h'' := .pt b4 (.cells [.int .u8 0, .int .u8 (e.o), .int .u8 (e.t), .int .i32 0, str (e.s), .slice none 0 0].toArray 27 (0, 0)) :: h) ?_ (by (repeat (first | exact Sub.nil | refine Sub.cons rfl ?_ | refine Sub.consE rfl (by simp; done) ?_))) (by (repeat (first | exact sub0 _ | exact subA _ _ | refine subC _ ?_ | apply subK | refine subT _ ?_))) ⟨0, e.o, e.t, 0, e.s, by simp [partsP, c10], rfl, rfl⟩)
      (repeat (first | exact Sub.nil | refine Sub.cons rfl ?_ | refine Sub.consE rfl (by simp; done) ?_))
    · replace c10 := f_eq c10
      (repeat (first | refine WC.seqK fun K hK => ?_ | refine WC.block ?_ | refine WC.regionG rfl fun ops hG => ?_))
      refine WL.po (PO.bin (Ev.tmp rfl) Ev.const rfl) (leB rfl) ?_
      refine WL.po (PO.assign (Ev.tmp rfl)) (leB rfl) ?_
      refine WL.nil (keepF (ts := [1, 2, 4, 9, 13]) rfl (toK (by assumption) ?_))
      (try clear hG ops)
      (repeat (first | refine WC.seqK fun K hK => ?_ | refine WC.block ?_ | refine WC.regionG rfl fun ops hG => ?_))
      refine WC.cond (Ev.tmp rfl) (fun c13 => ?_) (fun c13 => ?_)
      · replace c13 := t_eq c13
        (repeat (first | refine WC.seqK fun K hK => ?_ | refine WC.block ?_ | refine WC.regionG rfl fun ops hG => ?_))
        refine WL.po (PO.fieldAddr Tryd.underlying27 rfl (Nat.ne_of_beq_eq_false rfl) (Ev.tmp rfl)) (leB rfl) ?_
        refine WL.po (PO.load1 Tryd.underlying21 rfl (Ev.tmp rfl) (by (repeat (first | exact mem0 _ | apply memT))) rfl) (leB rfl) ?_
        refine WL.po (PO.shr (Ev.tmp rfl) Ev.const (by decide)) (leB rfl) ?_
        refine WL.po (PO.bin (Ev.tmp rfl) Ev.const rfl) (leB rfl) ?_
        refine WL.nil (keepF (ts := [2, 4, 18]) rfl (toK (by assumption) ?_))
        (try clear hG ops)
        (repeat (first | refine WC.seqK fun K hK => ?_ | refine WC.block ?_ | refine WC.regionG rfl fun ops hG => ?_))
        refine WC.cond (Ev.tmp rfl) (fun c18 => ?_) (fun c18 => ?_)
        · replace c18 := t_ne c18
          (repeat (first | refine WC.seqK fun K hK => ?_ | refine WC.block ?_ | refine WC.regionG rfl fun ops hG => ?_))
          refine WL.po (PO.assign Ev.const) (leB rfl) ?_
          refine WL.po (PO.assign Ev.const) (leB rfl) ?_
          refine WL.nil (keepF (ts := [2, 3]) rfl (toK (by assumption) ?_))
          (try clear hG ops)
          refine WC.ret (end2 (h' := h) (.inl rfl) rfl (RV.tmp rfl) (RV.tmp rfl) (View.le.refl m) (by (repeat (first | exact sub0 _ | exact subA _ _ | refine subC _ ?_ | apply subK | refine subT _ ?_))) ?_)
          exact ⟨by simp [partsP, c13, c18], rfl⟩
        · replace c18 := f_ne c18
          refine WC.skip (keepF (ts := [2, 4]) rfl (toK (by assumption) ?_))
          (repeat (first | refine WC.seqK fun K hK => ?_ | refine WC.block ?_ | refine WC.regionG rfl fun ops hG => ?_))
          refine WL.po (PO.fieldAddr Tryd.underlying27 rfl (Nat.ne_of_beq_eq_false rfl) (Ev.tmp rfl)) (leB rfl) ?_
          refine WL.store rfl (Ev.tmp rfl) Ev.const rfl rfl rfl rfl (by (repeat (first | exact Upd.here | apply Upd.next))) ?_
          refine WL.nil (meetI [(2, .int .i64 0)] (h'' := .pt b4 (.cells [.int .u8 0, .int .u8 (e.o), .int .u8 (e.t), .int .i32 0, str (e.s), .slice none 0 0].toArray 27 (0, 0)) :: h) ?_ (by (repeat (first | exact Sub.nil | refine Sub.cons rfl ?_ | refine Sub.consE rfl (by simp; done) ?_))) (by (repeat (first | exact sub0 _ | exact subA _ _ | refine subC _ ?_ | apply subK | refine subT _ ?_))) ⟨0, e.o, e.t, 0, e.s, by simp [partsP, c13, c18], rfl, rfl⟩)
          (repeat (first | exact Sub.nil | refine Sub.cons rfl ?_ | refine Sub.consE rfl (by simp; done) ?_))
      · replace c13 := f_eq c13
        (repeat (first | refine WC.seqK fun K hK => ?_ | refine WC.block ?_ | refine WC.regionG rfl fun ops hG => ?_))
        refine WL.po (PO.bin (Ev.tmp rfl) Ev.const rfl) (leB rfl) ?_
        refine WL.po (PO.assign (Ev.tmp rfl)) (leB rfl) ?_
        refine WL.nil (keepF (ts := [1, 2, 4, 9, 20]) rfl (toK (by assumption) ?_))
        (try clear hG ops)
        (repeat (first | refine WC.seqK fun K hK => ?_ | refine WC.block ?_ | refine WC.regionG rfl fun ops hG => ?_))
        refine WC.cond (Ev.tmp rfl) (fun c20 => ?_) (fun c20 => ?_)
        · replace c20 := t_eq c20
          (repeat (first | refine WC.seqK fun K hK => ?_ | refine WC.block ?_ | refine WC.regionG rfl fun ops hG => ?_))
          refine WL.po (PO.fieldAddr Tryd.underlying27 rfl (Nat.ne_of_beq_eq_false rfl) (Ev.tmp rfl)) (leB rfl) ?_
          refine WL.po (PO.load1 Tryd.underlying21 rfl (Ev.tmp rfl) (by (repeat (first | exact mem0 _ | apply memT))) rfl) (leB rfl) ?_
          refine WL.po (PO.shr (Ev.tmp rfl) Ev.const (by decide)) (leB rfl) ?_
          refine WL.po (PO.bin (Ev.tmp rfl) Ev.const rfl) (leB rfl) ?_
          refine WL.nil (keepF (ts := [2, 4, 25]) rfl (toK (by assumption) ?_))
          (try clear hG ops)
          (repeat (first | refine WC.seqK fun K hK => ?_ | refine WC.block ?_ | refine WC.regionG rfl fun ops hG => ?_))
          refine WC.cond (Ev.tmp rfl) (fun c25 => ?_) (fun c25 => ?_)
          · replace c25 := t_ne c25
            (repeat (first | refine WC.seqK fun K hK => ?_ | refine WC.block ?_ | refine WC.regionG rfl fun ops hG => ?_))
            refine WL.po (PO.assign Ev.const) (leB rfl) ?_
            refine WL.po (PO.assign Ev.const) (leB rfl) ?_
            refine WL.nil (keepF (ts := [2, 3]) rfl (toK (by assumption) ?_))
            (try clear hG ops)
            refine WC.ret (end2 (h' := h) (.inl rfl) rfl (RV.tmp rfl) (RV.tmp rfl) (View.le.refl m) (by (repeat (first | exact sub0 _ | exact subA _ _ | refine subC _ ?_ | apply subK | refine subT _ ?_))) ?_)
            exact ⟨by simp [partsP, c20, c25], rfl⟩
          · replace c25 := f_ne c25
            refine WC.skip (keepF (ts := [2, 4]) rfl (toK (by assumption) ?_))
            (repeat (first | refine WC.seqK fun K hK => ?_ | refine WC.block ?_ | refine WC.regionG rfl fun ops hG => ?_))
            refine WL.po (PO.fieldAddr Tryd.underlying27 rfl (Nat.ne_of_beq_eq_false rfl) (Ev.tmp rfl)) (leB rfl) ?_
            refine WL.store rfl (Ev.tmp rfl) Ev.const rfl rfl rfl rfl (by (repeat (first | exact Upd.here | apply Upd.next))) ?_
            refine WL.nil (meetI [(2, .int .i64 0)] (h'' := .pt b4 (.cells [.int .u8 0, .int .u8 (e.o), .int .u8 (e.t), .int .i32 0, str (e.s), .slice none 0 0].toArray 27 (0, 0)) :: h) ?_ (by (repeat (first | exact Sub.nil | refine Sub.cons rfl ?_ | refine Sub.consE rfl (by simp; done) ?_))) (by (repeat (first | exact sub0 _ | exact subA _ _ | refine subC _ ?_ | apply subK | refine subT _ ?_))) ⟨0, e.o, e.t, 0, e.s, by simp [partsP, c20, c25], rfl, rfl⟩)
            (repeat (first | exact Sub.nil | refine Sub.cons rfl ?_ | refine Sub.consE rfl (by simp; done) ?_))
        · replace c20 := f_eq c20
          (repeat (first | refine WC.seqK fun K hK => ?_ | refine WC.block ?_ | refine WC.regionG rfl fun ops hG => ?_))
          refine WL.po (PO.bin (Ev.tmp rfl) Ev.const rfl) (leB rfl) ?_
          refine WL.po (PO.assign (Ev.tmp rfl)) (leB rfl) ?_
          refine WL.nil (keepF (ts := [1, 2, 4, 9, 27]) rfl (toK (by assumption) ?_))
          (try clear hG ops)
          (repeat (first | refine WC.seqK fun K hK => ?_ | refine WC.block ?_ | refine WC.regionG rfl fun ops hG => ?_))
          refine WC.cond (Ev.tmp rfl) (fun c27 => ?_) (fun c27 => ?_)
          · have hk4 : e.k = 4 := t_eq c27
            refine WC.skip (keepF (ts := [1, 2, 4, 9, 27]) rfl (toK (by assumption) ?_))
            (repeat (first | refine WC.seqK fun K hK => ?_ | refine WC.block ?_ | refine WC.regionG rfl fun ops hG => ?_))
            refine WC.cond (Ev.tmp rfl) (fun c27 => ?_) (fun c27 => ?_)
            · (repeat (first | refine WC.seqK fun K hK => ?_ | refine WC.block ?_ | refine WC.regionG rfl fun ops hG => ?_))
              refine WL.po (PO.fieldAddr Tryd.underlying27 rfl (Nat.ne_of_beq_eq_false rfl) (Ev.tmp rfl)) (leB rfl) ?_
              refine WL.po (PO.load1 Tryd.underlying9 rfl (Ev.tmp rfl) (by (repeat (first | exact mem0 _ | apply memT))) rfl) (leB rfl) ?_
              refine WL.callP Ev.func (Evs.cons (Ev.tmp rfl) Evs.nil) (name_ct _ _ _ hg (by assumption)) (leB rfl) ?_
              refine WL.po (PO.not (Ev.tmp rfl)) (leB rfl) ?_
              refine WL.nil (keepF (ts := [1, 2, 4, 34]) rfl (toK (by assumption) ?_))
              (try clear hG ops)
              (repeat (first | refine WC.seqK fun K hK => ?_ | refine WC.block ?_ | refine WC.regionG rfl fun ops hG => ?_))
              refine WC.cond (Ev.tmp rfl) (fun c34 => ?_) (fun c34 => ?_)
              · have hnm : Go.Lx.name e.s = false := by simpa using c34
                (repeat (first | refine WC.seqK fun K hK => ?_ | refine WC.block ?_ | refine WC.regionG rfl fun ops hG => ?_))
                refine WL.po (PO.assign Ev.const) (leB rfl) ?_
                refine WL.po (PO.assign Ev.const) (leB rfl) ?_
                refine WL.nil (keepF (ts := [2, 3]) rfl (toK (by assumption) ?_))
                (try clear hG ops)
                refine WC.ret (end2 (h' := h) (.inl rfl) rfl (RV.tmp rfl) (RV.tmp rfl) (View.le.refl m) (by (repeat (first | exact sub0 _ | exact subA _ _ | refine subC _ ?_ | apply subK | refine subT _ ?_))) ?_)
                exact ⟨by first | simp [partsP, hk4, hnm] | simp [partsP, hk9, hnm] | simp [partsP, hk5, hnm], rfl⟩
              · have hnm : Go.Lx.name e.s = true := by simpa using c34
                refine WC.skip (keepF (ts := [1, 2, 4]) rfl (toK (by assumption) ?_))
                (repeat (first | refine WC.seqK fun K hK => ?_ | refine WC.block ?_ | refine WC.regionG rfl fun ops hG => ?_))
                refine WL.po (PO.fieldAddr Tryd.underlying27 rfl (Nat.ne_of_beq_eq_false rfl) (Ev.tmp rfl)) (leB rfl) ?_
                refine WL.store rfl (Ev.tmp rfl) Ev.const rfl rfl rfl rfl (by (repeat (first | exact Upd.here | apply Upd.next))) ?_
                refine WL.nil (keepF (ts := [1, 2, 4]) rfl (toK (by assumption) ?_))
                (try clear hG ops)
                (repeat (first | refine WC.seqK fun K hK => ?_ | refine WC.block ?_ | refine WC.regionG rfl fun ops hG => ?_))
                refine WL.po (PO.fieldAddr Tryd.underlying27 rfl (Nat.ne_of_beq_eq_false rfl) (Ev.tmp rfl)) (leB rfl) ?_
                refine WL.po (PO.load1 Tryd.underlying22 rfl (Ev.tmp rfl) (by (repeat (first | exact mem0 _ | apply memT))) rfl) (leB rfl) ?_
                refine WL.po (PO.bin (Ev.tmp rfl) Ev.const rfl) (leB rfl) ?_
                refine WL.nil (keepF (ts := [2, 4, 38]) rfl (toK (by assumption) ?_))
                (try clear hG ops)
                (repeat (first | refine WC.seqK fun K hK => ?_ | refine WC.block ?_ | refine WC.regionG rfl fun ops hG => ?_))
                refine WC.cond (Ev.tmp rfl) (fun c38 => ?_) (fun c38 => ?_)
                · replace c38 := t_eq c38
                  (repeat (first | refine WC.seqK fun K hK => ?_ | refine WC.block ?_ | refine WC.regionG rfl fun ops hG => ?_))
                  refine WL.po (PO.assign Ev.const) (leB rfl) ?_
                  refine WL.nil (meetI [(2, .int .i64 1)] (h'' := .pt b4 (.cells [.int .u8 0, .int .u8 (e.o), .int .u8 (e.t), .int .i32 (e.n), str ([]), .slice none 0 0].toArray 27 (0, 0)) :: h) ?_ (by (repeat (first | exact Sub.nil | refine Sub.cons rfl ?_ | refine Sub.consE rfl (by simp; done) ?_))) (by (repeat (first | exact sub0 _ | exact subA _ _ | refine subC _ ?_ | apply subK | refine subT _ ?_))) ⟨1, e.o, e.t, e.n, [], by simp [partsP, c38, hnm], rfl, rfl⟩)
                  (repeat (first | exact Sub.nil | refine Sub.cons rfl ?_ | refine Sub.consE rfl (by simp; done) ?_))
                · replace c38 := f_eq c38
                  have hq : partsP e = (0, fin e.o e.t e.n []) := by first | exact absurd hk5 c38 | simp [partsP, hk4, hnm] | simp [partsP, hk9, hnm]
                  refine WC.skip (meetI [(2, .int .i64 0)] (h'' := .pt b4 (.cells [.int .u8 0, .int .u8 (e.o), .int .u8 (e.t), .int .i32 (e.n), str ([]), .slice none 0 0].toArray 27 (0, 0)) :: h) ?_ (by (repeat (first | exact Sub.nil | refine Sub.cons rfl ?_ | refine Sub.consE rfl (by simp; done) ?_))) (by (repeat (first | exact sub0 _ | exact subA _ _ | refine subC _ ?_ | apply subK | refine subT _ ?_))) ⟨0, e.o, e.t, e.n, [], hq, rfl, rfl⟩)
                  (repeat (first | exact Sub.nil | refine Sub.cons rfl ?_ | refine Sub.consE rfl (by simp; done) ?_))
            · exact absurd hk4 (f_eq c27)
          · have n4 : e.k ≠ 4 := f_eq c27
            (repeat (first | refine WC.seqK fun K hK => ?_ | refine WC.block ?_ | refine WC.regionG rfl fun ops hG => ?_))
            refine WL.po (PO.bin (Ev.tmp rfl) Ev.const rfl) (leB rfl) ?_
            refine WL.po (PO.assign (Ev.tmp rfl)) (leB rfl) ?_
            refine WL.nil (keepF (ts := [1, 2, 4, 9, 27]) rfl (toK (by assumption) ?_))
            (try clear hG ops)
            (repeat (first | refine WC.seqK fun K hK => ?_ | refine WC.block ?_ | refine WC.regionG rfl fun ops hG => ?_))
            refine WC.cond (Ev.tmp rfl) (fun c27 => ?_) (fun c27 => ?_)
            · have hk9 : e.k = 9 := t_eq c27
              refine WC.skip (keepF (ts := [1, 2, 4, 9, 27]) rfl (toK (by assumption) ?_))
              (repeat (first | refine WC.seqK fun K hK => ?_ | refine WC.block ?_ | refine WC.regionG rfl fun ops hG => ?_))
              refine WC.cond (Ev.tmp rfl) (fun c27 => ?_) (fun c27 => ?_)
              · (repeat (first | refine WC.seqK fun K hK => ?_ | refine WC.block ?_ | refine WC.regionG rfl fun ops hG => ?_))
                refine WL.po (PO.fieldAddr Tryd.underlying27 rfl (Nat.ne_of_beq_eq_false rfl) (Ev.tmp rfl)) (leB rfl) ?_
                refine WL.po (PO.load1 Tryd.underlying9 rfl (Ev.tmp rfl) (by (repeat (first | exact mem0 _ | apply memT))) rfl) (leB rfl) ?_
                refine WL.callP Ev.func (Evs.cons (Ev.tmp rfl) Evs.nil) (name_ct _ _ _ hg (by assumption)) (leB rfl) ?_
                refine WL.po (PO.not (Ev.tmp rfl)) (leB rfl) ?_
                refine WL.nil (keepF (ts := [1, 2, 4, 34]) rfl (toK (by assumption) ?_))
                (try clear hG ops)
                (repeat (first | refine WC.seqK fun K hK => ?_ | refine WC.block ?_ | refine WC.regionG rfl fun ops hG => ?_))
                refine WC.cond (Ev.tmp rfl) (fun c34 => ?_) (fun c34 => ?_)
                · have hnm : Go.Lx.name e.s = false := by simpa using c34
                  (repeat (first | refine WC.seqK fun K hK => ?_ | refine WC.block ?_ | refine WC.regionG rfl fun ops hG => ?_))
                  refine WL.po (PO.assign Ev.const) (leB rfl) ?_
                  refine WL.po (PO.assign Ev.const) (leB rfl) ?_
                  refine WL.nil (keepF (ts := [2, 3]) rfl (toK (by assumption) ?_))
                  (try clear hG ops)
                  refine WC.ret (end2 (h' := h) (.inl rfl) rfl (RV.tmp rfl) (RV.tmp rfl) (View.le.refl m) (by (repeat (first | exact sub0 _ | exact subA _ _ | refine subC _ ?_ | apply subK | refine subT _ ?_))) ?_)
                  exact ⟨by first | simp [partsP, hk4, hnm] | simp [partsP, hk9, hnm] | simp [partsP, hk5, hnm], rfl⟩
                · have hnm : Go.Lx.name e.s = true := by simpa using c34
                  refine WC.skip (keepF (ts := [1, 2, 4]) rfl (toK (by assumption) ?_))
                  (repeat (first | refine WC.seqK fun K hK => ?_ | refine WC.block ?_ | refine WC.regionG rfl fun ops hG => ?_))
                  refine WL.po (PO.fieldAddr Tryd.underlying27 rfl (Nat.ne_of_beq_eq_false rfl) (Ev.tmp rfl)) (leB rfl) ?_
                  refine WL.store rfl (Ev.tmp rfl) Ev.const rfl rfl rfl rfl (by (repeat (first | exact Upd.here | apply Upd.next))) ?_
                  refine WL.nil (keepF (ts := [1, 2, 4]) rfl (toK (by assumption) ?_))
                  (try clear hG ops)
                  (repeat (first | refine WC.seqK fun K hK => ?_ | refine WC.block ?_ | refine WC.regionG rfl fun ops hG => ?_))
                  refine WL.po (PO.fieldAddr Tryd.underlying27 rfl (Nat.ne_of_beq_eq_false rfl) (Ev.tmp rfl)) (leB rfl) ?_
                  refine WL.po (PO.load1 Tryd.underlying22 rfl (Ev.tmp rfl) (by (repeat (first | exact mem0 _ | apply memT))) rfl) (leB rfl) ?_
                  refine WL.po (PO.bin (Ev.tmp rfl) Ev.const rfl) (leB rfl) ?_
                  refine WL.nil (keepF (ts := [2, 4, 38]) rfl (toK (by assumption) ?_))
                  (try clear hG ops)
                  (repeat (first | refine WC.seqK fun K hK => ?_ | refine WC.block ?_ | refine WC.regionG rfl fun ops hG => ?_))
                  refine WC.cond (Ev.tmp rfl) (fun c38 => ?_) (fun c38 => ?_)
                  · replace c38 := t_eq c38
                    (repeat (first | refine WC.seqK fun K hK => ?_ | refine WC.block ?_ | refine WC.regionG rfl fun ops hG => ?_))
                    refine WL.po (PO.assign Ev.const) (leB rfl) ?_
                    refine WL.nil (meetI [(2, .int .i64 1)] (h'' := .pt b4 (.cells [.int .u8 0, .int .u8 (e.o), .int .u8 (e.t), .int .i32 (e.n), str ([]), .slice none 0 0].toArray 27 (0, 0)) :: h) ?_ (by (repeat (first | exact Sub.nil | refine Sub.cons rfl ?_ | refine Sub.consE rfl (by simp; done) ?_))) (by (repeat (first | exact sub0 _ | exact subA _ _ | refine subC _ ?_ | apply subK | refine subT _ ?_))) ⟨1, e.o, e.t, e.n, [], by simp [partsP, c38, hnm], rfl, rfl⟩)
                    (repeat (first | exact Sub.nil | refine Sub.cons rfl ?_ | refine Sub.consE rfl (by simp; done) ?_))
                  · replace c38 := f_eq c38
                    have hq : partsP e = (0, fin e.o e.t e.n []) := by first | exact absurd hk5 c38 | simp [partsP, hk4, hnm] | simp [partsP, hk9, hnm]
                    refine WC.skip (meetI [(2, .int .i64 0)] (h'' := .pt b4 (.cells [.int .u8 0, .int .u8 (e.o), .int .u8 (e.t), .int .i32 (e.n), str ([]), .slice none 0 0].toArray 27 (0, 0)) :: h) ?_ (by (repeat (first | exact Sub.nil | refine Sub.cons rfl ?_ | refine Sub.consE rfl (by simp; done) ?_))) (by (repeat (first | exact sub0 _ | exact subA _ _ | refine subC _ ?_ | apply subK | refine subT _ ?_))) ⟨0, e.o, e.t, e.n, [], hq, rfl, rfl⟩)
                    (repeat (first | exact Sub.nil | refine Sub.cons rfl ?_ | refine Sub.consE rfl (by simp; done) ?_))
              · exact absurd hk9 (f_eq c27)
            · have n9 : e.k ≠ 9 := f_eq c27
              (repeat (first | refine WC.seqK fun K hK => ?_ | refine WC.block ?_ | refine WC.regionG rfl fun ops hG => ?_))
              refine WL.po (PO.bin (Ev.tmp rfl) Ev.const rfl) (leB rfl) ?_
              refine WL.po (PO.assign (Ev.tmp rfl)) (leB rfl) ?_
              refine WL.nil (keepF (ts := [1, 2, 4, 9, 27]) rfl (toK (by assumption) ?_))
              (try clear hG ops)
              (repeat (first | refine WC.seqK fun K hK => ?_ | refine WC.block ?_ | refine WC.regionG rfl fun ops hG => ?_))
              refine WC.cond (Ev.tmp rfl) (fun c27 => ?_) (fun c27 => ?_)
              · have hk5 : e.k = 5 := t_eq c27
                (repeat (first | refine WC.seqK fun K hK => ?_ | refine WC.block ?_ | refine WC.regionG rfl fun ops hG => ?_))
                refine WL.po (PO.fieldAddr Tryd.underlying27 rfl (Nat.ne_of_beq_eq_false rfl) (Ev.tmp rfl)) (leB rfl) ?_
                refine WL.po (PO.load1 Tryd.underlying9 rfl (Ev.tmp rfl) (by (repeat (first | exact mem0 _ | apply memT))) rfl) (leB rfl) ?_
                refine WL.callP Ev.func (Evs.cons (Ev.tmp rfl) Evs.nil) (name_ct _ _ _ hg (by assumption)) (leB rfl) ?_
                refine WL.po (PO.not (Ev.tmp rfl)) (leB rfl) ?_
                refine WL.nil (keepF (ts := [1, 2, 4, 34]) rfl (toK (by assumption) ?_))
                (try clear hG ops)
                (repeat (first | refine WC.seqK fun K hK => ?_ | refine WC.block ?_ | refine WC.regionG rfl fun ops hG => ?_))
                refine WC.cond (Ev.tmp rfl) (fun c34 => ?_) (fun c34 => ?_)
                · have hnm : Go.Lx.name e.s = false := by simpa using c34
                  (repeat (first | refine WC.seqK fun K hK => ?_ | refine WC.block ?_ | refine WC.regionG rfl fun ops hG => ?_))
                  refine WL.po (PO.assign Ev.const) (leB rfl) ?_
                  refine WL.po (PO.assign Ev.const) (leB rfl) ?_
                  refine WL.nil (keepF (ts := [2, 3]) rfl (toK (by assumption) ?_))
                  (try clear hG ops)
                  refine WC.ret (end2 (h' := h) (.inl rfl) rfl (RV.tmp rfl) (RV.tmp rfl) (View.le.refl m) (by (repeat (first | exact sub0 _ | exact subA _ _ | refine subC _ ?_ | apply subK | refine subT _ ?_))) ?_)
                  exact ⟨by first | simp [partsP, hk4, hnm] | simp [partsP, hk9, hnm] | simp [partsP, hk5, hnm], rfl⟩
                · have hnm : Go.Lx.name e.s = true := by simpa using c34
                  refine WC.skip (keepF (ts := [1, 2, 4]) rfl (toK (by assumption) ?_))
                  (repeat (first | refine WC.seqK fun K hK => ?_ | refine WC.block ?_ | refine WC.regionG rfl fun ops hG => ?_))
                  refine WL.po (PO.fieldAddr Tryd.underlying27 rfl (Nat.ne_of_beq_eq_false rfl) (Ev.tmp rfl)) (leB rfl) ?_
                  refine WL.store rfl (Ev.tmp rfl) Ev.const rfl rfl rfl rfl (by (repeat (first | exact Upd.here | apply Upd.next))) ?_
                  refine WL.nil (keepF (ts := [1, 2, 4]) rfl (toK (by assumption) ?_))
                  (try clear hG ops)
                  (repeat (first | refine WC.seqK fun K hK => ?_ | refine WC.block ?_ | refine WC.regionG rfl fun ops hG => ?_))
                  refine WL.po (PO.fieldAddr Tryd.underlying27 rfl (Nat.ne_of_beq_eq_false rfl) (Ev.tmp rfl)) (leB rfl) ?_
                  refine WL.po (PO.load1 Tryd.underlying22 rfl (Ev.tmp rfl) (by (repeat (first | exact mem0 _ | apply memT))) rfl) (leB rfl) ?_
                  refine WL.po (PO.bin (Ev.tmp rfl) Ev.const rfl) (leB rfl) ?_
                  refine WL.nil (keepF (ts := [2, 4, 38]) rfl (toK (by assumption) ?_))
                  (try clear hG ops)
                  (repeat (first | refine WC.seqK fun K hK => ?_ | refine WC.block ?_ | refine WC.regionG rfl fun ops hG => ?_))
                  refine WC.cond (Ev.tmp rfl) (fun c38 => ?_) (fun c38 => ?_)
                  · replace c38 := t_eq c38
                    (repeat (first | refine WC.seqK fun K hK => ?_ | refine WC.block ?_ | refine WC.regionG rfl fun ops hG => ?_))
                    refine WL.po (PO.assign Ev.const) (leB rfl) ?_
                    refine WL.nil (meetI [(2, .int .i64 1)] (h'' := .pt b4 (.cells [.int .u8 0, .int .u8 (e.o), .int .u8 (e.t), .int .i32 (e.n), str ([]), .slice none 0 0].toArray 27 (0, 0)) :: h) ?_ (by (repeat (first | exact Sub.nil | refine Sub.cons rfl ?_ | refine Sub.consE rfl (by simp; done) ?_))) (by (repeat (first | exact sub0 _ | exact subA _ _ | refine subC _ ?_ | apply subK | refine subT _ ?_))) ⟨1, e.o, e.t, e.n, [], by simp [partsP, c38, hnm], rfl, rfl⟩)
                    (repeat (first | exact Sub.nil | refine Sub.cons rfl ?_ | refine Sub.consE rfl (by simp; done) ?_))
                  · replace c38 := f_eq c38
                    have hq : partsP e = (0, fin e.o e.t e.n []) := by first | exact absurd hk5 c38 | simp [partsP, hk4, hnm] | simp [partsP, hk9, hnm]
                    refine WC.skip (meetI [(2, .int .i64 0)] (h'' := .pt b4 (.cells [.int .u8 0, .int .u8 (e.o), .int .u8 (e.t), .int .i32 (e.n), str ([]), .slice none 0 0].toArray 27 (0, 0)) :: h) ?_ (by (repeat (first | exact Sub.nil | refine Sub.cons rfl ?_ | refine Sub.consE rfl (by simp; done) ?_))) (by (repeat (first | exact sub0 _ | exact subA _ _ | refine subC _ ?_ | apply subK | refine subT _ ?_))) ⟨0, e.o, e.t, e.n, [], hq, rfl, rfl⟩)
                    (repeat (first | exact Sub.nil | refine Sub.cons rfl ?_ | refine Sub.consE rfl (by simp; done) ?_))
              · have n5 : e.k ≠ 5 := f_eq c27
                (repeat (first | refine WC.seqK fun K hK => ?_ | refine WC.block ?_ | refine WC.regionG rfl fun ops hG => ?_))
                refine WL.po (PO.bin (Ev.tmp rfl) Ev.const rfl) (leB rfl) ?_
                refine WL.po (PO.assign (Ev.tmp rfl)) (leB rfl) ?_
                refine WL.nil (keepF (ts := [1, 4, 9, 39]) rfl (toK (by assumption) ?_))
                (try clear hG ops)
                (repeat (first | refine WC.seqK fun K hK => ?_ | refine WC.block ?_ | refine WC.regionG rfl fun ops hG => ?_))
                refine WC.cond (Ev.tmp rfl) (fun c39 => ?_) (fun c39 => ?_)
                · replace c39 := t_eq c39
                  (repeat (first | refine WC.seqK fun K hK => ?_ | refine WC.block ?_ | refine WC.regionG rfl fun ops hG => ?_))
                  refine WL.po (PO.fieldAddr Tryd.underlying27 rfl (Nat.ne_of_beq_eq_false rfl) (Ev.tmp rfl)) (leB rfl) ?_
                  refine WL.po (PO.load1 Tryd.underlying23 rfl (Ev.tmp rfl) (by (repeat (first | exact mem0 _ | apply memT))) rfl) (leB rfl) ?_
                  refine WL.po (PO.bin (Ev.tmp rfl) Ev.const rfl) (leB rfl) ?_
                  refine WL.po (PO.move (Ev.tmp rfl)) (leB rfl) ?_
                  refine WL.poG (GU.f (hG _ _ rfl) rfl) (fun hc => PO.fieldAddr Tryd.underlying27 rfl (Nat.ne_of_beq_eq_false rfl) (Ev.tmp rfl)) (leB rfl) ?_
                  refine WL.poG (GU.f (hG _ _ rfl) rfl) (fun hc => PO.load1 Tryd.underlying23 rfl (Ev.gv rfl hc) (by (repeat (first | exact mem0 _ | apply memT))) rfl) (leB rfl) ?_
                  refine WL.poG (GU.f (hG _ _ rfl) rfl) (fun hc => PO.bin (Ev.gv rfl hc) Ev.const rfl) (leB rfl) ?_
                  refine WL.poG (GU.f (hG _ _ rfl) rfl) (fun hc => PO.bin (Ev.gv rfl hc) Ev.const rfl) (leB rfl) ?_
                  refine WL.po (PO.pickOr rfl rfl) (leB rfl) ?_
                  refine WL.nil (keepF (ts := [4, 49]) rfl (toK (by assumption) ?_))
                  (try clear hG ops)
                  (repeat (first | refine WC.seqK fun K hK => ?_ | refine WC.block ?_ | refine WC.regionG rfl fun ops hG => ?_))
                  refine WC.cond (Ev.tmp rfl) (fun c49 => ?_) (fun c49 => ?_)
                  · (repeat (first | refine WC.seqK fun K hK => ?_ | refine WC.block ?_ | refine WC.regionG rfl fun ops hG => ?_))
                    refine WL.po (PO.assign Ev.const) (leB rfl) ?_
                    refine WL.po (PO.assign Ev.const) (leB rfl) ?_
                    refine WL.nil (keepF (ts := [2, 3]) rfl (toK (by assumption) ?_))
                    (try clear hG ops)
                    refine WC.ret (end2 (h' := h) (.inl rfl) rfl (RV.tmp rfl) (RV.tmp rfl) (View.le.refl m) (by (repeat (first | exact sub0 _ | exact subA _ _ | refine subC _ ?_ | apply subK | refine subT _ ?_))) ?_)
                    exact ⟨by simp only [partsP, c39, c49]; rfl, rfl⟩
                  · refine WC.skip (keepF (ts := [4]) rfl (toK (by assumption) ?_))
                    (repeat (first | refine WC.seqK fun K hK => ?_ | refine WC.block ?_ | refine WC.regionG rfl fun ops hG => ?_))
                    refine WL.po (PO.assign Ev.const) (leB rfl) ?_
                    refine WL.po (PO.fieldAddr Tryd.underlying27 rfl (Nat.ne_of_beq_eq_false rfl) (Ev.tmp rfl)) (leB rfl) ?_
                    refine WL.store rfl (Ev.tmp rfl) Ev.const rfl rfl rfl rfl (by (repeat (first | exact Upd.here | apply Upd.next))) ?_
                    refine WL.nil (meetI [(2, .int .i64 1)] (h'' := .pt b4 (.cells [.int .u8 0, .int .u8 0, .int .u8 (e.t), .int .i32 (e.n), str (e.s), .slice none 0 0].toArray 27 (0, 0)) :: h) ?_ (by (repeat (first | exact Sub.nil | refine Sub.cons rfl ?_ | refine Sub.consE rfl (by simp; done) ?_))) (by (repeat (first | exact sub0 _ | exact subA _ _ | refine subC _ ?_ | apply subK | refine subT _ ?_))) ⟨1, 0, e.t, e.n, e.s, by simp only [partsP, c39, c49]; rfl, rfl, rfl⟩)
                    (repeat (first | exact Sub.nil | refine Sub.cons rfl ?_ | refine Sub.consE rfl (by simp; done) ?_))
                · replace c39 := f_eq c39
                  (repeat (first | refine WC.seqK fun K hK => ?_ | refine WC.block ?_ | refine WC.regionG rfl fun ops hG => ?_))
                  refine WL.po (PO.bin (Ev.tmp rfl) Ev.const rfl) (leB rfl) ?_
                  refine WL.po (PO.assign (Ev.tmp rfl)) (leB rfl) ?_
                  refine WL.nil (keepF (ts := [1, 4, 9, 51]) rfl (toK (by assumption) ?_))
                  (try clear hG ops)
                  (repeat (first | refine WC.seqK fun K hK => ?_ | refine WC.block ?_ | refine WC.regionG rfl fun ops hG => ?_))
                  refine WC.cond (Ev.tmp rfl) (fun c51 => ?_) (fun c51 => ?_)
                  · replace c51 := t_eq c51
                    (repeat (first | refine WC.seqK fun K hK => ?_ | refine WC.block ?_ | refine WC.regionG rfl fun ops hG => ?_))
                    refine WL.po (PO.fieldAddr Tryd.underlying27 rfl (Nat.ne_of_beq_eq_false rfl) (Ev.tmp rfl)) (leB rfl) ?_
                    refine WL.po (PO.load1 Tryd.underlying23 rfl (Ev.tmp rfl) (by (repeat (first | exact mem0 _ | apply memT))) rfl) (leB rfl) ?_
                    refine WL.po (PO.bin (Ev.tmp rfl) Ev.const rfl) (leB rfl) ?_
                    refine WL.po (PO.move (Ev.tmp rfl)) (leB rfl) ?_
                    refine WL.poG (GU.f (hG _ _ rfl) rfl) (fun hc => PO.fieldAddr Tryd.underlying27 rfl (Nat.ne_of_beq_eq_false rfl) (Ev.tmp rfl)) (leB rfl) ?_
                    refine WL.poG (GU.f (hG _ _ rfl) rfl) (fun hc => PO.load1 Tryd.underlying23 rfl (Ev.gv rfl hc) (by (repeat (first | exact mem0 _ | apply memT))) rfl) (leB rfl) ?_
                    refine WL.poG (GU.f (hG _ _ rfl) rfl) (fun hc => PO.bin (Ev.gv rfl hc) Ev.const rfl) (leB rfl) ?_
                    refine WL.po (PO.pickOr rfl rfl) (leB rfl) ?_
                    refine WL.nil (keepF (ts := [4, 60]) rfl (toK (by assumption) ?_))
                    (try clear hG ops)
                    (repeat (first | refine WC.seqK fun K hK => ?_ | refine WC.block ?_ | refine WC.regionG rfl fun ops hG => ?_))
                    refine WC.cond (Ev.tmp rfl) (fun c60 => ?_) (fun c60 => ?_)
                    · (repeat (first | refine WC.seqK fun K hK => ?_ | refine WC.block ?_ | refine WC.regionG rfl fun ops hG => ?_))
                      refine WL.po (PO.assign Ev.const) (leB rfl) ?_
                      refine WL.po (PO.assign Ev.const) (leB rfl) ?_
                      refine WL.nil (keepF (ts := [2, 3]) rfl (toK (by assumption) ?_))
                      (try clear hG ops)
                      refine WC.ret (end2 (h' := h) (.inl rfl) rfl (RV.tmp rfl) (RV.tmp rfl) (View.le.refl m) (by (repeat (first | exact sub0 _ | exact subA _ _ | refine subC _ ?_ | apply subK | refine subT _ ?_))) ?_)
                      exact ⟨by simp only [partsP, c51, c60]; rfl, rfl⟩
                    · refine WC.skip (keepF (ts := [4]) rfl (toK (by assumption) ?_))
                      (repeat (first | refine WC.seqK fun K hK => ?_ | refine WC.block ?_ | refine WC.regionG rfl fun ops hG => ?_))
                      refine WL.po (PO.assign Ev.const) (leB rfl) ?_
                      refine WL.po (PO.fieldAddr Tryd.underlying27 rfl (Nat.ne_of_beq_eq_false rfl) (Ev.tmp rfl)) (leB rfl) ?_
                      refine WL.store rfl (Ev.tmp rfl) Ev.const rfl rfl rfl rfl (by (repeat (first | exact Upd.here | apply Upd.next))) ?_
                      refine WL.nil (meetI [(2, .int .i64 2)] (h'' := .pt b4 (.cells [.int .u8 0, .int .u8 0, .int .u8 (e.t), .int .i32 (e.n), str (e.s), .slice none 0 0].toArray 27 (0, 0)) :: h) ?_ (by (repeat (first | exact Sub.nil | refine Sub.cons rfl ?_ | refine Sub.consE rfl (by simp; done) ?_))) (by (repeat (first | exact sub0 _ | exact subA _ _ | refine subC _ ?_ | apply subK | refine subT _ ?_))) ⟨2, 0, e.t, e.n, e.s, by simp only [partsP, c51, c60]; rfl, rfl, rfl⟩)
                      (repeat (first | exact Sub.nil | refine Sub.cons rfl ?_ | refine Sub.consE rfl (by simp; done) ?_))
                  · replace c51 := f_eq c51
                    (repeat (first | refine WC.seqK fun K hK => ?_ | refine WC.block ?_ | refine WC.regionG rfl fun ops hG => ?_))
                    refine WL.po (PO.bin (Ev.tmp rfl) Ev.const rfl) (leB rfl) ?_
                    refine WL.po (PO.assign (Ev.tmp rfl)) (leB rfl) ?_
                    refine WL.nil (keepF (ts := [1, 4, 62]) rfl (toK (by assumption) ?_))
                    (try clear hG ops)
                    (repeat (first | refine WC.seqK fun K hK => ?_ | refine WC.block ?_ | refine WC.regionG rfl fun ops hG => ?_))
                    refine WC.cond (Ev.tmp rfl) (fun c62 => ?_) (fun c62 => ?_)
                    · replace c62 := t_eq c62
                      (repeat (first | refine WC.seqK fun K hK => ?_ | refine WC.block ?_ | refine WC.regionG rfl fun ops hG => ?_))
                      refine WL.po (PO.fieldAddr Tryd.underlying27 rfl (Nat.ne_of_beq_eq_false rfl) (Ev.tmp rfl)) (leB rfl) ?_
                      refine WL.po (PO.load1 Tryd.underlying24 rfl (Ev.tmp rfl) (by (repeat (first | exact mem0 _ | apply memT))) rfl) (leB rfl) ?_
                      refine WL.callP Ev.func (Evs.cons (Ev.tmp rfl) Evs.nil) (prim_ct _ _ _) (leB rfl) ?_
                      refine WL.po (PO.eqlS (Ev.tmp rfl) Ev.const) (leB rfl) ?_
                      refine WL.nil (keepF (ts := [4, 67]) rfl (toK (by assumption) ?_))
                      (try clear hG ops)
                      (repeat (first | refine WC.seqK fun K hK => ?_ | refine WC.block ?_ | refine WC.regionG rfl fun ops hG => ?_))
                      refine WC.cond (Ev.tmp rfl) (fun c67 => ?_) (fun c67 => ?_)
                      · (repeat (first | refine WC.seqK fun K hK => ?_ | refine WC.block ?_ | refine WC.regionG rfl fun ops hG => ?_))
                        refine WL.po (PO.assign Ev.const) (leB rfl) ?_
                        refine WL.po (PO.assign Ev.const) (leB rfl) ?_
                        refine WL.nil (keepF (ts := [2, 3]) rfl (toK (by assumption) ?_))
                        (try clear hG ops)
                        refine WC.ret (end2 (h' := h) (.inl rfl) rfl (RV.tmp rfl) (RV.tmp rfl) (View.le.refl m) (by (repeat (first | exact sub0 _ | exact subA _ _ | refine subC _ ?_ | apply subK | refine subT _ ?_))) ?_)
                        exact ⟨by simp only [partsP, c62, c67]; rfl, rfl⟩
                      · refine WC.skip (keepF (ts := [4]) rfl (toK (by assumption) ?_))
                        (repeat (first | refine WC.seqK fun K hK => ?_ | refine WC.block ?_ | refine WC.regionG rfl fun ops hG => ?_))
                        refine WL.po (PO.assign Ev.const) (leB rfl) ?_
                        refine WL.po (PO.fieldAddr Tryd.underlying27 rfl (Nat.ne_of_beq_eq_false rfl) (Ev.tmp rfl)) (leB rfl) ?_
                        refine WL.store rfl (Ev.tmp rfl) Ev.const rfl rfl rfl rfl (by (repeat (first | exact Upd.here | apply Upd.next))) ?_
                        refine WL.nil (meetI [(2, .int .i64 1)] (h'' := .pt b4 (.cells [.int .u8 0, .int .u8 (e.o), .int .u8 0, .int .i32 (e.n), str (e.s), .slice none 0 0].toArray 27 (0, 0)) :: h) ?_ (by (repeat (first | exact Sub.nil | refine Sub.cons rfl ?_ | refine Sub.consE rfl (by simp; done) ?_))) (by (repeat (first | exact sub0 _ | exact subA _ _ | refine subC _ ?_ | apply subK | refine subT _ ?_))) ⟨1, e.o, 0, e.n, e.s, by simp only [partsP, c62, c67]; rfl, rfl, rfl⟩)
                        (repeat (first | exact Sub.nil | refine Sub.cons rfl ?_ | refine Sub.consE rfl (by simp; done) ?_))
                    · replace c62 := f_eq c62
                      (repeat (first | refine WC.seqK fun K hK => ?_ | refine WC.block ?_ | refine WC.regionG rfl fun ops hG => ?_))
                      refine WL.po (PO.assign Ev.const) (leB rfl) ?_
                      refine WL.po (PO.assign Ev.const) (leB rfl) ?_
                      refine WL.nil (keepF (ts := [2, 3]) rfl (toK (by assumption) ?_))
                      (try clear hG ops)
                      refine WC.ret (end2 (h' := h) (.inl rfl) rfl (RV.tmp rfl) (RV.tmp rfl) (View.le.refl m) (by (repeat (first | exact sub0 _ | exact subA _ _ | refine subC _ ?_ | apply subK | refine subT _ ?_))) ?_)
                      exact ⟨by simp [partsP, c10, c13, c20, n4, n9, n5, c39, c51, c62], rfl⟩
  rintro _ _ ⟨nn, o', t', n', s', hJ, rfl, rfl⟩
  refine WC.frm rfl ?_
  (repeat (first | refine WC.seqK fun K hK => ?_ | refine WC.block ?_ | refine WC.regionG rfl fun ops hG => ?_))
  refine WC.drawS [] (.op 0 (.op 1 (.op 2 (.op 3 (.op 4 (.op 5 (.op 6 (.op 7 (.op 8 (.op 9 (.op 10 (.op 11 (.op 12 (.op 13 (.op 14 (.op 15 (.op 16 (.op 17 (.op 18 (.op 19 .nil)))))))))))))))))))) [20] _ [] mixed (fun _ _ _ _ _ h => h) [] (by kernel_rfl) ?_
  refine SR.po rfl rfl (PO.move (Ev.tmp rfl)) (leB rfl) ?_
  refine SR.po rfl rfl (PO.fieldAddr Tryd.underlying27 rfl (Nat.ne_of_beq_eq_false rfl) (Ev.tmp rfl)) (leB rfl) ?_
  refine SR.po rfl rfl (PO.load1 Tryd.underlying23 rfl (Ev.tmp rfl) (by (repeat (first | exact mem0 _ | apply memT))) rfl) (leB rfl) ?_
  refine SR.po rfl rfl (PO.bin (Ev.tmp rfl) Ev.const rfl) (leB rfl) ?_
  refine SR.po rfl rfl (PO.move (Ev.tmp rfl)) (leB rfl) ?_
  refine SR.poG rfl rfl (GU.t rfl rfl) (fun hc => PO.fieldAddr Tryd.underlying27 rfl (Nat.ne_of_beq_eq_false rfl) (Ev.tmp rfl)) (leB rfl) ?_
  refine SR.poG rfl rfl (GU.t rfl rfl) (fun hc => PO.load1 Tryd.underlying24 rfl (Ev.gv rfl hc) (by (repeat (first | exact mem0 _ | apply memT))) rfl) (leB rfl) ?_
  refine SR.poG rfl rfl (GU.t rfl rfl) (fun hc => PO.bin (Ev.gv rfl hc) Ev.const rfl) (leB rfl) ?_
  refine SR.po rfl rfl (PO.pickAnd rfl rfl) (leB rfl) ?_
  refine SR.po rfl rfl (PO.move (Ev.tmp rfl)) (leB rfl) ?_
  refine SR.poG rfl rfl (GU.t rfl rfl) (fun hc => PO.fieldAddr Tryd.underlying27 rfl (Nat.ne_of_beq_eq_false rfl) (Ev.tmp rfl)) (leB rfl) ?_
  refine SR.poG rfl rfl (GU.t rfl rfl) (fun hc => PO.load1 Tryd.underlying21 rfl (Ev.gv rfl hc) (by (repeat (first | exact mem0 _ | apply memT))) rfl) (leB rfl) ?_
  refine SR.poG rfl rfl (GU.t rfl rfl) (fun hc => PO.bin (Ev.gv rfl hc) Ev.const rfl) (leB rfl) ?_
  refine SR.po rfl rfl (PO.pickAnd rfl rfl) (leB rfl) ?_
  refine SR.po rfl rfl (PO.move (Ev.tmp rfl)) (leB rfl) ?_
  refine SR.poG rfl rfl (GU.t rfl rfl) (fun hc => PO.fieldAddr Tryd.underlying27 rfl (Nat.ne_of_beq_eq_false rfl) (Ev.tmp rfl)) (leB rfl) ?_
  refine SR.poG rfl rfl (GU.t rfl rfl) (fun hc => PO.load1 Tryd.underlying9 rfl (Ev.gv rfl hc) (by (repeat (first | exact mem0 _ | apply memT))) rfl) (leB rfl) ?_
  refine SR.poG rfl rfl (GU.t rfl rfl) (fun hc => PO.eqlS (Ev.gv rfl hc) Ev.const) (leB rfl) ?_
  refine SR.po rfl rfl (PO.pickAnd rfl rfl) (leB rfl) ?_
  refine SR.po rfl rfl (PO.assign (Ev.tmp rfl)) (leB rfl) ?_
  refine SR.nil rfl rfl ?_
  refine WL.po (PO.assign (Ev.tmp rfl)) (leB rfl) ?_
  refine WL.nil (keepF (ts := [2, 3]) rfl (toK (by assumption) ?_))
  (try clear hG ops)
  refine WC.ret (end2 (h' := h) (.inl rfl) rfl (RV.tmp rfl) (RV.tmp rfl) (View.le.refl m) (by (repeat (first | exact sub0 _ | exact subA _ _ | refine subC _ ?_ | apply subK | refine subT _ ?_))) ?_)
  exact ⟨by rw [hJ]; rfl, rfl⟩
end Go.Proofs.YtheejlbhmbbdjaaDoor

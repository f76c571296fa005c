/- expr: names, walked. -/
import Derived.Test.YtheejlbhmbbdjaaDoorExpB
namespace Go.Proofs.YtheejlbhmbbdjaaDoor
open Go.Eng Go.Xp Go
open Go.Lx (encB encB_len)
set_option maxRecDepth 100000
theorem names_ct (e : Ex) : ∀ (h : List Res) (m : View), TOk m h e → cntE e ≤ 1099511627776 → CT Tryd.prog 27 [exV e] h m (fun v _ h' => OwnF encB 9 1 h (namesE e) v h') := by
  refine Ex.ind (p := fun e => ∀ (h : List Res) (m : View), TOk m h e → cntE e ≤ 1099511627776 → CT Tryd.prog 27 [exV e] h m (fun v _ h' => OwnF encB 9 1 h (namesE e) v h')) (fun e ih h m hT hc => ?_) e
  have hr := hT.rd
  have hce := cntE_eq e
  have hle := cnt_len e.l
  have hol := own_len e
  refine CT.body Tryd.call27 Tryd.func27 rfl Tryd.ntmps27 (leB rfl) rfl ?_
  (repeat (first | refine WC.seqK fun K hK => ?_ | refine WC.block ?_ | refine WC.regionG rfl fun ops hG => ?_))
  refine WL.box (Ev.tmp rfl) rfl (leB rfl) fun b1 => ?_
  refine WL.po (PO.assign Ev.const) (leB rfl) ?_
  refine WL.nil (keepF (ts := [1]) rfl (toK (by assumption) ?_))
  (try clear hG ops)
  (repeat (first | refine WC.seqK fun K hK => ?_ | refine WC.block ?_ | refine WC.regionG rfl fun ops hG => ?_))
  refine WL.addNil 9 1 ?_
  refine WL.po (PO.assign Ev.const) (leB rfl) ?_
  refine WL.nil (keepF (ts := [1, 3]) rfl (toK (by assumption) ?_))
  (try clear hG ops)
  (repeat (first | refine WC.seqK fun K hK => ?_ | refine WC.block ?_ | refine WC.regionG rfl fun ops hG => ?_))
  refine WL.po (PO.fieldAddr Tryd.underlying27 rfl (Nat.ne_of_beq_eq_false rfl) (Ev.tmp rfl)) (leB rfl) ?_
  refine WL.po (PO.load1 Tryd.underlying22 rfl (Ev.tmp rfl) (by (repeat (first | exact mem0 _ | apply memT))) rfl) (leB rfl) ?_
  refine WL.nil (keepF (ts := [1, 3, 7]) rfl (toK (by assumption) ?_))
  (try clear hG ops)
  (repeat refine WC.seqK fun K hK => ?_)
  refine WC.cutK (by assumption) [1] rfl (fun F' h' => ∃ a0 : Option Addr, ∃ c0 : Nat, ∃ l0 : List B, (l0 = ownN e) ∧ F' = [(3, .slice a0 l0.length c0)] ∧ .row (.slice a0 l0.length c0) 9 1 l0.length (fl encB l0) :: .pt b1 (.cells (exE e).toArray 27 (0, 0)) :: h = h') ?_ ?_
  · (repeat (first | refine WC.seqK fun K hK => ?_ | refine WC.block ?_ | refine WC.regionG rfl fun ops hG => ?_))
    refine WL.po (PO.bin (Ev.tmp rfl) Ev.const rfl) (leB rfl) ?_
    refine WL.po (PO.assign (Ev.tmp rfl)) (leB rfl) ?_
    refine WL.nil (keepF (ts := [1, 3, 7, 8]) rfl (toK (by assumption) ?_))
    (try clear hG ops)
    (repeat (first | refine WC.seqK fun K hK => ?_ | refine WC.block ?_ | refine WC.regionG rfl fun ops hG => ?_))
    refine WC.cond (Ev.tmp rfl) (fun c8 => ?_) (fun c8 => ?_)
    · have d4 := c8
      refine WC.skip (keepF (ts := [1, 3, 8]) rfl (toK (by assumption) ?_))
      (repeat (first | refine WC.seqK fun K hK => ?_ | refine WC.block ?_ | refine WC.regionG rfl fun ops hG => ?_))
      refine WC.cond (Ev.tmp rfl) (fun c8 => ?_) (fun c8 => ?_)
      · have ho : ownN e = [e.s] := by unfold ownN; rw [d4]; rfl
        (repeat (first | refine WC.seqK fun K hK => ?_ | refine WC.block ?_ | refine WC.regionG rfl fun ops hG => ?_))
        refine WL.po (PO.move (Ev.tmp rfl)) (leB rfl) ?_
        refine WL.po (PO.fieldAddr Tryd.underlying27 rfl (Nat.ne_of_beq_eq_false rfl) (Ev.tmp rfl)) (leB rfl) ?_
        refine WL.po (PO.load1 Tryd.underlying9 rfl (Ev.tmp rfl) (by (repeat (first | exact mem0 _ | apply memT))) rfl) (leB rfl) ?_
        refine WL.buildSlice EL58 rfl (EvP.cons (Ev.tmp rfl) EvP.nil) rfl rfl (by decide) rfl (leB rfl) fun b15 => ?_
        refine WL.appendE EL58 (Ev.tmp rfl) (Ev.tmp rfl) (by first | assumption | exact Rd.ofSl (by assumption) | exact Rd.ofPt rfl (by decide) (by (repeat (first | exact mem0 _ | apply memT))) | exact Rd.mono (by assumption) (View.le.refl _) (by (repeat (first | exact sub0 _ | exact subA _ _ | refine subC _ ?_ | apply subK | refine subT _ ?_))) | exact Rd.inRow (by (repeat (first | exact mem0 _ | apply memT))) (by assumption) (by assumption) (by assumption)) (by first | exact one_of rfl | exact fl_ones (fun _ => rfl) _) (rfl : 0 + 1 = [e.s].length) (rfl : ([] : List Value) ++ [str e.s] = fl encB [e.s]) (by omega) (by omega) (fun v' => by (repeat (first | exact Upd.here | apply Upd.next))) (leB rfl) fun a16 c16 => ?_
        refine WL.po (PO.assign (Ev.tmp rfl)) (leB rfl) ?_
        refine WL.nil (meetI [(3, .slice a16 ([e.s]).length c16)] (h'' := .row (.slice a16 ([e.s]).length c16) 9 1 ([e.s]).length (fl encB ([e.s])) :: .pt b1 (.cells (exE e).toArray 27 (0, 0)) :: h) ?_ (by (repeat (first | exact Sub.nil | refine Sub.cons rfl ?_ | refine Sub.consE rfl (by simp; done) ?_))) (by (repeat (first | exact sub0 _ | exact subA _ _ | refine subC _ ?_ | apply subK | refine subT _ ?_))) ⟨a16, c16, [e.s], ho.symm, rfl, rfl⟩)
        (repeat (first | exact Sub.nil | refine Sub.cons rfl ?_ | refine Sub.consE rfl (by simp; done) ?_))
      · cases d4.symm.trans c8
    · have d4 := c8
      (repeat (first | refine WC.seqK fun K hK => ?_ | refine WC.block ?_ | refine WC.regionG rfl fun ops hG => ?_))
      refine WL.po (PO.bin (Ev.tmp rfl) Ev.const rfl) (leB rfl) ?_
      refine WL.po (PO.assign (Ev.tmp rfl)) (leB rfl) ?_
      refine WL.nil (keepF (ts := [1, 3, 7, 8]) rfl (toK (by assumption) ?_))
      (try clear hG ops)
      (repeat (first | refine WC.seqK fun K hK => ?_ | refine WC.block ?_ | refine WC.regionG rfl fun ops hG => ?_))
      refine WC.cond (Ev.tmp rfl) (fun c8 => ?_) (fun c8 => ?_)
      · have d5 := c8
        refine WC.skip (keepF (ts := [1, 3, 8]) rfl (toK (by assumption) ?_))
        (repeat (first | refine WC.seqK fun K hK => ?_ | refine WC.block ?_ | refine WC.regionG rfl fun ops hG => ?_))
        refine WC.cond (Ev.tmp rfl) (fun c8 => ?_) (fun c8 => ?_)
        · have ho : ownN e = [e.s] := by unfold ownN; rw [d4, d5]; rfl
          (repeat (first | refine WC.seqK fun K hK => ?_ | refine WC.block ?_ | refine WC.regionG rfl fun ops hG => ?_))
          refine WL.po (PO.move (Ev.tmp rfl)) (leB rfl) ?_
          refine WL.po (PO.fieldAddr Tryd.underlying27 rfl (Nat.ne_of_beq_eq_false rfl) (Ev.tmp rfl)) (leB rfl) ?_
          refine WL.po (PO.load1 Tryd.underlying9 rfl (Ev.tmp rfl) (by (repeat (first | exact mem0 _ | apply memT))) rfl) (leB rfl) ?_
          refine WL.buildSlice EL58 rfl (EvP.cons (Ev.tmp rfl) EvP.nil) rfl rfl (by decide) rfl (leB rfl) fun b15 => ?_
          refine WL.appendE EL58 (Ev.tmp rfl) (Ev.tmp rfl) (by first | assumption | exact Rd.ofSl (by assumption) | exact Rd.ofPt rfl (by decide) (by (repeat (first | exact mem0 _ | apply memT))) | exact Rd.mono (by assumption) (View.le.refl _) (by (repeat (first | exact sub0 _ | exact subA _ _ | refine subC _ ?_ | apply subK | refine subT _ ?_))) | exact Rd.inRow (by (repeat (first | exact mem0 _ | apply memT))) (by assumption) (by assumption) (by assumption)) (by first | exact one_of rfl | exact fl_ones (fun _ => rfl) _) (rfl : 0 + 1 = [e.s].length) (rfl : ([] : List Value) ++ [str e.s] = fl encB [e.s]) (by omega) (by omega) (fun v' => by (repeat (first | exact Upd.here | apply Upd.next))) (leB rfl) fun a16 c16 => ?_
          refine WL.po (PO.assign (Ev.tmp rfl)) (leB rfl) ?_
          refine WL.nil (meetI [(3, .slice a16 ([e.s]).length c16)] (h'' := .row (.slice a16 ([e.s]).length c16) 9 1 ([e.s]).length (fl encB ([e.s])) :: .pt b1 (.cells (exE e).toArray 27 (0, 0)) :: h) ?_ (by (repeat (first | exact Sub.nil | refine Sub.cons rfl ?_ | refine Sub.consE rfl (by simp; done) ?_))) (by (repeat (first | exact sub0 _ | exact subA _ _ | refine subC _ ?_ | apply subK | refine subT _ ?_))) ⟨a16, c16, [e.s], ho.symm, rfl, rfl⟩)
          (repeat (first | exact Sub.nil | refine Sub.cons rfl ?_ | refine Sub.consE rfl (by simp; done) ?_))
        · cases d5.symm.trans c8
      · have d5 := c8
        (repeat (first | refine WC.seqK fun K hK => ?_ | refine WC.block ?_ | refine WC.regionG rfl fun ops hG => ?_))
        refine WL.po (PO.bin (Ev.tmp rfl) Ev.const rfl) (leB rfl) ?_
        refine WL.po (PO.assign (Ev.tmp rfl)) (leB rfl) ?_
        refine WL.nil (keepF (ts := [1, 3, 8]) rfl (toK (by assumption) ?_))
        (try clear hG ops)
        (repeat (first | refine WC.seqK fun K hK => ?_ | refine WC.block ?_ | refine WC.regionG rfl fun ops hG => ?_))
        refine WC.cond (Ev.tmp rfl) (fun c8 => ?_) (fun c8 => ?_)
        · have ho : ownN e = [e.s] := by unfold ownN; rw [d4, d5, c8]; rfl
          (repeat (first | refine WC.seqK fun K hK => ?_ | refine WC.block ?_ | refine WC.regionG rfl fun ops hG => ?_))
          refine WL.po (PO.move (Ev.tmp rfl)) (leB rfl) ?_
          refine WL.po (PO.fieldAddr Tryd.underlying27 rfl (Nat.ne_of_beq_eq_false rfl) (Ev.tmp rfl)) (leB rfl) ?_
          refine WL.po (PO.load1 Tryd.underlying9 rfl (Ev.tmp rfl) (by (repeat (first | exact mem0 _ | apply memT))) rfl) (leB rfl) ?_
          refine WL.buildSlice EL58 rfl (EvP.cons (Ev.tmp rfl) EvP.nil) rfl rfl (by decide) rfl (leB rfl) fun b15 => ?_
          refine WL.appendE EL58 (Ev.tmp rfl) (Ev.tmp rfl) (by first | assumption | exact Rd.ofSl (by assumption) | exact Rd.ofPt rfl (by decide) (by (repeat (first | exact mem0 _ | apply memT))) | exact Rd.mono (by assumption) (View.le.refl _) (by (repeat (first | exact sub0 _ | exact subA _ _ | refine subC _ ?_ | apply subK | refine subT _ ?_))) | exact Rd.inRow (by (repeat (first | exact mem0 _ | apply memT))) (by assumption) (by assumption) (by assumption)) (by first | exact one_of rfl | exact fl_ones (fun _ => rfl) _) (rfl : 0 + 1 = [e.s].length) (rfl : ([] : List Value) ++ [str e.s] = fl encB [e.s]) (by omega) (by omega) (fun v' => by (repeat (first | exact Upd.here | apply Upd.next))) (leB rfl) fun a16 c16 => ?_
          refine WL.po (PO.assign (Ev.tmp rfl)) (leB rfl) ?_
          refine WL.nil (meetI [(3, .slice a16 ([e.s]).length c16)] (h'' := .row (.slice a16 ([e.s]).length c16) 9 1 ([e.s]).length (fl encB ([e.s])) :: .pt b1 (.cells (exE e).toArray 27 (0, 0)) :: h) ?_ (by (repeat (first | exact Sub.nil | refine Sub.cons rfl ?_ | refine Sub.consE rfl (by simp; done) ?_))) (by (repeat (first | exact sub0 _ | exact subA _ _ | refine subC _ ?_ | apply subK | refine subT _ ?_))) ⟨a16, c16, [e.s], ho.symm, rfl, rfl⟩)
          (repeat (first | exact Sub.nil | refine Sub.cons rfl ?_ | refine Sub.consE rfl (by simp; done) ?_))
        · have ho : ownN e = [] := by unfold ownN; rw [d4, d5, c8]; rfl
          refine WC.skip (meetI [(3, .slice none ([]).length 0)] (h'' := .row (.slice none ([]).length 0) 9 1 ([]).length (fl encB ([])) :: .pt b1 (.cells (exE e).toArray 27 (0, 0)) :: h) ?_ (by (repeat (first | exact Sub.nil | refine Sub.cons rfl ?_ | refine Sub.consE rfl (by simp; done) ?_))) (by (repeat (first | exact sub0 _ | exact subA _ _ | refine subC _ ?_ | apply subK | refine subT _ ?_))) ⟨none, 0, [], ho.symm, rfl, rfl⟩)
          (repeat (first | exact Sub.nil | refine Sub.cons rfl ?_ | refine Sub.consE rfl (by simp; done) ?_))
  rintro _ _ ⟨a0, c0, l0, h0, rfl, rfl⟩
  refine WC.frm rfl ?_
  (repeat (first | refine WC.seqK fun K hK => ?_ | refine WC.block ?_ | refine WC.regionG rfl fun ops hG => ?_))
  refine WL.po (PO.fieldAddr Tryd.underlying27 rfl (Nat.ne_of_beq_eq_false rfl) (Ev.tmp rfl)) (leB rfl) ?_
  refine WL.po (PO.load1 Tryd.underlying25 rfl (Ev.tmp rfl) (by (repeat (first | exact mem0 _ | apply memT))) rfl) (leB rfl) ?_
  refine WL.po (PO.lenSl Tryd.underlying25 (Ev.tmp rfl)) (leB rfl) ?_
  refine WL.po (PO.move Ev.const) (leB rfl) ?_
  refine WL.nil (keepF (ts := [3, 18, 19, 20]) rfl (toK (by assumption) ?_))
  (try clear hG ops)
  (repeat (first | refine WC.seqK fun K hK => ?_ | refine WC.block ?_ | refine WC.regionG rfl fun ops hG => ?_))
  refine WC.loopI [18, 19] rfl (fun μ F' h' => ∃ k : Nat, ∃ a : Option Addr, ∃ c : Nat, ∃ l : List B, (k ≤ e.l.length ∧ l = ownN e ++ namesL (e.l.take k)) ∧ e.l.length - k = μ ∧ F' = [(3, .slice a l.length c), (20, .int .i64 k)] ∧ .row (.slice a l.length c) 9 1 l.length (fl encB l) :: .pt b1 (.cells (exE e).toArray 27 (0, 0)) :: h = h') (e.l.length - 0) [(3, .slice a0 l0.length c0), (20, .int .i64 0)] (h0 := .row (.slice a0 l0.length c0) 9 1 l0.length (fl encB l0) :: .pt b1 (.cells (exE e).toArray 27 (0, 0)) :: h) ?_ (by (repeat (first | exact sub0 _ | exact subA _ _ | refine subC _ ?_ | apply subK | refine subT _ ?_))) ⟨0, a0, c0, l0, ⟨by omega, by rw [h0]; exact (List.append_nil _).symm⟩, rfl, rfl, rfl⟩ ?_
  · (repeat (first | exact Sub.nil | refine Sub.cons rfl ?_ | refine Sub.consE rfl (by simp; done) ?_))
  rintro _ _ _ ⟨k, a, c, l, ⟨hk, hl⟩, rfl, rfl, rfl⟩
  refine WC.frm rfl ?_
  have hrk : Rd m (.row (.slice a l.length c) 9 1 l.length (fl encB l) :: .pt b1 (.cells (exE e).toArray 27 (0, 0)) :: h) e.a e.l.length e.c 6 (fl exE e.l) := hr.mono (View.le.refl m) (by (repeat (first | exact sub0 _ | exact subA _ _ | refine subC _ ?_ | apply subK | refine subT _ ?_)))
  (repeat (first | refine WC.seqK fun K hK => ?_ | refine WC.block ?_ | refine WC.regionG rfl fun ops hG => ?_))
  refine WL.po (PO.bin (Ev.tmp rfl) (Ev.tmp rfl) rfl) (leB rfl) ?_
  refine WL.nil (keepF (ts := [3, 18, 19, 20, 21]) rfl (toK (by assumption) ?_))
  (try clear hG ops)
  (repeat (first | refine WC.seqK fun K hK => ?_ | refine WC.block ?_ | refine WC.regionG rfl fun ops hG => ?_))
  refine WC.cond (Ev.tmp rfl) (fun c21 => ?_) (fun c21 => ?_)
  · replace c21 := of_decide_eq_true c21
    obtain ⟨x, hx⟩ := get_some (l := e.l) (k := k) (by omega)
    have hxm := List.mem_of_getElem? hx
    have hcx := cnt_mem hxm
    have hnt := names_take hx
    have hcl := cnt_take_le e.l (k + 1)
    have hnl := namesL_len (e.l.take (k + 1))
    have hll : l.length + (namesE x).length ≤ cntE e := by
      rw [hl, List.length_append]
      rw [hnt, List.length_append] at hnl
      omega
    have hla : (l ++ namesE x).length ≤ cntE e := by rw [List.length_append]; exact hll
    refine WC.skip (keepF (ts := [3, 18, 19, 20]) rfl (toK (by assumption) ?_))
    (repeat (first | refine WC.seqK fun K hK => ?_ | refine WC.block ?_ | refine WC.regionG rfl fun ops hG => ?_))
    refine WL.po (PO.idx EL25.und EL25.size EL25.posz (Ev.tmp rfl) (Ev.tmp rfl) (by first | assumption | exact Rd.ofSl (by assumption) | exact Rd.ofPt rfl (by decide) (by (repeat (first | exact mem0 _ | apply memT))) | exact Rd.mono (by assumption) (View.le.refl _) (by (repeat (first | exact sub0 _ | exact subA _ _ | refine subC _ ?_ | apply subK | refine subT _ ?_))) | exact Rd.inRow (by (repeat (first | exact mem0 _ | apply memT))) (by assumption) (by assumption) (by assumption)) rfl (by omega)) (leB rfl) ?_
    refine WL.po (PO.loadFA Tryd.underlying27 rfl rfl exE_len (by first | assumption | exact Rd.ofSl (by assumption) | exact Rd.ofPt rfl (by decide) (by (repeat (first | exact mem0 _ | apply memT))) | exact Rd.mono (by assumption) (View.le.refl _) (by (repeat (first | exact sub0 _ | exact subA _ _ | refine subC _ ?_ | apply subK | refine subT _ ?_))) | exact Rd.inRow (by (repeat (first | exact mem0 _ | apply memT))) (by assumption) (by assumption) (by assumption)) (Ev.tmp rfl) (by assumption) rfl rfl (Nat.succ_pos _)) (leB rfl) ?_
    refine WL.alloc rfl rfl (leB rfl) fun b5 => ?_
    refine WL.store rfl (Ev.tmp rfl) (Ev.tmp rfl) rfl rfl rfl rfl (by (repeat (first | exact Upd.here | apply Upd.next))) ?_
    refine WL.nil (keepF (ts := [3, 5, 18, 19, 20]) rfl (toK (by assumption) ?_))
    (try clear hG ops)
    (repeat (first | refine WC.seqK fun K hK => ?_ | refine WC.block ?_ | refine WC.regionG rfl fun ops hG => ?_))
    refine WL.po (PO.move (Ev.tmp rfl)) (leB rfl) ?_
    refine WL.po (PO.loadA Tryd.underlying27 rfl rfl (Ev.tmp rfl) (by (repeat (first | exact mem0 _ | apply memT))) rfl) (leB rfl) ?_
    refine WL.callK Ev.func (Evs.cons (Ev.tmp rfl) Evs.nil) (ih x hxm _ _ ((hT.part hxm).mono (by (repeat (first | exact sub0 _ | exact subA _ _ | refine subC _ ?_ | apply subK | refine subT _ ?_)))) (by omega)) (leB rfl) ?_
    rintro _ _ ⟨a26, c26, k26, e26, rfl, rfl⟩
    refine WL.knowRow (a := a26) (by (repeat (first | exact mem0 _ | apply memT))) fun p26 q26 r26 => ?_
    refine WL.appendE EL58 (Ev.tmp rfl) (Ev.tmp rfl) (by first | assumption | exact Rd.ofSl (by assumption) | exact Rd.ofPt rfl (by decide) (by (repeat (first | exact mem0 _ | apply memT))) | exact Rd.mono (by assumption) (View.le.refl _) (by (repeat (first | exact sub0 _ | exact subA _ _ | refine subC _ ?_ | apply subK | refine subT _ ?_))) | exact Rd.inRow (by (repeat (first | exact mem0 _ | apply memT))) (by assumption) (by assumption) (by assumption)) (by first | exact one_of rfl | exact fl_ones (fun _ => rfl) _) (show l.length + k26 = (l ++ namesE x).length by rw [List.length_append, e26]) (fl_app (enc := encB) l (namesE x)).symm (by omega) (by omega) (fun v' => by (repeat (first | exact Upd.here | apply Upd.next))) (leB rfl) fun a27 c27 => ?_
    refine WL.po (PO.assign (Ev.tmp rfl)) (leB rfl) ?_
    refine WL.nil (keepF (ts := [3, 18, 19, 20]) rfl (toK (by assumption) ?_))
    (try clear hG ops)
    (repeat (first | refine WC.seqK fun K hK => ?_ | refine WC.block ?_ | refine WC.regionG rfl fun ops hG => ?_))
    refine WL.po (PO.addI (Ev.tmp rfl) Ev.const (by omega)) (leB rfl) ?_
    refine WL.po (PO.move (Ev.tmp rfl)) (leB rfl) ?_
    refine WL.nil (loopBackI (e.l.length - (k + 1)) [(3, .slice a27 (l ++ namesE x).length c27), (20, .int .i64 (k + 1))] (h'' := .row (.slice a27 (l ++ namesE x).length c27) 9 1 (l ++ namesE x).length (fl encB (l ++ namesE x)) :: .pt b1 (.cells (exE e).toArray 27 (0, 0)) :: h) (by omega) ?_ (by (repeat (first | exact Sub.nil | refine Sub.cons rfl ?_ | refine Sub.consE rfl (by simp; done) ?_))) (by (repeat (first | exact sub0 _ | exact subA _ _ | refine subC _ ?_ | apply subK | refine subT _ ?_))) ⟨k + 1, a27, c27, l ++ namesE x, ⟨by omega, by rw [hnt, hl, List.append_assoc]⟩, rfl, rfl, rfl⟩)
    (repeat (first | exact Sub.nil | refine Sub.cons rfl ?_ | refine Sub.consE rfl (by simp; done) ?_))
  · replace c21 := of_decide_eq_false c21
    have hfin : l = namesE e := by rw [hl, namesE_eq, List.take_of_length_le (by omega)]
    subst hfin
    refine WC.exit (keepF (ts := [3]) rfl (toK (by assumption) ?_))
    (repeat (first | refine WC.seqK fun K hK => ?_ | refine WC.block ?_ | refine WC.regionG rfl fun ops hG => ?_))
    refine WL.po (PO.move (Ev.tmp rfl)) (leB rfl) ?_
    refine WL.po (PO.assign (Ev.tmp rfl)) (leB rfl) ?_
    refine WL.nil (keepF (ts := [2]) rfl (toK (by assumption) ?_))
    (try clear hG ops)
    refine WC.ret (end1 (h' := .row (.slice a (namesE e).length c) 9 1 (namesE e).length (fl encB (namesE e)) :: h) (.inl rfl) rfl (RV.tmp rfl) (View.le.refl m) (by (repeat (first | exact sub0 _ | exact subA _ _ | refine subC _ ?_ | apply subK | refine subT _ ?_))) ?_)
    exact ⟨a, c, _, rfl, rfl, rfl⟩
theorem namesR_ct (e : Ex) : ∀ (h : List Res) (m : View), TOk m h e → cntE e ≤ 1099511627776 → CT Tryd.prog 32 [exV e] h m (fun v _ h' => OwnF encB 9 1 h (namesE e) v h') := by
  refine Ex.ind (p := fun e => ∀ (h : List Res) (m : View), TOk m h e → cntE e ≤ 1099511627776 → CT Tryd.prog 32 [exV e] h m (fun v _ h' => OwnF encB 9 1 h (namesE e) v h')) (fun e ih h m hT hc => ?_) e
  have hr := hT.rd
  have hce := cntE_eq e
  have hle := cnt_len e.l
  have hol := own_len e
  refine CT.body Tryd.call32 Tryd.func32 rfl Tryd.ntmps32 (leB rfl) rfl ?_
  (repeat (first | refine WC.seqK fun K hK => ?_ | refine WC.block ?_ | refine WC.regionG rfl fun ops hG => ?_))
  refine WL.box (Ev.tmp rfl) rfl (leB rfl) fun b1 => ?_
  refine WL.po (PO.assign Ev.const) (leB rfl) ?_
  refine WL.nil (keepF (ts := [1]) rfl (toK (by assumption) ?_))
  (try clear hG ops)
  (repeat (first | refine WC.seqK fun K hK => ?_ | refine WC.block ?_ | refine WC.regionG rfl fun ops hG => ?_))
  refine WL.addNil 9 1 ?_
  refine WL.po (PO.assign Ev.const) (leB rfl) ?_
  refine WL.nil (keepF (ts := [1, 3]) rfl (toK (by assumption) ?_))
  (try clear hG ops)
  (repeat (first | refine WC.seqK fun K hK => ?_ | refine WC.block ?_ | refine WC.regionG rfl fun ops hG => ?_))
  refine WL.po (PO.fieldAddr Tryd.underlying27 rfl (Nat.ne_of_beq_eq_false rfl) (Ev.tmp rfl)) (leB rfl) ?_
  refine WL.po (PO.load1 Tryd.underlying22 rfl (Ev.tmp rfl) (by (repeat (first | exact mem0 _ | apply memT))) rfl) (leB rfl) ?_
  refine WL.po (PO.bin (Ev.tmp rfl) Ev.const rfl) (leB rfl) ?_
  refine WL.po (PO.move (Ev.tmp rfl)) (leB rfl) ?_
  refine WL.poG (GU.f (hG _ _ rfl) rfl) (fun hc => PO.fieldAddr Tryd.underlying27 rfl (Nat.ne_of_beq_eq_false rfl) (Ev.tmp rfl)) (leB rfl) ?_
  refine WL.poG (GU.f (hG _ _ rfl) rfl) (fun hc => PO.load1 Tryd.underlying22 rfl (Ev.gv rfl hc) (by (repeat (first | exact mem0 _ | apply memT))) rfl) (leB rfl) ?_
  refine WL.poG (GU.f (hG _ _ rfl) rfl) (fun hc => PO.bin (Ev.gv rfl hc) Ev.const rfl) (leB rfl) ?_
  refine WL.po (PO.pickOr rfl rfl) (leB rfl) ?_
  refine WL.po (PO.move (Ev.tmp rfl)) (leB rfl) ?_
  refine WL.poG (GU.f (hG _ _ rfl) rfl) (fun hc => PO.fieldAddr Tryd.underlying27 rfl (Nat.ne_of_beq_eq_false rfl) (Ev.tmp rfl)) (leB rfl) ?_
  refine WL.poG (GU.f (hG _ _ rfl) rfl) (fun hc => PO.load1 Tryd.underlying22 rfl (Ev.gv rfl hc) (by (repeat (first | exact mem0 _ | apply memT))) rfl) (leB rfl) ?_
  refine WL.poG (GU.f (hG _ _ rfl) rfl) (fun hc => PO.bin (Ev.gv rfl hc) Ev.const rfl) (leB rfl) ?_
  refine WL.po (PO.pickOr rfl rfl) (leB rfl) ?_
  refine WL.nil (keepF (ts := [1, 3, 17]) rfl (toK (by assumption) ?_))
  (try clear hG ops)
  (repeat refine WC.seqK fun K hK => ?_)
  refine WC.cutK (by assumption) [1] rfl (fun F' h' => ∃ a0 : Option Addr, ∃ c0 : Nat, ∃ l0 : List B, (l0 = ownN e) ∧ F' = [(3, .slice a0 l0.length c0)] ∧ .row (.slice a0 l0.length c0) 9 1 l0.length (fl encB l0) :: .pt b1 (.cells (exE e).toArray 27 (0, 0)) :: h = h') ?_ ?_
  · (repeat (first | refine WC.seqK fun K hK => ?_ | refine WC.block ?_ | refine WC.regionG rfl fun ops hG => ?_))
    refine WC.cond (Ev.tmp rfl) (fun c17 => ?_) (fun c17 => ?_)
    · have ho : ownN e = [e.s] := by unfold ownN; rw [c17]; rfl
      (repeat (first | refine WC.seqK fun K hK => ?_ | refine WC.block ?_ | refine WC.regionG rfl fun ops hG => ?_))
      refine WL.po (PO.move (Ev.tmp rfl)) (leB rfl) ?_
      refine WL.po (PO.fieldAddr Tryd.underlying27 rfl (Nat.ne_of_beq_eq_false rfl) (Ev.tmp rfl)) (leB rfl) ?_
      refine WL.po (PO.load1 Tryd.underlying9 rfl (Ev.tmp rfl) (by (repeat (first | exact mem0 _ | apply memT))) rfl) (leB rfl) ?_
      refine WL.buildSlice EL58 rfl (EvP.cons (Ev.tmp rfl) EvP.nil) rfl rfl (by decide) rfl (leB rfl) fun b21 => ?_
      refine WL.appendE EL58 (Ev.tmp rfl) (Ev.tmp rfl) (by first | assumption | exact Rd.ofSl (by assumption) | exact Rd.ofPt rfl (by decide) (by (repeat (first | exact mem0 _ | apply memT))) | exact Rd.mono (by assumption) (View.le.refl _) (by (repeat (first | exact sub0 _ | exact subA _ _ | refine subC _ ?_ | apply subK | refine subT _ ?_))) | exact Rd.inRow (by (repeat (first | exact mem0 _ | apply memT))) (by assumption) (by assumption) (by assumption)) (by first | exact one_of rfl | exact fl_ones (fun _ => rfl) _) (rfl : 0 + 1 = [e.s].length) (rfl : ([] : List Value) ++ [str e.s] = fl encB [e.s]) (by omega) (by omega) (fun v' => by (repeat (first | exact Upd.here | apply Upd.next))) (leB rfl) fun a22 c22 => ?_
      refine WL.po (PO.assign (Ev.tmp rfl)) (leB rfl) ?_
      refine WL.nil (meetI [(3, .slice a22 ([e.s]).length c22)] (h'' := .row (.slice a22 ([e.s]).length c22) 9 1 ([e.s]).length (fl encB ([e.s])) :: .pt b1 (.cells (exE e).toArray 27 (0, 0)) :: h) ?_ (by (repeat (first | exact Sub.nil | refine Sub.cons rfl ?_ | refine Sub.consE rfl (by simp; done) ?_))) (by (repeat (first | exact sub0 _ | exact subA _ _ | refine subC _ ?_ | apply subK | refine subT _ ?_))) ⟨a22, c22, [e.s], ho.symm, rfl, rfl⟩)
      (repeat (first | exact Sub.nil | refine Sub.cons rfl ?_ | refine Sub.consE rfl (by simp; done) ?_))
    · have ho : ownN e = [] := by unfold ownN; rw [c17]; rfl
      refine WC.skip (meetI [(3, .slice none ([]).length 0)] (h'' := .row (.slice none ([]).length 0) 9 1 ([]).length (fl encB ([])) :: .pt b1 (.cells (exE e).toArray 27 (0, 0)) :: h) ?_ (by (repeat (first | exact Sub.nil | refine Sub.cons rfl ?_ | refine Sub.consE rfl (by simp; done) ?_))) (by (repeat (first | exact sub0 _ | exact subA _ _ | refine subC _ ?_ | apply subK | refine subT _ ?_))) ⟨none, 0, [], ho.symm, rfl, rfl⟩)
      (repeat (first | exact Sub.nil | refine Sub.cons rfl ?_ | refine Sub.consE rfl (by simp; done) ?_))
  rintro _ _ ⟨a0, c0, l0, h0, rfl, rfl⟩
  refine WC.frm rfl ?_
  (repeat (first | refine WC.seqK fun K hK => ?_ | refine WC.block ?_ | refine WC.regionG rfl fun ops hG => ?_))
  refine WL.po (PO.assign Ev.const) (leB rfl) ?_
  refine WL.nil (keepF (ts := [1, 3, 4]) rfl (toK (by assumption) ?_))
  (try clear hG ops)
  (repeat (first | refine WC.seqK fun K hK => ?_ | refine WC.block ?_ | refine WC.regionG rfl fun ops hG => ?_))
  refine WC.loopI [1] rfl (fun μ F' h' => ∃ k : Nat, ∃ a : Option Addr, ∃ c : Nat, ∃ l : List B, (k ≤ e.l.length ∧ l = ownN e ++ namesL (e.l.take k)) ∧ e.l.length - k = μ ∧ F' = [(3, .slice a l.length c), (4, .int .i64 k)] ∧ .row (.slice a l.length c) 9 1 l.length (fl encB l) :: .pt b1 (.cells (exE e).toArray 27 (0, 0)) :: h = h') (e.l.length - 0) [(3, .slice a0 l0.length c0), (4, .int .i64 0)] (h0 := .row (.slice a0 l0.length c0) 9 1 l0.length (fl encB l0) :: .pt b1 (.cells (exE e).toArray 27 (0, 0)) :: h) ?_ (by (repeat (first | exact sub0 _ | exact subA _ _ | refine subC _ ?_ | apply subK | refine subT _ ?_))) ⟨0, a0, c0, l0, ⟨by omega, by rw [h0]; exact (List.append_nil _).symm⟩, rfl, rfl, rfl⟩ ?_
  · (repeat (first | exact Sub.nil | refine Sub.cons rfl ?_ | refine Sub.consE rfl (by simp; done) ?_))
  rintro _ _ _ ⟨k, a, c, l, ⟨hk, hl⟩, rfl, rfl, rfl⟩
  refine WC.frm rfl ?_
  have hrk : Rd m (.row (.slice a l.length c) 9 1 l.length (fl encB l) :: .pt b1 (.cells (exE e).toArray 27 (0, 0)) :: h) e.a e.l.length e.c 6 (fl exE e.l) := hr.mono (View.le.refl m) (by (repeat (first | exact sub0 _ | exact subA _ _ | refine subC _ ?_ | apply subK | refine subT _ ?_)))
  (repeat (first | refine WC.seqK fun K hK => ?_ | refine WC.block ?_ | refine WC.regionG rfl fun ops hG => ?_))
  refine WL.po (PO.move (Ev.tmp rfl)) (leB rfl) ?_
  refine WL.po (PO.fieldAddr Tryd.underlying27 rfl (Nat.ne_of_beq_eq_false rfl) (Ev.tmp rfl)) (leB rfl) ?_
  refine WL.po (PO.load1 Tryd.underlying25 rfl (Ev.tmp rfl) (by (repeat (first | exact mem0 _ | apply memT))) rfl) (leB rfl) ?_
  refine WL.po (PO.lenSl Tryd.underlying25 (Ev.tmp rfl)) (leB rfl) ?_
  refine WL.po (PO.bin (Ev.tmp rfl) (Ev.tmp rfl) rfl) (leB rfl) ?_
  refine WL.nil (keepF (ts := [1, 3, 4, 27]) rfl (toK (by assumption) ?_))
  (try clear hG ops)
  (repeat (first | refine WC.seqK fun K hK => ?_ | refine WC.block ?_ | refine WC.regionG rfl fun ops hG => ?_))
  refine WC.cond (Ev.tmp rfl) (fun c27 => ?_) (fun c27 => ?_)
  · replace c27 := of_decide_eq_true c27
    obtain ⟨x, hx⟩ := get_some (l := e.l) (k := k) (by omega)
    have hxm := List.mem_of_getElem? hx
    have hcx := cnt_mem hxm
    have hnt := names_take hx
    have hcl := cnt_take_le e.l (k + 1)
    have hnl := namesL_len (e.l.take (k + 1))
    have hll : l.length + (namesE x).length ≤ cntE e := by
      rw [hl, List.length_append]
      rw [hnt, List.length_append] at hnl
      omega
    have hla : (l ++ namesE x).length ≤ cntE e := by rw [List.length_append]; exact hll
    refine WC.skip (keepF (ts := [1, 3, 4]) rfl (toK (by assumption) ?_))
    (repeat (first | refine WC.seqK fun K hK => ?_ | refine WC.block ?_ | refine WC.regionG rfl fun ops hG => ?_))
    refine WL.po (PO.move (Ev.tmp rfl)) (leB rfl) ?_
    refine WL.po (PO.fieldAddr Tryd.underlying27 rfl (Nat.ne_of_beq_eq_false rfl) (Ev.tmp rfl)) (leB rfl) ?_
    refine WL.po (PO.load1 Tryd.underlying25 rfl (Ev.tmp rfl) (by (repeat (first | exact mem0 _ | apply memT))) rfl) (leB rfl) ?_
    refine WL.po (PO.move (Ev.tmp rfl)) (leB rfl) ?_
    refine WL.po (PO.idx EL25.und EL25.size EL25.posz (Ev.tmp rfl) (Ev.tmp rfl) (by first | assumption | exact Rd.ofSl (by assumption) | exact Rd.ofPt rfl (by decide) (by (repeat (first | exact mem0 _ | apply memT))) | exact Rd.mono (by assumption) (View.le.refl _) (by (repeat (first | exact sub0 _ | exact subA _ _ | refine subC _ ?_ | apply subK | refine subT _ ?_))) | exact Rd.inRow (by (repeat (first | exact mem0 _ | apply memT))) (by assumption) (by assumption) (by assumption)) rfl (by omega)) (leB rfl) ?_
    refine WL.po (PO.loadFA Tryd.underlying27 rfl rfl exE_len (by first | assumption | exact Rd.ofSl (by assumption) | exact Rd.ofPt rfl (by decide) (by (repeat (first | exact mem0 _ | apply memT))) | exact Rd.mono (by assumption) (View.le.refl _) (by (repeat (first | exact sub0 _ | exact subA _ _ | refine subC _ ?_ | apply subK | refine subT _ ?_))) | exact Rd.inRow (by (repeat (first | exact mem0 _ | apply memT))) (by assumption) (by assumption) (by assumption)) (Ev.tmp rfl) (by assumption) rfl rfl (Nat.succ_pos _)) (leB rfl) ?_
    refine WL.callK Ev.func (Evs.cons (Ev.tmp rfl) Evs.nil) (ih x hxm _ _ ((hT.part hxm).mono (by (repeat (first | exact sub0 _ | exact subA _ _ | refine subC _ ?_ | apply subK | refine subT _ ?_)))) (by omega)) (leB rfl) ?_
    rintro _ _ ⟨a36, c36, k36, e36, rfl, rfl⟩
    refine WL.knowRow (a := a36) (by (repeat (first | exact mem0 _ | apply memT))) fun p36 q36 r36 => ?_
    refine WL.appendE EL58 (Ev.tmp rfl) (Ev.tmp rfl) (by first | assumption | exact Rd.ofSl (by assumption) | exact Rd.ofPt rfl (by decide) (by (repeat (first | exact mem0 _ | apply memT))) | exact Rd.mono (by assumption) (View.le.refl _) (by (repeat (first | exact sub0 _ | exact subA _ _ | refine subC _ ?_ | apply subK | refine subT _ ?_))) | exact Rd.inRow (by (repeat (first | exact mem0 _ | apply memT))) (by assumption) (by assumption) (by assumption)) (by first | exact one_of rfl | exact fl_ones (fun _ => rfl) _) (show l.length + k36 = (l ++ namesE x).length by rw [List.length_append, e36]) (fl_app (enc := encB) l (namesE x)).symm (by omega) (by omega) (fun v' => by (repeat (first | exact Upd.here | apply Upd.next))) (leB rfl) fun a37 c37 => ?_
    refine WL.po (PO.assign (Ev.tmp rfl)) (leB rfl) ?_
    refine WL.nil (keepF (ts := [1, 3, 4]) rfl (toK (by assumption) ?_))
    (try clear hG ops)
    (repeat (first | refine WC.seqK fun K hK => ?_ | refine WC.block ?_ | refine WC.regionG rfl fun ops hG => ?_))
    refine WL.po (PO.move (Ev.tmp rfl)) (leB rfl) ?_
    refine WL.po (PO.addI (Ev.tmp rfl) Ev.const (by omega)) (leB rfl) ?_
    refine WL.po (PO.assign (Ev.tmp rfl)) (leB rfl) ?_
    refine WL.nil (loopBackI (e.l.length - (k + 1)) [(3, .slice a37 (l ++ namesE x).length c37), (4, .int .i64 (k + 1))] (h'' := .row (.slice a37 (l ++ namesE x).length c37) 9 1 (l ++ namesE x).length (fl encB (l ++ namesE x)) :: .pt b1 (.cells (exE e).toArray 27 (0, 0)) :: h) (by omega) ?_ (by (repeat (first | exact Sub.nil | refine Sub.cons rfl ?_ | refine Sub.consE rfl (by simp; done) ?_))) (by (repeat (first | exact sub0 _ | exact subA _ _ | refine subC _ ?_ | apply subK | refine subT _ ?_))) ⟨k + 1, a37, c37, l ++ namesE x, ⟨by omega, by rw [hnt, hl, List.append_assoc]⟩, rfl, rfl, rfl⟩)
    (repeat (first | exact Sub.nil | refine Sub.cons rfl ?_ | refine Sub.consE rfl (by simp; done) ?_))
  · replace c27 := of_decide_eq_false c27
    have hfin : l = namesE e := by rw [hl, namesE_eq, List.take_of_length_le (by omega)]
    subst hfin
    refine WC.exit (keepF (ts := [3]) rfl (toK (by assumption) ?_))
    (repeat (first | refine WC.seqK fun K hK => ?_ | refine WC.block ?_ | refine WC.regionG rfl fun ops hG => ?_))
    refine WL.po (PO.move (Ev.tmp rfl)) (leB rfl) ?_
    refine WL.po (PO.assign (Ev.tmp rfl)) (leB rfl) ?_
    refine WL.nil (keepF (ts := [2]) rfl (toK (by assumption) ?_))
    (try clear hG ops)
    refine WC.ret (end1 (h' := .row (.slice a (namesE e).length c) 9 1 (namesE e).length (fl encB (namesE e)) :: h) (.inl rfl) rfl (RV.tmp rfl) (View.le.refl m) (by (repeat (first | exact sub0 _ | exact subA _ _ | refine subC _ ?_ | apply subK | refine subT _ ?_))) ?_)
    exact ⟨a, c, _, rfl, rfl, rfl⟩
end Go.Proofs.YtheejlbhmbbdjaaDoor

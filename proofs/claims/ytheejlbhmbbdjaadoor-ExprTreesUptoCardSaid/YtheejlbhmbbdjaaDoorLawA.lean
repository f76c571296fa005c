/- expr: ExprWrites. -/
import Derived.Test.YtheejlbhmbbdjaaDoorExpU
import Derived.Test.YtheejlbhmbbdjaaDoorExpH
namespace Go.Proofs.YtheejlbhmbbdjaaDoor
open Go.Eng Go.Xp Go
open Go.Ty (Tok encK encK_len tokV)
open Go.Lx (mayK lexO textO)
set_option maxRecDepth 100000
def Law : Value → View → List Res → Prop := fun v _ _ => v = .bool true
theorem writes_law {m : View} (hg : Glob m) (hp : Pow m) (e : Ex) (h : List Res) (hT : TOk m h e) (hW : Wf e) : CT Tryd.prog 3 [exV e] h m Law := by
  have hat := tok_at e
  refine CT.body Tryd.call3 Tryd.func3 rfl Tryd.ntmps3 (leB rfl) rfl ?_
  (repeat (first | refine WC.seqK fun K hK => ?_ | refine WC.block ?_ | refine WC.regionG rfl fun ops hG => ?_))
  refine WL.box (Ev.tmp rfl) rfl (leB rfl) fun b1 => ?_
  refine WL.po (PO.assign Ev.const) (leB rfl) ?_
  refine WL.nil (keepF (ts := [1]) rfl (toK (by assumption) ?_))
  (try clear hG ops)
  (repeat (first | refine WC.seqK fun K hK => ?_ | refine WC.block ?_ | refine WC.regionG rfl fun ops hG => ?_))
  refine WL.po (PO.loadA Tryd.underlying27 rfl rfl (Ev.tmp rfl) (by (repeat (first | exact mem0 _ | apply memT))) rfl) (leB rfl) ?_
  refine WL.callK Ev.func (Evs.cons (Ev.tmp rfl) Evs.nil) (tokF_ct hg e _ (hT.mono (by (repeat (first | exact sub0 _ | exact subA _ _ | refine subC _ ?_ | apply subK | refine subT _ ?_)))) hW) (leB rfl) ?_
  rintro _ _ ⟨a10, c10, rfl, rfl⟩
  refine WL.knowRow (a := a10) (by (repeat (first | exact mem0 _ | apply memT))) fun p10 q10 r10 => ?_
  refine WL.po (PO.move (Ev.tmp rfl)) (leB rfl) ?_
  refine WL.po (PO.extract (Ev.tmp rfl) rfl) (leB rfl) ?_
  refine WL.po (PO.extract (Ev.tmp rfl) rfl) (leB rfl) ?_
  refine WL.po (PO.assign (Ev.tmp rfl)) (leB rfl) ?_
  refine WL.po (PO.assign (Ev.tmp rfl)) (leB rfl) ?_
  refine WL.nil (keepF (ts := [1, 3, 4]) rfl (toK (by assumption) ?_))
  (try clear hG ops)
  (repeat (first | refine WC.seqK fun K hK => ?_ | refine WC.block ?_ | refine WC.regionG rfl fun ops hG => ?_))
  refine WL.po (PO.loadA Tryd.underlying27 rfl rfl (Ev.tmp rfl) (by (repeat (first | exact mem0 _ | apply memT))) rfl) (leB rfl) ?_
  refine WL.callK Ev.func (Evs.cons (Ev.tmp rfl) Evs.nil) (tokF_of (tokensR_ct e _ (hT.mono (by (repeat (first | exact sub0 _ | exact subA _ _ | refine subC _ ?_ | apply subK | refine subT _ ?_)))) hW)) (leB rfl) ?_
  rintro _ _ ⟨a15, c15, rfl, rfl⟩
  refine WL.knowRow (a := a15) (by (repeat (first | exact mem0 _ | apply memT))) fun p15 q15 r15 => ?_
  refine WL.po (PO.move (Ev.tmp rfl)) (leB rfl) ?_
  refine WL.po (PO.extract (Ev.tmp rfl) rfl) (leB rfl) ?_
  refine WL.po (PO.extract (Ev.tmp rfl) rfl) (leB rfl) ?_
  refine WL.po (PO.assign (Ev.tmp rfl)) (leB rfl) ?_
  refine WL.po (PO.assign (Ev.tmp rfl)) (leB rfl) ?_
  refine WL.nil (keepF (ts := [3, 4, 5, 6]) rfl (toK (by assumption) ?_))
  (try clear hG ops)
  (repeat (first | refine WC.seqK fun K hK => ?_ | refine WC.block ?_ | refine WC.regionG rfl fun ops hG => ?_))
  refine WL.po (PO.move (Ev.tmp rfl)) (leB rfl) ?_
  refine WL.po (PO.lenSl Tryd.underlying28 (Ev.tmp rfl)) (leB rfl) ?_
  refine WL.po (PO.move Ev.const) (leB rfl) ?_
  refine WL.nil (keepF (ts := [3, 4, 5, 6, 19, 20]) rfl (toK (by assumption) ?_))
  (try clear hG ops)
  (repeat (first | refine WC.seqK fun K hK => ?_ | refine WC.block ?_ | refine WC.regionG rfl fun ops hG => ?_))
  refine WC.loopI [3, 4, 5, 6, 19] rfl (fun μ F' h' => ∃ i : Nat, (i ≤ (tokP e).length) ∧ (tokP e).length - i = μ ∧ F' = [(20, .int .i64 i)] ∧ .row (.slice a15 (tokP e).length c15) 36 4 (tokP e).length (fl encK (tokP e)) :: .row (.slice a10 (tokP e).length c10) 36 4 (tokP e).length (fl encK (tokP e)) :: h = h') ((tokP e).length - 0) [(20, .int .i64 0)] (h0 := .row (.slice a15 (tokP e).length c15) 36 4 (tokP e).length (fl encK (tokP e)) :: .row (.slice a10 (tokP e).length c10) 36 4 (tokP e).length (fl encK (tokP e)) :: h) ?_ (by (repeat (first | exact sub0 _ | exact subA _ _ | refine subC _ ?_ | apply subK | refine subT _ ?_))) ⟨0, by omega, rfl, rfl, rfl⟩ ?_
  · (repeat (first | exact Sub.nil | refine Sub.cons rfl ?_ | refine Sub.consE rfl (by simp; done) ?_))
  rintro _ _ _ ⟨i, hi, rfl, rfl, rfl⟩
  refine WC.frm rfl ?_
  have hr1 : Rd m (.row (.slice a15 (tokP e).length c15) 36 4 (tokP e).length (fl encK (tokP e)) :: .row (.slice a10 (tokP e).length c10) 36 4 (tokP e).length (fl encK (tokP e)) :: h) a10 (tokP e).length c10 4 (fl encK (tokP e)) := Rd.inRow (List.Mem.tail _ (List.Mem.head _)) r10 p10 q10
  have hr2 : Rd m (.row (.slice a15 (tokP e).length c15) 36 4 (tokP e).length (fl encK (tokP e)) :: .row (.slice a10 (tokP e).length c10) 36 4 (tokP e).length (fl encK (tokP e)) :: h) a15 (tokP e).length c15 4 (fl encK (tokP e)) := Rd.inRow (List.Mem.head _) r15 p15 q15
  (repeat (first | refine WC.seqK fun K hK => ?_ | refine WC.block ?_ | refine WC.regionG rfl fun ops hG => ?_))
  refine WL.po (PO.bin (Ev.tmp rfl) (Ev.tmp rfl) rfl) (leB rfl) ?_
  refine WL.nil (keepF (ts := [3, 4, 5, 6, 19, 20, 21]) rfl (toK (by assumption) ?_))
  (try clear hG ops)
  (repeat (first | refine WC.seqK fun K hK => ?_ | refine WC.block ?_ | refine WC.regionG rfl fun ops hG => ?_))
  refine WC.cond (Ev.tmp rfl) (fun c21 => ?_) (fun c21 => ?_)
  · replace c21 := of_decide_eq_true c21
    obtain ⟨x, hx⟩ := get_some (l := tokP e) (k := i) (by omega)
    have hx0 := hat x (List.mem_of_getElem? hx)
    refine WC.skip (keepF (ts := [3, 4, 5, 6, 19, 20]) rfl (toK (by assumption) ?_))
    (repeat (first | refine WC.seqK fun K hK => ?_ | refine WC.block ?_ | refine WC.regionG rfl fun ops hG => ?_))
    refine WL.po (PO.move (Ev.tmp rfl)) (leB rfl) ?_
    refine WL.po (PO.assign (Ev.tmp rfl)) (leB rfl) ?_
    refine WL.nil (keepF (ts := [3, 4, 5, 6, 7, 19, 20]) rfl (toK (by assumption) ?_))
    (try clear hG ops)
    (repeat (first | refine WC.seqK fun K hK => ?_ | refine WC.block ?_ | refine WC.regionG rfl fun ops hG => ?_))
    refine WL.po (PO.move (Ev.tmp rfl)) (leB rfl) ?_
    refine WL.po (PO.move (Ev.tmp rfl)) (leB rfl) ?_
    refine WL.po (PO.idx EL28.und EL28.size EL28.posz (Ev.tmp rfl) (Ev.tmp rfl) (by first | assumption | exact Rd.ofSl (by assumption) | exact Rd.ofPt rfl (by decide) (by (repeat (first | exact mem0 _ | apply memT))) | exact Rd.mono (by assumption) (View.le.refl _) (by (repeat (first | exact sub0 _ | exact subA _ _ | refine subC _ ?_ | apply subK | refine subT _ ?_))) | exact Rd.inRow (by (repeat (first | exact mem0 _ | apply memT))) (by assumption) (by assumption) (by assumption)) rfl (by omega)) (leB rfl) ?_
    refine WL.po (PO.fieldF Tryd.underlying36 rfl (Nat.ne_of_beq_eq_false rfl) encK_len (Nat.succ_pos _) (by first | assumption | exact Rd.ofSl (by assumption) | exact Rd.ofPt rfl (by decide) (by (repeat (first | exact mem0 _ | apply memT))) | exact Rd.mono (by assumption) (View.le.refl _) (by (repeat (first | exact sub0 _ | exact subA _ _ | refine subC _ ?_ | apply subK | refine subT _ ?_))) | exact Rd.inRow (by (repeat (first | exact mem0 _ | apply memT))) (by assumption) (by assumption) (by assumption)) hx (Ev.tmp rfl)) (leB rfl) ?_
    refine WL.po (PO.loadFf Tryd.underlying3 rfl encK_len (by first | assumption | exact Rd.ofSl (by assumption) | exact Rd.ofPt rfl (by decide) (by (repeat (first | exact mem0 _ | apply memT))) | exact Rd.mono (by assumption) (View.le.refl _) (by (repeat (first | exact sub0 _ | exact subA _ _ | refine subC _ ?_ | apply subK | refine subT _ ?_))) | exact Rd.inRow (by (repeat (first | exact mem0 _ | apply memT))) (by assumption) (by assumption) (by assumption)) (Ev.tmp rfl) hx rfl) (leB rfl) ?_
    refine WL.po (PO.bin (Ev.tmp rfl) Ev.const rfl) (leB rfl) ?_
    refine WL.nil (keepF (ts := [3, 4, 5, 6, 19, 20, 28]) rfl (toK (by assumption) ?_))
    (try clear hG ops)
    (repeat (first | refine WC.seqK fun K hK => ?_ | refine WC.block ?_ | refine WC.regionG rfl fun ops hG => ?_))
    refine WC.cond (Ev.tmp rfl) (fun c28 => ?_) (fun c28 => ?_)
    · replace c28 := t_ne c28
      exact absurd hx0 c28
    · replace c28 := f_ne c28
      refine WC.skip (keepF (ts := [3, 4, 5, 6, 19, 20]) rfl (toK (by assumption) ?_))
      (repeat (first | refine WC.seqK fun K hK => ?_ | refine WC.block ?_ | refine WC.regionG rfl fun ops hG => ?_))
      refine WL.po (PO.addI (Ev.tmp rfl) Ev.const (by omega)) (leB rfl) ?_
      refine WL.po (PO.move (Ev.tmp rfl)) (leB rfl) ?_
      refine WL.nil (loopBackI ((tokP e).length - (i + 1)) [(20, .int .i64 (i + 1))] (h'' := .row (.slice a15 (tokP e).length c15) 36 4 (tokP e).length (fl encK (tokP e)) :: .row (.slice a10 (tokP e).length c10) 36 4 (tokP e).length (fl encK (tokP e)) :: h) (by omega) ?_ (by (repeat (first | exact Sub.nil | refine Sub.cons rfl ?_ | refine Sub.consE rfl (by simp; done) ?_))) (by (repeat (first | exact sub0 _ | exact subA _ _ | refine subC _ ?_ | apply subK | refine subT _ ?_))) ⟨i + 1, by omega, rfl, rfl, rfl⟩)
      (repeat (first | exact Sub.nil | refine Sub.cons rfl ?_ | refine Sub.consE rfl (by simp; done) ?_))
  · replace c21 := of_decide_eq_false c21
    refine WC.exit (keepF (ts := [3, 4, 5, 6]) rfl (toK (by assumption) ?_))
    (repeat (first | refine WC.seqK fun K hK => ?_ | refine WC.block ?_ | refine WC.regionG rfl fun ops hG => ?_))
    refine WL.po (PO.move (Ev.tmp rfl)) (leB rfl) ?_
    refine WL.po (PO.move (Ev.tmp rfl)) (leB rfl) ?_
    refine WL.callP Ev.func (Evs.cons (Ev.tmp rfl) (Evs.cons (Ev.tmp rfl) Evs.nil)) (CT.val (sameK_ct _ _ _ _ _ _ (tokP e) (tokP e) _ _ hr1 hr2) (congrArg Value.bool (Go.Lx.same_self _))) (leB rfl) ?_
    refine WL.po (PO.move (Ev.tmp rfl)) (leB rfl) ?_
    refine WL.unG (GU.t (hG _ _ rfl) rfl) rfl ?_
    refine WL.po (PO.move (Ev.tmp rfl)) (leB rfl) ?_
    refine WL.unG (GU.t (hG _ _ rfl) rfl) rfl ?_
    refine WL.po (PO.move (Ev.tmp rfl)) (leB rfl) ?_
    refine WL.unG (GU.t (hG _ _ rfl) rfl) rfl ?_
    refine WL.po (PO.bin (Ev.tmp rfl) (Ev.tmp rfl) rfl) (leB rfl) ?_
    refine WL.val (v' := .bool true) (congrArg Value.bool (by simp)) ?_
    refine WL.po (PO.pickAnd rfl rfl) (leB rfl) ?_
    refine WL.po (PO.move (Ev.tmp rfl)) (leB rfl) ?_
    refine WL.unG (GU.t (hG _ _ rfl) rfl) rfl ?_
    refine WL.callP Ev.func Evs.nil (works_ct hg hp _) (leB rfl) ?_
    refine WL.po (PO.pickAnd rfl rfl) (leB rfl) ?_
    refine WL.po (PO.assign (Ev.tmp rfl)) (leB rfl) ?_
    refine WL.nil (keepF (ts := [2]) rfl (toK (by assumption) ?_))
    (try clear hG ops)
    refine WC.ret (end1 (h' := h) (.inl rfl) rfl (RV.tmp rfl) (View.le.refl m) (by (repeat (first | exact sub0 _ | exact subA _ _ | refine subC _ ?_ | apply subK | refine subT _ ?_))) ?_)
    rfl
end Go.Proofs.YtheejlbhmbbdjaaDoor

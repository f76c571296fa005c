/- lex: the reference, walked: symbols, which tokens exist. -/
import Derived.Test.YtheejlbhmbbdjaaDoorLexB
import Derived.Test.YtheejlbhmbbdjaaDoorLexP
import Derived.Test.YtheejlbhmbbdjaaDoorLexC
namespace Go.Proofs.YtheejlbhmbbdjaaDoor
open Go.Eng Go.Lx Go.Ty
set_option maxRecDepth 100000
theorem symsR_ct (h : List Res) (m : View) : CT Tryd.prog 80 [] h m (fun v _ h' => ∃ b, v = .slice (some ⟨b, 0, none⟩) 28 28 ∧ h' = .pt b (.cells (fl encB symsL).toArray 9 (0, 0)) :: h) := by
  refine CT.body Tryd.call80 Tryd.func80 rfl Tryd.ntmps80 (leB rfl) rfl ?_
  (repeat (first | refine WC.seqK fun K hK => ?_ | refine WC.block ?_ | refine WC.regionG rfl fun ops hG => ?_))
  refine WL.po (PO.assign Ev.const) (leB rfl) ?_
  refine WL.nil (keepF (ts := []) rfl (toK (by assumption) ?_))
  (try clear hG ops)
  (repeat (first | refine WC.seqK fun K hK => ?_ | refine WC.block ?_ | refine WC.regionG rfl fun ops hG => ?_))
  refine WL.buildSlice EL58 rfl (EvP.cons Ev.const (EvP.cons Ev.const (EvP.cons Ev.const (EvP.cons Ev.const (EvP.cons Ev.const (EvP.cons Ev.const (EvP.cons Ev.const (EvP.cons Ev.const (EvP.cons Ev.const (EvP.cons Ev.const (EvP.cons Ev.const (EvP.cons Ev.const (EvP.cons Ev.const (EvP.cons Ev.const (EvP.cons Ev.const (EvP.cons Ev.const (EvP.cons Ev.const (EvP.cons Ev.const (EvP.cons Ev.const (EvP.cons Ev.const (EvP.cons Ev.const (EvP.cons Ev.const (EvP.cons Ev.const (EvP.cons Ev.const (EvP.cons Ev.const (EvP.cons Ev.const (EvP.cons Ev.const (EvP.cons Ev.const EvP.nil)))))))))))))))))))))))))))) rfl rfl (by decide) rfl (leB rfl) fun b1 => ?_
  refine WL.po (PO.assign (Ev.tmp rfl)) (leB rfl) ?_
  refine WL.nil (keepF (ts := [0]) rfl (toK (by assumption) ?_))
  (try clear hG ops)
  refine WC.ret (end1 (h' := .pt b1 (.cells (fl encB symsL).toArray 9 (0, 0)) :: h) (.inl rfl) rfl (RV.tmp rfl) (View.le.refl m) (by (repeat (first | exact sub0 _ | exact subA _ _ | refine subC _ ?_ | apply subK | refine subT _ ?_))) ?_)
  exact ⟨b1, rfl, rfl⟩
theorem symLR_ct (s : B) (h : List Res) (m : View) : CT Tryd.prog 47 [str s] h m (Pure1 h (.bool (symR s))) := by
  refine CT.body Tryd.call47 Tryd.func47 rfl Tryd.ntmps47 (leB rfl) rfl ?_
  (repeat (first | refine WC.seqK fun K hK => ?_ | refine WC.block ?_ | refine WC.regionG rfl fun ops hG => ?_))
  refine WL.po (PO.assign Ev.const) (leB rfl) ?_
  refine WL.nil (keepF (ts := [0]) rfl (toK (by assumption) ?_))
  (try clear hG ops)
  (repeat (first | refine WC.seqK fun K hK => ?_ | refine WC.block ?_ | refine WC.regionG rfl fun ops hG => ?_))
  refine WL.po (PO.move (Ev.tmp rfl)) (leB rfl) ?_
  refine WL.callK Ev.func Evs.nil (symsR_ct _ _) (leB rfl) ?_
  rintro _ _ ⟨b4, rfl, rfl⟩
  refine WL.callP Ev.func (Evs.cons (Ev.tmp rfl) (Evs.cons (Ev.tmp rfl) Evs.nil)) (amongR_ct _ _ _ _ symsL _ _ (by first | assumption | exact Rd.ofSl (by assumption) | exact Rd.ofPt rfl (by decide) (by (repeat (first | exact mem0 _ | apply memT))) | exact Rd.mono (by assumption) (View.le.refl _) (by (repeat (first | exact sub0 _ | exact subA _ _ | refine subC _ ?_ | apply subK | refine subT _ ?_))) | exact Rd.inRow (by (repeat (first | exact mem0 _ | apply memT))) (by assumption) (by assumption) (by assumption))) (leB rfl) ?_
  refine WL.po (PO.assign (Ev.tmp rfl)) (leB rfl) ?_
  refine WL.nil (keepF (ts := [2]) rfl (toK (by assumption) ?_))
  (try clear hG ops)
  refine WC.ret (end1 (h' := h) (.inl rfl) rfl (RV.tmp rfl) (View.le.refl m) (by (repeat (first | exact sub0 _ | exact subA _ _ | refine subC _ ?_ | apply subK | refine subT _ ?_))) ?_)
  exact ⟨rfl, rfl⟩
theorem rMay_ct (t : Tok) (h : List Res) (m : View) (hs : t.text.length ≤ 140737488355328) : CT Tryd.prog 19 [tokV t] h m (Pure1 h (.bool (mayK t))) := by
  have hs' : t.text.length ≤ 9223372036854775807 := by omega
  refine CT.body Tryd.call19 Tryd.func19 rfl Tryd.ntmps19 (leB rfl) rfl ?_
  (repeat (first | refine WC.seqK fun K hK => ?_ | refine WC.block ?_ | refine WC.regionG rfl fun ops hG => ?_))
  refine WL.box (Ev.tmp rfl) rfl (leB rfl) fun b1 => ?_
  refine WL.po (PO.assign Ev.const) (leB rfl) ?_
  refine WL.nil (keepF (ts := [1]) rfl (toK (by assumption) ?_))
  (try clear hG ops)
  (repeat (first | refine WC.seqK fun K hK => ?_ | refine WC.block ?_ | refine WC.regionG rfl fun ops hG => ?_))
  refine WL.po (PO.fieldAddr Tryd.underlying36 rfl (Nat.ne_of_beq_eq_false rfl) (Ev.tmp rfl)) (leB rfl) ?_
  refine WL.po (PO.load1 Tryd.underlying3 rfl (Ev.tmp rfl) (by (repeat (first | exact mem0 _ | apply memT))) rfl) (leB rfl) ?_
  refine WL.po (PO.bin (Ev.tmp rfl) Ev.const rfl) (leB rfl) ?_
  refine WL.po (PO.move (Ev.tmp rfl)) (leB rfl) ?_
  refine WL.poG (GU.f (hG _ _ rfl) rfl) (fun hc => PO.fieldAddr Tryd.underlying36 rfl (Nat.ne_of_beq_eq_false rfl) (Ev.tmp rfl)) (leB rfl) ?_
  refine WL.poG (GU.f (hG _ _ rfl) rfl) (fun hc => PO.load1 Tryd.underlying3 rfl (Ev.gv rfl hc) (by (repeat (first | exact mem0 _ | apply memT))) rfl) (leB rfl) ?_
  refine WL.poG (GU.f (hG _ _ rfl) rfl) (fun hc => PO.bin (Ev.gv rfl hc) Ev.const rfl) (leB rfl) ?_
  refine WL.po (PO.pickOr rfl rfl) (leB rfl) ?_
  refine WL.nil (keepF (ts := [1, 10]) rfl (toK (by assumption) ?_))
  (try clear hG ops)
  (repeat (first | refine WC.seqK fun K hK => ?_ | refine WC.block ?_ | refine WC.regionG rfl fun ops hG => ?_))
  refine WC.cond (Ev.tmp rfl) (fun c10 => ?_) (fun c10 => ?_)
  · have d : mayK t = false := by
      unfold mayK
      rw [show (decide (t.at_ < 0) || decide (t.at_ ≥ 256)) = true by simp at c10 ⊢; omega]
      rfl
    (repeat (first | refine WC.seqK fun K hK => ?_ | refine WC.block ?_ | refine WC.regionG rfl fun ops hG => ?_))
    refine WL.po (PO.assign Ev.const) (leB rfl) ?_
    refine WL.nil (keepF (ts := [2]) rfl (toK (by assumption) ?_))
    (try clear hG ops)
    refine WC.ret (end1 (h' := h) (.inl rfl) rfl (RV.tmp rfl) (View.le.refl m) (by (repeat (first | exact sub0 _ | exact subA _ _ | refine subC _ ?_ | apply subK | refine subT _ ?_))) ?_)
    rw [d]; exact ⟨rfl, rfl⟩
  · have d10 : (decide (t.at_ < 0) || decide (t.at_ ≥ 256)) = false := by simp at c10 ⊢; omega
    refine WC.skip (keepF (ts := [1]) rfl (toK (by assumption) ?_))
    (repeat (first | refine WC.seqK fun K hK => ?_ | refine WC.block ?_ | refine WC.regionG rfl fun ops hG => ?_))
    refine WL.po (PO.fieldAddr Tryd.underlying36 rfl (Nat.ne_of_beq_eq_false rfl) (Ev.tmp rfl)) (leB rfl) ?_
    refine WL.po (PO.load1 Tryd.underlying34 rfl (Ev.tmp rfl) (by (repeat (first | exact mem0 _ | apply memT))) rfl) (leB rfl) ?_
    refine WL.nil (keepF (ts := [1, 12]) rfl (toK (by assumption) ?_))
    (try clear hG ops)
    (repeat (first | refine WC.seqK fun K hK => ?_ | refine WC.block ?_ | refine WC.regionG rfl fun ops hG => ?_))
    refine WL.po (PO.bin (Ev.tmp rfl) Ev.const rfl) (leB rfl) ?_
    refine WL.po (PO.assign (Ev.tmp rfl)) (leB rfl) ?_
    refine WL.nil (keepF (ts := [1, 12, 13]) rfl (toK (by assumption) ?_))
    (try clear hG ops)
    (repeat (first | refine WC.seqK fun K hK => ?_ | refine WC.block ?_ | refine WC.regionG rfl fun ops hG => ?_))
    refine WC.cond (Ev.tmp rfl) (fun c13 => ?_) (fun c13 => ?_)
    · (repeat (first | refine WC.seqK fun K hK => ?_ | refine WC.block ?_ | refine WC.regionG rfl fun ops hG => ?_))
      refine WL.po (PO.fieldAddr Tryd.underlying36 rfl (Nat.ne_of_beq_eq_false rfl) (Ev.tmp rfl)) (leB rfl) ?_
      refine WL.po (PO.load1 Tryd.underlying9 rfl (Ev.tmp rfl) (by (repeat (first | exact mem0 _ | apply memT))) rfl) (leB rfl) ?_
      refine WL.callP Ev.func (Evs.cons (Ev.tmp rfl) Evs.nil) (nameR_ct _ _ _ (by assumption)) (leB rfl) ?_
      refine WL.po (PO.move (Ev.tmp rfl)) (leB rfl) ?_
      refine WL.poG (GU.t (hG _ _ rfl) rfl) (fun hc => PO.fieldAddr Tryd.underlying36 rfl (Nat.ne_of_beq_eq_false rfl) (Ev.tmp rfl)) (leB rfl) ?_
      refine WL.poG (GU.t (hG _ _ rfl) rfl) (fun hc => PO.load1 Tryd.underlying21 rfl (Ev.gv rfl hc) (by (repeat (first | exact mem0 _ | apply memT))) rfl) (leB rfl) ?_
      refine WL.poG (GU.t (hG _ _ rfl) rfl) (fun hc => PO.bin (Ev.gv rfl hc) Ev.const rfl) (leB rfl) ?_
      refine WL.po (PO.pickAnd rfl rfl) (leB rfl) ?_
      refine WL.po (PO.assign (Ev.tmp rfl)) (leB rfl) ?_
      refine WL.nil (keepF (ts := [2]) rfl (toK (by assumption) ?_))
      (try clear hG ops)
      refine WC.ret (end1 (h' := h) (.inl rfl) rfl (RV.tmp rfl) (View.le.refl m) (by (repeat (first | exact sub0 _ | exact subA _ _ | refine subC _ ?_ | apply subK | refine subT _ ?_))) ?_)
      exact ⟨by unfold mayK; rw [d10, c13, ← name_eq]; simp [Bool.and_comm], rfl⟩
    · (repeat (first | refine WC.seqK fun K hK => ?_ | refine WC.block ?_ | refine WC.regionG rfl fun ops hG => ?_))
      refine WL.po (PO.bin (Ev.tmp rfl) Ev.const rfl) (leB rfl) ?_
      refine WL.po (PO.assign (Ev.tmp rfl)) (leB rfl) ?_
      refine WL.nil (keepF (ts := [1, 12, 23]) rfl (toK (by assumption) ?_))
      (try clear hG ops)
      (repeat (first | refine WC.seqK fun K hK => ?_ | refine WC.block ?_ | refine WC.regionG rfl fun ops hG => ?_))
      refine WC.cond (Ev.tmp rfl) (fun c23 => ?_) (fun c23 => ?_)
      · (repeat (first | refine WC.seqK fun K hK => ?_ | refine WC.block ?_ | refine WC.regionG rfl fun ops hG => ?_))
        refine WL.po (PO.fieldAddr Tryd.underlying36 rfl (Nat.ne_of_beq_eq_false rfl) (Ev.tmp rfl)) (leB rfl) ?_
        refine WL.po (PO.load1 Tryd.underlying9 rfl (Ev.tmp rfl) (by (repeat (first | exact mem0 _ | apply memT))) rfl) (leB rfl) ?_
        refine WL.callP Ev.func (Evs.cons (Ev.tmp rfl) Evs.nil) (keyR_ct _ _ _) (leB rfl) ?_
        refine WL.po (PO.move (Ev.tmp rfl)) (leB rfl) ?_
        refine WL.poG (GU.t (hG _ _ rfl) rfl) (fun hc => PO.fieldAddr Tryd.underlying36 rfl (Nat.ne_of_beq_eq_false rfl) (Ev.tmp rfl)) (leB rfl) ?_
        refine WL.poG (GU.t (hG _ _ rfl) rfl) (fun hc => PO.load1 Tryd.underlying21 rfl (Ev.gv rfl hc) (by (repeat (first | exact mem0 _ | apply memT))) rfl) (leB rfl) ?_
        refine WL.poG (GU.t (hG _ _ rfl) rfl) (fun hc => PO.bin (Ev.gv rfl hc) Ev.const rfl) (leB rfl) ?_
        refine WL.po (PO.pickAnd rfl rfl) (leB rfl) ?_
        refine WL.po (PO.assign (Ev.tmp rfl)) (leB rfl) ?_
        refine WL.nil (keepF (ts := [2]) rfl (toK (by assumption) ?_))
        (try clear hG ops)
        refine WC.ret (end1 (h' := h) (.inl rfl) rfl (RV.tmp rfl) (View.le.refl m) (by (repeat (first | exact sub0 _ | exact subA _ _ | refine subC _ ?_ | apply subK | refine subT _ ?_))) ?_)
        exact ⟨by unfold mayK; rw [d10, c13, c23, ← key_eq]; simp [Bool.and_comm], rfl⟩
      · (repeat (first | refine WC.seqK fun K hK => ?_ | refine WC.block ?_ | refine WC.regionG rfl fun ops hG => ?_))
        refine WL.po (PO.bin (Ev.tmp rfl) Ev.const rfl) (leB rfl) ?_
        refine WL.po (PO.assign (Ev.tmp rfl)) (leB rfl) ?_
        refine WL.nil (keepF (ts := [1, 12, 33]) rfl (toK (by assumption) ?_))
        (try clear hG ops)
        (repeat (first | refine WC.seqK fun K hK => ?_ | refine WC.block ?_ | refine WC.regionG rfl fun ops hG => ?_))
        refine WC.cond (Ev.tmp rfl) (fun c33 => ?_) (fun c33 => ?_)
        · have k5 : (t.kind == 5) = false := by rw [eq_of_beq c33]; rfl
          have k4 : (t.kind == 4) = false := by rw [eq_of_beq c33]; rfl
          (repeat (first | refine WC.seqK fun K hK => ?_ | refine WC.block ?_ | refine WC.regionG rfl fun ops hG => ?_))
          refine WL.po (PO.fieldAddr Tryd.underlying36 rfl (Nat.ne_of_beq_eq_false rfl) (Ev.tmp rfl)) (leB rfl) ?_
          refine WL.po (PO.load1 Tryd.underlying9 rfl (Ev.tmp rfl) (by (repeat (first | exact mem0 _ | apply memT))) rfl) (leB rfl) ?_
          refine WL.po (PO.eqlS (Ev.tmp rfl) Ev.const) (leB rfl) ?_
          refine WL.po (PO.assign (Ev.tmp rfl)) (leB rfl) ?_
          refine WL.nil (keepF (ts := [2]) rfl (toK (by assumption) ?_))
          (try clear hG ops)
          refine WC.ret (end1 (h' := h) (.inl rfl) rfl (RV.tmp rfl) (View.le.refl m) (by (repeat (first | exact sub0 _ | exact subA _ _ | refine subC _ ?_ | apply subK | refine subT _ ?_))) ?_)
          exact ⟨by unfold mayK; rw [d10, c13, c23, k5, k4, c33]; rfl, rfl⟩
        · (repeat (first | refine WC.seqK fun K hK => ?_ | refine WC.block ?_ | refine WC.regionG rfl fun ops hG => ?_))
          refine WL.po (PO.bin (Ev.tmp rfl) Ev.const rfl) (leB rfl) ?_
          refine WL.po (PO.assign (Ev.tmp rfl)) (leB rfl) ?_
          refine WL.nil (keepF (ts := [1, 12, 38]) rfl (toK (by assumption) ?_))
          (try clear hG ops)
          (repeat (first | refine WC.seqK fun K hK => ?_ | refine WC.block ?_ | refine WC.regionG rfl fun ops hG => ?_))
          refine WC.cond (Ev.tmp rfl) (fun c38 => ?_) (fun c38 => ?_)
          · have k5 : (t.kind == 5) = false := by rw [eq_of_beq c38]; rfl
            (repeat (first | refine WC.seqK fun K hK => ?_ | refine WC.block ?_ | refine WC.regionG rfl fun ops hG => ?_))
            refine WL.po (PO.fieldAddr Tryd.underlying36 rfl (Nat.ne_of_beq_eq_false rfl) (Ev.tmp rfl)) (leB rfl) ?_
            refine WL.po (PO.load1 Tryd.underlying9 rfl (Ev.tmp rfl) (by (repeat (first | exact mem0 _ | apply memT))) rfl) (leB rfl) ?_
            refine WL.po (PO.eqlS (Ev.tmp rfl) Ev.const) (leB rfl) ?_
            refine WL.po (PO.move (Ev.tmp rfl)) (leB rfl) ?_
            refine WL.poG (GU.t (hG _ _ rfl) rfl) (fun hc => PO.fieldAddr Tryd.underlying36 rfl (Nat.ne_of_beq_eq_false rfl) (Ev.tmp rfl)) (leB rfl) ?_
            refine WL.poG (GU.t (hG _ _ rfl) rfl) (fun hc => PO.load1 Tryd.underlying21 rfl (Ev.gv rfl hc) (by (repeat (first | exact mem0 _ | apply memT))) rfl) (leB rfl) ?_
            refine WL.poG (GU.t (hG _ _ rfl) rfl) (fun hc => PO.bin (Ev.gv rfl hc) Ev.const rfl) (leB rfl) ?_
            refine WL.po (PO.pickAnd rfl rfl) (leB rfl) ?_
            refine WL.po (PO.move (Ev.tmp rfl)) (leB rfl) ?_
            refine WL.poG (GU.t (hG _ _ rfl) rfl) (fun hc => PO.fieldAddr Tryd.underlying36 rfl (Nat.ne_of_beq_eq_false rfl) (Ev.tmp rfl)) (leB rfl) ?_
            refine WL.poG (GU.t (hG _ _ rfl) rfl) (fun hc => PO.load1 Tryd.underlying21 rfl (Ev.gv rfl hc) (by (repeat (first | exact mem0 _ | apply memT))) rfl) (leB rfl) ?_
            refine WL.poG (GU.t (hG _ _ rfl) rfl) (fun hc => PO.bin (Ev.gv rfl hc) Ev.const rfl) (leB rfl) ?_
            refine WL.po (PO.pickAnd rfl rfl) (leB rfl) ?_
            refine WL.po (PO.assign (Ev.tmp rfl)) (leB rfl) ?_
            refine WL.nil (keepF (ts := [2]) rfl (toK (by assumption) ?_))
            (try clear hG ops)
            refine WC.ret (end1 (h' := h) (.inl rfl) rfl (RV.tmp rfl) (View.le.refl m) (by (repeat (first | exact sub0 _ | exact subA _ _ | refine subC _ ?_ | apply subK | refine subT _ ?_))) ?_)
            exact ⟨by unfold mayK; rw [d10, c13, c23, k5, c38]; simp only [Bool.false_eq_true, if_false, if_true]; congr 2; apply decide_eq_decide.2; omega, rfl⟩
          · (repeat (first | refine WC.seqK fun K hK => ?_ | refine WC.block ?_ | refine WC.regionG rfl fun ops hG => ?_))
            refine WL.po (PO.bin (Ev.tmp rfl) Ev.const rfl) (leB rfl) ?_
            refine WL.po (PO.assign (Ev.tmp rfl)) (leB rfl) ?_
            refine WL.nil (keepF (ts := [1, 53]) rfl (toK (by assumption) ?_))
            (try clear hG ops)
            (repeat (first | refine WC.seqK fun K hK => ?_ | refine WC.block ?_ | refine WC.regionG rfl fun ops hG => ?_))
            refine WC.cond (Ev.tmp rfl) (fun c53 => ?_) (fun c53 => ?_)
            · (repeat (first | refine WC.seqK fun K hK => ?_ | refine WC.block ?_ | refine WC.regionG rfl fun ops hG => ?_))
              refine WL.po (PO.fieldAddr Tryd.underlying36 rfl (Nat.ne_of_beq_eq_false rfl) (Ev.tmp rfl)) (leB rfl) ?_
              refine WL.po (PO.load1 Tryd.underlying9 rfl (Ev.tmp rfl) (by (repeat (first | exact mem0 _ | apply memT))) rfl) (leB rfl) ?_
              refine WL.callP Ev.func (Evs.cons (Ev.tmp rfl) Evs.nil) (symLR_ct _ _ _) (leB rfl) ?_
              refine WL.po (PO.move (Ev.tmp rfl)) (leB rfl) ?_
              refine WL.poG (GU.t (hG _ _ rfl) rfl) (fun hc => PO.fieldAddr Tryd.underlying36 rfl (Nat.ne_of_beq_eq_false rfl) (Ev.tmp rfl)) (leB rfl) ?_
              refine WL.poG (GU.t (hG _ _ rfl) rfl) (fun hc => PO.load1 Tryd.underlying21 rfl (Ev.gv rfl hc) (by (repeat (first | exact mem0 _ | apply memT))) rfl) (leB rfl) ?_
              refine WL.poG (GU.t (hG _ _ rfl) rfl) (fun hc => PO.bin (Ev.gv rfl hc) Ev.const rfl) (leB rfl) ?_
              refine WL.po (PO.pickAnd rfl rfl) (leB rfl) ?_
              refine WL.po (PO.assign (Ev.tmp rfl)) (leB rfl) ?_
              refine WL.nil (keepF (ts := [2]) rfl (toK (by assumption) ?_))
              (try clear hG ops)
              refine WC.ret (end1 (h' := h) (.inl rfl) rfl (RV.tmp rfl) (View.le.refl m) (by (repeat (first | exact sub0 _ | exact subA _ _ | refine subC _ ?_ | apply subK | refine subT _ ?_))) ?_)
              exact ⟨by unfold mayK; rw [d10, c13, c23, c53, ← sym_eq]; simp [Bool.and_comm], rfl⟩
            · refine WC.skip (keepF (ts := []) rfl (toK (by assumption) ?_))
              (repeat (first | refine WC.seqK fun K hK => ?_ | refine WC.block ?_ | refine WC.regionG rfl fun ops hG => ?_))
              refine WL.po (PO.assign Ev.const) (leB rfl) ?_
              refine WL.nil (keepF (ts := [2]) rfl (toK (by assumption) ?_))
              (try clear hG ops)
              refine WC.ret (end1 (h' := h) (.inl rfl) rfl (RV.tmp rfl) (View.le.refl m) (by (repeat (first | exact sub0 _ | exact subA _ _ | refine subC _ ?_ | apply subK | refine subT _ ?_))) ?_)
              exact ⟨by unfold mayK; rw [d10, c13, c23, c53, c38, c33]; rfl, rfl⟩
end Go.Proofs.YtheejlbhmbbdjaaDoor

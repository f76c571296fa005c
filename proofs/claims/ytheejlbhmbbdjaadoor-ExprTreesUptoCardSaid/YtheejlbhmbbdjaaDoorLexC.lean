/- lex: reading tokens, walked. -/
import Derived.Test.YtheejlbhmbbdjaaDoorLexA
import Derived.Test.YtheejlbhmbbdjaaDoorLexU
import Derived.Test.YtheejlbhmbbdjaaDoorEng8
namespace Go.Proofs.YtheejlbhmbbdjaaDoor
open Go.Eng Go.Lx Go.Ty
set_option maxRecDepth 100000
theorem sym_len {s : B} (h1 : ((s.length : Int) == 1) = false) (h2 : ((s.length : Int) == 2) = false) : sym s = false := by
  match s with
  | [] => rfl
  | [a] => simp at h1
  | [a, b] => simp at h2
  | a :: b :: c :: s => rfl
theorem len_one {s : B} (h : ((s.length : Int) == 1) = true) : ∃ a, s = [a] := by
  match s with
  | [] => simp at h
  | [a] => exact ⟨a, rfl⟩
  | a :: b :: s => simp at h; omega
theorem len_two {s : B} (h : ((s.length : Int) == 2) = true) : ∃ a b, s = [a, b] := by
  match s with
  | [] => simp at h
  | [a] => simp at h
  | [a, b] => exact ⟨a, b, rfl⟩
  | a :: b :: c :: s => simp at h; omega
theorem lxSym_ct (s : B) (h : List Res) (m : View) (hg : Glob m) : CT Tryd.prog 66 [str s] h m (Pure1 h (.bool (sym s))) := by
  refine CT.body Tryd.call66 Tryd.func66 rfl Tryd.ntmps66 (leB rfl) rfl ?_
  (repeat (first | refine WC.seqK fun K hK => ?_ | refine WC.block ?_ | refine WC.regionG rfl fun ops hG => ?_))
  refine WL.po (PO.assign Ev.const) (leB rfl) ?_
  refine WL.nil (keepF (ts := [0]) rfl (toK (by assumption) ?_))
  (try clear hG ops)
  (repeat (first | refine WC.seqK fun K hK => ?_ | refine WC.block ?_ | refine WC.regionG rfl fun ops hG => ?_))
  refine WL.po (PO.move (Ev.tmp rfl)) (leB rfl) ?_
  refine WL.po (PO.lenS Tryd.underlying9 (Ev.tmp rfl)) (leB rfl) ?_
  refine WL.nil (keepF (ts := [0, 4]) rfl (toK (by assumption) ?_))
  (try clear hG ops)
  (repeat (first | refine WC.seqK fun K hK => ?_ | refine WC.block ?_ | refine WC.regionG rfl fun ops hG => ?_))
  refine WL.po (PO.bin (Ev.tmp rfl) Ev.const rfl) (leB rfl) ?_
  refine WL.po (PO.assign (Ev.tmp rfl)) (leB rfl) ?_
  refine WL.nil (keepF (ts := [0, 4, 5]) rfl (toK (by assumption) ?_))
  (try clear hG ops)
  (repeat (first | refine WC.seqK fun K hK => ?_ | refine WC.block ?_ | refine WC.regionG rfl fun ops hG => ?_))
  refine WC.cond (Ev.tmp rfl) (fun c5 => ?_) (fun c5 => ?_)
  · obtain ⟨a, rfl⟩ := len_one c5
    (repeat (first | refine WC.seqK fun K hK => ?_ | refine WC.block ?_ | refine WC.regionG rfl fun ops hG => ?_))
    refine WL.po (PO.move (Ev.tmp rfl)) (leB rfl) ?_
    refine WL.callP Ev.func (Evs.cons Ev.const (Evs.cons (Ev.tmp rfl) Evs.nil)) (CT.argsE rfl (contains_ct hg singlesB [a] (by decide) _)) (leB rfl) ?_
    refine WL.po (PO.assign (Ev.tmp rfl)) (leB rfl) ?_
    refine WL.nil (keepF (ts := [2]) rfl (toK (by assumption) ?_))
    (try clear hG ops)
    refine WC.ret (end1 (h' := h) (.inl rfl) rfl (RV.tmp rfl) (View.le.refl m) (by (repeat (first | exact sub0 _ | exact subA _ _ | refine subC _ ?_ | apply subK | refine subT _ ?_))) ?_)
    exact ⟨rfl, rfl⟩
  · (repeat (first | refine WC.seqK fun K hK => ?_ | refine WC.block ?_ | refine WC.regionG rfl fun ops hG => ?_))
    refine WL.po (PO.bin (Ev.tmp rfl) Ev.const rfl) (leB rfl) ?_
    refine WL.po (PO.assign (Ev.tmp rfl)) (leB rfl) ?_
    refine WL.nil (keepF (ts := [0, 9]) rfl (toK (by assumption) ?_))
    (try clear hG ops)
    (repeat (first | refine WC.seqK fun K hK => ?_ | refine WC.block ?_ | refine WC.regionG rfl fun ops hG => ?_))
    refine WC.cond (Ev.tmp rfl) (fun c9 => ?_) (fun c9 => ?_)
    · obtain ⟨a, b, rfl⟩ := len_two c9
      (repeat (first | refine WC.seqK fun K hK => ?_ | refine WC.block ?_ | refine WC.regionG rfl fun ops hG => ?_))
      refine WL.po (PO.move (Ev.tmp rfl)) (leB rfl) ?_
      refine WL.po (PO.idxS Tryd.underlying9 (Ev.tmp rfl) Ev.const (q := 0) rfl (c := a) rfl) (leB rfl) ?_
      refine WL.po (PO.bin (Ev.tmp rfl) Ev.const rfl) (leB rfl) ?_
      refine WL.po (PO.move (Ev.tmp rfl)) (leB rfl) ?_
      refine WL.poG (GU.t (hG _ _ rfl) rfl) (fun hc => PO.move (Ev.tmp rfl)) (leB rfl) ?_
      refine WL.poG (GU.t (hG _ _ rfl) rfl) (fun hc => PO.idxS Tryd.underlying9 (Ev.gv rfl hc) Ev.const (q := 1) rfl (c := b) rfl) (leB rfl) ?_
      refine WL.poG (GU.t (hG _ _ rfl) rfl) (fun hc => PO.bin (Ev.gv rfl hc) Ev.const rfl) (leB rfl) ?_
      refine WL.po (PO.pickAnd rfl rfl) (leB rfl) ?_
      refine WL.po (PO.move (Ev.tmp rfl)) (leB rfl) ?_
      refine WL.poG (GU.t (hG _ _ rfl) rfl) (fun hc => PO.move (Ev.tmp rfl)) (leB rfl) ?_
      refine WL.poG (GU.t (hG _ _ rfl) rfl) (fun hc => PO.catS Ev.const (Ev.gv rfl hc) (by simp)) (leB rfl) ?_
      refine WL.poG (GU.t (hG _ _ rfl) rfl) (fun hc => PO.catS (Ev.gv rfl hc) Ev.const (by simp)) (leB rfl) ?_
      refine WL.callG (GU.t (hG _ _ rfl) rfl) (fun hc => ⟨Ev.func, (Evs.cons Ev.const (Evs.cons (Ev.gv rfl hc) Evs.nil)), CT.argsE rfl (contains_ct hg doublesB ([32] ++ [a, b] ++ [32]) (by decide) _)⟩) (leB rfl) ?_
      refine WL.po (PO.pickAnd rfl rfl) (leB rfl) ?_
      refine WL.po (PO.assign (Ev.tmp rfl)) (leB rfl) ?_
      refine WL.nil (keepF (ts := [2]) rfl (toK (by assumption) ?_))
      (try clear hG ops)
      refine WC.ret (end1 (h' := h) (.inl rfl) rfl (RV.tmp rfl) (View.le.refl m) (by (repeat (first | exact sub0 _ | exact subA _ _ | refine subC _ ?_ | apply subK | refine subT _ ?_))) ?_)
      exact ⟨rfl, rfl⟩
    · refine WC.skip (keepF (ts := []) rfl (toK (by assumption) ?_))
      (repeat (first | refine WC.seqK fun K hK => ?_ | refine WC.block ?_ | refine WC.regionG rfl fun ops hG => ?_))
      refine WL.po (PO.assign Ev.const) (leB rfl) ?_
      refine WL.nil (keepF (ts := [2]) rfl (toK (by assumption) ?_))
      (try clear hG ops)
      refine WC.ret (end1 (h' := h) (.inl rfl) rfl (RV.tmp rfl) (View.le.refl m) (by (repeat (first | exact sub0 _ | exact subA _ _ | refine subC _ ?_ | apply subK | refine subT _ ?_))) ?_)
      exact ⟨by rw [sym_len c5 c9], rfl⟩
theorem lxMay_ct (t : Tok) (h : List Res) (m : View) (hg : Glob m) (hs : t.text.length ≤ 140737488355328) : CT Tryd.prog 42 [tokV t] h m (Pure1 h (.bool (mayK t))) := by
  have hs' : t.text.length ≤ 9223372036854775807 := by omega
  refine CT.body Tryd.call42 Tryd.func42 rfl Tryd.ntmps42 (leB rfl) rfl ?_
  (repeat (first | refine WC.seqK fun K hK => ?_ | refine WC.block ?_ | refine WC.regionG rfl fun ops hG => ?_))
  refine WL.box (Ev.tmp rfl) rfl (leB rfl) fun b1 => ?_
  refine WL.po (PO.assign Ev.const) (leB rfl) ?_
  refine WL.nil (keepF (ts := [1]) rfl (toK (by assumption) ?_))
  (try clear hG ops)
  (repeat (first | refine WC.seqK fun K hK => ?_ | refine WC.block ?_ | refine WC.regionG rfl fun ops hG => ?_))
  refine WL.po (PO.fieldAddr Tryd.underlying36 rfl (Nat.ne_of_beq_eq_false rfl) (Ev.tmp rfl)) (leB rfl) ?_
  refine WL.po (PO.load1 Tryd.underlying3 rfl (Ev.tmp rfl) (by (repeat (first | exact mem0 _ | apply memT))) rfl) (leB rfl) ?_
  refine WL.po (PO.bin (Ev.tmp rfl) Ev.const rfl) (leB rfl) ?_
  refine WL.po (PO.move (Ev.tmp rfl)) (leB rfl) ?_
  refine WL.poG (GU.f (hG _ _ rfl) rfl) (fun hc => PO.fieldAddr Tryd.underlying36 rfl (Nat.ne_of_beq_eq_false rfl) (Ev.tmp rfl)) (leB rfl) ?_
  refine WL.poG (GU.f (hG _ _ rfl) rfl) (fun hc => PO.load1 Tryd.underlying3 rfl (Ev.gv rfl hc) (by (repeat (first | exact mem0 _ | apply memT))) rfl) (leB rfl) ?_
  refine WL.poG (GU.f (hG _ _ rfl) rfl) (fun hc => PO.bin (Ev.gv rfl hc) Ev.const rfl) (leB rfl) ?_
  refine WL.po (PO.pickOr rfl rfl) (leB rfl) ?_
  refine WL.nil (keepF (ts := [1, 10]) rfl (toK (by assumption) ?_))
  (try clear hG ops)
  (repeat (first | refine WC.seqK fun K hK => ?_ | refine WC.block ?_ | refine WC.regionG rfl fun ops hG => ?_))
  refine WC.cond (Ev.tmp rfl) (fun c10 => ?_) (fun c10 => ?_)
  · have d : mayK t = false := by unfold mayK; rw [c10]; rfl
    (repeat (first | refine WC.seqK fun K hK => ?_ | refine WC.block ?_ | refine WC.regionG rfl fun ops hG => ?_))
    refine WL.po (PO.assign Ev.const) (leB rfl) ?_
    refine WL.nil (keepF (ts := [2]) rfl (toK (by assumption) ?_))
    (try clear hG ops)
    refine WC.ret (end1 (h' := h) (.inl rfl) rfl (RV.tmp rfl) (View.le.refl m) (by (repeat (first | exact sub0 _ | exact subA _ _ | refine subC _ ?_ | apply subK | refine subT _ ?_))) ?_)
    rw [d]; exact ⟨rfl, rfl⟩
  · refine WC.skip (keepF (ts := [1]) rfl (toK (by assumption) ?_))
    (repeat (first | refine WC.seqK fun K hK => ?_ | refine WC.block ?_ | refine WC.regionG rfl fun ops hG => ?_))
    refine WL.po (PO.fieldAddr Tryd.underlying36 rfl (Nat.ne_of_beq_eq_false rfl) (Ev.tmp rfl)) (leB rfl) ?_
    refine WL.po (PO.load1 Tryd.underlying34 rfl (Ev.tmp rfl) (by (repeat (first | exact mem0 _ | apply memT))) rfl) (leB rfl) ?_
    refine WL.nil (keepF (ts := [1, 12]) rfl (toK (by assumption) ?_))
    (try clear hG ops)
    (repeat (first | refine WC.seqK fun K hK => ?_ | refine WC.block ?_ | refine WC.regionG rfl fun ops hG => ?_))
    refine WL.po (PO.bin (Ev.tmp rfl) Ev.const rfl) (leB rfl) ?_
    refine WL.po (PO.assign (Ev.tmp rfl)) (leB rfl) ?_
    refine WL.nil (keepF (ts := [1, 12, 13]) rfl (toK (by assumption) ?_))
    (try clear hG ops)
    (repeat (first | refine WC.seqK fun K hK => ?_ | refine WC.block ?_ | refine WC.regionG rfl fun ops hG => ?_))
    refine WC.cond (Ev.tmp rfl) (fun c13 => ?_) (fun c13 => ?_)
    · (repeat (first | refine WC.seqK fun K hK => ?_ | refine WC.block ?_ | refine WC.regionG rfl fun ops hG => ?_))
      refine WL.po (PO.fieldAddr Tryd.underlying36 rfl (Nat.ne_of_beq_eq_false rfl) (Ev.tmp rfl)) (leB rfl) ?_
      refine WL.po (PO.load1 Tryd.underlying21 rfl (Ev.tmp rfl) (by (repeat (first | exact mem0 _ | apply memT))) rfl) (leB rfl) ?_
      refine WL.po (PO.bin (Ev.tmp rfl) Ev.const rfl) (leB rfl) ?_
      refine WL.po (PO.move (Ev.tmp rfl)) (leB rfl) ?_
      refine WL.poG (GU.t (hG _ _ rfl) rfl) (fun hc => PO.fieldAddr Tryd.underlying36 rfl (Nat.ne_of_beq_eq_false rfl) (Ev.tmp rfl)) (leB rfl) ?_
      refine WL.poG (GU.t (hG _ _ rfl) rfl) (fun hc => PO.load1 Tryd.underlying9 rfl (Ev.gv rfl hc) (by (repeat (first | exact mem0 _ | apply memT))) rfl) (leB rfl) ?_
      refine WL.callG (GU.t (hG _ _ rfl) rfl) (fun hc => ⟨Ev.func, (Evs.cons (Ev.gv rfl hc) Evs.nil), name_ct _ _ _ hg (by assumption)⟩) (leB rfl) ?_
      refine WL.po (PO.pickAnd rfl rfl) (leB rfl) ?_
      refine WL.po (PO.assign (Ev.tmp rfl)) (leB rfl) ?_
      refine WL.nil (keepF (ts := [2]) rfl (toK (by assumption) ?_))
      (try clear hG ops)
      refine WC.ret (end1 (h' := h) (.inl rfl) rfl (RV.tmp rfl) (View.le.refl m) (by (repeat (first | exact sub0 _ | exact subA _ _ | refine subC _ ?_ | apply subK | refine subT _ ?_))) ?_)
      exact ⟨by unfold mayK; rw [c10, c13]; rfl, rfl⟩
    · (repeat (first | refine WC.seqK fun K hK => ?_ | refine WC.block ?_ | refine WC.regionG rfl fun ops hG => ?_))
      refine WL.po (PO.bin (Ev.tmp rfl) Ev.const rfl) (leB rfl) ?_
      refine WL.po (PO.assign (Ev.tmp rfl)) (leB rfl) ?_
      refine WL.nil (keepF (ts := [1, 12, 23]) rfl (toK (by assumption) ?_))
      (try clear hG ops)
      (repeat (first | refine WC.seqK fun K hK => ?_ | refine WC.block ?_ | refine WC.regionG rfl fun ops hG => ?_))
      refine WC.cond (Ev.tmp rfl) (fun c23 => ?_) (fun c23 => ?_)
      · (repeat (first | refine WC.seqK fun K hK => ?_ | refine WC.block ?_ | refine WC.regionG rfl fun ops hG => ?_))
        refine WL.po (PO.fieldAddr Tryd.underlying36 rfl (Nat.ne_of_beq_eq_false rfl) (Ev.tmp rfl)) (leB rfl) ?_
        refine WL.po (PO.load1 Tryd.underlying21 rfl (Ev.tmp rfl) (by (repeat (first | exact mem0 _ | apply memT))) rfl) (leB rfl) ?_
        refine WL.po (PO.bin (Ev.tmp rfl) Ev.const rfl) (leB rfl) ?_
        refine WL.po (PO.move (Ev.tmp rfl)) (leB rfl) ?_
        refine WL.poG (GU.t (hG _ _ rfl) rfl) (fun hc => PO.fieldAddr Tryd.underlying36 rfl (Nat.ne_of_beq_eq_false rfl) (Ev.tmp rfl)) (leB rfl) ?_
        refine WL.poG (GU.t (hG _ _ rfl) rfl) (fun hc => PO.load1 Tryd.underlying9 rfl (Ev.gv rfl hc) (by (repeat (first | exact mem0 _ | apply memT))) rfl) (leB rfl) ?_
        refine WL.callG (GU.t (hG _ _ rfl) rfl) (fun hc => ⟨Ev.func, (Evs.cons (Ev.gv rfl hc) Evs.nil), key_ct _ _ _ hg (by assumption)⟩) (leB rfl) ?_
        refine WL.po (PO.pickAnd rfl rfl) (leB rfl) ?_
        refine WL.po (PO.assign (Ev.tmp rfl)) (leB rfl) ?_
        refine WL.nil (keepF (ts := [2]) rfl (toK (by assumption) ?_))
        (try clear hG ops)
        refine WC.ret (end1 (h' := h) (.inl rfl) rfl (RV.tmp rfl) (View.le.refl m) (by (repeat (first | exact sub0 _ | exact subA _ _ | refine subC _ ?_ | apply subK | refine subT _ ?_))) ?_)
        exact ⟨by unfold mayK; rw [c10, c13, c23]; rfl, rfl⟩
      · (repeat (first | refine WC.seqK fun K hK => ?_ | refine WC.block ?_ | refine WC.regionG rfl fun ops hG => ?_))
        refine WL.po (PO.bin (Ev.tmp rfl) Ev.const rfl) (leB rfl) ?_
        refine WL.po (PO.assign (Ev.tmp rfl)) (leB rfl) ?_
        refine WL.nil (keepF (ts := [1, 12, 33]) rfl (toK (by assumption) ?_))
        (try clear hG ops)
        (repeat (first | refine WC.seqK fun K hK => ?_ | refine WC.block ?_ | refine WC.regionG rfl fun ops hG => ?_))
        refine WC.cond (Ev.tmp rfl) (fun c33 => ?_) (fun c33 => ?_)
        · (repeat (first | refine WC.seqK fun K hK => ?_ | refine WC.block ?_ | refine WC.regionG rfl fun ops hG => ?_))
          refine WL.po (PO.fieldAddr Tryd.underlying36 rfl (Nat.ne_of_beq_eq_false rfl) (Ev.tmp rfl)) (leB rfl) ?_
          refine WL.po (PO.load1 Tryd.underlying21 rfl (Ev.tmp rfl) (by (repeat (first | exact mem0 _ | apply memT))) rfl) (leB rfl) ?_
          refine WL.po (PO.bin (Ev.tmp rfl) Ev.const rfl) (leB rfl) ?_
          refine WL.po (PO.move (Ev.tmp rfl)) (leB rfl) ?_
          refine WL.poG (GU.t (hG _ _ rfl) rfl) (fun hc => PO.fieldAddr Tryd.underlying36 rfl (Nat.ne_of_beq_eq_false rfl) (Ev.tmp rfl)) (leB rfl) ?_
          refine WL.poG (GU.t (hG _ _ rfl) rfl) (fun hc => PO.load1 Tryd.underlying9 rfl (Ev.gv rfl hc) (by (repeat (first | exact mem0 _ | apply memT))) rfl) (leB rfl) ?_
          refine WL.callG (GU.t (hG _ _ rfl) rfl) (fun hc => ⟨Ev.func, (Evs.cons (Ev.gv rfl hc) Evs.nil), lxSym_ct _ _ _ hg⟩) (leB rfl) ?_
          refine WL.po (PO.pickAnd rfl rfl) (leB rfl) ?_
          refine WL.po (PO.assign (Ev.tmp rfl)) (leB rfl) ?_
          refine WL.nil (keepF (ts := [2]) rfl (toK (by assumption) ?_))
          (try clear hG ops)
          refine WC.ret (end1 (h' := h) (.inl rfl) rfl (RV.tmp rfl) (View.le.refl m) (by (repeat (first | exact sub0 _ | exact subA _ _ | refine subC _ ?_ | apply subK | refine subT _ ?_))) ?_)
          exact ⟨by unfold mayK; rw [c10, c13, c23, c33]; rfl, rfl⟩
        · (repeat (first | refine WC.seqK fun K hK => ?_ | refine WC.block ?_ | refine WC.regionG rfl fun ops hG => ?_))
          refine WL.po (PO.bin (Ev.tmp rfl) Ev.const rfl) (leB rfl) ?_
          refine WL.po (PO.assign (Ev.tmp rfl)) (leB rfl) ?_
          refine WL.nil (keepF (ts := [1, 43]) rfl (toK (by assumption) ?_))
          (try clear hG ops)
          (repeat (first | refine WC.seqK fun K hK => ?_ | refine WC.block ?_ | refine WC.regionG rfl fun ops hG => ?_))
          refine WC.cond (Ev.tmp rfl) (fun c43 => ?_) (fun c43 => ?_)
          · (repeat (first | refine WC.seqK fun K hK => ?_ | refine WC.block ?_ | refine WC.regionG rfl fun ops hG => ?_))
            refine WL.po (PO.fieldAddr Tryd.underlying36 rfl (Nat.ne_of_beq_eq_false rfl) (Ev.tmp rfl)) (leB rfl) ?_
            refine WL.po (PO.load1 Tryd.underlying9 rfl (Ev.tmp rfl) (by (repeat (first | exact mem0 _ | apply memT))) rfl) (leB rfl) ?_
            refine WL.po (PO.eqlS (Ev.tmp rfl) Ev.const) (leB rfl) ?_
            refine WL.po (PO.move (Ev.tmp rfl)) (leB rfl) ?_
            refine WL.poG (GU.t (hG _ _ rfl) rfl) (fun hc => PO.fieldAddr Tryd.underlying36 rfl (Nat.ne_of_beq_eq_false rfl) (Ev.tmp rfl)) (leB rfl) ?_
            refine WL.poG (GU.t (hG _ _ rfl) rfl) (fun hc => PO.load1 Tryd.underlying21 rfl (Ev.gv rfl hc) (by (repeat (first | exact mem0 _ | apply memT))) rfl) (leB rfl) ?_
            refine WL.poG (GU.t (hG _ _ rfl) rfl) (fun hc => PO.bin (Ev.gv rfl hc) Ev.const rfl) (leB rfl) ?_
            refine WL.po (PO.pickAnd rfl rfl) (leB rfl) ?_
            refine WL.po (PO.move (Ev.tmp rfl)) (leB rfl) ?_
            refine WL.poG (GU.t (hG _ _ rfl) rfl) (fun hc => PO.fieldAddr Tryd.underlying36 rfl (Nat.ne_of_beq_eq_false rfl) (Ev.tmp rfl)) (leB rfl) ?_
            refine WL.poG (GU.t (hG _ _ rfl) rfl) (fun hc => PO.load1 Tryd.underlying21 rfl (Ev.gv rfl hc) (by (repeat (first | exact mem0 _ | apply memT))) rfl) (leB rfl) ?_
            refine WL.poG (GU.t (hG _ _ rfl) rfl) (fun hc => PO.bin (Ev.gv rfl hc) Ev.const rfl) (leB rfl) ?_
            refine WL.po (PO.pickAnd rfl rfl) (leB rfl) ?_
            refine WL.po (PO.assign (Ev.tmp rfl)) (leB rfl) ?_
            refine WL.nil (keepF (ts := [2]) rfl (toK (by assumption) ?_))
            (try clear hG ops)
            refine WC.ret (end1 (h' := h) (.inl rfl) rfl (RV.tmp rfl) (View.le.refl m) (by (repeat (first | exact sub0 _ | exact subA _ _ | refine subC _ ?_ | apply subK | refine subT _ ?_))) ?_)
            exact ⟨by unfold mayK; rw [c10, c13, c23, c33, c43]; rfl, rfl⟩
          · refine WC.skip (keepF (ts := [1]) rfl (toK (by assumption) ?_))
            (repeat (first | refine WC.seqK fun K hK => ?_ | refine WC.block ?_ | refine WC.regionG rfl fun ops hG => ?_))
            refine WL.po (PO.fieldAddr Tryd.underlying36 rfl (Nat.ne_of_beq_eq_false rfl) (Ev.tmp rfl)) (leB rfl) ?_
            refine WL.po (PO.load1 Tryd.underlying34 rfl (Ev.tmp rfl) (by (repeat (first | exact mem0 _ | apply memT))) rfl) (leB rfl) ?_
            refine WL.po (PO.bin (Ev.tmp rfl) Ev.const rfl) (leB rfl) ?_
            refine WL.po (PO.move (Ev.tmp rfl)) (leB rfl) ?_
            refine WL.poG (GU.t (hG _ _ rfl) rfl) (fun hc => PO.fieldAddr Tryd.underlying36 rfl (Nat.ne_of_beq_eq_false rfl) (Ev.tmp rfl)) (leB rfl) ?_
            refine WL.poG (GU.t (hG _ _ rfl) rfl) (fun hc => PO.load1 Tryd.underlying9 rfl (Ev.gv rfl hc) (by (repeat (first | exact mem0 _ | apply memT))) rfl) (leB rfl) ?_
            refine WL.poG (GU.t (hG _ _ rfl) rfl) (fun hc => PO.eqlS (Ev.gv rfl hc) Ev.const) (leB rfl) ?_
            refine WL.po (PO.pickAnd rfl rfl) (leB rfl) ?_
            refine WL.po (PO.assign (Ev.tmp rfl)) (leB rfl) ?_
            refine WL.nil (keepF (ts := [2]) rfl (toK (by assumption) ?_))
            (try clear hG ops)
            refine WC.ret (end1 (h' := h) (.inl rfl) rfl (RV.tmp rfl) (View.le.refl m) (by (repeat (first | exact sub0 _ | exact subA _ _ | refine subC _ ?_ | apply subK | refine subT _ ?_))) ?_)
            exact ⟨by unfold mayK; rw [c10, c13, c23, c33, c43]; rfl, rfl⟩
/- the reader -/
abbrev rdr (b : Nat) (line : B) (p : Nat) : Res := .pt b (.cells [str line, Value.int .i64 p].toArray 79 (0, 0))
theorem rest_ct (b : Nat) (line : B) (p : Nat) (h : List Res) (m : View) (hr : rdr b line p ∈ h) (hp : p ≤ line.length) : CT Tryd.prog 87 [.pointer (some ⟨b, 0, none⟩)] h m (Pure1 h (str (line.drop p))) := by
  refine CT.body Tryd.call87 Tryd.func87 rfl Tryd.ntmps87 (leB rfl) rfl ?_
  (repeat (first | refine WC.seqK fun K hK => ?_ | refine WC.block ?_ | refine WC.regionG rfl fun ops hG => ?_))
  refine WL.po (PO.assign Ev.const) (leB rfl) ?_
  refine WL.nil (keepF (ts := [0]) rfl (toK (by assumption) ?_))
  (try clear hG ops)
  (repeat (first | refine WC.seqK fun K hK => ?_ | refine WC.block ?_ | refine WC.regionG rfl fun ops hG => ?_))
  refine WC.drawS [] (.op 0 (.op 1 (.op 2 (.op 3 (.op 4 (.op 5 (.op 6 (.op 7 .nil)))))))) [8, 9] _ [] mixed (fun _ _ _ _ _ h => h) [] (by kernel_rfl) ?_
  refine SR.po rfl rfl (PO.move (Ev.tmp rfl)) (leB rfl) ?_
  refine SR.po rfl rfl (PO.nilCheck (Ev.tmp rfl)) (leB rfl) ?_
  refine SR.po rfl rfl (PO.fieldAddr Tryd.underlying79 rfl (Nat.ne_of_beq_eq_false rfl) (Ev.tmp rfl)) (leB rfl) ?_
  refine SR.po rfl rfl (PO.load1 Tryd.underlying9 rfl (Ev.tmp rfl) hr rfl) (leB rfl) ?_
  refine SR.po rfl rfl (PO.move (Ev.tmp rfl)) (leB rfl) ?_
  refine SR.po rfl rfl (PO.nilCheck (Ev.tmp rfl)) (leB rfl) ?_
  refine SR.po rfl rfl (PO.fieldAddr Tryd.underlying79 rfl (Nat.ne_of_beq_eq_false rfl) (Ev.tmp rfl)) (leB rfl) ?_
  refine SR.po rfl rfl (PO.load1 Tryd.underlying3 rfl (Ev.tmp rfl) hr rfl) (leB rfl) ?_
  refine SR.nil rfl rfl ?_
  refine WL.po (PO.sliceSL Tryd.underlying9 (Ev.tmp rfl) (Ev.tmp rfl) rfl (by omega)) (leB rfl) ?_
  refine WL.po (PO.assign (Ev.tmp rfl)) (leB rfl) ?_
  refine WL.nil (keepF (ts := [2]) rfl (toK (by assumption) ?_))
  (try clear hG ops)
  refine WC.ret (end1 (h' := h) (.inl rfl) rfl (RV.tmp rfl) (View.le.refl m) (by (repeat (first | exact sub0 _ | exact subA _ _ | refine subC _ ?_ | apply subK | refine subT _ ?_))) ?_)
  exact ⟨rfl, rfl⟩
/-- What a method of the reader gives. -/
abbrev tkR (p : Tok × Nat) : Value := .tuple #[tokV p.1, .int .i64 p.2]
theorem words_ct' (b : Nat) (line : B) (p : Nat) (h : List Res) (m : View) (hg : Glob m) (hr : rdr b line p ∈ h) (hp : p ≤ line.length) (hs : line.length ≤ 140737488355328) : CT Tryd.prog 70 [.pointer (some ⟨b, 0, none⟩)] h m (Pure1 h (tkR (rWords (line.drop p)))) := by
  have hl : (line.drop p).length ≤ 140737488355328 := by rw [List.length_drop]; omega
  have hl' : (line.drop p).length ≤ 9223372036854775807 := by omega
  have hrun := run_le (line.drop p)
  have hlt : ((line.drop p).take (run (line.drop p))).length ≤ 140737488355328 := by rw [List.length_take]; omega
  have hlt' : ((line.drop p).take (run (line.drop p))).length ≤ 9223372036854775807 := by omega
  refine CT.body Tryd.call70 Tryd.func70 rfl Tryd.ntmps70 (leB rfl) rfl ?_
  (repeat (first | refine WC.seqK fun K hK => ?_ | refine WC.block ?_ | refine WC.regionG rfl fun ops hG => ?_))
  refine WL.alloc rfl rfl (leB rfl) fun b2 => ?_
  refine WL.po (PO.assign Ev.const) (leB rfl) ?_
  refine WL.nil (keepF (ts := [0, 2]) rfl (toK (by assumption) ?_))
  (try clear hG ops)
  (repeat (first | refine WC.seqK fun K hK => ?_ | refine WC.block ?_ | refine WC.regionG rfl fun ops hG => ?_))
  refine WL.po (PO.move (Ev.tmp rfl)) (leB rfl) ?_
  refine WL.callP Ev.func (Evs.cons (Ev.tmp rfl) Evs.nil) (rest_ct b line p _ _ (List.Mem.tail _ hr) hp) (leB rfl) ?_
  refine WL.callP Ev.func (Evs.cons (Ev.tmp rfl) Evs.nil) (run_ct _ _ _ (by assumption)) (leB rfl) ?_
  refine WL.po (PO.assign (Ev.tmp rfl)) (leB rfl) ?_
  refine WL.nil (keepF (ts := [0, 2, 4]) rfl (toK (by assumption) ?_))
  (try clear hG ops)
  (repeat (first | refine WC.seqK fun K hK => ?_ | refine WC.block ?_ | refine WC.regionG rfl fun ops hG => ?_))
  refine WL.po (PO.move (Ev.tmp rfl)) (leB rfl) ?_
  refine WL.callP Ev.func (Evs.cons (Ev.tmp rfl) Evs.nil) (rest_ct b line p _ _ (List.Mem.tail _ hr) hp) (leB rfl) ?_
  refine WL.po (PO.move (Ev.tmp rfl)) (leB rfl) ?_
  refine WL.po (PO.sliceSH Tryd.underlying9 (Ev.tmp rfl) (Ev.tmp rfl) rfl (by omega)) (leB rfl) ?_
  refine WL.po (PO.assign (Ev.tmp rfl)) (leB rfl) ?_
  refine WL.nil (keepF (ts := [2, 4, 5]) rfl (toK (by assumption) ?_))
  (try clear hG ops)
  (repeat (first | refine WC.seqK fun K hK => ?_ | refine WC.block ?_ | refine WC.regionG rfl fun ops hG => ?_))
  refine WL.po (PO.move (Ev.tmp rfl)) (leB rfl) ?_
  refine WL.callP Ev.func (Evs.cons (Ev.tmp rfl) Evs.nil) (key_ct _ _ _ hg (by assumption)) (leB rfl) ?_
  refine WL.po (PO.assign (Ev.tmp rfl)) (leB rfl) ?_
  refine WL.nil (keepF (ts := [2, 4, 5, 13]) rfl (toK (by assumption) ?_))
  (try clear hG ops)
  (repeat (first | refine WC.seqK fun K hK => ?_ | refine WC.block ?_ | refine WC.regionG rfl fun ops hG => ?_))
  refine WC.cond (Ev.tmp rfl) (fun c13 => ?_) (fun c13 => ?_)
  · (repeat (first | refine WC.seqK fun K hK => ?_ | refine WC.block ?_ | refine WC.regionG rfl fun ops hG => ?_))
    refine WL.po (PO.move (Ev.tmp rfl)) (leB rfl) ?_
    refine WL.po (PO.build Tryd.underlying36 rfl rfl rfl (EvP.cons Ev.const (EvP.cons (Ev.tmp rfl) EvP.nil)) rfl) (leB rfl) ?_
    refine WL.po (PO.move (Ev.tmp rfl)) (leB rfl) ?_
    refine WL.store rfl (Ev.tmp rfl) (Ev.tmp rfl) rfl rfl rfl rfl (by (repeat (first | exact Upd.here | apply Upd.next))) ?_
    refine WL.po (PO.assign (Ev.tmp rfl)) (leB rfl) ?_
    refine WL.nil (keepF (ts := [2, 3]) rfl (toK (by assumption) ?_))
    (try clear hG ops)
    refine WC.ret (end2 (h' := h) (.inl rfl) rfl (RV.cellA Tryd.underlying36 rfl rfl rfl (by (repeat (first | exact mem0 _ | apply memT))) rfl) (RV.tmp rfl) (View.le.refl m) (by (repeat (first | exact sub0 _ | exact subA _ _ | refine subC _ ?_ | apply subK | refine subT _ ?_))) ?_)
    exact ⟨by unfold rWords; rw [c13]; rfl, rfl⟩
  · (repeat (first | refine WC.seqK fun K hK => ?_ | refine WC.block ?_ | refine WC.regionG rfl fun ops hG => ?_))
    refine WL.po (PO.move (Ev.tmp rfl)) (leB rfl) ?_
    refine WL.po (PO.bin (Ev.tmp rfl) Ev.const rfl) (leB rfl) ?_
    refine WL.po (PO.assign (Ev.tmp rfl)) (leB rfl) ?_
    refine WL.nil (keepF (ts := [2, 4, 5, 19]) rfl (toK (by assumption) ?_))
    (try clear hG ops)
    (repeat (first | refine WC.seqK fun K hK => ?_ | refine WC.block ?_ | refine WC.regionG rfl fun ops hG => ?_))
    refine WC.cond (Ev.tmp rfl) (fun c19 => ?_) (fun c19 => ?_)
    · (repeat (first | refine WC.seqK fun K hK => ?_ | refine WC.block ?_ | refine WC.regionG rfl fun ops hG => ?_))
      refine WL.po (PO.build Tryd.underlying36 rfl rfl rfl EvP.nil rfl) (leB rfl) ?_
      refine WL.store rfl (Ev.tmp rfl) (Ev.tmp rfl) rfl rfl rfl rfl (by (repeat (first | exact Upd.here | apply Upd.next))) ?_
      refine WL.po (PO.assign Ev.const) (leB rfl) ?_
      refine WL.nil (keepF (ts := [2, 3]) rfl (toK (by assumption) ?_))
      (try clear hG ops)
      refine WC.ret (end2 (h' := h) (.inl rfl) rfl (RV.cellA Tryd.underlying36 rfl rfl rfl (by (repeat (first | exact mem0 _ | apply memT))) rfl) (RV.tmp rfl) (View.le.refl m) (by (repeat (first | exact sub0 _ | exact subA _ _ | refine subC _ ?_ | apply subK | refine subT _ ?_))) ?_)
      exact ⟨by unfold rWords; rw [c13, c19]; rfl, rfl⟩
    · refine WC.skip (keepF (ts := [2, 4, 5]) rfl (toK (by assumption) ?_))
      (repeat (first | refine WC.seqK fun K hK => ?_ | refine WC.block ?_ | refine WC.regionG rfl fun ops hG => ?_))
      refine WL.po (PO.move (Ev.tmp rfl)) (leB rfl) ?_
      refine WL.po (PO.build Tryd.underlying36 rfl rfl rfl (EvP.cons Ev.const (EvP.cons (Ev.tmp rfl) EvP.nil)) rfl) (leB rfl) ?_
      refine WL.po (PO.move (Ev.tmp rfl)) (leB rfl) ?_
      refine WL.store rfl (Ev.tmp rfl) (Ev.tmp rfl) rfl rfl rfl rfl (by (repeat (first | exact Upd.here | apply Upd.next))) ?_
      refine WL.po (PO.assign (Ev.tmp rfl)) (leB rfl) ?_
      refine WL.nil (keepF (ts := [2, 3]) rfl (toK (by assumption) ?_))
      (try clear hG ops)
      refine WC.ret (end2 (h' := h) (.inl rfl) rfl (RV.cellA Tryd.underlying36 rfl rfl rfl (by (repeat (first | exact mem0 _ | apply memT))) rfl) (RV.tmp rfl) (View.le.refl m) (by (repeat (first | exact sub0 _ | exact subA _ _ | refine subC _ ?_ | apply subK | refine subT _ ?_))) ?_)
      exact ⟨by unfold rWords; rw [c13, c19]; rfl, rfl⟩
theorem rd_bytes {b c : Nat} {s : B} {zs : List Value} {e : TypeId} {f : Nat × Nat} {h : List Res} {m : View} (h1 : s.length ≤ c) (h2 : c ≤ 9223372036854775807) : Rd m (.pt b (.cells (bv s ++ zs).toArray e f) :: h) (some ⟨b, 0, none⟩) s.length c 1 (bv s) :=
  Rd.ofPtP (by rw [bv_len]; exact (Nat.mul_one _).symm) h1 h2 (List.Mem.head _)
theorem decV_cons (c : UInt8) (l : B) (v : Int) : decV (c :: l) v = if !dig c.toNat then none else decV l (10 * v + ((c.toNat : Int) - 48)) := rfl
theorem p10 {v : Int} {k : Nat} (h : v < 10 ^ k) (hk : k ≤ 10) : v < 10000000000 :=
  Int.lt_of_lt_of_le h (show (10 : Int) ^ k ≤ 10 ^ 10 by exact_mod_cast Nat.pow_le_pow_right (by decide) hk)
theorem sub48 {c : UInt8} (h : dig c.toNat = true) : IntKind.u8.wrap ((c.toNat : Int) - 48) = (c.toNat : Int) - 48 ∧ 0 ≤ (c.toNat : Int) - 48 ∧ (c.toNat : Int) - 48 < 10 := by
  unfold dig at h
  simp at h
  unfold IntKind.wrap
  simp [IntKind.bits, IntKind.signed]
  omega
theorem wrap64 {v : Int} (h : 0 ≤ v ∧ v < 10) : IntKind.i64.wrap v = v := by
  unfold IntKind.wrap
  simp [IntKind.bits, IntKind.signed]
  omega
theorem wrap32r (v : Int) : IntKind.i64.wrap (IntKind.i32.wrap v) = IntKind.i32.wrap v := by
  unfold IntKind.wrap
  simp [IntKind.bits, IntKind.signed]
  omega
theorem dec_ct (b : Nat) (line : B) (p : Nat) (h : List Res) (m : View) (hr : rdr b line p ∈ h) (hp : p ≤ line.length) (hs : line.length ≤ 140737488355328) : CT Tryd.prog 72 [.pointer (some ⟨b, 0, none⟩)] h m (Pure1 h (tkR (rDec (line.drop p)))) := by
  have hl : (line.drop p).length ≤ 140737488355328 := by rw [List.length_drop]; omega
  have hl' : (line.drop p).length ≤ 9223372036854775807 := by omega
  have hrun := run_le (line.drop p)
  have hlen : ((line.drop p).take (run (line.drop p))).length = run (line.drop p) := by rw [List.length_take]; omega
  have hlt' : ((line.drop p).take (run (line.drop p))).length ≤ 9223372036854775807 := by omega
  refine CT.body Tryd.call72 Tryd.func72 rfl Tryd.ntmps72 (leB rfl) rfl ?_
  (repeat (first | refine WC.seqK fun K hK => ?_ | refine WC.block ?_ | refine WC.regionG rfl fun ops hG => ?_))
  refine WL.alloc rfl rfl (leB rfl) fun b2 => ?_
  refine WL.po (PO.assign Ev.const) (leB rfl) ?_
  refine WL.nil (keepF (ts := [0, 2]) rfl (toK (by assumption) ?_))
  (try clear hG ops)
  (repeat (first | refine WC.seqK fun K hK => ?_ | refine WC.block ?_ | refine WC.regionG rfl fun ops hG => ?_))
  refine WL.po (PO.move (Ev.tmp rfl)) (leB rfl) ?_
  refine WL.callP Ev.func (Evs.cons (Ev.tmp rfl) Evs.nil) (rest_ct b line p _ _ (List.Mem.tail _ hr) hp) (leB rfl) ?_
  refine WL.callP Ev.func (Evs.cons (Ev.tmp rfl) Evs.nil) (run_ct _ _ _ (by assumption)) (leB rfl) ?_
  refine WL.po (PO.assign (Ev.tmp rfl)) (leB rfl) ?_
  refine WL.nil (keepF (ts := [0, 2, 4]) rfl (toK (by assumption) ?_))
  (try clear hG ops)
  (repeat (first | refine WC.seqK fun K hK => ?_ | refine WC.block ?_ | refine WC.regionG rfl fun ops hG => ?_))
  refine WL.po (PO.move (Ev.tmp rfl)) (leB rfl) ?_
  refine WL.po (PO.bin (Ev.tmp rfl) Ev.const rfl) (leB rfl) ?_
  refine WL.nil (keepF (ts := [0, 2, 4, 12]) rfl (toK (by assumption) ?_))
  (try clear hG ops)
  (repeat (first | refine WC.seqK fun K hK => ?_ | refine WC.block ?_ | refine WC.regionG rfl fun ops hG => ?_))
  refine WC.cond (Ev.tmp rfl) (fun c12 => ?_) (fun c12 => ?_)
  · (repeat (first | refine WC.seqK fun K hK => ?_ | refine WC.block ?_ | refine WC.regionG rfl fun ops hG => ?_))
    refine WL.po (PO.build Tryd.underlying36 rfl rfl rfl EvP.nil rfl) (leB rfl) ?_
    refine WL.store rfl (Ev.tmp rfl) (Ev.tmp rfl) rfl rfl rfl rfl (by (repeat (first | exact Upd.here | apply Upd.next))) ?_
    refine WL.po (PO.assign Ev.const) (leB rfl) ?_
    refine WL.nil (keepF (ts := [2, 3]) rfl (toK (by assumption) ?_))
    (try clear hG ops)
    refine WC.ret (end2 (h' := h) (.inl rfl) rfl (RV.cellA Tryd.underlying36 rfl rfl rfl (by (repeat (first | exact mem0 _ | apply memT))) rfl) (RV.tmp rfl) (View.le.refl m) (by (repeat (first | exact sub0 _ | exact subA _ _ | refine subC _ ?_ | apply subK | refine subT _ ?_))) ?_)
    exact ⟨by unfold rDec; rw [c12]; rfl, rfl⟩
  · have h10 : run (line.drop p) ≤ 10 := by simp at c12; omega
    generalize hs0 : (line.drop p).take (run (line.drop p)) = s at *
    refine WC.skip (keepF (ts := [0, 2, 4]) rfl (toK (by assumption) ?_))
    (repeat (first | refine WC.seqK fun K hK => ?_ | refine WC.block ?_ | refine WC.regionG rfl fun ops hG => ?_))
    refine WL.po (PO.assign Ev.const) (leB rfl) ?_
    refine WL.nil (keepF (ts := [0, 2, 4, 5]) rfl (toK (by assumption) ?_))
    (try clear hG ops)
    (repeat (first | refine WC.seqK fun K hK => ?_ | refine WC.block ?_ | refine WC.regionG rfl fun ops hG => ?_))
    refine WL.po (PO.move (Ev.tmp rfl)) (leB rfl) ?_
    refine WL.callP Ev.func (Evs.cons (Ev.tmp rfl) Evs.nil) (rest_ct b line p _ _ (List.Mem.tail _ hr) hp) (leB rfl) ?_
    refine WL.po (PO.move (Ev.tmp rfl)) (leB rfl) ?_
    refine WL.po (PO.sliceSH Tryd.underlying9 (Ev.tmp rfl) (Ev.tmp rfl) rfl (by omega)) (leB rfl) ?_
    refine WL.val (v' := str s) (congrArg str hs0) ?_
    refine WL.strBytes Tryd.underlying9 Tryd.underlying104 Tryd.underlying5 (Ev.tmp rfl) (leB rfl) (by assumption) fun b18 z18 f18 c18 e18 g18 => ?_
    refine WL.po (PO.lenSl Tryd.underlying104 (Ev.tmp rfl)) (leB rfl) ?_
    refine WL.po (PO.move Ev.const) (leB rfl) ?_
    refine WL.nil (keepF (ts := [2, 4, 5, 18, 19, 20]) rfl (toK (by assumption) ?_))
    (try clear hG ops)
    (repeat (first | refine WC.seqK fun K hK => ?_ | refine WC.block ?_ | refine WC.regionG rfl fun ops hG => ?_))
    refine WC.loopI [2, 4, 18, 19] rfl (fun μ F' h' => ∃ k : Nat, ∃ v : Int, ((k ≤ s.length ∧ decV s 0 = decV (s.drop k) v) ∧ 0 ≤ v ∧ v < 10 ^ k) ∧ s.length - k = μ ∧ F' = [(5, .int .i64 v), (20, .int .i64 k)] ∧ .pt b18 (.cells (bv s ++ z18).toArray 5 f18) :: .pt b2 (.cells (encK zeroK).toArray 36 (0, 0)) :: h = h') (s.length - 0) [(5, .int .i64 0), (20, .int .i64 0)] (h0 := .pt b18 (.cells (bv s ++ z18).toArray 5 f18) :: .pt b2 (.cells (encK zeroK).toArray 36 (0, 0)) :: h) ?_ (by (repeat (first | exact sub0 _ | exact subA _ _ | refine subC _ ?_ | apply subK | refine subT _ ?_))) ⟨0, 0, ⟨⟨by omega, rfl⟩, by decide, by decide⟩, rfl, rfl, rfl⟩ ?_
    · (repeat (first | exact Sub.nil | refine Sub.cons rfl ?_ | refine Sub.consE rfl (by simp; done) ?_))
    rintro _ _ _ ⟨k, v, ⟨⟨hk, hJ⟩, hv0, hv1⟩, rfl, rfl, rfl⟩
    refine WC.frm rfl ?_
    (repeat (first | refine WC.seqK fun K hK => ?_ | refine WC.block ?_ | refine WC.regionG rfl fun ops hG => ?_))
    refine WL.po (PO.bin (Ev.tmp rfl) (Ev.tmp rfl) rfl) (leB rfl) ?_
    refine WL.nil (keepF (ts := [2, 4, 5, 18, 19, 20, 21]) rfl (toK (by assumption) ?_))
    (try clear hG ops)
    (repeat (first | refine WC.seqK fun K hK => ?_ | refine WC.block ?_ | refine WC.regionG rfl fun ops hG => ?_))
    refine WC.cond (Ev.tmp rfl) (fun c21 => ?_) (fun c21 => ?_)
    · replace c21 := of_decide_eq_true c21
      obtain ⟨c, hc⟩ := get_some (l := s) (k := k) (by omega)
      have hv := p10 hv1 (by omega)
      have hR := rd_bytes (b := b18) (zs := z18) (e := 5) (f := f18) (h := .pt b2 (.cells (encK zeroK).toArray 36 (0, 0)) :: h) (m := m) e18 g18
      have hd : s.drop k = c :: s.drop (k + 1) := by rw [List.drop_eq_getElem_cons (by omega), (List.getElem?_eq_some_iff.1 hc).2]
      rw [hd, decV_cons] at hJ
      refine WC.skip (keepF (ts := [2, 4, 5, 18, 19, 20]) rfl (toK (by assumption) ?_))
      (repeat (first | refine WC.seqK fun K hK => ?_ | refine WC.block ?_ | refine WC.regionG rfl fun ops hG => ?_))
      refine WL.po (PO.idx EL104.und EL104.size EL104.posz (Ev.tmp rfl) (Ev.tmp rfl) (by first | assumption | exact Rd.ofSl (by assumption) | exact Rd.ofPt rfl (by decide) (by (repeat (first | exact mem0 _ | apply memT))) | exact Rd.mono (by assumption) (View.le.refl _) (by (repeat (first | exact sub0 _ | exact subA _ _ | refine subC _ ?_ | apply subK | refine subT _ ?_))) | exact Rd.inRow (by (repeat (first | exact mem0 _ | apply memT))) (by assumption) (by assumption) (by assumption)) rfl (by omega)) (leB rfl) ?_
      refine WL.po (PO.loadB Tryd.underlying5 rfl (by first | assumption | exact Rd.ofSl (by assumption) | exact Rd.ofPt rfl (by decide) (by (repeat (first | exact mem0 _ | apply memT))) | exact Rd.mono (by assumption) (View.le.refl _) (by (repeat (first | exact sub0 _ | exact subA _ _ | refine subC _ ?_ | apply subK | refine subT _ ?_))) | exact Rd.inRow (by (repeat (first | exact mem0 _ | apply memT))) (by assumption) (by assumption) (by assumption)) (Ev.tmp rfl) (by assumption)) (leB rfl) ?_
      refine WL.po (PO.assign (Ev.tmp rfl)) (leB rfl) ?_
      refine WL.nil (keepF (ts := [2, 4, 5, 7, 18, 19, 20]) rfl (toK (by assumption) ?_))
      (try clear hG ops)
      (repeat (first | refine WC.seqK fun K hK => ?_ | refine WC.block ?_ | refine WC.regionG rfl fun ops hG => ?_))
      refine WL.po (PO.move (Ev.tmp rfl)) (leB rfl) ?_
      refine WL.callP Ev.func (Evs.cons (Ev.tmp rfl) Evs.nil) (digit_ct _ _ _) (leB rfl) ?_
      refine WL.po (PO.not (Ev.tmp rfl)) (leB rfl) ?_
      refine WL.nil (keepF (ts := [2, 4, 5, 7, 18, 19, 20, 26]) rfl (toK (by assumption) ?_))
      (try clear hG ops)
      (repeat (first | refine WC.seqK fun K hK => ?_ | refine WC.block ?_ | refine WC.regionG rfl fun ops hG => ?_))
      refine WC.cond (Ev.tmp rfl) (fun c26 => ?_) (fun c26 => ?_)
      · rw [c26] at hJ
        (repeat (first | refine WC.seqK fun K hK => ?_ | refine WC.block ?_ | refine WC.regionG rfl fun ops hG => ?_))
        refine WL.po (PO.build Tryd.underlying36 rfl rfl rfl EvP.nil rfl) (leB rfl) ?_
        refine WL.store rfl (Ev.tmp rfl) (Ev.tmp rfl) rfl rfl rfl rfl (by (repeat (first | exact Upd.here | apply Upd.next))) ?_
        refine WL.po (PO.assign Ev.const) (leB rfl) ?_
        refine WL.nil (keepF (ts := [2, 3]) rfl (toK (by assumption) ?_))
        (try clear hG ops)
        refine WC.ret (end2 (h' := h) (.inl rfl) rfl (RV.cellA Tryd.underlying36 rfl rfl rfl (by (repeat (first | exact mem0 _ | apply memT))) rfl) (RV.tmp rfl) (View.le.refl m) (by (repeat (first | exact sub0 _ | exact subA _ _ | refine subC _ ?_ | apply subK | refine subT _ ?_))) ?_)
        exact ⟨by unfold rDec; rw [c12, hs0]; simp only [Bool.false_eq_true, if_false, hJ]; rfl, rfl⟩
      · have d26 : dig c.toNat = true := by simpa using c26
        rw [c26] at hJ
        obtain ⟨w1, w2, w3⟩ := sub48 d26
        have hp1 : 10 * v + ((c.toNat : Int) - 48) < 10 ^ (k + 1) := by rw [Int.pow_succ]; omega
        refine WC.skip (keepF (ts := [2, 4, 5, 7, 18, 19, 20]) rfl (toK (by assumption) ?_))
        (repeat (first | refine WC.seqK fun K hK => ?_ | refine WC.block ?_ | refine WC.regionG rfl fun ops hG => ?_))
        refine WL.po (PO.move (Ev.tmp rfl)) (leB rfl) ?_
        refine WL.po (PO.mulI Ev.const (Ev.tmp rfl) (by omega)) (leB rfl) ?_
        refine WL.po (PO.move (Ev.tmp rfl)) (leB rfl) ?_
        refine WL.po (PO.bin (Ev.tmp rfl) Ev.const rfl) (leB rfl) ?_
        refine WL.val (v' := .int .u8 ((c.toNat : Int) - 48)) (congrArg (Value.int .u8) w1) ?_
        refine WL.po (PO.conv Tryd.underlying5 Tryd.underlying2 (Ev.tmp rfl)) (leB rfl) ?_
        refine WL.val (v' := .int .i64 ((c.toNat : Int) - 48)) (congrArg (Value.int .i64) (wrap64 ⟨w2, w3⟩)) ?_
        refine WL.po (PO.addI (Ev.tmp rfl) (Ev.tmp rfl) (by omega)) (leB rfl) ?_
        refine WL.po (PO.assign (Ev.tmp rfl)) (leB rfl) ?_
        refine WL.nil (keepF (ts := [2, 4, 5, 18, 19, 20]) rfl (toK (by assumption) ?_))
        (try clear hG ops)
        (repeat (first | refine WC.seqK fun K hK => ?_ | refine WC.block ?_ | refine WC.regionG rfl fun ops hG => ?_))
        refine WL.po (PO.addI (Ev.tmp rfl) Ev.const (by omega)) (leB rfl) ?_
        refine WL.po (PO.move (Ev.tmp rfl)) (leB rfl) ?_
        refine WL.nil (loopBackI (s.length - (k + 1)) [(5, .int .i64 (10 * v + ((c.toNat : Int) - 48))), (20, .int .i64 (k + 1))] (h'' := .pt b18 (.cells (bv s ++ z18).toArray 5 f18) :: .pt b2 (.cells (encK zeroK).toArray 36 (0, 0)) :: h) (by omega) ?_ (by (repeat (first | exact Sub.nil | refine Sub.cons rfl ?_ | refine Sub.consE rfl (by simp; done) ?_))) (by (repeat (first | exact sub0 _ | exact subA _ _ | refine subC _ ?_ | apply subK | refine subT _ ?_))) ⟨k + 1, 10 * v + ((c.toNat : Int) - 48), ⟨⟨by omega, by simpa using hJ⟩, by omega, hp1⟩, rfl, rfl, rfl⟩)
        (repeat (first | exact Sub.nil | refine Sub.cons rfl ?_ | refine Sub.consE rfl (by simp; done) ?_))
    · replace c21 := of_decide_eq_false c21
      have hv := p10 hv1 (by omega)
      rw [List.drop_eq_nil_of_le (by omega)] at hJ
      refine WC.exit (keepF (ts := [2, 4, 5]) rfl (toK (by assumption) ?_))
      (repeat (first | refine WC.seqK fun K hK => ?_ | refine WC.block ?_ | refine WC.regionG rfl fun ops hG => ?_))
      refine WL.po (PO.move (Ev.tmp rfl)) (leB rfl) ?_
      refine WL.po (PO.move (Ev.tmp rfl)) (leB rfl) ?_
      refine WL.po (PO.conv Tryd.underlying2 Tryd.underlying21 (Ev.tmp rfl)) (leB rfl) ?_
      refine WL.po (PO.conv Tryd.underlying21 Tryd.underlying2 (Ev.tmp rfl)) (leB rfl) ?_
      refine WL.val (v' := .int .i64 (IntKind.i32.wrap v)) (congrArg (Value.int .i64) (wrap32r v)) ?_
      refine WL.po (PO.bin (Ev.tmp rfl) (Ev.tmp rfl) rfl) (leB rfl) ?_
      refine WL.nil (keepF (ts := [2, 4, 5, 39]) rfl (toK (by assumption) ?_))
      (try clear hG ops)
      (repeat (first | refine WC.seqK fun K hK => ?_ | refine WC.block ?_ | refine WC.regionG rfl fun ops hG => ?_))
      refine WC.cond (Ev.tmp rfl) (fun c39 => ?_) (fun c39 => ?_)
      · (repeat (first | refine WC.seqK fun K hK => ?_ | refine WC.block ?_ | refine WC.regionG rfl fun ops hG => ?_))
        refine WL.po (PO.build Tryd.underlying36 rfl rfl rfl EvP.nil rfl) (leB rfl) ?_
        refine WL.store rfl (Ev.tmp rfl) (Ev.tmp rfl) rfl rfl rfl rfl (by (repeat (first | exact Upd.here | apply Upd.next))) ?_
        refine WL.po (PO.assign Ev.const) (leB rfl) ?_
        refine WL.nil (keepF (ts := [2, 3]) rfl (toK (by assumption) ?_))
        (try clear hG ops)
        refine WC.ret (end2 (h' := h) (.inl rfl) rfl (RV.cellA Tryd.underlying36 rfl rfl rfl (by (repeat (first | exact mem0 _ | apply memT))) rfl) (RV.tmp rfl) (View.le.refl m) (by (repeat (first | exact sub0 _ | exact subA _ _ | refine subC _ ?_ | apply subK | refine subT _ ?_))) ?_)
        exact ⟨by unfold rDec; rw [c12, hs0]; simp only [Bool.false_eq_true, if_false, hJ, decV, c39, if_true]; rfl, rfl⟩
      · refine WC.skip (keepF (ts := [2, 4, 5]) rfl (toK (by assumption) ?_))
        (repeat (first | refine WC.seqK fun K hK => ?_ | refine WC.block ?_ | refine WC.regionG rfl fun ops hG => ?_))
        refine WL.po (PO.move (Ev.tmp rfl)) (leB rfl) ?_
        refine WL.po (PO.conv Tryd.underlying2 Tryd.underlying21 (Ev.tmp rfl)) (leB rfl) ?_
        refine WL.po (PO.build Tryd.underlying36 rfl rfl rfl (EvP.cons Ev.const (EvP.cons (Ev.tmp rfl) EvP.nil)) rfl) (leB rfl) ?_
        refine WL.po (PO.move (Ev.tmp rfl)) (leB rfl) ?_
        refine WL.store rfl (Ev.tmp rfl) (Ev.tmp rfl) rfl rfl rfl rfl (by (repeat (first | exact Upd.here | apply Upd.next))) ?_
        refine WL.po (PO.assign (Ev.tmp rfl)) (leB rfl) ?_
        refine WL.nil (keepF (ts := [2, 3]) rfl (toK (by assumption) ?_))
        (try clear hG ops)
        refine WC.ret (end2 (h' := h) (.inl rfl) rfl (RV.cellA Tryd.underlying36 rfl rfl rfl (by (repeat (first | exact mem0 _ | apply memT))) rfl) (RV.tmp rfl) (View.le.refl m) (by (repeat (first | exact sub0 _ | exact subA _ _ | refine subC _ ?_ | apply subK | refine subT _ ?_))) ?_)
        exact ⟨by unfold rDec; rw [c12, hs0]; simp only [Bool.false_eq_true, if_false, hJ, decV, c39]; rfl, rfl⟩
theorem idx_ct (l : B) (c : UInt8) (h : List Res) (m : View) : CT Tryd.prog 86 [str l, .int .u8 c.toNat] h m (Pure1 h (.int .i64 (Lib.indexByte l c))) :=
  CT.ofCalls Tryd.call86 fun w _ => by
    have := Tryd.strings_IndexByte ⟨l.toArray⟩ c.toNat w
    simpa using this
theorem p16 {v : Int} {k : Nat} (h : v < 16 ^ k) (hk : k ≤ 7) : v < 268435456 :=
  Int.lt_of_lt_of_le h (show (16 : Int) ^ k ≤ 16 ^ 7 by exact_mod_cast Nat.pow_le_pow_right (by decide) hk)
theorem shl_hex {v : Int} (h : 0 ≤ v ∧ v < 268435456) : bshl .u32 v 4 = 16 * v := by
  unfold bshl IntKind.wrap
  simp [IntKind.bits, IntKind.signed]
  omega
theorem wrap_hex {v : Int} (h : 0 ≤ v ∧ v < 4294967296) : IntKind.u32.wrap v = v := by
  unfold IntKind.wrap
  simp [IntKind.bits, IntKind.signed]
  omega
theorem bor_hex {v d : Int} (hv : 0 ≤ v ∧ v < 268435456) (hd : 0 ≤ d ∧ d < 16) : bor .u32 (16 * v) d = 16 * v + d := by
  obtain ⟨a, rfl⟩ : ∃ a : Nat, v = a := ⟨v.toNat, by omega⟩
  obtain ⟨b, rfl⟩ : ∃ b : Nat, d = b := ⟨d.toNat, by omega⟩
  have e : (BitVec.ofInt 32 (16 * (a : Int)) ||| BitVec.ofInt 32 (b : Int)).toNat = 16 * a + b := by
    rw [show (16 * (a : Int)) = ((16 * a : Nat) : Int) by simp, BitVec.ofInt_natCast, BitVec.ofInt_natCast, BitVec.toNat_or, BitVec.toNat_ofNat, BitVec.toNat_ofNat, Nat.mod_eq_of_lt (by omega), Nat.mod_eq_of_lt (by omega)]
    have := Nat.shiftLeft_add_eq_or_of_lt (b := b) (i := 4) (by omega) a
    rw [Nat.shiftLeft_eq] at this
    rw [Nat.mul_comm 16 a]
    exact this.symm
  unfold bor
  rw [show IntKind.u32.bits = 32 from rfl, e, wrap_hex (by omega)]
  simp
theorem hexV_cons (c : UInt8) (l : B) (v : Int) : hexV (c :: l) v = if decide (hexd c < 0) then none else hexV l (16 * v + hexd c) := rfl
theorem indexB_le (c : UInt8) : ∀ l : B, Lib.indexByte l c ≤ (l.length : Int) - 1
  | [] => Int.le_refl (-1)
  | b :: l => by
    have ih := indexB_le c l
    unfold Lib.indexByte
    rw [List.length_cons]
    split
    · omega
    · split <;> omega
theorem hexd_lt (c : UInt8) : hexd c < 16 := by
  have := indexB_le c capitalB
  have e : (capitalB.length : Int) = 16 := rfl
  unfold hexd
  omega
theorem hexP_ct (s : B) (h : List Res) (m : View) (hs : s.length ≤ 8) : CT Tryd.prog 88 [str s] h m (Pure1 h (.tuple #[.int .u32 (hexP s).1, .bool (hexP s).2])) := by
  have hs' : s.length ≤ 9223372036854775807 := by omega
  refine CT.body Tryd.call88 Tryd.func88 rfl Tryd.ntmps88 (leB rfl) rfl ?_
  (repeat (first | refine WC.seqK fun K hK => ?_ | refine WC.block ?_ | refine WC.regionG rfl fun ops hG => ?_))
  refine WL.po (PO.assign Ev.const) (leB rfl) ?_
  refine WL.po (PO.assign Ev.const) (leB rfl) ?_
  refine WL.nil (keepF (ts := [0, 2]) rfl (toK (by assumption) ?_))
  (try clear hG ops)
  (repeat (first | refine WC.seqK fun K hK => ?_ | refine WC.block ?_ | refine WC.regionG rfl fun ops hG => ?_))
  refine WL.po (PO.move (Ev.tmp rfl)) (leB rfl) ?_
  refine WL.strBytes Tryd.underlying9 Tryd.underlying104 Tryd.underlying5 (Ev.tmp rfl) (leB rfl) (by assumption) fun b8 z8 f8 c8 e8 g8 => ?_
  refine WL.po (PO.lenSl Tryd.underlying104 (Ev.tmp rfl)) (leB rfl) ?_
  refine WL.po (PO.move Ev.const) (leB rfl) ?_
  refine WL.nil (keepF (ts := [0, 2, 8, 9, 10]) rfl (toK (by assumption) ?_))
  (try clear hG ops)
  (repeat (first | refine WC.seqK fun K hK => ?_ | refine WC.block ?_ | refine WC.regionG rfl fun ops hG => ?_))
  refine WC.loopI [0, 8, 9] rfl (fun μ F' h' => ∃ k : Nat, ∃ v : Int, ((k ≤ s.length ∧ hexV s 0 = hexV (s.drop k) v) ∧ 0 ≤ v ∧ v < 16 ^ k) ∧ s.length - k = μ ∧ F' = [(2, .int .u32 v), (10, .int .i64 k)] ∧ .pt b8 (.cells (bv s ++ z8).toArray 5 f8) :: h = h') (s.length - 0) [(2, .int .u32 0), (10, .int .i64 0)] (h0 := .pt b8 (.cells (bv s ++ z8).toArray 5 f8) :: h) ?_ (by (repeat (first | exact sub0 _ | exact subA _ _ | refine subC _ ?_ | apply subK | refine subT _ ?_))) ⟨0, 0, ⟨⟨by omega, rfl⟩, by decide, by decide⟩, rfl, rfl, rfl⟩ ?_
  · (repeat (first | exact Sub.nil | refine Sub.cons rfl ?_ | refine Sub.consE rfl (by simp; done) ?_))
  rintro _ _ _ ⟨k, v, ⟨⟨hk, hJ⟩, hv0, hv1⟩, rfl, rfl, rfl⟩
  refine WC.frm rfl ?_
  (repeat (first | refine WC.seqK fun K hK => ?_ | refine WC.block ?_ | refine WC.regionG rfl fun ops hG => ?_))
  refine WL.po (PO.bin (Ev.tmp rfl) (Ev.tmp rfl) rfl) (leB rfl) ?_
  refine WL.nil (keepF (ts := [0, 2, 8, 9, 10, 11]) rfl (toK (by assumption) ?_))
  (try clear hG ops)
  (repeat (first | refine WC.seqK fun K hK => ?_ | refine WC.block ?_ | refine WC.regionG rfl fun ops hG => ?_))
  refine WC.cond (Ev.tmp rfl) (fun c11 => ?_) (fun c11 => ?_)
  · replace c11 := of_decide_eq_true c11
    obtain ⟨c, hc⟩ := get_some (l := s) (k := k) (by omega)
    have hv := p16 hv1 (by omega)
    have hR := rd_bytes (b := b8) (zs := z8) (e := 5) (f := f8) (h := h) (m := m) e8 g8
    have hd : s.drop k = c :: s.drop (k + 1) := by rw [List.drop_eq_getElem_cons (by omega), (List.getElem?_eq_some_iff.1 hc).2]
    rw [hd, hexV_cons] at hJ
    refine WC.skip (keepF (ts := [0, 2, 8, 9, 10]) rfl (toK (by assumption) ?_))
    (repeat (first | refine WC.seqK fun K hK => ?_ | refine WC.block ?_ | refine WC.regionG rfl fun ops hG => ?_))
    refine WL.po (PO.idx EL104.und EL104.size EL104.posz (Ev.tmp rfl) (Ev.tmp rfl) (by first | assumption | exact Rd.ofSl (by assumption) | exact Rd.ofPt rfl (by decide) (by (repeat (first | exact mem0 _ | apply memT))) | exact Rd.mono (by assumption) (View.le.refl _) (by (repeat (first | exact sub0 _ | exact subA _ _ | refine subC _ ?_ | apply subK | refine subT _ ?_))) | exact Rd.inRow (by (repeat (first | exact mem0 _ | apply memT))) (by assumption) (by assumption) (by assumption)) rfl (by omega)) (leB rfl) ?_
    refine WL.po (PO.loadB Tryd.underlying5 rfl (by first | assumption | exact Rd.ofSl (by assumption) | exact Rd.ofPt rfl (by decide) (by (repeat (first | exact mem0 _ | apply memT))) | exact Rd.mono (by assumption) (View.le.refl _) (by (repeat (first | exact sub0 _ | exact subA _ _ | refine subC _ ?_ | apply subK | refine subT _ ?_))) | exact Rd.inRow (by (repeat (first | exact mem0 _ | apply memT))) (by assumption) (by assumption) (by assumption)) (Ev.tmp rfl) (by assumption)) (leB rfl) ?_
    refine WL.po (PO.assign (Ev.tmp rfl)) (leB rfl) ?_
    refine WL.nil (keepF (ts := [0, 2, 5, 8, 9, 10]) rfl (toK (by assumption) ?_))
    (try clear hG ops)
    (repeat (first | refine WC.seqK fun K hK => ?_ | refine WC.block ?_ | refine WC.regionG rfl fun ops hG => ?_))
    refine WL.po (PO.move (Ev.tmp rfl)) (leB rfl) ?_
    refine WL.callP Ev.func (Evs.cons Ev.const (Evs.cons (Ev.tmp rfl) Evs.nil)) (CT.argsE rfl (idx_ct capitalB c _ _)) (leB rfl) ?_
    refine WL.val (v' := .int .i64 (hexd c)) rfl ?_
    refine WL.po (PO.assign (Ev.tmp rfl)) (leB rfl) ?_
    refine WL.nil (keepF (ts := [0, 2, 6, 8, 9, 10]) rfl (toK (by assumption) ?_))
    (try clear hG ops)
    (repeat (first | refine WC.seqK fun K hK => ?_ | refine WC.block ?_ | refine WC.regionG rfl fun ops hG => ?_))
    refine WL.po (PO.move (Ev.tmp rfl)) (leB rfl) ?_
    refine WL.po (PO.bin (Ev.tmp rfl) Ev.const rfl) (leB rfl) ?_
    refine WL.nil (keepF (ts := [0, 2, 6, 8, 9, 10, 17]) rfl (toK (by assumption) ?_))
    (try clear hG ops)
    (repeat (first | refine WC.seqK fun K hK => ?_ | refine WC.block ?_ | refine WC.regionG rfl fun ops hG => ?_))
    refine WC.cond (Ev.tmp rfl) (fun c17 => ?_) (fun c17 => ?_)
    · rw [c17] at hJ
      (repeat (first | refine WC.seqK fun K hK => ?_ | refine WC.block ?_ | refine WC.regionG rfl fun ops hG => ?_))
      refine WL.po (PO.assign Ev.const) (leB rfl) ?_
      refine WL.po (PO.assign Ev.const) (leB rfl) ?_
      refine WL.nil (keepF (ts := [2, 3]) rfl (toK (by assumption) ?_))
      (try clear hG ops)
      refine WC.ret (end2 (h' := h) (.inl rfl) rfl (RV.tmp rfl) (RV.tmp rfl) (View.le.refl m) (by (repeat (first | exact sub0 _ | exact subA _ _ | refine subC _ ?_ | apply subK | refine subT _ ?_))) ?_)
      exact ⟨by unfold hexP; rw [hJ]; rfl, rfl⟩
    · rw [c17] at hJ
      have d17 : ¬ hexd c < 0 := of_decide_eq_false c17
      have dlt := hexd_lt c
      have hp1 : 16 * v + hexd c < 16 ^ (k + 1) := by rw [Int.pow_succ]; omega
      refine WC.skip (keepF (ts := [0, 2, 6, 8, 9, 10]) rfl (toK (by assumption) ?_))
      (repeat (first | refine WC.seqK fun K hK => ?_ | refine WC.block ?_ | refine WC.regionG rfl fun ops hG => ?_))
      refine WL.po (PO.move (Ev.tmp rfl)) (leB rfl) ?_
      refine WL.po (PO.shl (Ev.tmp rfl) Ev.const (by decide)) (leB rfl) ?_
      refine WL.val (v' := .int .u32 (16 * v)) (congrArg (Value.int .u32) (shl_hex ⟨hv0, hv⟩)) ?_
      refine WL.po (PO.move (Ev.tmp rfl)) (leB rfl) ?_
      refine WL.po (PO.conv Tryd.underlying3 Tryd.underlying103 (Ev.tmp rfl)) (leB rfl) ?_
      refine WL.val (v' := .int .u32 (hexd c)) (congrArg (Value.int .u32) (wrap_hex (by omega))) ?_
      refine WL.po (PO.bin (Ev.tmp rfl) (Ev.tmp rfl) rfl) (leB rfl) ?_
      refine WL.val (v' := .int .u32 (16 * v + hexd c)) (congrArg (Value.int .u32) (bor_hex ⟨hv0, hv⟩ (by omega))) ?_
      refine WL.po (PO.assign (Ev.tmp rfl)) (leB rfl) ?_
      refine WL.nil (keepF (ts := [0, 2, 8, 9, 10]) rfl (toK (by assumption) ?_))
      (try clear hG ops)
      (repeat (first | refine WC.seqK fun K hK => ?_ | refine WC.block ?_ | refine WC.regionG rfl fun ops hG => ?_))
      refine WL.po (PO.addI (Ev.tmp rfl) Ev.const (by omega)) (leB rfl) ?_
      refine WL.po (PO.move (Ev.tmp rfl)) (leB rfl) ?_
      refine WL.nil (loopBackI (s.length - (k + 1)) [(2, .int .u32 (16 * v + hexd c)), (10, .int .i64 (k + 1))] (h'' := .pt b8 (.cells (bv s ++ z8).toArray 5 f8) :: h) (by omega) ?_ (by (repeat (first | exact Sub.nil | refine Sub.cons rfl ?_ | refine Sub.consE rfl (by simp; done) ?_))) (by (repeat (first | exact sub0 _ | exact subA _ _ | refine subC _ ?_ | apply subK | refine subT _ ?_))) ⟨k + 1, 16 * v + hexd c, ⟨⟨by omega, by simpa using hJ⟩, by omega, hp1⟩, rfl, rfl, rfl⟩)
      (repeat (first | exact Sub.nil | refine Sub.cons rfl ?_ | refine Sub.consE rfl (by simp; done) ?_))
  · replace c11 := of_decide_eq_false c11
    rw [List.drop_eq_nil_of_le (by omega)] at hJ
    refine WC.exit (keepF (ts := [0, 2]) rfl (toK (by assumption) ?_))
    (repeat (first | refine WC.seqK fun K hK => ?_ | refine WC.block ?_ | refine WC.regionG rfl fun ops hG => ?_))
    refine WL.po (PO.move (Ev.tmp rfl)) (leB rfl) ?_
    refine WL.po (PO.move (Ev.tmp rfl)) (leB rfl) ?_
    refine WL.po (PO.neqS (Ev.tmp rfl) Ev.const) (leB rfl) ?_
    refine WL.po (PO.assign (Ev.tmp rfl)) (leB rfl) ?_
    refine WL.po (PO.assign (Ev.tmp rfl)) (leB rfl) ?_
    refine WL.nil (keepF (ts := [2, 3]) rfl (toK (by assumption) ?_))
    (try clear hG ops)
    refine WC.ret (end2 (h' := h) (.inl rfl) rfl (RV.tmp rfl) (RV.tmp rfl) (View.le.refl m) (by (repeat (first | exact sub0 _ | exact subA _ _ | refine subC _ ?_ | apply subK | refine subT _ ?_))) ?_)
    exact ⟨by unfold hexP; rw [hJ]; rfl, rfl⟩
theorem hex_ct (b : Nat) (line : B) (p : Nat) (h : List Res) (m : View) (hr : rdr b line p ∈ h) (hp : p < line.length) (hs : line.length ≤ 140737488355328) : CT Tryd.prog 73 [.pointer (some ⟨b, 0, none⟩)] h m (Pure1 h (tkR (rHex (line.drop p)))) := by
  have hl0 : (line.drop p).length = line.length - p := List.length_drop
  have hl : ((line.drop p).drop 1).length ≤ 140737488355328 := by rw [List.length_drop]; omega
  have hl' : ((line.drop p).drop 1).length ≤ 9223372036854775807 := by omega
  have hrun := run_le ((line.drop p).drop 1)
  have hlen : ((line.drop p).drop 1).length = line.length - p - 1 := by rw [List.length_drop, hl0]
  refine CT.body Tryd.call73 Tryd.func73 rfl Tryd.ntmps73 (leB rfl) rfl ?_
  (repeat (first | refine WC.seqK fun K hK => ?_ | refine WC.block ?_ | refine WC.regionG rfl fun ops hG => ?_))
  refine WL.alloc rfl rfl (leB rfl) fun b2 => ?_
  refine WL.po (PO.assign Ev.const) (leB rfl) ?_
  refine WL.nil (keepF (ts := [0, 2]) rfl (toK (by assumption) ?_))
  (try clear hG ops)
  (repeat (first | refine WC.seqK fun K hK => ?_ | refine WC.block ?_ | refine WC.regionG rfl fun ops hG => ?_))
  refine WL.po (PO.move (Ev.tmp rfl)) (leB rfl) ?_
  refine WL.callP Ev.func (Evs.cons (Ev.tmp rfl) Evs.nil) (rest_ct b line p _ _ (List.Mem.tail _ hr) (by omega)) (leB rfl) ?_
  refine WL.po (PO.sliceSL Tryd.underlying9 (Ev.tmp rfl) Ev.const (l := 1) rfl (by omega)) (leB rfl) ?_
  refine WL.callP Ev.func (Evs.cons (Ev.tmp rfl) Evs.nil) (run_ct _ _ _ (by assumption)) (leB rfl) ?_
  refine WL.po (PO.assign (Ev.tmp rfl)) (leB rfl) ?_
  refine WL.nil (keepF (ts := [0, 2, 4]) rfl (toK (by assumption) ?_))
  (try clear hG ops)
  (repeat (first | refine WC.seqK fun K hK => ?_ | refine WC.block ?_ | refine WC.regionG rfl fun ops hG => ?_))
  refine WL.po (PO.move (Ev.tmp rfl)) (leB rfl) ?_
  refine WL.po (PO.bin (Ev.tmp rfl) Ev.const rfl) (leB rfl) ?_
  refine WL.nil (keepF (ts := [0, 2, 4, 12]) rfl (toK (by assumption) ?_))
  (try clear hG ops)
  (repeat (first | refine WC.seqK fun K hK => ?_ | refine WC.block ?_ | refine WC.regionG rfl fun ops hG => ?_))
  refine WC.cond (Ev.tmp rfl) (fun c12 => ?_) (fun c12 => ?_)
  · (repeat (first | refine WC.seqK fun K hK => ?_ | refine WC.block ?_ | refine WC.regionG rfl fun ops hG => ?_))
    refine WL.po (PO.build Tryd.underlying36 rfl rfl rfl EvP.nil rfl) (leB rfl) ?_
    refine WL.store rfl (Ev.tmp rfl) (Ev.tmp rfl) rfl rfl rfl rfl (by (repeat (first | exact Upd.here | apply Upd.next))) ?_
    refine WL.po (PO.assign Ev.const) (leB rfl) ?_
    refine WL.nil (keepF (ts := [2, 3]) rfl (toK (by assumption) ?_))
    (try clear hG ops)
    refine WC.ret (end2 (h' := h) (.inl rfl) rfl (RV.cellA Tryd.underlying36 rfl rfl rfl (by (repeat (first | exact mem0 _ | apply memT))) rfl) (RV.tmp rfl) (View.le.refl m) (by (repeat (first | exact sub0 _ | exact subA _ _ | refine subC _ ?_ | apply subK | refine subT _ ?_))) ?_)
    exact ⟨by unfold rHex; rw [c12]; rfl, rfl⟩
  · have h8 : run ((line.drop p).drop 1) ≤ 8 := by have := of_decide_eq_false c12; omega
    have h8' : (((line.drop p).drop 1).take (run ((line.drop p).drop 1))).length ≤ 8 := by rw [List.length_take]; omega
    refine WC.skip (keepF (ts := [0, 2, 4]) rfl (toK (by assumption) ?_))
    (repeat (first | refine WC.seqK fun K hK => ?_ | refine WC.block ?_ | refine WC.regionG rfl fun ops hG => ?_))
    refine WL.po (PO.move (Ev.tmp rfl)) (leB rfl) ?_
    refine WL.callP Ev.func (Evs.cons (Ev.tmp rfl) Evs.nil) (rest_ct b line p _ _ (List.Mem.tail _ hr) (by omega)) (leB rfl) ?_
    refine WL.po (PO.move (Ev.tmp rfl)) (leB rfl) ?_
    refine WL.po (PO.addI Ev.const (Ev.tmp rfl) (by omega)) (leB rfl) ?_
    refine WL.val (v' := .int .i64 ((1 + run ((line.drop p).drop 1) : Nat) : Int)) (congrArg (Value.int .i64) (by omega)) ?_
    refine WL.po (PO.sliceSLH Tryd.underlying9 (Ev.tmp rfl) Ev.const (Ev.tmp rfl) (l := 1) rfl rfl (by omega) (by omega)) (leB rfl) ?_
    refine WL.val (v' := str (((line.drop p).drop 1).take (run ((line.drop p).drop 1)))) (by rw [Nat.add_sub_cancel_left]) ?_
    refine WL.callP Ev.func (Evs.cons (Ev.tmp rfl) Evs.nil) (hexP_ct _ _ _ (by assumption)) (leB rfl) ?_
    refine WL.po (PO.move (Ev.tmp rfl)) (leB rfl) ?_
    refine WL.po (PO.extract (Ev.tmp rfl) rfl) (leB rfl) ?_
    refine WL.po (PO.extract (Ev.tmp rfl) rfl) (leB rfl) ?_
    refine WL.po (PO.assign (Ev.tmp rfl)) (leB rfl) ?_
    refine WL.po (PO.assign (Ev.tmp rfl)) (leB rfl) ?_
    refine WL.nil (keepF (ts := [2, 4, 5, 6]) rfl (toK (by assumption) ?_))
    (try clear hG ops)
    (repeat (first | refine WC.seqK fun K hK => ?_ | refine WC.block ?_ | refine WC.regionG rfl fun ops hG => ?_))
    refine WL.po (PO.move (Ev.tmp rfl)) (leB rfl) ?_
    refine WL.po (PO.not (Ev.tmp rfl)) (leB rfl) ?_
    refine WL.nil (keepF (ts := [2, 4, 5, 24]) rfl (toK (by assumption) ?_))
    (try clear hG ops)
    (repeat (first | refine WC.seqK fun K hK => ?_ | refine WC.block ?_ | refine WC.regionG rfl fun ops hG => ?_))
    refine WC.cond (Ev.tmp rfl) (fun c24 => ?_) (fun c24 => ?_)
    · (repeat (first | refine WC.seqK fun K hK => ?_ | refine WC.block ?_ | refine WC.regionG rfl fun ops hG => ?_))
      refine WL.po (PO.build Tryd.underlying36 rfl rfl rfl EvP.nil rfl) (leB rfl) ?_
      refine WL.store rfl (Ev.tmp rfl) (Ev.tmp rfl) rfl rfl rfl rfl (by (repeat (first | exact Upd.here | apply Upd.next))) ?_
      refine WL.po (PO.assign Ev.const) (leB rfl) ?_
      refine WL.nil (keepF (ts := [2, 3]) rfl (toK (by assumption) ?_))
      (try clear hG ops)
      refine WC.ret (end2 (h' := h) (.inl rfl) rfl (RV.cellA Tryd.underlying36 rfl rfl rfl (by (repeat (first | exact mem0 _ | apply memT))) rfl) (RV.tmp rfl) (View.le.refl m) (by (repeat (first | exact sub0 _ | exact subA _ _ | refine subC _ ?_ | apply subK | refine subT _ ?_))) ?_)
      exact ⟨by unfold rHex; rw [c12]; simp only [Bool.false_eq_true, if_false, c24, if_true]; rfl, rfl⟩
    · refine WC.skip (keepF (ts := [2, 4, 5]) rfl (toK (by assumption) ?_))
      (repeat (first | refine WC.seqK fun K hK => ?_ | refine WC.block ?_ | refine WC.regionG rfl fun ops hG => ?_))
      refine WL.po (PO.move (Ev.tmp rfl)) (leB rfl) ?_
      refine WL.po (PO.conv Tryd.underlying103 Tryd.underlying21 (Ev.tmp rfl)) (leB rfl) ?_
      refine WL.po (PO.build Tryd.underlying36 rfl rfl rfl (EvP.cons Ev.const (EvP.cons (Ev.tmp rfl) EvP.nil)) rfl) (leB rfl) ?_
      refine WL.po (PO.move (Ev.tmp rfl)) (leB rfl) ?_
      refine WL.po (PO.addI Ev.const (Ev.tmp rfl) (by omega)) (leB rfl) ?_
      refine WL.store rfl (Ev.tmp rfl) (Ev.tmp rfl) rfl rfl rfl rfl (by (repeat (first | exact Upd.here | apply Upd.next))) ?_
      refine WL.po (PO.assign (Ev.tmp rfl)) (leB rfl) ?_
      refine WL.nil (keepF (ts := [2, 3]) rfl (toK (by assumption) ?_))
      (try clear hG ops)
      refine WC.ret (end2 (h' := h) (.inl rfl) rfl (RV.cellA Tryd.underlying36 rfl rfl rfl (by (repeat (first | exact mem0 _ | apply memT))) rfl) (RV.tmp rfl) (View.le.refl m) (by (repeat (first | exact sub0 _ | exact subA _ _ | refine subC _ ?_ | apply subK | refine subT _ ?_))) ?_)
      exact ⟨by unfold rHex; rw [c12]; simp only [Bool.false_eq_true, if_false, c24]; rfl, rfl⟩
theorem chB_at {s : B} {i : Nat} {c : UInt8} (h : s[i]? = some c) : chB s i = (c.toNat : Int) := by unfold chB; rw [List.getD_eq_getElem?_getD, h]; rfl
theorem wrap_byte {v : Int} (h : 0 ≤ v ∧ v < 256) : IntKind.i32.wrap v = v := by
  unfold IntKind.wrap
  simp [IntKind.bits, IntKind.signed]
  omega
theorem wrap_u8 (c : UInt8) : IntKind.i32.wrap (c.toNat : Int) = (c.toNat : Int) := wrap_byte ⟨by omega, by have := c.toNat_lt; omega⟩
theorem hexP_two {s : B} (h : s.length ≤ 2) : 0 ≤ (hexP s).1 ∧ (hexP s).1 < 256 := by
  unfold hexP
  rw [hexV_val]
  cases hv : valV 16 s 0 with
  | none => exact ⟨Int.le_refl 0, show (0 : Int) < 256 by decide⟩
  | some v =>
    have hb := valV_bound (by decide) dval16_lt s 0 v (by decide) hv
    have hp : (16 : Int) ^ s.length ≤ 16 ^ 2 := by exact_mod_cast Nat.pow_le_pow_right (by decide) h
    simp only
    omega
theorem char_ct (s : B) (h : List Res) (m : View) (hs : s.length ≤ 9223372036854775807) : CT Tryd.prog 89 [str s] h m (Pure1 h (.tuple #[.int .i32 (charP s).1, .int .i64 (charP s).2])) := by
  match s with
  | [] =>
    refine CT.body Tryd.call89 Tryd.func89 rfl Tryd.ntmps89 (leB rfl) rfl ?_
    (repeat (first | refine WC.seqK fun K hK => ?_ | refine WC.block ?_ | refine WC.regionG rfl fun ops hG => ?_))
    refine WL.po (PO.assign Ev.const) (leB rfl) ?_
    refine WL.po (PO.assign Ev.const) (leB rfl) ?_
    refine WL.nil (keepF (ts := [0]) rfl (toK (by assumption) ?_))
    (try clear hG ops)
    (repeat (first | refine WC.seqK fun K hK => ?_ | refine WC.block ?_ | refine WC.regionG rfl fun ops hG => ?_))
    refine WL.po (PO.move (Ev.tmp rfl)) (leB rfl) ?_
    refine WL.po (PO.eqlS (Ev.tmp rfl) Ev.const) (leB rfl) ?_
    refine WL.po (PO.move (Ev.tmp rfl)) (leB rfl) ?_
    refine WL.poG (GU.f (hG _ _ rfl) rfl) (fun hc => PO.move (Ev.tmp rfl)) (leB rfl) ?_
    refine WL.poG (GU.f (hG _ _ rfl) rfl) (fun hc => PO.idxS Tryd.underlying9 (Ev.gv rfl hc) Ev.const (q := 0) rfl (c := 0) (by simp at hc)) (leB rfl) ?_
    refine WL.poG (GU.f (hG _ _ rfl) rfl) (fun hc => PO.bin (Ev.gv rfl hc) Ev.const rfl) (leB rfl) ?_
    refine WL.po (PO.pickOr rfl rfl) (leB rfl) ?_
    refine WL.po (PO.move (Ev.tmp rfl)) (leB rfl) ?_
    refine WL.poG (GU.f (hG _ _ rfl) rfl) (fun hc => PO.move (Ev.tmp rfl)) (leB rfl) ?_
    refine WL.poG (GU.f (hG _ _ rfl) rfl) (fun hc => PO.idxS Tryd.underlying9 (Ev.gv rfl hc) Ev.const (q := 0) rfl (c := 0) (by simp at hc)) (leB rfl) ?_
    refine WL.poG (GU.f (hG _ _ rfl) rfl) (fun hc => PO.bin (Ev.gv rfl hc) Ev.const rfl) (leB rfl) ?_
    refine WL.po (PO.pickOr rfl rfl) (leB rfl) ?_
    refine WL.po (PO.move (Ev.tmp rfl)) (leB rfl) ?_
    refine WL.poG (GU.f (hG _ _ rfl) rfl) (fun hc => PO.move (Ev.tmp rfl)) (leB rfl) ?_
    refine WL.poG (GU.f (hG _ _ rfl) rfl) (fun hc => PO.idxS Tryd.underlying9 (Ev.gv rfl hc) Ev.const (q := 0) rfl (c := 0) (by simp at hc)) (leB rfl) ?_
    refine WL.poG (GU.f (hG _ _ rfl) rfl) (fun hc => PO.bin (Ev.gv rfl hc) Ev.const rfl) (leB rfl) ?_
    refine WL.po (PO.pickOr rfl rfl) (leB rfl) ?_
    refine WL.po (PO.assign (Ev.tmp rfl)) (leB rfl) ?_
    refine WL.nil (keepF (ts := [0, 7]) rfl (toK (by assumption) ?_))
    (try clear hG ops)
    (repeat (first | refine WC.seqK fun K hK => ?_ | refine WC.block ?_ | refine WC.regionG rfl fun ops hG => ?_))
    refine WC.cond (Ev.tmp rfl) (fun c7 => ?_) (fun c7 => ?_)
    · (repeat (first | refine WC.seqK fun K hK => ?_ | refine WC.block ?_ | refine WC.regionG rfl fun ops hG => ?_))
      refine WL.po (PO.assign Ev.const) (leB rfl) ?_
      refine WL.po (PO.assign Ev.const) (leB rfl) ?_
      refine WL.nil (keepF (ts := [2, 3]) rfl (toK (by assumption) ?_))
      (try clear hG ops)
      refine WC.ret (end2 (h' := h) (.inl rfl) rfl (RV.tmp rfl) (RV.tmp rfl) (View.le.refl m) (by (repeat (first | exact sub0 _ | exact subA _ _ | refine subC _ ?_ | apply subK | refine subT _ ?_))) ?_)
      exact ⟨rfl, rfl⟩
    · simp at c7
  | a :: t =>
    refine CT.body Tryd.call89 Tryd.func89 rfl Tryd.ntmps89 (leB rfl) rfl ?_
    (repeat (first | refine WC.seqK fun K hK => ?_ | refine WC.block ?_ | refine WC.regionG rfl fun ops hG => ?_))
    refine WL.po (PO.assign Ev.const) (leB rfl) ?_
    refine WL.po (PO.assign Ev.const) (leB rfl) ?_
    refine WL.nil (keepF (ts := [0]) rfl (toK (by assumption) ?_))
    (try clear hG ops)
    (repeat (first | refine WC.seqK fun K hK => ?_ | refine WC.block ?_ | refine WC.regionG rfl fun ops hG => ?_))
    refine WL.po (PO.move (Ev.tmp rfl)) (leB rfl) ?_
    refine WL.po (PO.eqlS (Ev.tmp rfl) Ev.const) (leB rfl) ?_
    refine WL.po (PO.move (Ev.tmp rfl)) (leB rfl) ?_
    refine WL.poG (GU.f (hG _ _ rfl) rfl) (fun hc => PO.move (Ev.tmp rfl)) (leB rfl) ?_
    refine WL.poG (GU.f (hG _ _ rfl) rfl) (fun hc => PO.idxS Tryd.underlying9 (Ev.gv rfl hc) Ev.const (q := 0) rfl (c := a) rfl) (leB rfl) ?_
    refine WL.poG (GU.f (hG _ _ rfl) rfl) (fun hc => PO.bin (Ev.gv rfl hc) Ev.const rfl) (leB rfl) ?_
    refine WL.po (PO.pickOr rfl rfl) (leB rfl) ?_
    refine WL.po (PO.move (Ev.tmp rfl)) (leB rfl) ?_
    refine WL.poG (GU.f (hG _ _ rfl) rfl) (fun hc => PO.move (Ev.tmp rfl)) (leB rfl) ?_
    refine WL.poG (GU.f (hG _ _ rfl) rfl) (fun hc => PO.idxS Tryd.underlying9 (Ev.gv rfl hc) Ev.const (q := 0) rfl (c := a) rfl) (leB rfl) ?_
    refine WL.poG (GU.f (hG _ _ rfl) rfl) (fun hc => PO.bin (Ev.gv rfl hc) Ev.const rfl) (leB rfl) ?_
    refine WL.po (PO.pickOr rfl rfl) (leB rfl) ?_
    refine WL.po (PO.move (Ev.tmp rfl)) (leB rfl) ?_
    refine WL.poG (GU.f (hG _ _ rfl) rfl) (fun hc => PO.move (Ev.tmp rfl)) (leB rfl) ?_
    refine WL.poG (GU.f (hG _ _ rfl) rfl) (fun hc => PO.idxS Tryd.underlying9 (Ev.gv rfl hc) Ev.const (q := 0) rfl (c := a) rfl) (leB rfl) ?_
    refine WL.poG (GU.f (hG _ _ rfl) rfl) (fun hc => PO.bin (Ev.gv rfl hc) Ev.const rfl) (leB rfl) ?_
    refine WL.po (PO.pickOr rfl rfl) (leB rfl) ?_
    refine WL.po (PO.assign (Ev.tmp rfl)) (leB rfl) ?_
    refine WL.nil (keepF (ts := [0, 7]) rfl (toK (by assumption) ?_))
    (try clear hG ops)
    (repeat (first | refine WC.seqK fun K hK => ?_ | refine WC.block ?_ | refine WC.regionG rfl fun ops hG => ?_))
    refine WC.cond (Ev.tmp rfl) (fun c7 => ?_) (fun c7 => ?_)
    · have d7 : ((a :: t == []) || decide (chB (a :: t) 0 < 32) || decide (chB (a :: t) 0 > 126) || (chB (a :: t) 0 == 39)) = true := c7
      (repeat (first | refine WC.seqK fun K hK => ?_ | refine WC.block ?_ | refine WC.regionG rfl fun ops hG => ?_))
      refine WL.po (PO.assign Ev.const) (leB rfl) ?_
      refine WL.po (PO.assign Ev.const) (leB rfl) ?_
      refine WL.nil (keepF (ts := [2, 3]) rfl (toK (by assumption) ?_))
      (try clear hG ops)
      refine WC.ret (end2 (h' := h) (.inl rfl) rfl (RV.tmp rfl) (RV.tmp rfl) (View.le.refl m) (by (repeat (first | exact sub0 _ | exact subA _ _ | refine subC _ ?_ | apply subK | refine subT _ ?_))) ?_)
      exact ⟨by unfold charP; rw [d7]; rfl, rfl⟩
    · have d7 : ((a :: t == []) || decide (chB (a :: t) 0 < 32) || decide (chB (a :: t) 0 > 126) || (chB (a :: t) 0 == 39)) = false := c7
      (repeat (first | refine WC.seqK fun K hK => ?_ | refine WC.block ?_ | refine WC.regionG rfl fun ops hG => ?_))
      refine WL.po (PO.move (Ev.tmp rfl)) (leB rfl) ?_
      refine WL.po (PO.idxS Tryd.underlying9 (Ev.tmp rfl) Ev.const (q := 0) rfl (c := a) rfl) (leB rfl) ?_
      refine WL.po (PO.bin (Ev.tmp rfl) Ev.const rfl) (leB rfl) ?_
      refine WL.po (PO.assign (Ev.tmp rfl)) (leB rfl) ?_
      refine WL.nil (keepF (ts := [0, 25]) rfl (toK (by assumption) ?_))
      (try clear hG ops)
      (repeat (first | refine WC.seqK fun K hK => ?_ | refine WC.block ?_ | refine WC.regionG rfl fun ops hG => ?_))
      refine WC.cond (Ev.tmp rfl) (fun c25 => ?_) (fun c25 => ?_)
      · have d25 : (chB (a :: t) 0 != 42) = true := c25
        (repeat (first | refine WC.seqK fun K hK => ?_ | refine WC.block ?_ | refine WC.regionG rfl fun ops hG => ?_))
        refine WL.po (PO.move (Ev.tmp rfl)) (leB rfl) ?_
        refine WL.po (PO.idxS Tryd.underlying9 (Ev.tmp rfl) Ev.const (q := 0) rfl (c := a) rfl) (leB rfl) ?_
        refine WL.po (PO.conv Tryd.underlying5 Tryd.underlying21 (Ev.tmp rfl)) (leB rfl) ?_
        refine WL.val (v' := .int .i32 (a.toNat : Int)) (congrArg (Value.int .i32) (wrap_u8 a)) ?_
        refine WL.po (PO.assign (Ev.tmp rfl)) (leB rfl) ?_
        refine WL.po (PO.assign Ev.const) (leB rfl) ?_
        refine WL.nil (keepF (ts := [2, 3]) rfl (toK (by assumption) ?_))
        (try clear hG ops)
        refine WC.ret (end2 (h' := h) (.inl rfl) rfl (RV.tmp rfl) (RV.tmp rfl) (View.le.refl m) (by (repeat (first | exact sub0 _ | exact subA _ _ | refine subC _ ?_ | apply subK | refine subT _ ?_))) ?_)
        exact ⟨by unfold charP; rw [d7, d25]; rfl, rfl⟩
      · have d25 : (chB (a :: t) 0 != 42) = false := c25
        (repeat (first | refine WC.seqK fun K hK => ?_ | refine WC.block ?_ | refine WC.regionG rfl fun ops hG => ?_))
        refine WL.po (PO.move (Ev.tmp rfl)) (leB rfl) ?_
        refine WL.po (PO.lenS Tryd.underlying9 (Ev.tmp rfl)) (leB rfl) ?_
        refine WL.po (PO.bin (Ev.tmp rfl) Ev.const rfl) (leB rfl) ?_
        refine WL.po (PO.assign (Ev.tmp rfl)) (leB rfl) ?_
        refine WL.nil (keepF (ts := [0, 32]) rfl (toK (by assumption) ?_))
        (try clear hG ops)
        (repeat (first | refine WC.seqK fun K hK => ?_ | refine WC.block ?_ | refine WC.regionG rfl fun ops hG => ?_))
        refine WC.cond (Ev.tmp rfl) (fun c32 => ?_) (fun c32 => ?_)
        · (repeat (first | refine WC.seqK fun K hK => ?_ | refine WC.block ?_ | refine WC.regionG rfl fun ops hG => ?_))
          refine WL.po (PO.assign Ev.const) (leB rfl) ?_
          refine WL.po (PO.assign Ev.const) (leB rfl) ?_
          refine WL.nil (keepF (ts := [2, 3]) rfl (toK (by assumption) ?_))
          (try clear hG ops)
          refine WC.ret (end2 (h' := h) (.inl rfl) rfl (RV.tmp rfl) (RV.tmp rfl) (View.le.refl m) (by (repeat (first | exact sub0 _ | exact subA _ _ | refine subC _ ?_ | apply subK | refine subT _ ?_))) ?_)
          exact ⟨by unfold charP; rw [d7, d25, c32]; rfl, rfl⟩
        · have h2 : 2 ≤ (a :: t).length := by simp at c32 ⊢; omega
          obtain ⟨c1, hc1⟩ := get_some (l := a :: t) (k := 1) (by omega)
          have g1 : (a :: t).getD 1 0 = c1 := by rw [List.getD_eq_getElem?_getD, hc1]; rfl
          refine WC.skip (keepF (ts := [0]) rfl (toK (by assumption) ?_))
          (repeat (first | refine WC.seqK fun K hK => ?_ | refine WC.block ?_ | refine WC.regionG rfl fun ops hG => ?_))
          refine WL.po (PO.move (Ev.tmp rfl)) (leB rfl) ?_
          refine WL.po (PO.idxS Tryd.underlying9 (Ev.tmp rfl) Ev.const (q := 1) rfl (by assumption)) (leB rfl) ?_
          refine WL.callP Ev.func (Evs.cons Ev.const (Evs.cons (Ev.tmp rfl) Evs.nil)) (CT.argsE rfl (idx_ct lettersB c1 _ _)) (leB rfl) ?_
          refine WL.val (v' := .int .i64 (esc c1)) rfl ?_
          refine WL.po (PO.assign (Ev.tmp rfl)) (leB rfl) ?_
          refine WL.nil (keepF (ts := [0, 4]) rfl (toK (by assumption) ?_))
          (try clear hG ops)
          (repeat (first | refine WC.seqK fun K hK => ?_ | refine WC.block ?_ | refine WC.regionG rfl fun ops hG => ?_))
          refine WL.po (PO.move (Ev.tmp rfl)) (leB rfl) ?_
          refine WL.po (PO.bin (Ev.tmp rfl) Ev.const rfl) (leB rfl) ?_
          refine WL.nil (keepF (ts := [0, 4, 40]) rfl (toK (by assumption) ?_))
          (try clear hG ops)
          (repeat (first | refine WC.seqK fun K hK => ?_ | refine WC.block ?_ | refine WC.regionG rfl fun ops hG => ?_))
          refine WC.cond (Ev.tmp rfl) (fun c40 => ?_) (fun c40 => ?_)
          · have d40 : decide (esc ((a :: t).getD 1 0) ≥ 0) = true := by rw [g1]; exact c40
            have he0 : 0 ≤ esc c1 := of_decide_eq_true c40
            have he1 : (esc c1).toNat < 7 := by have := indexB_le c1 lettersB; have e : (lettersB.length : Int) = 7 := rfl; unfold esc at he0 ⊢; omega
            obtain ⟨x, hx⟩ := get_some (l := standB) (k := (esc c1).toNat) he1
            (repeat (first | refine WC.seqK fun K hK => ?_ | refine WC.block ?_ | refine WC.regionG rfl fun ops hG => ?_))
            refine WL.po (PO.move (Ev.tmp rfl)) (leB rfl) ?_
            refine WL.val (v' := .int .i64 ((esc c1).toNat : Int)) (congrArg (Value.int .i64) (by omega)) ?_
            refine WL.po (PO.idxS Tryd.underlying9 Ev.const (Ev.tmp rfl) rfl (by assumption)) (leB rfl) ?_
            refine WL.po (PO.conv Tryd.underlying5 Tryd.underlying21 (Ev.tmp rfl)) (leB rfl) ?_
            refine WL.val (v' := .int .i32 (x.toNat : Int)) (congrArg (Value.int .i32) (wrap_u8 x)) ?_
            refine WL.po (PO.assign (Ev.tmp rfl)) (leB rfl) ?_
            refine WL.po (PO.assign Ev.const) (leB rfl) ?_
            refine WL.nil (keepF (ts := [2, 3]) rfl (toK (by assumption) ?_))
            (try clear hG ops)
            refine WC.ret (end2 (h' := h) (.inl rfl) rfl (RV.tmp rfl) (RV.tmp rfl) (View.le.refl m) (by (repeat (first | exact sub0 _ | exact subA _ _ | refine subC _ ?_ | apply subK | refine subT _ ?_))) ?_)
            exact ⟨by unfold charP; rw [d7, d25, c32, d40, g1, chB_at hx]; rfl, rfl⟩
          · have d40 : decide (esc ((a :: t).getD 1 0) ≥ 0) = false := by rw [g1]; exact c40
            refine WC.skip (keepF (ts := [0]) rfl (toK (by assumption) ?_))
            (repeat (first | refine WC.seqK fun K hK => ?_ | refine WC.block ?_ | refine WC.regionG rfl fun ops hG => ?_))
            refine WL.po (PO.move (Ev.tmp rfl)) (leB rfl) ?_
            refine WL.po (PO.idxS Tryd.underlying9 (Ev.tmp rfl) Ev.const (q := 1) rfl (by assumption)) (leB rfl) ?_
            refine WL.po (PO.bin (Ev.tmp rfl) Ev.const rfl) (leB rfl) ?_
            refine WL.po (PO.move (Ev.tmp rfl)) (leB rfl) ?_
            refine WL.poG (GU.f (hG _ _ rfl) rfl) (fun hc => PO.move (Ev.tmp rfl)) (leB rfl) ?_
            refine WL.poG (GU.f (hG _ _ rfl) rfl) (fun hc => PO.lenS Tryd.underlying9 (Ev.gv rfl hc)) (leB rfl) ?_
            refine WL.poG (GU.f (hG _ _ rfl) rfl) (fun hc => PO.bin (Ev.gv rfl hc) Ev.const rfl) (leB rfl) ?_
            refine WL.po (PO.pickOr rfl rfl) (leB rfl) ?_
            refine WL.nil (keepF (ts := [0, 51]) rfl (toK (by assumption) ?_))
            (try clear hG ops)
            (repeat (first | refine WC.seqK fun K hK => ?_ | refine WC.block ?_ | refine WC.regionG rfl fun ops hG => ?_))
            refine WC.cond (Ev.tmp rfl) (fun c51 => ?_) (fun c51 => ?_)
            · have d51 : ((chB (a :: t) 1 != 35) || decide (((a :: t).length : Int) < 4)) = true := by rw [chB_at hc1]; exact c51
              (repeat (first | refine WC.seqK fun K hK => ?_ | refine WC.block ?_ | refine WC.regionG rfl fun ops hG => ?_))
              refine WL.po (PO.assign Ev.const) (leB rfl) ?_
              refine WL.po (PO.assign Ev.const) (leB rfl) ?_
              refine WL.nil (keepF (ts := [2, 3]) rfl (toK (by assumption) ?_))
              (try clear hG ops)
              refine WC.ret (end2 (h' := h) (.inl rfl) rfl (RV.tmp rfl) (RV.tmp rfl) (View.le.refl m) (by (repeat (first | exact sub0 _ | exact subA _ _ | refine subC _ ?_ | apply subK | refine subT _ ?_))) ?_)
              exact ⟨by unfold charP; rw [d7, d25, c32, d40, d51]; rfl, rfl⟩
            · have d51 : ((chB (a :: t) 1 != 35) || decide (((a :: t).length : Int) < 4)) = false := by rw [chB_at hc1]; exact c51
              have h4 : 4 ≤ (a :: t).length := by simp at c51 ⊢; omega
              have hsl : (((a :: t).drop 2).take 2).length ≤ 8 := by rw [List.length_take]; omega
              have hx := hexP_two (s := ((a :: t).drop 2).take 2) (by rw [List.length_take]; omega)
              refine WC.skip (keepF (ts := [0]) rfl (toK (by assumption) ?_))
              (repeat (first | refine WC.seqK fun K hK => ?_ | refine WC.block ?_ | refine WC.regionG rfl fun ops hG => ?_))
              refine WL.po (PO.move (Ev.tmp rfl)) (leB rfl) ?_
              refine WL.po (PO.sliceSLH Tryd.underlying9 (Ev.tmp rfl) Ev.const Ev.const (l := 2) (u := 4) rfl rfl (by omega) (by omega)) (leB rfl) ?_
              refine WL.val (v' := str (((a :: t).drop 2).take 2)) rfl ?_
              refine WL.callP Ev.func (Evs.cons (Ev.tmp rfl) Evs.nil) (hexP_ct _ _ _ (by assumption)) (leB rfl) ?_
              refine WL.po (PO.move (Ev.tmp rfl)) (leB rfl) ?_
              refine WL.po (PO.extract (Ev.tmp rfl) rfl) (leB rfl) ?_
              refine WL.po (PO.extract (Ev.tmp rfl) rfl) (leB rfl) ?_
              refine WL.po (PO.assign (Ev.tmp rfl)) (leB rfl) ?_
              refine WL.po (PO.assign (Ev.tmp rfl)) (leB rfl) ?_
              refine WL.nil (keepF (ts := [5, 6]) rfl (toK (by assumption) ?_))
              (try clear hG ops)
              (repeat (first | refine WC.seqK fun K hK => ?_ | refine WC.block ?_ | refine WC.regionG rfl fun ops hG => ?_))
              refine WL.po (PO.move (Ev.tmp rfl)) (leB rfl) ?_
              refine WL.po (PO.not (Ev.tmp rfl)) (leB rfl) ?_
              refine WL.nil (keepF (ts := [5, 59]) rfl (toK (by assumption) ?_))
              (try clear hG ops)
              (repeat (first | refine WC.seqK fun K hK => ?_ | refine WC.block ?_ | refine WC.regionG rfl fun ops hG => ?_))
              refine WC.cond (Ev.tmp rfl) (fun c59 => ?_) (fun c59 => ?_)
              · (repeat (first | refine WC.seqK fun K hK => ?_ | refine WC.block ?_ | refine WC.regionG rfl fun ops hG => ?_))
                refine WL.po (PO.assign Ev.const) (leB rfl) ?_
                refine WL.po (PO.assign Ev.const) (leB rfl) ?_
                refine WL.nil (keepF (ts := [2, 3]) rfl (toK (by assumption) ?_))
                (try clear hG ops)
                refine WC.ret (end2 (h' := h) (.inl rfl) rfl (RV.tmp rfl) (RV.tmp rfl) (View.le.refl m) (by (repeat (first | exact sub0 _ | exact subA _ _ | refine subC _ ?_ | apply subK | refine subT _ ?_))) ?_)
                exact ⟨by unfold charP; rw [d7, d25, c32, d40, d51, c59]; rfl, rfl⟩
              · refine WC.skip (keepF (ts := [5]) rfl (toK (by assumption) ?_))
                (repeat (first | refine WC.seqK fun K hK => ?_ | refine WC.block ?_ | refine WC.regionG rfl fun ops hG => ?_))
                refine WL.po (PO.move (Ev.tmp rfl)) (leB rfl) ?_
                refine WL.po (PO.conv Tryd.underlying103 Tryd.underlying21 (Ev.tmp rfl)) (leB rfl) ?_
                refine WL.val (v' := .int .i32 (hexP (((a :: t).drop 2).take 2)).1) (congrArg (Value.int .i32) (wrap_byte hx)) ?_
                refine WL.po (PO.assign (Ev.tmp rfl)) (leB rfl) ?_
                refine WL.po (PO.assign Ev.const) (leB rfl) ?_
                refine WL.nil (keepF (ts := [2, 3]) rfl (toK (by assumption) ?_))
                (try clear hG ops)
                refine WC.ret (end2 (h' := h) (.inl rfl) rfl (RV.tmp rfl) (RV.tmp rfl) (View.le.refl m) (by (repeat (first | exact sub0 _ | exact subA _ _ | refine subC _ ?_ | apply subK | refine subT _ ?_))) ?_)
                exact ⟨by unfold charP; rw [d7, d25, c32, d40, d51, c59]; rfl, rfl⟩
end Go.Proofs.YtheejlbhmbbdjaaDoor

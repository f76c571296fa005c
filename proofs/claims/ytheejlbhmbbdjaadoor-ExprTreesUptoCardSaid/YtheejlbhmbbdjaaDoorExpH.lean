/- expr: the reference's writing, walked. -/
import Derived.Test.YtheejlbhmbbdjaaDoorExpF
import Derived.Test.YtheejlbhmbbdjaaDoorExpG
namespace Go.Proofs.YtheejlbhmbbdjaaDoor
open Go.Eng Go.Xp Go
open Go.Ty (Tok encK encK_len tokV)
set_option maxRecDepth 100000
theorem symR_ct (s : B) (h : List Res) (m : View) : CT Tryd.prog 56 [str s] h m (Pure1 h (tokV (symT s))) := by
  refine CT.body Tryd.call56 Tryd.func56 rfl Tryd.ntmps56 (leB rfl) rfl ?_
  (repeat (first | refine WC.seqK fun K hK => ?_ | refine WC.block ?_ | refine WC.regionG rfl fun ops hG => ?_))
  refine WL.alloc rfl rfl (leB rfl) fun b2 => ?_
  refine WL.nil (keepF (ts := [0, 2]) rfl (toK (by assumption) ?_))
  (try clear hG ops)
  (repeat (first | refine WC.seqK fun K hK => ?_ | refine WC.block ?_ | refine WC.regionG rfl fun ops hG => ?_))
  refine WL.po (PO.move (Ev.tmp rfl)) (leB rfl) ?_
  refine WL.po (PO.build Tryd.underlying36 rfl rfl rfl (EvP.cons Ev.const (EvP.cons (Ev.tmp rfl) EvP.nil)) rfl) (leB rfl) ?_
  refine WL.store rfl (Ev.tmp rfl) (Ev.tmp rfl) rfl rfl rfl rfl (by (repeat (first | exact Upd.here | apply Upd.next))) ?_
  refine WL.nil (keepF (ts := [2]) rfl (toK (by assumption) ?_))
  (try clear hG ops)
  refine WC.ret (end1 (h' := h) (.inl rfl) rfl (RV.cellA Tryd.underlying36 rfl rfl rfl (by (repeat (first | exact mem0 _ | apply memT))) rfl) (View.le.refl m) (by (repeat (first | exact sub0 _ | exact subA _ _ | refine subC _ ?_ | apply subK | refine subT _ ?_))) ?_)
  exact ⟨rfl, rfl⟩
theorem keyTR_ct (s : B) (h : List Res) (m : View) : CT Tryd.prog 55 [str s] h m (Pure1 h (tokV (keyT s))) := by
  refine CT.body Tryd.call55 Tryd.func55 rfl Tryd.ntmps55 (leB rfl) rfl ?_
  (repeat (first | refine WC.seqK fun K hK => ?_ | refine WC.block ?_ | refine WC.regionG rfl fun ops hG => ?_))
  refine WL.alloc rfl rfl (leB rfl) fun b2 => ?_
  refine WL.nil (keepF (ts := [0, 2]) rfl (toK (by assumption) ?_))
  (try clear hG ops)
  (repeat (first | refine WC.seqK fun K hK => ?_ | refine WC.block ?_ | refine WC.regionG rfl fun ops hG => ?_))
  refine WL.po (PO.move (Ev.tmp rfl)) (leB rfl) ?_
  refine WL.po (PO.build Tryd.underlying36 rfl rfl rfl (EvP.cons Ev.const (EvP.cons (Ev.tmp rfl) EvP.nil)) rfl) (leB rfl) ?_
  refine WL.store rfl (Ev.tmp rfl) (Ev.tmp rfl) rfl rfl rfl rfl (by (repeat (first | exact Upd.here | apply Upd.next))) ?_
  refine WL.nil (keepF (ts := [2]) rfl (toK (by assumption) ?_))
  (try clear hG ops)
  refine WC.ret (end1 (h' := h) (.inl rfl) rfl (RV.cellA Tryd.underlying36 rfl rfl rfl (by (repeat (first | exact mem0 _ | apply memT))) rfl) (View.le.refl m) (by (repeat (first | exact sub0 _ | exact subA _ _ | refine subC _ ?_ | apply subK | refine subT _ ?_))) ?_)
  exact ⟨rfl, rfl⟩
theorem markR_ct (o : Int) (ho : 0 ≤ o ∧ o ≤ 255) (h : List Res) (m : View) : CT Tryd.prog 57 [.int .u8 o] h m (Pure1 h (tokV (operT o))) := by
  have hk := Go.Lx.key_eq (wordP o).1
  refine CT.body Tryd.call57 Tryd.func57 rfl Tryd.ntmps57 (leB rfl) rfl ?_
  (repeat (first | refine WC.seqK fun K hK => ?_ | refine WC.block ?_ | refine WC.regionG rfl fun ops hG => ?_))
  refine WL.alloc rfl rfl (leB rfl) fun b2 => ?_
  refine WL.nil (keepF (ts := [0, 2]) rfl (toK (by assumption) ?_))
  (try clear hG ops)
  (repeat (first | refine WC.seqK fun K hK => ?_ | refine WC.block ?_ | refine WC.regionG rfl fun ops hG => ?_))
  refine WL.po (PO.move (Ev.tmp rfl)) (leB rfl) ?_
  refine WL.callP Ev.func (Evs.cons (Ev.tmp rfl) Evs.nil) (wordER_ct _ (by assumption) _ _) (leB rfl) ?_
  refine WL.po (PO.move (Ev.tmp rfl)) (leB rfl) ?_
  refine WL.po (PO.extract (Ev.tmp rfl) rfl) (leB rfl) ?_
  refine WL.po (PO.extract (Ev.tmp rfl) rfl) (leB rfl) ?_
  refine WL.po (PO.assign (Ev.tmp rfl)) (leB rfl) ?_
  refine WL.po (PO.assign (Ev.tmp rfl)) (leB rfl) ?_
  refine WL.nil (keepF (ts := [2, 3]) rfl (toK (by assumption) ?_))
  (try clear hG ops)
  (repeat (first | refine WC.seqK fun K hK => ?_ | refine WC.block ?_ | refine WC.regionG rfl fun ops hG => ?_))
  refine WL.po (PO.move (Ev.tmp rfl)) (leB rfl) ?_
  refine WL.callP Ev.func (Evs.cons (Ev.tmp rfl) Evs.nil) (keyR_ct _ _ _) (leB rfl) ?_
  refine WL.nil (keepF (ts := [2, 3, 11]) rfl (toK (by assumption) ?_))
  (try clear hG ops)
  (repeat (first | refine WC.seqK fun K hK => ?_ | refine WC.block ?_ | refine WC.regionG rfl fun ops hG => ?_))
  refine WC.cond (Ev.tmp rfl) (fun c11 => ?_) (fun c11 => ?_)
  · have hq : operT o = keyT (wordP o).1 := by unfold operT markT; rw [hk, c11]; rfl
    (repeat (first | refine WC.seqK fun K hK => ?_ | refine WC.block ?_ | refine WC.regionG rfl fun ops hG => ?_))
    refine WL.po (PO.move (Ev.tmp rfl)) (leB rfl) ?_
    refine WL.callP Ev.func (Evs.cons (Ev.tmp rfl) Evs.nil) (keyTR_ct _ _ _) (leB rfl) ?_
    refine WL.store rfl (Ev.tmp rfl) (Ev.tmp rfl) rfl rfl rfl rfl (by (repeat (first | exact Upd.here | apply Upd.next))) ?_
    refine WL.nil (keepF (ts := [2]) rfl (toK (by assumption) ?_))
    (try clear hG ops)
    refine WC.ret (end1 (h' := h) (.inl rfl) rfl (RV.cellA Tryd.underlying36 rfl rfl rfl (by (repeat (first | exact mem0 _ | apply memT))) rfl) (View.le.refl m) (by (repeat (first | exact sub0 _ | exact subA _ _ | refine subC _ ?_ | apply subK | refine subT _ ?_))) ?_)
    exact ⟨by rw [hq]; rfl, rfl⟩
  · have hq : operT o = symT (wordP o).1 := by unfold operT markT; rw [hk, c11]; rfl
    refine WC.skip (keepF (ts := [2, 3]) rfl (toK (by assumption) ?_))
    (repeat (first | refine WC.seqK fun K hK => ?_ | refine WC.block ?_ | refine WC.regionG rfl fun ops hG => ?_))
    refine WL.po (PO.move (Ev.tmp rfl)) (leB rfl) ?_
    refine WL.callP Ev.func (Evs.cons (Ev.tmp rfl) Evs.nil) (symR_ct _ _ _) (leB rfl) ?_
    refine WL.store rfl (Ev.tmp rfl) (Ev.tmp rfl) rfl rfl rfl rfl (by (repeat (first | exact Upd.here | apply Upd.next))) ?_
    refine WL.nil (keepF (ts := [2]) rfl (toK (by assumption) ?_))
    (try clear hG ops)
    refine WC.ret (end1 (h' := h) (.inl rfl) rfl (RV.cellA Tryd.underlying36 rfl rfl rfl (by (repeat (first | exact mem0 _ | apply memT))) rfl) (View.le.refl m) (by (repeat (first | exact sub0 _ | exact subA _ _ | refine subC _ ?_ | apply subK | refine subT _ ?_))) ?_)
    exact ⟨by rw [hq]; rfl, rfl⟩
def typedP (k : Int) : B := if k = 1 then [73, 78, 84] else if k = 2 then [66, 89, 84, 69] else [66, 79, 79, 76]
theorem typed_ct (k : Int) (h : List Res) (m : View) : CT Tryd.prog 59 [.int .u8 k] h m (Pure1 h (str (typedP k))) := by
  refine CT.body Tryd.call59 Tryd.func59 rfl Tryd.ntmps59 (leB rfl) rfl ?_
  (repeat (first | refine WC.seqK fun K hK => ?_ | refine WC.block ?_ | refine WC.regionG rfl fun ops hG => ?_))
  refine WL.po (PO.assign Ev.const) (leB rfl) ?_
  refine WL.nil (keepF (ts := [0]) rfl (toK (by assumption) ?_))
  (try clear hG ops)
  (repeat (first | refine WC.seqK fun K hK => ?_ | refine WC.block ?_ | refine WC.regionG rfl fun ops hG => ?_))
  refine WL.po (PO.move (Ev.tmp rfl)) (leB rfl) ?_
  refine WL.nil (keepF (ts := [3]) rfl (toK (by assumption) ?_))
  (try clear hG ops)
  (repeat (first | refine WC.seqK fun K hK => ?_ | refine WC.block ?_ | refine WC.regionG rfl fun ops hG => ?_))
  refine WL.po (PO.bin (Ev.tmp rfl) Ev.const rfl) (leB rfl) ?_
  refine WL.po (PO.assign (Ev.tmp rfl)) (leB rfl) ?_
  refine WL.nil (keepF (ts := [3, 4]) rfl (toK (by assumption) ?_))
  (try clear hG ops)
  (repeat (first | refine WC.seqK fun K hK => ?_ | refine WC.block ?_ | refine WC.regionG rfl fun ops hG => ?_))
  refine WC.cond (Ev.tmp rfl) (fun c4 => ?_) (fun c4 => ?_)
  · replace c4 := t_eq c4
    (repeat (first | refine WC.seqK fun K hK => ?_ | refine WC.block ?_ | refine WC.regionG rfl fun ops hG => ?_))
    refine WL.po (PO.assign Ev.const) (leB rfl) ?_
    refine WL.nil (keepF (ts := [2]) rfl (toK (by assumption) ?_))
    (try clear hG ops)
    refine WC.ret (end1 (h' := h) (.inl rfl) rfl (RV.tmp rfl) (View.le.refl m) (by (repeat (first | exact sub0 _ | exact subA _ _ | refine subC _ ?_ | apply subK | refine subT _ ?_))) ?_)
    exact ⟨by unfold typedP; rw [if_pos c4], rfl⟩
  · replace c4 := f_eq c4
    (repeat (first | refine WC.seqK fun K hK => ?_ | refine WC.block ?_ | refine WC.regionG rfl fun ops hG => ?_))
    refine WL.po (PO.bin (Ev.tmp rfl) Ev.const rfl) (leB rfl) ?_
    refine WL.po (PO.assign (Ev.tmp rfl)) (leB rfl) ?_
    refine WL.nil (keepF (ts := [6]) rfl (toK (by assumption) ?_))
    (try clear hG ops)
    (repeat (first | refine WC.seqK fun K hK => ?_ | refine WC.block ?_ | refine WC.regionG rfl fun ops hG => ?_))
    refine WC.cond (Ev.tmp rfl) (fun c6 => ?_) (fun c6 => ?_)
    · replace c6 := t_eq c6
      (repeat (first | refine WC.seqK fun K hK => ?_ | refine WC.block ?_ | refine WC.regionG rfl fun ops hG => ?_))
      refine WL.po (PO.assign Ev.const) (leB rfl) ?_
      refine WL.nil (keepF (ts := [2]) rfl (toK (by assumption) ?_))
      (try clear hG ops)
      refine WC.ret (end1 (h' := h) (.inl rfl) rfl (RV.tmp rfl) (View.le.refl m) (by (repeat (first | exact sub0 _ | exact subA _ _ | refine subC _ ?_ | apply subK | refine subT _ ?_))) ?_)
      exact ⟨by unfold typedP; rw [if_neg c4, if_pos c6], rfl⟩
    · replace c6 := f_eq c6
      refine WC.skip (keepF (ts := []) rfl (toK (by assumption) ?_))
      (repeat (first | refine WC.seqK fun K hK => ?_ | refine WC.block ?_ | refine WC.regionG rfl fun ops hG => ?_))
      refine WL.po (PO.assign Ev.const) (leB rfl) ?_
      refine WL.nil (keepF (ts := [2]) rfl (toK (by assumption) ?_))
      (try clear hG ops)
      refine WC.ret (end1 (h' := h) (.inl rfl) rfl (RV.tmp rfl) (View.le.refl m) (by (repeat (first | exact sub0 _ | exact subA _ _ | refine subC _ ?_ | apply subK | refine subT _ ?_))) ?_)
      exact ⟨by unfold typedP; rw [if_neg c4, if_neg c6], rfl⟩
theorem mark_key {s : B} (h : Go.Lx.key s = true) : markT s = keyT s := by unfold markT; rw [if_pos h]
theorem typed_mark {e : Ex} (g : Fine e) (h : e.k = 8) : keyT (typedP e.t) = markT (primP e.t) := by
  have h1 := g.ok
  unfold partsP at h1
  simp only [h] at h1
  by_cases h2 : e.t = 1
  · rw [h2]; exact (mark_key (by decide +kernel)).symm
  by_cases h3 : e.t = 2
  · rw [h3]; exact (mark_key (by decide +kernel)).symm
  by_cases h4 : e.t = 3
  · rw [h4]; exact (mark_key (by decide +kernel)).symm
  simp [primP, h2, h3, h4] at h1
abbrev LCT (m : View) (e : Ex) : Prop := ∀ (h : List Res), TOk m h e → Fine e → Wf e → cntE e ≤ 100000 →
    CT Tryd.prog 35 [exV e] h m (fun v _ h' => OwnF encK 36 4 h (writeE e) v h')
theorem opndR_of {m : View} (e : Ex) (hw : LCT m e) (h : List Res) (hT : TOk m h e) (hF : Fine e) (hW : Wf e) (hl : cntE e ≤ 100000) :
    CT Tryd.prog 58 [exV e] h m (fun v _ h' => OwnF encK 36 4 h (opndE e) v h') := by
  have hwl := write_len e hF
  have hl1 : 1 + (writeE e).length = ([symT [40]] ++ writeE e).length := by simp; omega
  have hl2 : ([symT [40]] ++ writeE e).length + 1 = (([symT [40]] ++ writeE e) ++ [symT [41]]).length := by simp
  refine CT.body Tryd.call58 Tryd.func58 rfl Tryd.ntmps58 (leB rfl) rfl ?_
  (repeat (first | refine WC.seqK fun K hK => ?_ | refine WC.block ?_ | refine WC.regionG rfl fun ops hG => ?_))
  refine WL.box (Ev.tmp rfl) rfl (leB rfl) fun b1 => ?_
  refine WL.po (PO.assign Ev.const) (leB rfl) ?_
  refine WL.nil (keepF (ts := [1]) rfl (toK (by assumption) ?_))
  (try clear hG ops)
  (repeat (first | refine WC.seqK fun K hK => ?_ | refine WC.block ?_ | refine WC.regionG rfl fun ops hG => ?_))
  refine WL.po (PO.loadA Tryd.underlying27 rfl rfl (Ev.tmp rfl) (by (repeat (first | exact mem0 _ | apply memT))) rfl) (leB rfl) ?_
  refine WL.callK Ev.func (Evs.cons (Ev.tmp rfl) Evs.nil) (hw _ (hT.mono (by (repeat (first | exact sub0 _ | exact subA _ _ | refine subC _ ?_ | apply subK | refine subT _ ?_)))) hF hW hl) (leB rfl) ?_
  rintro _ _ ⟨a5, c5, k5, e5, rfl, rfl⟩
  refine WL.knowRow (a := a5) (by (repeat (first | exact mem0 _ | apply memT))) fun p5 q5 r5 => ?_
  subst e5
  refine WL.po (PO.assign (Ev.tmp rfl)) (leB rfl) ?_
  refine WL.nil (keepF (ts := [1, 3]) rfl (toK (by assumption) ?_))
  (try clear hG ops)
  (repeat (first | refine WC.seqK fun K hK => ?_ | refine WC.block ?_ | refine WC.regionG rfl fun ops hG => ?_))
  refine WL.po (PO.fieldAddr Tryd.underlying27 rfl (Nat.ne_of_beq_eq_false rfl) (Ev.tmp rfl)) (leB rfl) ?_
  refine WL.po (PO.load1 Tryd.underlying22 rfl (Ev.tmp rfl) (by (repeat (first | exact mem0 _ | apply memT))) rfl) (leB rfl) ?_
  refine WL.po (PO.bin (Ev.tmp rfl) Ev.const rfl) (leB rfl) ?_
  refine WL.po (PO.move (Ev.tmp rfl)) (leB rfl) ?_
  refine WL.poG (GU.f (hG _ _ rfl) rfl) (fun hc => PO.fieldAddr Tryd.underlying27 rfl (Nat.ne_of_beq_eq_false rfl) (Ev.tmp rfl)) (leB rfl) ?_
  refine WL.poG (GU.f (hG _ _ rfl) rfl) (fun hc => PO.load1 Tryd.underlying22 rfl (Ev.gv rfl hc) (by (repeat (first | exact mem0 _ | apply memT))) rfl) (leB rfl) ?_
  refine WL.poG (GU.f (hG _ _ rfl) rfl) (fun hc => PO.bin (Ev.gv rfl hc) Ev.const rfl) (leB rfl) ?_
  refine WL.po (PO.pickOr rfl rfl) (leB rfl) ?_
  refine WL.po (PO.move (Ev.tmp rfl)) (leB rfl) ?_
  refine WL.poG (GU.f (hG _ _ rfl) rfl) (fun hc => PO.fieldAddr Tryd.underlying27 rfl (Nat.ne_of_beq_eq_false rfl) (Ev.tmp rfl)) (leB rfl) ?_
  refine WL.poG (GU.f (hG _ _ rfl) rfl) (fun hc => PO.load1 Tryd.underlying22 rfl (Ev.gv rfl hc) (by (repeat (first | exact mem0 _ | apply memT))) rfl) (leB rfl) ?_
  refine WL.poG (GU.f (hG _ _ rfl) rfl) (fun hc => PO.bin (Ev.gv rfl hc) Ev.const rfl) (leB rfl) ?_
  refine WL.po (PO.pickOr rfl rfl) (leB rfl) ?_
  refine WL.po (PO.move (Ev.tmp rfl)) (leB rfl) ?_
  refine WL.poG (GU.f (hG _ _ rfl) rfl) (fun hc => PO.fieldAddr Tryd.underlying27 rfl (Nat.ne_of_beq_eq_false rfl) (Ev.tmp rfl)) (leB rfl) ?_
  refine WL.poG (GU.f (hG _ _ rfl) rfl) (fun hc => PO.load1 Tryd.underlying22 rfl (Ev.gv rfl hc) (by (repeat (first | exact mem0 _ | apply memT))) rfl) (leB rfl) ?_
  refine WL.poG (GU.f (hG _ _ rfl) rfl) (fun hc => PO.bin (Ev.gv rfl hc) Ev.const rfl) (leB rfl) ?_
  refine WL.po (PO.pickOr rfl rfl) (leB rfl) ?_
  refine WL.nil (keepF (ts := [3, 23]) rfl (toK (by assumption) ?_))
  (try clear hG ops)
  (repeat refine WC.seqK fun K hK => ?_)
  refine WC.cutK (by assumption) [] rfl (fun F' h' => ∃ a : Option Addr, ∃ c : Nat, ∃ l : List Tok, (l = opndE e) ∧ F' = [(3, .slice a l.length c)] ∧ .row (.slice a l.length c) 36 4 l.length (fl encK l) :: h = h') ?_ ?_
  · (repeat (first | refine WC.seqK fun K hK => ?_ | refine WC.block ?_ | refine WC.regionG rfl fun ops hG => ?_))
    refine WC.cond (Ev.tmp rfl) (fun c23 => ?_) (fun c23 => ?_)
    · have hp : opndE e = ([symT [40]] ++ writeE e) ++ [symT [41]] := by unfold opndE opndP par; rw [c23]; rfl
      (repeat (first | refine WC.seqK fun K hK => ?_ | refine WC.block ?_ | refine WC.regionG rfl fun ops hG => ?_))
      refine WL.callP Ev.func (Evs.cons Ev.const Evs.nil) (symR_ct _ _ _) (leB rfl) ?_
      refine WL.buildSlice EL28 rfl (EvP.cons (Ev.tmp rfl) EvP.nil) rfl rfl (by decide) rfl (leB rfl) fun b25 => ?_
      refine WL.po (PO.move (Ev.tmp rfl)) (leB rfl) ?_
      refine WL.ptRow (k := 1) (sz := 4) (cs := fl encK [symT [40]]) rfl (by decide) (by (repeat (first | exact Upd.here | apply Upd.next))) ?_
      refine WL.appendE EL28 (Ev.tmp rfl) (Ev.tmp rfl) (by first | assumption | exact Rd.ofSl (by assumption) | exact Rd.ofPt rfl (by decide) (by (repeat (first | exact mem0 _ | apply memT))) | exact Rd.mono (by assumption) (View.le.refl _) (by (repeat (first | exact sub0 _ | exact subA _ _ | refine subC _ ?_ | apply subK | refine subT _ ?_))) | exact Rd.inRow (by (repeat (first | exact mem0 _ | apply memT))) (by assumption) (by assumption) (by assumption)) (by first | exact one_of rfl | exact fl_ones (fun _ => rfl) _) hl1 (fl_app (enc := encK) [symT [40]] (writeE e)).symm (by omega) (by omega) (fun v' => by (repeat (first | exact Upd.here | apply Upd.next))) (leB rfl) fun a27 c27 => ?_
      refine WL.callP Ev.func (Evs.cons Ev.const Evs.nil) (symR_ct _ _ _) (leB rfl) ?_
      refine WL.buildSlice EL28 rfl (EvP.cons (Ev.tmp rfl) EvP.nil) rfl rfl (by decide) rfl (leB rfl) fun b29 => ?_
      refine WL.appendE EL28 (Ev.tmp rfl) (Ev.tmp rfl) (by first | assumption | exact Rd.ofSl (by assumption) | exact Rd.ofPt rfl (by decide) (by (repeat (first | exact mem0 _ | apply memT))) | exact Rd.mono (by assumption) (View.le.refl _) (by (repeat (first | exact sub0 _ | exact subA _ _ | refine subC _ ?_ | apply subK | refine subT _ ?_))) | exact Rd.inRow (by (repeat (first | exact mem0 _ | apply memT))) (by assumption) (by assumption) (by assumption)) (by first | exact one_of rfl | exact fl_ones (fun _ => rfl) _) hl2 (fl_snoc (enc := encK) _ (symT [41])) (by omega) (by omega) (fun v' => by (repeat (first | exact Upd.here | apply Upd.next))) (leB rfl) fun a30 c30 => ?_
      refine WL.po (PO.assign (Ev.tmp rfl)) (leB rfl) ?_
      refine WL.nil (meetI [(3, .slice a30 ((([symT [40]] ++ writeE e) ++ [symT [41]])).length c30)] (h'' := .row (.slice a30 ((([symT [40]] ++ writeE e) ++ [symT [41]])).length c30) 36 4 ((([symT [40]] ++ writeE e) ++ [symT [41]])).length (fl encK ((([symT [40]] ++ writeE e) ++ [symT [41]]))) :: h) ?_ (by (repeat (first | exact Sub.nil | refine Sub.cons rfl ?_ | refine Sub.consE rfl (by simp; done) ?_))) (by (repeat (first | exact sub0 _ | exact subA _ _ | refine subC _ ?_ | apply subK | refine subT _ ?_))) ⟨a30, c30, (([symT [40]] ++ writeE e) ++ [symT [41]]), hp.symm, rfl, rfl⟩)
      (repeat (first | exact Sub.nil | refine Sub.cons rfl ?_ | refine Sub.consE rfl (by simp; done) ?_))
    · have hp : opndE e = writeE e := by unfold opndE opndP par; rw [c23]; rfl
      refine WC.skip (meetI [(3, .slice a5 ((writeE e)).length c5)] (h'' := .row (.slice a5 ((writeE e)).length c5) 36 4 ((writeE e)).length (fl encK ((writeE e))) :: h) ?_ (by (repeat (first | exact Sub.nil | refine Sub.cons rfl ?_ | refine Sub.consE rfl (by simp; done) ?_))) (by (repeat (first | exact sub0 _ | exact subA _ _ | refine subC _ ?_ | apply subK | refine subT _ ?_))) ⟨a5, c5, (writeE e), hp.symm, rfl, rfl⟩)
      (repeat (first | exact Sub.nil | refine Sub.cons rfl ?_ | refine Sub.consE rfl (by simp; done) ?_))
  rintro _ _ ⟨a, c, l, hq, rfl, rfl⟩
  refine WC.frm rfl ?_
  (repeat (first | refine WC.seqK fun K hK => ?_ | refine WC.block ?_ | refine WC.regionG rfl fun ops hG => ?_))
  refine WL.po (PO.move (Ev.tmp rfl)) (leB rfl) ?_
  refine WL.po (PO.assign (Ev.tmp rfl)) (leB rfl) ?_
  refine WL.nil (keepF (ts := [2]) rfl (toK (by assumption) ?_))
  (try clear hG ops)
  refine WC.ret (end1 (h' := .row (.slice a l.length c) 36 4 l.length (fl encK l) :: h) (.inl rfl) rfl (RV.tmp rfl) (View.le.refl m) (by (repeat (first | exact sub0 _ | exact subA _ _ | refine subC _ ?_ | apply subK | refine subT _ ?_))) ?_)
  rw [← hq]; exact ⟨_, _, _, rfl, rfl, rfl⟩
theorem list_ct {m : View} (e : Ex) : LCT m e := by
  refine Ex.ind (p := fun e => LCT m e) (fun e ih h hT hF hW hl => ?_) e
  obtain ⟨⟨hk, ho, ht⟩, hn, hs⟩ := hW.spec
  have hce := cntE_eq e
  have hr := hT.rd
  have hkind := good_kind hF
  have we := writeE_eq e
  refine CT.body Tryd.call35 Tryd.func35 rfl Tryd.ntmps35 (leB rfl) rfl ?_
  (repeat (first | refine WC.seqK fun K hK => ?_ | refine WC.block ?_ | refine WC.regionG rfl fun ops hG => ?_))
  refine WL.box (Ev.tmp rfl) rfl (leB rfl) fun b1 => ?_
  refine WL.po (PO.assign Ev.const) (leB rfl) ?_
  refine WL.nil (keepF (ts := [1]) rfl (toK (by assumption) ?_))
  (try clear hG ops)
  (repeat (first | refine WC.seqK fun K hK => ?_ | refine WC.block ?_ | refine WC.regionG rfl fun ops hG => ?_))
  refine WL.po (PO.fieldAddr Tryd.underlying27 rfl (Nat.ne_of_beq_eq_false rfl) (Ev.tmp rfl)) (leB rfl) ?_
  refine WL.po (PO.load1 Tryd.underlying9 rfl (Ev.tmp rfl) (by (repeat (first | exact mem0 _ | apply memT))) rfl) (leB rfl) ?_
  refine WL.po (PO.build Tryd.underlying36 rfl rfl rfl (EvP.cons Ev.const (EvP.cons (Ev.tmp rfl) EvP.nil)) rfl) (leB rfl) ?_
  refine WL.alloc rfl rfl (leB rfl) fun b3 => ?_
  refine WL.store rfl (Ev.tmp rfl) (Ev.tmp rfl) rfl rfl rfl rfl (by (repeat (first | exact Upd.here | apply Upd.next))) ?_
  refine WL.nil (keepF (ts := [1, 3]) rfl (toK (by assumption) ?_))
  (try clear hG ops)
  (repeat (first | refine WC.seqK fun K hK => ?_ | refine WC.block ?_ | refine WC.regionG rfl fun ops hG => ?_))
  refine WL.po (PO.fieldAddr Tryd.underlying27 rfl (Nat.ne_of_beq_eq_false rfl) (Ev.tmp rfl)) (leB rfl) ?_
  refine WL.po (PO.load1 Tryd.underlying22 rfl (Ev.tmp rfl) (by (repeat (first | exact mem0 _ | apply memT))) rfl) (leB rfl) ?_
  refine WL.nil (keepF (ts := [1, 3, 8]) rfl (toK (by assumption) ?_))
  (try clear hG ops)
  (repeat (first | refine WC.seqK fun K hK => ?_ | refine WC.block ?_ | refine WC.regionG rfl fun ops hG => ?_))
  refine WL.po (PO.bin (Ev.tmp rfl) Ev.const rfl) (leB rfl) ?_
  refine WL.po (PO.assign (Ev.tmp rfl)) (leB rfl) ?_
  refine WL.nil (keepF (ts := [1, 3, 8, 9]) rfl (toK (by assumption) ?_))
  (try clear hG ops)
  (repeat (first | refine WC.seqK fun K hK => ?_ | refine WC.block ?_ | refine WC.regionG rfl fun ops hG => ?_))
  refine WC.cond (Ev.tmp rfl) (fun c9 => ?_) (fun c9 => ?_)
  · replace c9 := t_eq c9
    have we1 : writeE e = [numT e.n] := by rw [we]; simp [wr, c9]
    (repeat (first | refine WC.seqK fun K hK => ?_ | refine WC.block ?_ | refine WC.regionG rfl fun ops hG => ?_))
    refine WL.po (PO.fieldAddr Tryd.underlying27 rfl (Nat.ne_of_beq_eq_false rfl) (Ev.tmp rfl)) (leB rfl) ?_
    refine WL.po (PO.load1 Tryd.underlying21 rfl (Ev.tmp rfl) (by (repeat (first | exact mem0 _ | apply memT))) rfl) (leB rfl) ?_
    refine WL.po (PO.build Tryd.underlying36 rfl rfl rfl (EvP.cons Ev.const (EvP.cons (Ev.tmp rfl) EvP.nil)) rfl) (leB rfl) ?_
    refine WL.buildSlice EL28 rfl (EvP.cons (Ev.tmp rfl) EvP.nil) rfl rfl (by decide) rfl (leB rfl) fun b14 => ?_
    refine WL.ptRow (k := 1) (sz := 4) (cs := fl encK [numT e.n]) rfl (by decide) (by (repeat (first | exact Upd.here | apply Upd.next))) ?_
    refine WL.po (PO.assign (Ev.tmp rfl)) (leB rfl) ?_
    refine WL.nil (keepF (ts := [2]) rfl (toK (by assumption) ?_))
    (try clear hG ops)
    refine WC.ret (end1 (h' := .row (.slice (some ⟨b14, 0, none⟩) 1 1) 36 4 1 (fl encK [numT e.n]) :: h) (.inl rfl) rfl (RV.tmp rfl) (View.le.refl m) (by (repeat (first | exact sub0 _ | exact subA _ _ | refine subC _ ?_ | apply subK | refine subT _ ?_))) ?_)
    rw [we1]; exact ⟨_, _, _, rfl, rfl, rfl⟩
  · replace c9 := f_eq c9
    (repeat (first | refine WC.seqK fun K hK => ?_ | refine WC.block ?_ | refine WC.regionG rfl fun ops hG => ?_))
    refine WL.po (PO.bin (Ev.tmp rfl) Ev.const rfl) (leB rfl) ?_
    refine WL.po (PO.assign (Ev.tmp rfl)) (leB rfl) ?_
    refine WL.nil (keepF (ts := [1, 3, 8, 15]) rfl (toK (by assumption) ?_))
    (try clear hG ops)
    (repeat (first | refine WC.seqK fun K hK => ?_ | refine WC.block ?_ | refine WC.regionG rfl fun ops hG => ?_))
    refine WC.cond (Ev.tmp rfl) (fun c15 => ?_) (fun c15 => ?_)
    · replace c15 := t_eq c15
      have we1 : writeE e = [byteT e.n] := by rw [we]; simp [wr, c15]
      (repeat (first | refine WC.seqK fun K hK => ?_ | refine WC.block ?_ | refine WC.regionG rfl fun ops hG => ?_))
      refine WL.po (PO.fieldAddr Tryd.underlying27 rfl (Nat.ne_of_beq_eq_false rfl) (Ev.tmp rfl)) (leB rfl) ?_
      refine WL.po (PO.load1 Tryd.underlying21 rfl (Ev.tmp rfl) (by (repeat (first | exact mem0 _ | apply memT))) rfl) (leB rfl) ?_
      refine WL.po (PO.build Tryd.underlying36 rfl rfl rfl (EvP.cons Ev.const (EvP.cons (Ev.tmp rfl) EvP.nil)) rfl) (leB rfl) ?_
      refine WL.buildSlice EL28 rfl (EvP.cons (Ev.tmp rfl) EvP.nil) rfl rfl (by decide) rfl (leB rfl) fun b20 => ?_
      refine WL.ptRow (k := 1) (sz := 4) (cs := fl encK [byteT e.n]) rfl (by decide) (by (repeat (first | exact Upd.here | apply Upd.next))) ?_
      refine WL.po (PO.assign (Ev.tmp rfl)) (leB rfl) ?_
      refine WL.nil (keepF (ts := [2]) rfl (toK (by assumption) ?_))
      (try clear hG ops)
      refine WC.ret (end1 (h' := .row (.slice (some ⟨b20, 0, none⟩) 1 1) 36 4 1 (fl encK [byteT e.n]) :: h) (.inl rfl) rfl (RV.tmp rfl) (View.le.refl m) (by (repeat (first | exact sub0 _ | exact subA _ _ | refine subC _ ?_ | apply subK | refine subT _ ?_))) ?_)
      rw [we1]; exact ⟨_, _, _, rfl, rfl, rfl⟩
    · replace c15 := f_eq c15
      (repeat (first | refine WC.seqK fun K hK => ?_ | refine WC.block ?_ | refine WC.regionG rfl fun ops hG => ?_))
      refine WL.po (PO.bin (Ev.tmp rfl) Ev.const rfl) (leB rfl) ?_
      refine WL.po (PO.assign (Ev.tmp rfl)) (leB rfl) ?_
      refine WL.nil (keepF (ts := [1, 3, 8, 21]) rfl (toK (by assumption) ?_))
      (try clear hG ops)
      (repeat (first | refine WC.seqK fun K hK => ?_ | refine WC.block ?_ | refine WC.regionG rfl fun ops hG => ?_))
      refine WC.cond (Ev.tmp rfl) (fun c21 => ?_) (fun c21 => ?_)
      · replace c21 := t_eq c21
        have hb := good_bool hn hF c21
        obtain ⟨i, hi, hi2⟩ : ∃ i : Nat, e.n = i ∧ i < 2 := ⟨e.n.toNat, by omega, by omega⟩
        obtain ⟨w, hw, we1⟩ : ∃ w : B, ([[70, 65, 76, 83, 69], [84, 82, 85, 69]] : List B)[i]? = some w ∧ writeE e = [keyT w] := by
          rcases hb with h0 | h0
          · have hi0 : i = 0 := by omega
            subst hi0
            exact ⟨_, rfl, by rw [we]; simp [wr, c21, h0]; exact mark_key (by decide +kernel)⟩
          · have hi0 : i = 1 := by omega
            subst hi0
            exact ⟨_, rfl, by rw [we]; simp [wr, c21, h0]; exact mark_key (by decide +kernel)⟩
        (repeat (first | refine WC.seqK fun K hK => ?_ | refine WC.block ?_ | refine WC.regionG rfl fun ops hG => ?_))
        refine WL.buildSlice EL58 rfl (EvP.cons Ev.const (EvP.cons Ev.const EvP.nil)) rfl rfl (by decide) rfl (leB rfl) fun b23 => ?_
        have hrd : Rd m (.pt b23 (.cells (fl Go.Lx.encB [[70, 65, 76, 83, 69], [84, 82, 85, 69]]).toArray 9 (0, 0)) :: .pt b3 (.cells (encK (nameT e.s)).toArray 36 (0, 0)) :: .pt b1 (.cells (exE e).toArray 27 (0, 0)) :: h) (some ⟨b23, 0, none⟩) 2 2 1 (fl Go.Lx.encB [[70, 65, 76, 83, 69], [84, 82, 85, 69]]) := Rd.ofPt rfl (by decide) (List.Mem.head _)
        refine WL.po (PO.fieldAddr Tryd.underlying27 rfl (Nat.ne_of_beq_eq_false rfl) (Ev.tmp rfl)) (leB rfl) ?_
        refine WL.po (PO.load1 Tryd.underlying21 rfl (Ev.tmp rfl) (by (repeat (first | exact mem0 _ | apply memT))) rfl) (leB rfl) ?_
        refine WL.val (v' := .int .i32 (i : Nat)) (congrArg (Value.int .i32) hi) ?_
        refine WL.po (PO.idx EL58.und EL58.size EL58.posz (Ev.tmp rfl) (Ev.tmp rfl) (by first | assumption | exact Rd.ofSl (by assumption) | exact Rd.ofPt rfl (by decide) (by (repeat (first | exact mem0 _ | apply memT))) | exact Rd.mono (by assumption) (View.le.refl _) (by (repeat (first | exact sub0 _ | exact subA _ _ | refine subC _ ?_ | apply subK | refine subT _ ?_))) | exact Rd.inRow (by (repeat (first | exact mem0 _ | apply memT))) (by assumption) (by assumption) (by assumption)) rfl (by omega)) (leB rfl) ?_
        refine WL.po (PO.loadF1 Tryd.underlying9 rfl Go.Lx.encB_len hrd (Ev.tmp rfl) hw rfl) (leB rfl) ?_
        refine WL.callP Ev.func (Evs.cons (Ev.tmp rfl) Evs.nil) (keyTR_ct _ _ _) (leB rfl) ?_
        refine WL.buildSlice EL28 rfl (EvP.cons (Ev.tmp rfl) EvP.nil) rfl rfl (by decide) rfl (leB rfl) fun b29 => ?_
        refine WL.ptRow (k := 1) (sz := 4) (cs := fl encK [keyT w]) rfl (by decide) (by (repeat (first | exact Upd.here | apply Upd.next))) ?_
        refine WL.po (PO.assign (Ev.tmp rfl)) (leB rfl) ?_
        refine WL.nil (keepF (ts := [2]) rfl (toK (by assumption) ?_))
        (try clear hG ops)
        refine WC.ret (end1 (h' := .row (.slice (some ⟨b29, 0, none⟩) 1 1) 36 4 1 (fl encK [keyT w]) :: h) (.inl rfl) rfl (RV.tmp rfl) (View.le.refl m) (by (repeat (first | exact sub0 _ | exact subA _ _ | refine subC _ ?_ | apply subK | refine subT _ ?_))) ?_)
        rw [we1]; exact ⟨_, _, _, rfl, rfl, rfl⟩
      · replace c21 := f_eq c21
        (repeat (first | refine WC.seqK fun K hK => ?_ | refine WC.block ?_ | refine WC.regionG rfl fun ops hG => ?_))
        refine WL.po (PO.bin (Ev.tmp rfl) Ev.const rfl) (leB rfl) ?_
        refine WL.po (PO.assign (Ev.tmp rfl)) (leB rfl) ?_
        refine WL.nil (keepF (ts := [1, 3, 8, 30]) rfl (toK (by assumption) ?_))
        (try clear hG ops)
        (repeat (first | refine WC.seqK fun K hK => ?_ | refine WC.block ?_ | refine WC.regionG rfl fun ops hG => ?_))
        refine WC.cond (Ev.tmp rfl) (fun c30 => ?_) (fun c30 => ?_)
        · replace c30 := t_eq c30
          have we1 : writeE e = [nameT e.s] := by rw [we]; simp [wr, c30]
          (repeat (first | refine WC.seqK fun K hK => ?_ | refine WC.block ?_ | refine WC.regionG rfl fun ops hG => ?_))
          refine WL.po (PO.loadA Tryd.underlying36 rfl rfl (Ev.tmp rfl) (by (repeat (first | exact mem0 _ | apply memT))) rfl) (leB rfl) ?_
          refine WL.buildSlice EL28 rfl (EvP.cons (Ev.tmp rfl) EvP.nil) rfl rfl (by decide) rfl (leB rfl) fun b33 => ?_
          refine WL.ptRow (k := 1) (sz := 4) (cs := fl encK [nameT e.s]) rfl (by decide) (by (repeat (first | exact Upd.here | apply Upd.next))) ?_
          refine WL.po (PO.assign (Ev.tmp rfl)) (leB rfl) ?_
          refine WL.nil (keepF (ts := [2]) rfl (toK (by assumption) ?_))
          (try clear hG ops)
          refine WC.ret (end1 (h' := .row (.slice (some ⟨b33, 0, none⟩) 1 1) 36 4 1 (fl encK [nameT e.s]) :: h) (.inl rfl) rfl (RV.tmp rfl) (View.le.refl m) (by (repeat (first | exact sub0 _ | exact subA _ _ | refine subC _ ?_ | apply subK | refine subT _ ?_))) ?_)
          rw [we1]; exact ⟨_, _, _, rfl, rfl, rfl⟩
        · replace c30 := f_eq c30
          (repeat (first | refine WC.seqK fun K hK => ?_ | refine WC.block ?_ | refine WC.regionG rfl fun ops hG => ?_))
          refine WL.po (PO.bin (Ev.tmp rfl) Ev.const rfl) (leB rfl) ?_
          refine WL.po (PO.assign (Ev.tmp rfl)) (leB rfl) ?_
          refine WL.nil (keepF (ts := [1, 3, 8, 34]) rfl (toK (by assumption) ?_))
          (try clear hG ops)
          (repeat (first | refine WC.seqK fun K hK => ?_ | refine WC.block ?_ | refine WC.regionG rfl fun ops hG => ?_))
          refine WC.cond (Ev.tmp rfl) (fun c34 => ?_) (fun c34 => ?_)
          · replace c34 := t_eq c34
            have we1 : writeE e = [keyT [83, 73, 90, 69], nameT e.s] := by rw [we]; simp [wr, c34]; exact mark_key (by decide +kernel)
            (repeat (first | refine WC.seqK fun K hK => ?_ | refine WC.block ?_ | refine WC.regionG rfl fun ops hG => ?_))
            refine WC.drawS [0] (.op 1 (.op 0 .nil)) [2, 3] _ [] mixed (fun _ _ _ _ _ h => h) [] (by kernel_rfl) ?_
            refine SR.po rfl rfl (PO.loadA Tryd.underlying36 rfl rfl (Ev.tmp rfl) (by (repeat (first | exact mem0 _ | apply memT))) rfl) (leB rfl) ?_
            refine SR.callP rfl rfl Ev.func (Evs.cons Ev.const Evs.nil) (fun fr => keyTR_ct _ _ _) (leB rfl) ?_
            refine SR.nil rfl rfl ?_
            refine WL.buildSlice EL28 rfl (EvP.cons (Ev.tmp rfl) (EvP.cons (Ev.tmp rfl) EvP.nil)) rfl rfl (by decide) rfl (leB rfl) fun b38 => ?_
            refine WL.ptRow (k := 2) (sz := 4) (cs := fl encK [keyT [83, 73, 90, 69], nameT e.s]) rfl (by decide) (by (repeat (first | exact Upd.here | apply Upd.next))) ?_
            refine WL.po (PO.assign (Ev.tmp rfl)) (leB rfl) ?_
            refine WL.nil (keepF (ts := [2]) rfl (toK (by assumption) ?_))
            (try clear hG ops)
            refine WC.ret (end1 (h' := .row (.slice (some ⟨b38, 0, none⟩) 2 2) 36 4 2 (fl encK [keyT [83, 73, 90, 69], nameT e.s]) :: h) (.inl rfl) rfl (RV.tmp rfl) (View.le.refl m) (by (repeat (first | exact sub0 _ | exact subA _ _ | refine subC _ ?_ | apply subK | refine subT _ ?_))) ?_)
            rw [we1]; exact ⟨_, _, _, rfl, rfl, rfl⟩
          · replace c34 := f_eq c34
            (repeat (first | refine WC.seqK fun K hK => ?_ | refine WC.block ?_ | refine WC.regionG rfl fun ops hG => ?_))
            refine WL.po (PO.bin (Ev.tmp rfl) Ev.const rfl) (leB rfl) ?_
            refine WL.po (PO.assign (Ev.tmp rfl)) (leB rfl) ?_
            refine WL.nil (keepF (ts := [1, 3, 8, 39]) rfl (toK (by assumption) ?_))
            (try clear hG ops)
            (repeat (first | refine WC.seqK fun K hK => ?_ | refine WC.block ?_ | refine WC.regionG rfl fun ops hG => ?_))
            refine WC.cond (Ev.tmp rfl) (fun c39 => ?_) (fun c39 => ?_)
            · replace c39 := t_eq c39
              obtain ⟨x, hx⟩ := one_part hF (.inl c39)
              have hx0 : e.l[0]? = some x := by rw [hx]; rfl
              have hxl : e.l.length = 1 := by rw [hx]; rfl
              have hxm : x ∈ e.l := by rw [hx]; exact List.Mem.head _
              have hcx : cntL e.l = cntE x := by rw [hx]; simp [cntL]
              have we1 : writeE e = ([nameT e.s, symT [91]] ++ writeE x) ++ [symT [93]] := by rw [we, hx]; simp [wr, c39, writeL]
              have hwx := write_len x (hF.part hxm)
              have hl1 : 2 + (writeE x).length = ([nameT e.s, symT [91]] ++ writeE x).length := by simp; omega
              have hl2 : ([nameT e.s, symT [91]] ++ writeE x).length + 1 = (([nameT e.s, symT [91]] ++ writeE x) ++ [symT [93]]).length := by simp
              (repeat (first | refine WC.seqK fun K hK => ?_ | refine WC.block ?_ | refine WC.regionG rfl fun ops hG => ?_))
              refine WC.drawS [1, 2, 7] (.op 0 (.op 3 (.op 4 (.op 5 (.op 6 (.op 1 (.alt (.op 2 (.op 7 .nil)) (.op 7 (.op 2 .nil))))))))) [8, 9, 10, 11, 12] _ [] mixed (fun _ _ _ _ _ h => h) [] (by kernel_rfl) ?_
              refine SR.po rfl rfl (PO.loadA Tryd.underlying36 rfl rfl (Ev.tmp rfl) (by (repeat (first | exact mem0 _ | apply memT))) rfl) (leB rfl) ?_
              refine SR.po rfl rfl (PO.fieldAddr Tryd.underlying27 rfl (Nat.ne_of_beq_eq_false rfl) (Ev.tmp rfl)) (leB rfl) ?_
              refine SR.po rfl rfl (PO.load1 Tryd.underlying25 rfl (Ev.tmp rfl) (by (repeat (first | exact mem0 _ | apply memT))) rfl) (leB rfl) ?_
              refine SR.po rfl rfl (PO.idx EL25.und EL25.size EL25.posz (Ev.tmp rfl) Ev.const (by first | assumption | exact Rd.ofSl (by assumption) | exact Rd.ofPt rfl (by decide) (by (repeat (first | exact mem0 _ | apply memT))) | exact Rd.mono (by assumption) (View.le.refl _) (by (repeat (first | exact sub0 _ | exact subA _ _ | refine subC _ ?_ | apply subK | refine subT _ ?_))) | exact Rd.inRow (by (repeat (first | exact mem0 _ | apply memT))) (by assumption) (by assumption) (by assumption)) rfl (q := 0) (by omega)) (leB rfl) ?_
              refine SR.po rfl rfl (PO.loadFA Tryd.underlying27 rfl rfl exE_len (by first | assumption | exact Rd.ofSl (by assumption) | exact Rd.ofPt rfl (by decide) (by (repeat (first | exact mem0 _ | apply memT))) | exact Rd.mono (by assumption) (View.le.refl _) (by (repeat (first | exact sub0 _ | exact subA _ _ | refine subC _ ?_ | apply subK | refine subT _ ?_))) | exact Rd.inRow (by (repeat (first | exact mem0 _ | apply memT))) (by assumption) (by assumption) (by assumption)) (Ev.tmp rfl) (by assumption) rfl rfl (Nat.succ_pos _)) (leB rfl) ?_
              refine SR.callP rfl rfl Ev.func (Evs.cons Ev.const Evs.nil) (fun fr => symR_ct _ _ _) (leB rfl) ?_
              refine SR.alt ?_ ?_
              · refine SR.buildSlice rfl rfl EL28 rfl (EvP.cons (Ev.tmp rfl) (EvP.cons (Ev.tmp rfl) EvP.nil)) rfl rfl (by decide) rfl (leB rfl) fun b43 => ?_
                refine SR.callF rfl rfl Ev.func (Evs.cons (Ev.tmp rfl) Evs.nil) (fun fr => ih x hxm _ (TOk.fr ((hT.part hxm).mono (by (repeat (first | exact sub0 _ | exact subA _ _ | refine subC _ ?_ | apply subK | refine subT _ ?_)))) fr) (hF.part hxm) (hW.part hxm) (by omega)) (leB rfl) fun a48 c48 => ?_
                refine SR.nil rfl rfl ?_
                refine WL.ptRow (k := 2) (sz := 4) (cs := fl encK [nameT e.s, symT [91]]) rfl (by decide) (by (repeat (first | exact Upd.here | apply Upd.next))) ?_
                refine WL.knowRow (a := a48) (by (repeat (first | exact mem0 _ | apply memT))) fun p48 q48 r48 => ?_
                refine WL.appendE EL28 (Ev.tmp rfl) (Ev.tmp rfl) (by first | assumption | exact Rd.ofSl (by assumption) | exact Rd.ofPt rfl (by decide) (by (repeat (first | exact mem0 _ | apply memT))) | exact Rd.mono (by assumption) (View.le.refl _) (by (repeat (first | exact sub0 _ | exact subA _ _ | refine subC _ ?_ | apply subK | refine subT _ ?_))) | exact Rd.inRow (by (repeat (first | exact mem0 _ | apply memT))) (by assumption) (by assumption) (by assumption)) (by first | exact one_of rfl | exact fl_ones (fun _ => rfl) _) hl1 (fl_app (enc := encK) [nameT e.s, symT [91]] (writeE x)).symm (by omega) (by omega) (fun v' => by (repeat (first | exact Upd.here | apply Upd.next))) (leB rfl) fun a49 c49 => ?_
                refine WL.callP Ev.func (Evs.cons Ev.const Evs.nil) (symR_ct _ _ _) (leB rfl) ?_
                refine WL.buildSlice EL28 rfl (EvP.cons (Ev.tmp rfl) EvP.nil) rfl rfl (by decide) rfl (leB rfl) fun b51 => ?_
                refine WL.appendE EL28 (Ev.tmp rfl) (Ev.tmp rfl) (by first | assumption | exact Rd.ofSl (by assumption) | exact Rd.ofPt rfl (by decide) (by (repeat (first | exact mem0 _ | apply memT))) | exact Rd.mono (by assumption) (View.le.refl _) (by (repeat (first | exact sub0 _ | exact subA _ _ | refine subC _ ?_ | apply subK | refine subT _ ?_))) | exact Rd.inRow (by (repeat (first | exact mem0 _ | apply memT))) (by assumption) (by assumption) (by assumption)) (by first | exact one_of rfl | exact fl_ones (fun _ => rfl) _) hl2 (fl_snoc (enc := encK) _ (symT [93])) (by omega) (by omega) (fun v' => by (repeat (first | exact Upd.here | apply Upd.next))) (leB rfl) fun a52 c52 => ?_
                refine WL.po (PO.assign (Ev.tmp rfl)) (leB rfl) ?_
                refine WL.nil (keepF (ts := [2]) rfl (toK (by assumption) ?_))
                (try clear hG ops)
                refine WC.ret (end1 (h' := .row (.slice a52 (([nameT e.s, symT [91]] ++ writeE x) ++ [symT [93]]).length c52) 36 4 (([nameT e.s, symT [91]] ++ writeE x) ++ [symT [93]]).length (fl encK (([nameT e.s, symT [91]] ++ writeE x) ++ [symT [93]])) :: h) (.inl rfl) rfl (RV.tmp rfl) (View.le.refl m) (by (repeat (first | exact sub0 _ | exact subA _ _ | refine subC _ ?_ | apply subK | refine subT _ ?_))) ?_)
                rw [we1]; exact ⟨_, _, _, rfl, rfl, rfl⟩
              · refine SR.callF rfl rfl Ev.func (Evs.cons (Ev.tmp rfl) Evs.nil) (fun fr => ih x hxm _ (TOk.fr ((hT.part hxm).mono (by (repeat (first | exact sub0 _ | exact subA _ _ | refine subC _ ?_ | apply subK | refine subT _ ?_)))) fr) (hF.part hxm) (hW.part hxm) (by omega)) (leB rfl) fun a48 c48 => ?_
                refine SR.buildSlice rfl rfl EL28 rfl (EvP.cons (Ev.tmp rfl) (EvP.cons (Ev.tmp rfl) EvP.nil)) rfl rfl (by decide) rfl (leB rfl) fun b43 => ?_
                refine SR.nil rfl rfl ?_
                refine WL.ptRow (k := 2) (sz := 4) (cs := fl encK [nameT e.s, symT [91]]) rfl (by decide) (by (repeat (first | exact Upd.here | apply Upd.next))) ?_
                refine WL.knowRow (a := a48) (by (repeat (first | exact mem0 _ | apply memT))) fun p48 q48 r48 => ?_
                refine WL.appendE EL28 (Ev.tmp rfl) (Ev.tmp rfl) (by first | assumption | exact Rd.ofSl (by assumption) | exact Rd.ofPt rfl (by decide) (by (repeat (first | exact mem0 _ | apply memT))) | exact Rd.mono (by assumption) (View.le.refl _) (by (repeat (first | exact sub0 _ | exact subA _ _ | refine subC _ ?_ | apply subK | refine subT _ ?_))) | exact Rd.inRow (by (repeat (first | exact mem0 _ | apply memT))) (by assumption) (by assumption) (by assumption)) (by first | exact one_of rfl | exact fl_ones (fun _ => rfl) _) hl1 (fl_app (enc := encK) [nameT e.s, symT [91]] (writeE x)).symm (by omega) (by omega) (fun v' => by (repeat (first | exact Upd.here | apply Upd.next))) (leB rfl) fun a49 c49 => ?_
                refine WL.callP Ev.func (Evs.cons Ev.const Evs.nil) (symR_ct _ _ _) (leB rfl) ?_
                refine WL.buildSlice EL28 rfl (EvP.cons (Ev.tmp rfl) EvP.nil) rfl rfl (by decide) rfl (leB rfl) fun b51 => ?_
                refine WL.appendE EL28 (Ev.tmp rfl) (Ev.tmp rfl) (by first | assumption | exact Rd.ofSl (by assumption) | exact Rd.ofPt rfl (by decide) (by (repeat (first | exact mem0 _ | apply memT))) | exact Rd.mono (by assumption) (View.le.refl _) (by (repeat (first | exact sub0 _ | exact subA _ _ | refine subC _ ?_ | apply subK | refine subT _ ?_))) | exact Rd.inRow (by (repeat (first | exact mem0 _ | apply memT))) (by assumption) (by assumption) (by assumption)) (by first | exact one_of rfl | exact fl_ones (fun _ => rfl) _) hl2 (fl_snoc (enc := encK) _ (symT [93])) (by omega) (by omega) (fun v' => by (repeat (first | exact Upd.here | apply Upd.next))) (leB rfl) fun a52 c52 => ?_
                refine WL.po (PO.assign (Ev.tmp rfl)) (leB rfl) ?_
                refine WL.nil (keepF (ts := [2]) rfl (toK (by assumption) ?_))
                (try clear hG ops)
                refine WC.ret (end1 (h' := .row (.slice a52 (([nameT e.s, symT [91]] ++ writeE x) ++ [symT [93]]).length c52) 36 4 (([nameT e.s, symT [91]] ++ writeE x) ++ [symT [93]]).length (fl encK (([nameT e.s, symT [91]] ++ writeE x) ++ [symT [93]])) :: h) (.inl rfl) rfl (RV.tmp rfl) (View.le.refl m) (by (repeat (first | exact sub0 _ | exact subA _ _ | refine subC _ ?_ | apply subK | refine subT _ ?_))) ?_)
                rw [we1]; exact ⟨_, _, _, rfl, rfl, rfl⟩
            · replace c39 := f_eq c39
              (repeat (first | refine WC.seqK fun K hK => ?_ | refine WC.block ?_ | refine WC.regionG rfl fun ops hG => ?_))
              refine WL.po (PO.bin (Ev.tmp rfl) Ev.const rfl) (leB rfl) ?_
              refine WL.po (PO.assign (Ev.tmp rfl)) (leB rfl) ?_
              refine WL.nil (keepF (ts := [1, 8, 53]) rfl (toK (by assumption) ?_))
              (try clear hG ops)
              (repeat (first | refine WC.seqK fun K hK => ?_ | refine WC.block ?_ | refine WC.regionG rfl fun ops hG => ?_))
              refine WC.cond (Ev.tmp rfl) (fun c53 => ?_) (fun c53 => ?_)
              · replace c53 := t_eq c53
                obtain ⟨x, hx⟩ := one_part hF (.inr (.inl c53))
                have hx0 : e.l[0]? = some x := by rw [hx]; rfl
                have hxl : e.l.length = 1 := by rw [hx]; rfl
                have hxm : x ∈ e.l := by rw [hx]; exact List.Mem.head _
                have hcx : cntL e.l = cntE x := by rw [hx]; simp [cntL]
                have we1 : writeE e = [operT e.o] ++ opndE x := by rw [we, hx]; simp [wr, c53, writeL, opndE]
                have hox : (opndE x).length ≤ (writeE x).length + 2 := opnd_len (par x.k, writeE x)
                have hwx := write_len x (hF.part hxm)
                have hl1 : 1 + (opndE x).length = ([operT e.o] ++ opndE x).length := by simp; omega
                (repeat (first | refine WC.seqK fun K hK => ?_ | refine WC.block ?_ | refine WC.regionG rfl fun ops hG => ?_))
                refine WC.drawS [2, 3, 8] (.op 0 (.op 1 (.op 4 (.op 5 (.op 6 (.op 7 (.op 2 (.alt (.op 3 (.op 8 .nil)) (.op 8 (.op 3 .nil)))))))))) [9, 10] _ [] mixed (fun _ _ _ _ _ h => h) [] (by kernel_rfl) ?_
                refine SR.po rfl rfl (PO.fieldAddr Tryd.underlying27 rfl (Nat.ne_of_beq_eq_false rfl) (Ev.tmp rfl)) (leB rfl) ?_
                refine SR.po rfl rfl (PO.load1 Tryd.underlying23 rfl (Ev.tmp rfl) (by (repeat (first | exact mem0 _ | apply memT))) rfl) (leB rfl) ?_
                refine SR.po rfl rfl (PO.fieldAddr Tryd.underlying27 rfl (Nat.ne_of_beq_eq_false rfl) (Ev.tmp rfl)) (leB rfl) ?_
                refine SR.po rfl rfl (PO.load1 Tryd.underlying25 rfl (Ev.tmp rfl) (by (repeat (first | exact mem0 _ | apply memT))) rfl) (leB rfl) ?_
                refine SR.po rfl rfl (PO.idx EL25.und EL25.size EL25.posz (Ev.tmp rfl) Ev.const (by first | assumption | exact Rd.ofSl (by assumption) | exact Rd.ofPt rfl (by decide) (by (repeat (first | exact mem0 _ | apply memT))) | exact Rd.mono (by assumption) (View.le.refl _) (by (repeat (first | exact sub0 _ | exact subA _ _ | refine subC _ ?_ | apply subK | refine subT _ ?_))) | exact Rd.inRow (by (repeat (first | exact mem0 _ | apply memT))) (by assumption) (by assumption) (by assumption)) rfl (q := 0) (by omega)) (leB rfl) ?_
                refine SR.po rfl rfl (PO.loadFA Tryd.underlying27 rfl rfl exE_len (by first | assumption | exact Rd.ofSl (by assumption) | exact Rd.ofPt rfl (by decide) (by (repeat (first | exact mem0 _ | apply memT))) | exact Rd.mono (by assumption) (View.le.refl _) (by (repeat (first | exact sub0 _ | exact subA _ _ | refine subC _ ?_ | apply subK | refine subT _ ?_))) | exact Rd.inRow (by (repeat (first | exact mem0 _ | apply memT))) (by assumption) (by assumption) (by assumption)) (Ev.tmp rfl) (by assumption) rfl rfl (Nat.succ_pos _)) (leB rfl) ?_
                refine SR.callP rfl rfl Ev.func (Evs.cons (Ev.tmp rfl) Evs.nil) (fun fr => markR_ct _ (by assumption) _ _) (leB rfl) ?_
                refine SR.alt ?_ ?_
                · refine SR.buildSlice rfl rfl EL28 rfl (EvP.cons (Ev.tmp rfl) EvP.nil) rfl rfl (by decide) rfl (leB rfl) fun b58 => ?_
                  refine SR.callF rfl rfl Ev.func (Evs.cons (Ev.tmp rfl) Evs.nil) (fun fr => opndR_of x (ih x hxm) _ (TOk.fr ((hT.part hxm).mono (by (repeat (first | exact sub0 _ | exact subA _ _ | refine subC _ ?_ | apply subK | refine subT _ ?_)))) fr) (hF.part hxm) (hW.part hxm) (by omega)) (leB rfl) fun a63 c63 => ?_
                  refine SR.nil rfl rfl ?_
                  refine WL.ptRow (k := 1) (sz := 4) (cs := fl encK [operT e.o]) rfl (by decide) (by (repeat (first | exact Upd.here | apply Upd.next))) ?_
                  refine WL.knowRow (a := a63) (by (repeat (first | exact mem0 _ | apply memT))) fun p63 q63 r63 => ?_
                  refine WL.appendE EL28 (Ev.tmp rfl) (Ev.tmp rfl) (by first | assumption | exact Rd.ofSl (by assumption) | exact Rd.ofPt rfl (by decide) (by (repeat (first | exact mem0 _ | apply memT))) | exact Rd.mono (by assumption) (View.le.refl _) (by (repeat (first | exact sub0 _ | exact subA _ _ | refine subC _ ?_ | apply subK | refine subT _ ?_))) | exact Rd.inRow (by (repeat (first | exact mem0 _ | apply memT))) (by assumption) (by assumption) (by assumption)) (by first | exact one_of rfl | exact fl_ones (fun _ => rfl) _) hl1 (fl_app (enc := encK) [operT e.o] (opndE x)).symm (by omega) (by omega) (fun v' => by (repeat (first | exact Upd.here | apply Upd.next))) (leB rfl) fun a64 c64 => ?_
                  refine WL.po (PO.assign (Ev.tmp rfl)) (leB rfl) ?_
                  refine WL.nil (keepF (ts := [2]) rfl (toK (by assumption) ?_))
                  (try clear hG ops)
                  refine WC.ret (end1 (h' := .row (.slice a64 ([operT e.o] ++ opndE x).length c64) 36 4 ([operT e.o] ++ opndE x).length (fl encK ([operT e.o] ++ opndE x)) :: h) (.inl rfl) rfl (RV.tmp rfl) (View.le.refl m) (by (repeat (first | exact sub0 _ | exact subA _ _ | refine subC _ ?_ | apply subK | refine subT _ ?_))) ?_)
                  rw [we1]; exact ⟨_, _, _, rfl, rfl, rfl⟩
                · refine SR.callF rfl rfl Ev.func (Evs.cons (Ev.tmp rfl) Evs.nil) (fun fr => opndR_of x (ih x hxm) _ (TOk.fr ((hT.part hxm).mono (by (repeat (first | exact sub0 _ | exact subA _ _ | refine subC _ ?_ | apply subK | refine subT _ ?_)))) fr) (hF.part hxm) (hW.part hxm) (by omega)) (leB rfl) fun a63 c63 => ?_
                  refine SR.buildSlice rfl rfl EL28 rfl (EvP.cons (Ev.tmp rfl) EvP.nil) rfl rfl (by decide) rfl (leB rfl) fun b58 => ?_
                  refine SR.nil rfl rfl ?_
                  refine WL.ptRow (k := 1) (sz := 4) (cs := fl encK [operT e.o]) rfl (by decide) (by (repeat (first | exact Upd.here | apply Upd.next))) ?_
                  refine WL.knowRow (a := a63) (by (repeat (first | exact mem0 _ | apply memT))) fun p63 q63 r63 => ?_
                  refine WL.appendE EL28 (Ev.tmp rfl) (Ev.tmp rfl) (by first | assumption | exact Rd.ofSl (by assumption) | exact Rd.ofPt rfl (by decide) (by (repeat (first | exact mem0 _ | apply memT))) | exact Rd.mono (by assumption) (View.le.refl _) (by (repeat (first | exact sub0 _ | exact subA _ _ | refine subC _ ?_ | apply subK | refine subT _ ?_))) | exact Rd.inRow (by (repeat (first | exact mem0 _ | apply memT))) (by assumption) (by assumption) (by assumption)) (by first | exact one_of rfl | exact fl_ones (fun _ => rfl) _) hl1 (fl_app (enc := encK) [operT e.o] (opndE x)).symm (by omega) (by omega) (fun v' => by (repeat (first | exact Upd.here | apply Upd.next))) (leB rfl) fun a64 c64 => ?_
                  refine WL.po (PO.assign (Ev.tmp rfl)) (leB rfl) ?_
                  refine WL.nil (keepF (ts := [2]) rfl (toK (by assumption) ?_))
                  (try clear hG ops)
                  refine WC.ret (end1 (h' := .row (.slice a64 ([operT e.o] ++ opndE x).length c64) 36 4 ([operT e.o] ++ opndE x).length (fl encK ([operT e.o] ++ opndE x)) :: h) (.inl rfl) rfl (RV.tmp rfl) (View.le.refl m) (by (repeat (first | exact sub0 _ | exact subA _ _ | refine subC _ ?_ | apply subK | refine subT _ ?_))) ?_)
                  rw [we1]; exact ⟨_, _, _, rfl, rfl, rfl⟩
              · replace c53 := f_eq c53
                (repeat (first | refine WC.seqK fun K hK => ?_ | refine WC.block ?_ | refine WC.regionG rfl fun ops hG => ?_))
                refine WL.po (PO.bin (Ev.tmp rfl) Ev.const rfl) (leB rfl) ?_
                refine WL.po (PO.assign (Ev.tmp rfl)) (leB rfl) ?_
                refine WL.nil (keepF (ts := [1, 65]) rfl (toK (by assumption) ?_))
                (try clear hG ops)
                (repeat (first | refine WC.seqK fun K hK => ?_ | refine WC.block ?_ | refine WC.regionG rfl fun ops hG => ?_))
                refine WC.cond (Ev.tmp rfl) (fun c65 => ?_) (fun c65 => ?_)
                · replace c65 := t_eq c65
                  obtain ⟨x, hx⟩ := one_part hF (.inr (.inr c65))
                  have hx0 : e.l[0]? = some x := by rw [hx]; rfl
                  have hxl : e.l.length = 1 := by rw [hx]; rfl
                  have hxm : x ∈ e.l := by rw [hx]; exact List.Mem.head _
                  have hcx : cntL e.l = cntE x := by rw [hx]; simp [cntL]
                  have we1 : writeE e = [keyT (typedP e.t)] ++ opndE x := by rw [we, hx, typed_mark hF c65]; simp [wr, c65, writeL, opndE]
                  have hox : (opndE x).length ≤ (writeE x).length + 2 := opnd_len (par x.k, writeE x)
                  have hwx := write_len x (hF.part hxm)
                  have hl1 : 1 + (opndE x).length = ([keyT (typedP e.t)] ++ opndE x).length := by simp; omega
                  (repeat (first | refine WC.seqK fun K hK => ?_ | refine WC.block ?_ | refine WC.regionG rfl fun ops hG => ?_))
                  refine WC.drawS [2, 3, 4, 9] (.op 0 (.op 1 (.op 5 (.op 6 (.op 7 (.op 8 (.op 2 (.op 3 (.alt (.op 4 (.op 9 .nil)) (.op 9 (.op 4 .nil))))))))))) [10, 11] _ [] mixed (fun _ _ _ _ _ h => h) [] (by kernel_rfl) ?_
                  refine SR.po rfl rfl (PO.fieldAddr Tryd.underlying27 rfl (Nat.ne_of_beq_eq_false rfl) (Ev.tmp rfl)) (leB rfl) ?_
                  refine SR.po rfl rfl (PO.load1 Tryd.underlying24 rfl (Ev.tmp rfl) (by (repeat (first | exact mem0 _ | apply memT))) rfl) (leB rfl) ?_
                  refine SR.po rfl rfl (PO.fieldAddr Tryd.underlying27 rfl (Nat.ne_of_beq_eq_false rfl) (Ev.tmp rfl)) (leB rfl) ?_
                  refine SR.po rfl rfl (PO.load1 Tryd.underlying25 rfl (Ev.tmp rfl) (by (repeat (first | exact mem0 _ | apply memT))) rfl) (leB rfl) ?_
                  refine SR.po rfl rfl (PO.idx EL25.und EL25.size EL25.posz (Ev.tmp rfl) Ev.const (by first | assumption | exact Rd.ofSl (by assumption) | exact Rd.ofPt rfl (by decide) (by (repeat (first | exact mem0 _ | apply memT))) | exact Rd.mono (by assumption) (View.le.refl _) (by (repeat (first | exact sub0 _ | exact subA _ _ | refine subC _ ?_ | apply subK | refine subT _ ?_))) | exact Rd.inRow (by (repeat (first | exact mem0 _ | apply memT))) (by assumption) (by assumption) (by assumption)) rfl (q := 0) (by omega)) (leB rfl) ?_
                  refine SR.po rfl rfl (PO.loadFA Tryd.underlying27 rfl rfl exE_len (by first | assumption | exact Rd.ofSl (by assumption) | exact Rd.ofPt rfl (by decide) (by (repeat (first | exact mem0 _ | apply memT))) | exact Rd.mono (by assumption) (View.le.refl _) (by (repeat (first | exact sub0 _ | exact subA _ _ | refine subC _ ?_ | apply subK | refine subT _ ?_))) | exact Rd.inRow (by (repeat (first | exact mem0 _ | apply memT))) (by assumption) (by assumption) (by assumption)) (Ev.tmp rfl) (by assumption) rfl rfl (Nat.succ_pos _)) (leB rfl) ?_
                  refine SR.callP rfl rfl Ev.func (Evs.cons (Ev.tmp rfl) Evs.nil) (fun fr => typed_ct _ _ _) (leB rfl) ?_
                  refine SR.callP rfl rfl Ev.func (Evs.cons (Ev.tmp rfl) Evs.nil) (fun fr => keyTR_ct _ _ _) (leB rfl) ?_
                  refine SR.alt ?_ ?_
                  · refine SR.buildSlice rfl rfl EL28 rfl (EvP.cons (Ev.tmp rfl) EvP.nil) rfl rfl (by decide) rfl (leB rfl) fun b71 => ?_
                    refine SR.callF rfl rfl Ev.func (Evs.cons (Ev.tmp rfl) Evs.nil) (fun fr => opndR_of x (ih x hxm) _ (TOk.fr ((hT.part hxm).mono (by (repeat (first | exact sub0 _ | exact subA _ _ | refine subC _ ?_ | apply subK | refine subT _ ?_)))) fr) (hF.part hxm) (hW.part hxm) (by omega)) (leB rfl) fun a76 c76 => ?_
                    refine SR.nil rfl rfl ?_
                    refine WL.ptRow (k := 1) (sz := 4) (cs := fl encK [keyT (typedP e.t)]) rfl (by decide) (by (repeat (first | exact Upd.here | apply Upd.next))) ?_
                    refine WL.knowRow (a := a76) (by (repeat (first | exact mem0 _ | apply memT))) fun p76 q76 r76 => ?_
                    refine WL.appendE EL28 (Ev.tmp rfl) (Ev.tmp rfl) (by first | assumption | exact Rd.ofSl (by assumption) | exact Rd.ofPt rfl (by decide) (by (repeat (first | exact mem0 _ | apply memT))) | exact Rd.mono (by assumption) (View.le.refl _) (by (repeat (first | exact sub0 _ | exact subA _ _ | refine subC _ ?_ | apply subK | refine subT _ ?_))) | exact Rd.inRow (by (repeat (first | exact mem0 _ | apply memT))) (by assumption) (by assumption) (by assumption)) (by first | exact one_of rfl | exact fl_ones (fun _ => rfl) _) hl1 (fl_app (enc := encK) [keyT (typedP e.t)] (opndE x)).symm (by omega) (by omega) (fun v' => by (repeat (first | exact Upd.here | apply Upd.next))) (leB rfl) fun a77 c77 => ?_
                    refine WL.po (PO.assign (Ev.tmp rfl)) (leB rfl) ?_
                    refine WL.nil (keepF (ts := [2]) rfl (toK (by assumption) ?_))
                    (try clear hG ops)
                    refine WC.ret (end1 (h' := .row (.slice a77 ([keyT (typedP e.t)] ++ opndE x).length c77) 36 4 ([keyT (typedP e.t)] ++ opndE x).length (fl encK ([keyT (typedP e.t)] ++ opndE x)) :: h) (.inl rfl) rfl (RV.tmp rfl) (View.le.refl m) (by (repeat (first | exact sub0 _ | exact subA _ _ | refine subC _ ?_ | apply subK | refine subT _ ?_))) ?_)
                    rw [we1]; exact ⟨_, _, _, rfl, rfl, rfl⟩
                  · refine SR.callF rfl rfl Ev.func (Evs.cons (Ev.tmp rfl) Evs.nil) (fun fr => opndR_of x (ih x hxm) _ (TOk.fr ((hT.part hxm).mono (by (repeat (first | exact sub0 _ | exact subA _ _ | refine subC _ ?_ | apply subK | refine subT _ ?_)))) fr) (hF.part hxm) (hW.part hxm) (by omega)) (leB rfl) fun a76 c76 => ?_
                    refine SR.buildSlice rfl rfl EL28 rfl (EvP.cons (Ev.tmp rfl) EvP.nil) rfl rfl (by decide) rfl (leB rfl) fun b71 => ?_
                    refine SR.nil rfl rfl ?_
                    refine WL.ptRow (k := 1) (sz := 4) (cs := fl encK [keyT (typedP e.t)]) rfl (by decide) (by (repeat (first | exact Upd.here | apply Upd.next))) ?_
                    refine WL.knowRow (a := a76) (by (repeat (first | exact mem0 _ | apply memT))) fun p76 q76 r76 => ?_
                    refine WL.appendE EL28 (Ev.tmp rfl) (Ev.tmp rfl) (by first | assumption | exact Rd.ofSl (by assumption) | exact Rd.ofPt rfl (by decide) (by (repeat (first | exact mem0 _ | apply memT))) | exact Rd.mono (by assumption) (View.le.refl _) (by (repeat (first | exact sub0 _ | exact subA _ _ | refine subC _ ?_ | apply subK | refine subT _ ?_))) | exact Rd.inRow (by (repeat (first | exact mem0 _ | apply memT))) (by assumption) (by assumption) (by assumption)) (by first | exact one_of rfl | exact fl_ones (fun _ => rfl) _) hl1 (fl_app (enc := encK) [keyT (typedP e.t)] (opndE x)).symm (by omega) (by omega) (fun v' => by (repeat (first | exact Upd.here | apply Upd.next))) (leB rfl) fun a77 c77 => ?_
                    refine WL.po (PO.assign (Ev.tmp rfl)) (leB rfl) ?_
                    refine WL.nil (keepF (ts := [2]) rfl (toK (by assumption) ?_))
                    (try clear hG ops)
                    refine WC.ret (end1 (h' := .row (.slice a77 ([keyT (typedP e.t)] ++ opndE x).length c77) 36 4 ([keyT (typedP e.t)] ++ opndE x).length (fl encK ([keyT (typedP e.t)] ++ opndE x)) :: h) (.inl rfl) rfl (RV.tmp rfl) (View.le.refl m) (by (repeat (first | exact sub0 _ | exact subA _ _ | refine subC _ ?_ | apply subK | refine subT _ ?_))) ?_)
                    rw [we1]; exact ⟨_, _, _, rfl, rfl, rfl⟩
                · replace c65 := f_eq c65
                  have hk7 : e.k = 7 := by
                    rcases hkind with h | h | h | h | h | h | h | h | h <;> first | exact h | (exfalso; simp_all; done)
                  obtain ⟨x, y, hx⟩ := two_parts hF hk7
                  have hx0 : e.l[0]? = some x := by rw [hx]; rfl
                  have hy0 : e.l[1]? = some y := by rw [hx]; rfl
                  have hxl : e.l.length = 2 := by rw [hx]; rfl
                  have hxm : x ∈ e.l := by rw [hx]; exact List.Mem.head _
                  have hym : y ∈ e.l := by rw [hx]; exact List.Mem.tail _ (List.Mem.head _)
                  have hcx : cntL e.l = cntE x + cntE y := by rw [hx]; simp [cntL]
                  have we1 : writeE e = (opndE x ++ [operT e.o]) ++ opndE y := by rw [we, hx]; simp [wr, hk7, writeL, opndE]
                  have hwx := write_len x (hF.part hxm)
                  have hwy := write_len y (hF.part hym)
                  have hox : (opndE x).length ≤ (writeE x).length + 2 := opnd_len (par x.k, writeE x)
                  have hoy : (opndE y).length ≤ (writeE y).length + 2 := opnd_len (par y.k, writeE y)
                  have hl3 : (opndE x).length + 1 = (opndE x ++ [operT e.o]).length := (@List.length_append _ (opndE x) [operT e.o]).symm
                  have hl4 : (opndE x ++ [operT e.o]).length + (opndE y).length = ((opndE x ++ [operT e.o]) ++ opndE y).length := (@List.length_append _ (opndE x ++ [operT e.o]) (opndE y)).symm
                  refine WC.skip (keepF (ts := [1]) rfl (toK (by assumption) ?_))
                  (repeat (first | refine WC.seqK fun K hK => ?_ | refine WC.block ?_ | refine WC.regionG rfl fun ops hG => ?_))
                  refine WC.drawS [4, 7, 8, 9] (.op 0 (.op 1 (.op 2 (.op 3 (.op 5 (.op 6 (.op 10 (.op 11 (.op 12 (.op 13 (.op 4 (.op 7 (.op 8 (.op 9 .nil)))))))))))))) [14, 15, 16] _ [] mixed (fun _ _ _ _ _ h => h) [] (by kernel_rfl) ?_
                  refine SR.po rfl rfl (PO.fieldAddr Tryd.underlying27 rfl (Nat.ne_of_beq_eq_false rfl) (Ev.tmp rfl)) (leB rfl) ?_
                  refine SR.po rfl rfl (PO.load1 Tryd.underlying25 rfl (Ev.tmp rfl) (by (repeat (first | exact mem0 _ | apply memT))) rfl) (leB rfl) ?_
                  refine SR.po rfl rfl (PO.idx EL25.und EL25.size EL25.posz (Ev.tmp rfl) Ev.const (by first | assumption | exact Rd.ofSl (by assumption) | exact Rd.ofPt rfl (by decide) (by (repeat (first | exact mem0 _ | apply memT))) | exact Rd.mono (by assumption) (View.le.refl _) (by (repeat (first | exact sub0 _ | exact subA _ _ | refine subC _ ?_ | apply subK | refine subT _ ?_))) | exact Rd.inRow (by (repeat (first | exact mem0 _ | apply memT))) (by assumption) (by assumption) (by assumption)) rfl (q := 0) (by omega)) (leB rfl) ?_
                  refine SR.po rfl rfl (PO.loadFA Tryd.underlying27 rfl rfl exE_len (by first | assumption | exact Rd.ofSl (by assumption) | exact Rd.ofPt rfl (by decide) (by (repeat (first | exact mem0 _ | apply memT))) | exact Rd.mono (by assumption) (View.le.refl _) (by (repeat (first | exact sub0 _ | exact subA _ _ | refine subC _ ?_ | apply subK | refine subT _ ?_))) | exact Rd.inRow (by (repeat (first | exact mem0 _ | apply memT))) (by assumption) (by assumption) (by assumption)) (Ev.tmp rfl) (by assumption) rfl rfl (Nat.succ_pos _)) (leB rfl) ?_
                  refine SR.po rfl rfl (PO.fieldAddr Tryd.underlying27 rfl (Nat.ne_of_beq_eq_false rfl) (Ev.tmp rfl)) (leB rfl) ?_
                  refine SR.po rfl rfl (PO.load1 Tryd.underlying23 rfl (Ev.tmp rfl) (by (repeat (first | exact mem0 _ | apply memT))) rfl) (leB rfl) ?_
                  refine SR.po rfl rfl (PO.fieldAddr Tryd.underlying27 rfl (Nat.ne_of_beq_eq_false rfl) (Ev.tmp rfl)) (leB rfl) ?_
                  refine SR.po rfl rfl (PO.load1 Tryd.underlying25 rfl (Ev.tmp rfl) (by (repeat (first | exact mem0 _ | apply memT))) rfl) (leB rfl) ?_
                  refine SR.po rfl rfl (PO.idx EL25.und EL25.size EL25.posz (Ev.tmp rfl) Ev.const (by first | assumption | exact Rd.ofSl (by assumption) | exact Rd.ofPt rfl (by decide) (by (repeat (first | exact mem0 _ | apply memT))) | exact Rd.mono (by assumption) (View.le.refl _) (by (repeat (first | exact sub0 _ | exact subA _ _ | refine subC _ ?_ | apply subK | refine subT _ ?_))) | exact Rd.inRow (by (repeat (first | exact mem0 _ | apply memT))) (by assumption) (by assumption) (by assumption)) rfl (q := 1) (by omega)) (leB rfl) ?_
                  refine SR.po rfl rfl (PO.loadFA Tryd.underlying27 rfl rfl exE_len (by first | assumption | exact Rd.ofSl (by assumption) | exact Rd.ofPt rfl (by decide) (by (repeat (first | exact mem0 _ | apply memT))) | exact Rd.mono (by assumption) (View.le.refl _) (by (repeat (first | exact sub0 _ | exact subA _ _ | refine subC _ ?_ | apply subK | refine subT _ ?_))) | exact Rd.inRow (by (repeat (first | exact mem0 _ | apply memT))) (by assumption) (by assumption) (by assumption)) (Ev.tmp rfl) (by assumption) rfl rfl (Nat.succ_pos _)) (leB rfl) ?_
                  refine SR.callF rfl rfl Ev.func (Evs.cons (Ev.tmp rfl) Evs.nil) (fun fr => opndR_of x (ih x hxm) _ (TOk.fr ((hT.part hxm).mono (by (repeat (first | exact sub0 _ | exact subA _ _ | refine subC _ ?_ | apply subK | refine subT _ ?_)))) fr) (hF.part hxm) (hW.part hxm) (by omega)) (leB rfl) fun a82 c82 => ?_
                  refine SR.callP rfl rfl Ev.func (Evs.cons (Ev.tmp rfl) Evs.nil) (fun fr => markR_ct _ (by assumption) _ _) (leB rfl) ?_
                  refine SR.buildSlice rfl rfl EL28 rfl (EvP.cons (Ev.tmp rfl) EvP.nil) rfl rfl (by decide) rfl (leB rfl) fun b86 => ?_
                  refine SR.appendE rfl rfl EL28 (Ev.tmp rfl) (Ev.tmp rfl) (by first | assumption | exact Rd.ofSl (by assumption) | exact Rd.ofPt rfl (by decide) (by (repeat (first | exact mem0 _ | apply memT))) | exact Rd.mono (by assumption) (View.le.refl _) (by (repeat (first | exact sub0 _ | exact subA _ _ | refine subC _ ?_ | apply subK | refine subT _ ?_))) | exact Rd.inRow (by (repeat (first | exact mem0 _ | apply memT))) (by assumption) (by assumption) (by assumption)) (by first | exact one_of rfl | exact fl_ones (fun _ => rfl) _) hl3 (fl_snoc (enc := encK) _ (operT e.o)) (by omega) (by omega) (fun v' => by (repeat (first | exact Upd.here | apply Upd.next))) (leB rfl) fun a87 c87 => ?_
                  refine SR.nil rfl rfl ?_
                  refine WL.callK Ev.func (Evs.cons (Ev.tmp rfl) Evs.nil) (opndR_of y (ih y hym) _ ((hT.part hym).mono (by (repeat (first | exact sub0 _ | exact subA _ _ | refine subC _ ?_ | apply subK | refine subT _ ?_)))) (hF.part hym) (hW.part hym) (by omega)) (leB rfl) ?_
                  rintro _ _ ⟨a92, c92, k92, e92, rfl, rfl⟩
                  refine WL.knowRow (a := a92) (by (repeat (first | exact mem0 _ | apply memT))) fun p92 q92 r92 => ?_
                  subst e92
                  refine WL.appendE EL28 (Ev.tmp rfl) (Ev.tmp rfl) (by first | assumption | exact Rd.ofSl (by assumption) | exact Rd.ofPt rfl (by decide) (by (repeat (first | exact mem0 _ | apply memT))) | exact Rd.mono (by assumption) (View.le.refl _) (by (repeat (first | exact sub0 _ | exact subA _ _ | refine subC _ ?_ | apply subK | refine subT _ ?_))) | exact Rd.inRow (by (repeat (first | exact mem0 _ | apply memT))) (by assumption) (by assumption) (by assumption)) (by first | exact one_of rfl | exact fl_ones (fun _ => rfl) _) hl4 (fl_app (enc := encK) (opndE x ++ [operT e.o]) (opndE y)).symm (by omega) (by omega) (fun v' => by (repeat (first | exact Upd.here | apply Upd.next))) (leB rfl) fun a93 c93 => ?_
                  refine WL.po (PO.assign (Ev.tmp rfl)) (leB rfl) ?_
                  refine WL.nil (keepF (ts := [2]) rfl (toK (by assumption) ?_))
                  (try clear hG ops)
                  refine WC.ret (end1 (h' := .row (.slice a93 ((opndE x ++ [operT e.o]) ++ opndE y).length c93) 36 4 ((opndE x ++ [operT e.o]) ++ opndE y).length (fl encK ((opndE x ++ [operT e.o]) ++ opndE y)) :: h) (.inl rfl) rfl (RV.tmp rfl) (View.le.refl m) (by (repeat (first | exact sub0 _ | exact subA _ _ | refine subC _ ?_ | apply subK | refine subT _ ?_))) ?_)
                  rw [we1]; exact ⟨_, _, _, rfl, rfl, rfl⟩
theorem tokensR_ct {m : View} (e : Ex) (h : List Res) (hT : TOk m h e) (hW : Wf e) : CT Tryd.prog 10 [exV e] h m
    (fun v _ h' => (mayE e = true ∧ ∃ a c, v = .tuple #[.slice a (writeE e).length c, .int .i64 0] ∧ h' = .row (.slice a (writeE e).length c) 36 4 (writeE e).length (fl encK (writeE e)) :: h) ∨ (mayE e = false ∧ v = .tuple #[.slice none 0 0, .int .i64 2] ∧ h' = h)) := by
  refine CT.body Tryd.call10 Tryd.func10 rfl Tryd.ntmps10 (leB rfl) rfl ?_
  (repeat (first | refine WC.seqK fun K hK => ?_ | refine WC.block ?_ | refine WC.regionG rfl fun ops hG => ?_))
  refine WL.box (Ev.tmp rfl) rfl (leB rfl) fun b1 => ?_
  refine WL.po (PO.assign Ev.const) (leB rfl) ?_
  refine WL.po (PO.assign Ev.const) (leB rfl) ?_
  refine WL.nil (keepF (ts := [1]) rfl (toK (by assumption) ?_))
  (try clear hG ops)
  (repeat (first | refine WC.seqK fun K hK => ?_ | refine WC.block ?_ | refine WC.regionG rfl fun ops hG => ?_))
  refine WL.po (PO.loadA Tryd.underlying27 rfl rfl (Ev.tmp rfl) (by (repeat (first | exact mem0 _ | apply memT))) rfl) (leB rfl) ?_
  refine WL.callP Ev.func (Evs.cons (Ev.tmp rfl) Evs.nil) (mayR_ct e _ (hT.mono (by (repeat (first | exact sub0 _ | exact subA _ _ | refine subC _ ?_ | apply subK | refine subT _ ?_)))) hW) (leB rfl) ?_
  refine WL.po (PO.not (Ev.tmp rfl)) (leB rfl) ?_
  refine WL.nil (keepF (ts := [1, 6]) rfl (toK (by assumption) ?_))
  (try clear hG ops)
  (repeat (first | refine WC.seqK fun K hK => ?_ | refine WC.block ?_ | refine WC.regionG rfl fun ops hG => ?_))
  refine WC.cond (Ev.tmp rfl) (fun c6 => ?_) (fun c6 => ?_)
  · have d6 : mayE e = false := by simpa using c6
    (repeat (first | refine WC.seqK fun K hK => ?_ | refine WC.block ?_ | refine WC.regionG rfl fun ops hG => ?_))
    refine WL.po (PO.assign Ev.const) (leB rfl) ?_
    refine WL.po (PO.assign Ev.const) (leB rfl) ?_
    refine WL.nil (keepF (ts := [2, 3]) rfl (toK (by assumption) ?_))
    (try clear hG ops)
    refine WC.ret (end2 (h' := h) (.inl rfl) rfl (RV.tmp rfl) (RV.tmp rfl) (View.le.refl m) (by (repeat (first | exact sub0 _ | exact subA _ _ | refine subC _ ?_ | apply subK | refine subT _ ?_))) ?_)
    exact .inr ⟨d6, rfl, rfl⟩
  · have d6 : mayE e = true := by simpa using c6
    obtain ⟨hF, hc⟩ := may_good d6
    refine WC.skip (keepF (ts := [1]) rfl (toK (by assumption) ?_))
    (repeat (first | refine WC.seqK fun K hK => ?_ | refine WC.block ?_ | refine WC.regionG rfl fun ops hG => ?_))
    refine WL.po (PO.loadA Tryd.underlying27 rfl rfl (Ev.tmp rfl) (by (repeat (first | exact mem0 _ | apply memT))) rfl) (leB rfl) ?_
    refine WL.callK Ev.func (Evs.cons (Ev.tmp rfl) Evs.nil) (list_ct e _ (hT.mono (by (repeat (first | exact sub0 _ | exact subA _ _ | refine subC _ ?_ | apply subK | refine subT _ ?_)))) hF hW (by omega)) (leB rfl) ?_
    rintro _ _ ⟨a8, c8, k8, e8, rfl, rfl⟩
    refine WL.knowRow (a := a8) (by (repeat (first | exact mem0 _ | apply memT))) fun p8 q8 r8 => ?_
    subst e8
    refine WL.po (PO.assign (Ev.tmp rfl)) (leB rfl) ?_
    refine WL.po (PO.assign Ev.const) (leB rfl) ?_
    refine WL.nil (keepF (ts := [2, 3]) rfl (toK (by assumption) ?_))
    (try clear hG ops)
    refine WC.ret (end2 (h' := .row (.slice a8 (writeE e).length c8) 36 4 (writeE e).length (fl encK (writeE e)) :: h) (.inl rfl) rfl (RV.tmp rfl) (RV.tmp rfl) (View.le.refl m) (by (repeat (first | exact sub0 _ | exact subA _ _ | refine subC _ ?_ | apply subK | refine subT _ ?_))) ?_)
    exact .inl ⟨d6, _, _, rfl, rfl⟩
end Go.Proofs.YtheejlbhmbbdjaaDoor

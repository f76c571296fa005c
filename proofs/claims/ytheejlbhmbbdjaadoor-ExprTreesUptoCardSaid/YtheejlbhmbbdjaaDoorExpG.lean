/- expr: writing, walked. -/
import Derived.Test.YtheejlbhmbbdjaaDoorExpD
import Derived.Test.YtheejlbhmbbdjaaDoorExpN
import Derived.Test.YtheejlbhmbbdjaaDoorEng18
namespace Go.Proofs.YtheejlbhmbbdjaaDoor
open Go.Eng Go.Xp Go
open Go.Ty (Tok encK encK_len tokV)
set_option maxRecDepth 100000
theorem _root_.Go.Xp.TOk.fr {m : View} {h : List Res} {e : Ex} (q : TOk m h e) (fr : List Res) : TOk m (fr ++ h) e := q.mono (List.sublist_append_right fr h)
theorem sym_ct (s : B) (h : List Res) (m : View) : CT Tryd.prog 51 [str s] h m (Pure1 h (tokV (symT s))) := by
  refine CT.body Tryd.call51 Tryd.func51 rfl Tryd.ntmps51 (leB rfl) rfl ?_
  (repeat (first | refine WC.seqK fun K hK => ?_ | refine WC.block ?_ | refine WC.regionG rfl fun ops hG => ?_))
  refine WL.alloc rfl rfl (leB rfl) fun b2 => ?_
  refine WL.nil (keepF (ts := [0, 2]) rfl (toK (by assumption) ?_))
  (try clear hG ops)
  (repeat (first | refine WC.seqK fun K hK => ?_ | refine WC.block ?_ | refine WC.regionG rfl fun ops hG => ?_))
  refine WL.po (PO.move (Ev.tmp rfl)) (leB rfl) ?_
  refine WL.po (PO.build Tryd.underlying36 rfl rfl rfl (EvP.cons Ev.const (EvP.cons (Ev.tmp rfl) EvP.nil)) rfl) (leB rfl) ?_
  refine WL.store rfl (Ev.tmp rfl) (Ev.tmp rfl) rfl rfl rfl rfl (by (repeat (first | exact Upd.here | apply Upd.next))) ?_
  refine WL.nil (keepF (ts := [2]) rfl (toK (by assumption) ?_))
  (try clear hG ops)
  refine WC.ret (end1 (h' := h) (.inl rfl) rfl (RV.cellA Tryd.underlying36 rfl rfl rfl (by (repeat (first | exact mem0 _ | apply memT))) rfl) (View.le.refl m) (by (repeat (first | exact sub0 _ | exact subA _ _ | refine subC _ ?_ | apply subK | refine subT _ ?_))) ?_)
  exact ⟨rfl, rfl⟩
theorem marked_ct {m : View} (hg : Glob m) (s : B) (hs : s.length ≤ 140737488355328) (h : List Res) : CT Tryd.prog 50 [str s] h m (Pure1 h (tokV (markT s))) := by
  refine CT.body Tryd.call50 Tryd.func50 rfl Tryd.ntmps50 (leB rfl) rfl ?_
  (repeat (first | refine WC.seqK fun K hK => ?_ | refine WC.block ?_ | refine WC.regionG rfl fun ops hG => ?_))
  refine WL.alloc rfl rfl (leB rfl) fun b2 => ?_
  refine WL.nil (keepF (ts := [0, 2]) rfl (toK (by assumption) ?_))
  (try clear hG ops)
  (repeat (first | refine WC.seqK fun K hK => ?_ | refine WC.block ?_ | refine WC.regionG rfl fun ops hG => ?_))
  refine WL.po (PO.move (Ev.tmp rfl)) (leB rfl) ?_
  refine WL.callP Ev.func (Evs.cons (Ev.tmp rfl) Evs.nil) (key_ct _ _ _ hg (by assumption)) (leB rfl) ?_
  refine WL.nil (keepF (ts := [0, 2, 4]) rfl (toK (by assumption) ?_))
  (try clear hG ops)
  (repeat (first | refine WC.seqK fun K hK => ?_ | refine WC.block ?_ | refine WC.regionG rfl fun ops hG => ?_))
  refine WC.cond (Ev.tmp rfl) (fun c4 => ?_) (fun c4 => ?_)
  · (repeat (first | refine WC.seqK fun K hK => ?_ | refine WC.block ?_ | refine WC.regionG rfl fun ops hG => ?_))
    refine WL.po (PO.move (Ev.tmp rfl)) (leB rfl) ?_
    refine WL.po (PO.build Tryd.underlying36 rfl rfl rfl (EvP.cons Ev.const (EvP.cons (Ev.tmp rfl) EvP.nil)) rfl) (leB rfl) ?_
    refine WL.store rfl (Ev.tmp rfl) (Ev.tmp rfl) rfl rfl rfl rfl (by (repeat (first | exact Upd.here | apply Upd.next))) ?_
    refine WL.nil (keepF (ts := [2]) rfl (toK (by assumption) ?_))
    (try clear hG ops)
    refine WC.ret (end1 (h' := h) (.inl rfl) rfl (RV.cellA Tryd.underlying36 rfl rfl rfl (by (repeat (first | exact mem0 _ | apply memT))) rfl) (View.le.refl m) (by (repeat (first | exact sub0 _ | exact subA _ _ | refine subC _ ?_ | apply subK | refine subT _ ?_))) ?_)
    exact ⟨by unfold markT; rw [c4]; rfl, rfl⟩
  · refine WC.skip (keepF (ts := [0, 2]) rfl (toK (by assumption) ?_))
    (repeat (first | refine WC.seqK fun K hK => ?_ | refine WC.block ?_ | refine WC.regionG rfl fun ops hG => ?_))
    refine WL.po (PO.move (Ev.tmp rfl)) (leB rfl) ?_
    refine WL.callP Ev.func (Evs.cons (Ev.tmp rfl) Evs.nil) (sym_ct _ _ _) (leB rfl) ?_
    refine WL.store rfl (Ev.tmp rfl) (Ev.tmp rfl) rfl rfl rfl rfl (by (repeat (first | exact Upd.here | apply Upd.next))) ?_
    refine WL.nil (keepF (ts := [2]) rfl (toK (by assumption) ?_))
    (try clear hG ops)
    refine WC.ret (end1 (h' := h) (.inl rfl) rfl (RV.cellA Tryd.underlying36 rfl rfl rfl (by (repeat (first | exact mem0 _ | apply memT))) rfl) (View.le.refl m) (by (repeat (first | exact sub0 _ | exact subA _ _ | refine subC _ ?_ | apply subK | refine subT _ ?_))) ?_)
    exact ⟨by unfold markT; rw [c4]; rfl, rfl⟩
theorem word_len (o : Int) : (wordP o).1.length ≤ 5 := by
  unfold wordP
  split
  · decide
  · show (wordsL.getD o.toNat []).length ≤ 5
    have : ∀ s ∈ wordsL, s.length ≤ 5 := by decide
    rw [List.getD_eq_getElem?_getD]
    cases h : wordsL[o.toNat]? with
    | none => decide
    | some s => exact this s (List.mem_of_getElem? h)
theorem operator_ct {m : View} (hg : Glob m) (o : Int) (ho : 0 ≤ o ∧ o ≤ 255) (h : List Res) : CT Tryd.prog 53 [.int .u8 o] h m (Pure1 h (tokV (operT o))) := by
  have hl := word_len o
  refine CT.body Tryd.call53 Tryd.func53 rfl Tryd.ntmps53 (leB rfl) rfl ?_
  (repeat (first | refine WC.seqK fun K hK => ?_ | refine WC.block ?_ | refine WC.regionG rfl fun ops hG => ?_))
  refine WL.alloc rfl rfl (leB rfl) fun b2 => ?_
  refine WL.nil (keepF (ts := [0, 2]) rfl (toK (by assumption) ?_))
  (try clear hG ops)
  (repeat (first | refine WC.seqK fun K hK => ?_ | refine WC.block ?_ | refine WC.regionG rfl fun ops hG => ?_))
  refine WL.po (PO.move (Ev.tmp rfl)) (leB rfl) ?_
  refine WL.callP Ev.func (Evs.cons (Ev.tmp rfl) Evs.nil) (word_ct _ (by assumption) _ _) (leB rfl) ?_
  refine WL.po (PO.move (Ev.tmp rfl)) (leB rfl) ?_
  refine WL.po (PO.extract (Ev.tmp rfl) rfl) (leB rfl) ?_
  refine WL.po (PO.extract (Ev.tmp rfl) rfl) (leB rfl) ?_
  refine WL.po (PO.assign (Ev.tmp rfl)) (leB rfl) ?_
  refine WL.po (PO.assign (Ev.tmp rfl)) (leB rfl) ?_
  refine WL.nil (keepF (ts := [2, 3]) rfl (toK (by assumption) ?_))
  (try clear hG ops)
  (repeat (first | refine WC.seqK fun K hK => ?_ | refine WC.block ?_ | refine WC.regionG rfl fun ops hG => ?_))
  refine WL.po (PO.move (Ev.tmp rfl)) (leB rfl) ?_
  refine WL.callP Ev.func (Evs.cons (Ev.tmp rfl) Evs.nil) (marked_ct hg (wordP o).1 (by omega) _) (leB rfl) ?_
  refine WL.store rfl (Ev.tmp rfl) (Ev.tmp rfl) rfl rfl rfl rfl (by (repeat (first | exact Upd.here | apply Upd.next))) ?_
  refine WL.nil (keepF (ts := [2]) rfl (toK (by assumption) ?_))
  (try clear hG ops)
  refine WC.ret (end1 (h' := h) (.inl rfl) rfl (RV.cellA Tryd.underlying36 rfl rfl rfl (by (repeat (first | exact mem0 _ | apply memT))) rfl) (View.le.refl m) (by (repeat (first | exact sub0 _ | exact subA _ _ | refine subC _ ?_ | apply subK | refine subT _ ?_))) ?_)
  exact ⟨rfl, rfl⟩
theorem prim_len (k : Int) : (primP k).length ≤ 4 := by
  unfold primP
  repeat' split
  all_goals decide
abbrev WCT (m : View) (e : Ex) : Prop := ∀ (h : List Res) (xs : List Tok) (a : Option Addr) (c : Nat), TOk m h e → Fine e → Wf e → xs.length + 5 * cntE e ≤ 1000000 →
    CT Tryd.prog 34 [.slice a xs.length c, exV e] (.row (.slice a xs.length c) 36 4 xs.length (fl encK xs) :: h) m (fun v _ h' => OwnF encK 36 4 h (xs ++ writeE e) v h')
theorem opnd_of {m : View} (e : Ex) (hw : WCT m e) (h : List Res) (xs : List Tok) (a : Option Addr) (c : Nat) (hT : TOk m h e) (hF : Fine e) (hW : Wf e) (hl : xs.length + 5 * cntE e + 2 ≤ 1000000) :
    CT Tryd.prog 52 [.slice a xs.length c, exV e] (.row (.slice a xs.length c) 36 4 xs.length (fl encK xs) :: h) m (fun v _ h' => OwnF encK 36 4 h (xs ++ opndE e) v h') := by
  have hwl := write_len e hF
  have hce := cntE_eq e
  have hl1 : (xs ++ [symT [40]]).length = xs.length + 1 := by simp
  have hl2 : ((xs ++ [symT [40]]) ++ writeE e).length = xs.length + 1 + (writeE e).length := by simp; omega
  have hl3 : (((xs ++ [symT [40]]) ++ writeE e) ++ [symT [41]]).length = xs.length + 2 + (writeE e).length := by simp; omega
  refine CT.body Tryd.call52 Tryd.func52 rfl Tryd.ntmps52 (leB rfl) rfl ?_
  (repeat (first | refine WC.seqK fun K hK => ?_ | refine WC.block ?_ | refine WC.regionG rfl fun ops hG => ?_))
  refine WL.box (Ev.tmp rfl) rfl (leB rfl) fun b3 => ?_
  refine WL.po (PO.assign Ev.const) (leB rfl) ?_
  refine WL.nil (keepF (ts := [0, 3]) rfl (toK (by assumption) ?_))
  (try clear hG ops)
  (repeat (first | refine WC.seqK fun K hK => ?_ | refine WC.block ?_ | refine WC.regionG rfl fun ops hG => ?_))
  refine WL.po (PO.fieldAddr Tryd.underlying27 rfl (Nat.ne_of_beq_eq_false rfl) (Ev.tmp rfl)) (leB rfl) ?_
  refine WL.po (PO.load1 Tryd.underlying22 rfl (Ev.tmp rfl) (by (repeat (first | exact mem0 _ | apply memT))) rfl) (leB rfl) ?_
  refine WL.nil (keepF (ts := [0, 3, 6]) rfl (toK (by assumption) ?_))
  (try clear hG ops)
  (repeat (first | refine WC.seqK fun K hK => ?_ | refine WC.block ?_ | refine WC.regionG rfl fun ops hG => ?_))
  refine WL.po (PO.bin (Ev.tmp rfl) Ev.const rfl) (leB rfl) ?_
  refine WL.po (PO.assign (Ev.tmp rfl)) (leB rfl) ?_
  refine WL.nil (keepF (ts := [0, 3, 6, 7]) rfl (toK (by assumption) ?_))
  (try clear hG ops)
  (repeat (first | refine WC.seqK fun K hK => ?_ | refine WC.block ?_ | refine WC.regionG rfl fun ops hG => ?_))
  refine WC.cond (Ev.tmp rfl) (fun c7 => ?_) (fun c7 => ?_)
  · have d6 := c7
    refine WC.skip (keepF (ts := [0, 3, 7]) rfl (toK (by assumption) ?_))
    (repeat (first | refine WC.seqK fun K hK => ?_ | refine WC.block ?_ | refine WC.regionG rfl fun ops hG => ?_))
    refine WC.cond (Ev.tmp rfl) (fun c7 => ?_) (fun c7 => ?_)
    · have hp : opndE e = symT [40] :: (writeE e ++ [symT [41]]) := by unfold opndE opndP par; rw [d6]; rfl
      (repeat (first | refine WC.seqK fun K hK => ?_ | refine WC.block ?_ | refine WC.regionG rfl fun ops hG => ?_))
      refine WC.take (r := .row _ _ _ _ _) (by (repeat (first | exact Del.here | apply Del.next))) ?_
      refine WC.drawS [1, 2, 3] (.op 0 (.op 4 (.op 1 (.op 2 (.op 3 .nil))))) [5, 6, 7, 8, 9] _ [_] mixed (fun _ _ _ _ _ h => h) [] (by kernel_rfl) ?_
      refine SR.po rfl rfl (PO.move (Ev.tmp rfl)) (leB rfl) ?_
      refine SR.po rfl rfl (PO.loadA Tryd.underlying27 rfl rfl (Ev.tmp rfl) (by (repeat (first | exact mem0 _ | apply memT))) rfl) (leB rfl) ?_
      refine SR.callP rfl rfl Ev.func (Evs.cons Ev.const Evs.nil) (fun fr => sym_ct _ _ _) (leB rfl) ?_
      refine SR.buildSlice rfl rfl EL28 rfl (EvP.cons (Ev.tmp rfl) EvP.nil) rfl rfl (by decide) rfl (leB rfl) fun b14 => ?_
      refine SR.appendE rfl rfl EL28 (Ev.tmp rfl) (Ev.tmp rfl) (by first | assumption | exact Rd.ofSl (by assumption) | exact Rd.ofPt rfl (by decide) (by (repeat (first | exact mem0 _ | apply memT))) | exact Rd.mono (by assumption) (View.le.refl _) (by (repeat (first | exact sub0 _ | exact subA _ _ | refine subC _ ?_ | apply subK | refine subT _ ?_))) | exact Rd.inRow (by (repeat (first | exact mem0 _ | apply memT))) (by assumption) (by assumption) (by assumption)) (by first | exact one_of rfl | exact fl_ones (fun _ => rfl) _) hl1.symm (fl_snoc (enc := encK) _ (symT [40])) (by omega) (by omega) (fun v' => by (repeat (first | exact Upd.here | apply Upd.next))) (leB rfl) fun a15 c15 => ?_
      refine SR.nil rfl rfl ?_
      refine WL.perm (Del.perm (r := .row _ _ _ _ _) (by (repeat (first | exact Del.here | apply Del.next)))) ?_
      refine WL.callK Ev.func (Evs.cons (Ev.tmp rfl) (Evs.cons (Ev.tmp rfl) Evs.nil)) (hw _ (xs ++ [symT [40]]) _ _ (hT.mono (by (repeat (first | exact sub0 _ | exact subA _ _ | refine subC _ ?_ | apply subK | refine subT _ ?_)))) hF hW (by omega)) (leB rfl) ?_
      rintro _ _ ⟨a17, c17, k17, e17, rfl, rfl⟩
      refine WL.knowRow (a := a17) (by (repeat (first | exact mem0 _ | apply memT))) fun p17 q17 r17 => ?_
      subst e17
      refine WL.callP Ev.func (Evs.cons Ev.const Evs.nil) (sym_ct _ _ _) (leB rfl) ?_
      refine WL.buildSlice EL28 rfl (EvP.cons (Ev.tmp rfl) EvP.nil) rfl rfl (by decide) rfl (leB rfl) fun b19 => ?_
      refine WL.appendE EL28 (Ev.tmp rfl) (Ev.tmp rfl) (by first | assumption | exact Rd.ofSl (by assumption) | exact Rd.ofPt rfl (by decide) (by (repeat (first | exact mem0 _ | apply memT))) | exact Rd.mono (by assumption) (View.le.refl _) (by (repeat (first | exact sub0 _ | exact subA _ _ | refine subC _ ?_ | apply subK | refine subT _ ?_))) | exact Rd.inRow (by (repeat (first | exact mem0 _ | apply memT))) (by assumption) (by assumption) (by assumption)) (by first | exact one_of rfl | exact fl_ones (fun _ => rfl) _) (show _ = (((xs ++ [symT [40]]) ++ writeE e) ++ [symT [41]]).length by rw [hl3, hl2]; omega) (fl_snoc (enc := encK) _ (symT [41])) (by omega) (by omega) (fun v' => by (repeat (first | exact Upd.here | apply Upd.next))) (leB rfl) fun a20 c20 => ?_
      refine WL.po (PO.assign (Ev.tmp rfl)) (leB rfl) ?_
      refine WL.nil (keepF (ts := [4]) rfl (toK (by assumption) ?_))
      (try clear hG ops)
      refine WC.ret (end1 (h' := .row (.slice a20 (((xs ++ [symT [40]]) ++ writeE e) ++ [symT [41]]).length c20) 36 4 (((xs ++ [symT [40]]) ++ writeE e) ++ [symT [41]]).length (fl encK (((xs ++ [symT [40]]) ++ writeE e) ++ [symT [41]])) :: h) (.inl rfl) rfl (RV.tmp rfl) (View.le.refl m) (by (repeat (first | exact sub0 _ | exact subA _ _ | refine subC _ ?_ | apply subK | refine subT _ ?_))) ?_)
      rw [show xs ++ opndE e = ((xs ++ [symT [40]]) ++ writeE e) ++ [symT [41]] by rw [hp]; simp]; exact ⟨_, _, _, rfl, rfl, rfl⟩
    · cases d6.symm.trans c7
  · have d6 := c7
    (repeat (first | refine WC.seqK fun K hK => ?_ | refine WC.block ?_ | refine WC.regionG rfl fun ops hG => ?_))
    refine WL.po (PO.bin (Ev.tmp rfl) Ev.const rfl) (leB rfl) ?_
    refine WL.po (PO.assign (Ev.tmp rfl)) (leB rfl) ?_
    refine WL.nil (keepF (ts := [0, 3, 6, 7]) rfl (toK (by assumption) ?_))
    (try clear hG ops)
    (repeat (first | refine WC.seqK fun K hK => ?_ | refine WC.block ?_ | refine WC.regionG rfl fun ops hG => ?_))
    refine WC.cond (Ev.tmp rfl) (fun c7 => ?_) (fun c7 => ?_)
    · have d7 := c7
      refine WC.skip (keepF (ts := [0, 3, 7]) rfl (toK (by assumption) ?_))
      (repeat (first | refine WC.seqK fun K hK => ?_ | refine WC.block ?_ | refine WC.regionG rfl fun ops hG => ?_))
      refine WC.cond (Ev.tmp rfl) (fun c7 => ?_) (fun c7 => ?_)
      · have hp : opndE e = symT [40] :: (writeE e ++ [symT [41]]) := by unfold opndE opndP par; rw [d6, d7]; rfl
        (repeat (first | refine WC.seqK fun K hK => ?_ | refine WC.block ?_ | refine WC.regionG rfl fun ops hG => ?_))
        refine WC.take (r := .row _ _ _ _ _) (by (repeat (first | exact Del.here | apply Del.next))) ?_
        refine WC.drawS [1, 2, 3] (.op 0 (.op 4 (.op 1 (.op 2 (.op 3 .nil))))) [5, 6, 7, 8, 9] _ [_] mixed (fun _ _ _ _ _ h => h) [] (by kernel_rfl) ?_
        refine SR.po rfl rfl (PO.move (Ev.tmp rfl)) (leB rfl) ?_
        refine SR.po rfl rfl (PO.loadA Tryd.underlying27 rfl rfl (Ev.tmp rfl) (by (repeat (first | exact mem0 _ | apply memT))) rfl) (leB rfl) ?_
        refine SR.callP rfl rfl Ev.func (Evs.cons Ev.const Evs.nil) (fun fr => sym_ct _ _ _) (leB rfl) ?_
        refine SR.buildSlice rfl rfl EL28 rfl (EvP.cons (Ev.tmp rfl) EvP.nil) rfl rfl (by decide) rfl (leB rfl) fun b14 => ?_
        refine SR.appendE rfl rfl EL28 (Ev.tmp rfl) (Ev.tmp rfl) (by first | assumption | exact Rd.ofSl (by assumption) | exact Rd.ofPt rfl (by decide) (by (repeat (first | exact mem0 _ | apply memT))) | exact Rd.mono (by assumption) (View.le.refl _) (by (repeat (first | exact sub0 _ | exact subA _ _ | refine subC _ ?_ | apply subK | refine subT _ ?_))) | exact Rd.inRow (by (repeat (first | exact mem0 _ | apply memT))) (by assumption) (by assumption) (by assumption)) (by first | exact one_of rfl | exact fl_ones (fun _ => rfl) _) hl1.symm (fl_snoc (enc := encK) _ (symT [40])) (by omega) (by omega) (fun v' => by (repeat (first | exact Upd.here | apply Upd.next))) (leB rfl) fun a15 c15 => ?_
        refine SR.nil rfl rfl ?_
        refine WL.perm (Del.perm (r := .row _ _ _ _ _) (by (repeat (first | exact Del.here | apply Del.next)))) ?_
        refine WL.callK Ev.func (Evs.cons (Ev.tmp rfl) (Evs.cons (Ev.tmp rfl) Evs.nil)) (hw _ (xs ++ [symT [40]]) _ _ (hT.mono (by (repeat (first | exact sub0 _ | exact subA _ _ | refine subC _ ?_ | apply subK | refine subT _ ?_)))) hF hW (by omega)) (leB rfl) ?_
        rintro _ _ ⟨a17, c17, k17, e17, rfl, rfl⟩
        refine WL.knowRow (a := a17) (by (repeat (first | exact mem0 _ | apply memT))) fun p17 q17 r17 => ?_
        subst e17
        refine WL.callP Ev.func (Evs.cons Ev.const Evs.nil) (sym_ct _ _ _) (leB rfl) ?_
        refine WL.buildSlice EL28 rfl (EvP.cons (Ev.tmp rfl) EvP.nil) rfl rfl (by decide) rfl (leB rfl) fun b19 => ?_
        refine WL.appendE EL28 (Ev.tmp rfl) (Ev.tmp rfl) (by first | assumption | exact Rd.ofSl (by assumption) | exact Rd.ofPt rfl (by decide) (by (repeat (first | exact mem0 _ | apply memT))) | exact Rd.mono (by assumption) (View.le.refl _) (by (repeat (first | exact sub0 _ | exact subA _ _ | refine subC _ ?_ | apply subK | refine subT _ ?_))) | exact Rd.inRow (by (repeat (first | exact mem0 _ | apply memT))) (by assumption) (by assumption) (by assumption)) (by first | exact one_of rfl | exact fl_ones (fun _ => rfl) _) (show _ = (((xs ++ [symT [40]]) ++ writeE e) ++ [symT [41]]).length by rw [hl3, hl2]; omega) (fl_snoc (enc := encK) _ (symT [41])) (by omega) (by omega) (fun v' => by (repeat (first | exact Upd.here | apply Upd.next))) (leB rfl) fun a20 c20 => ?_
        refine WL.po (PO.assign (Ev.tmp rfl)) (leB rfl) ?_
        refine WL.nil (keepF (ts := [4]) rfl (toK (by assumption) ?_))
        (try clear hG ops)
        refine WC.ret (end1 (h' := .row (.slice a20 (((xs ++ [symT [40]]) ++ writeE e) ++ [symT [41]]).length c20) 36 4 (((xs ++ [symT [40]]) ++ writeE e) ++ [symT [41]]).length (fl encK (((xs ++ [symT [40]]) ++ writeE e) ++ [symT [41]])) :: h) (.inl rfl) rfl (RV.tmp rfl) (View.le.refl m) (by (repeat (first | exact sub0 _ | exact subA _ _ | refine subC _ ?_ | apply subK | refine subT _ ?_))) ?_)
        rw [show xs ++ opndE e = ((xs ++ [symT [40]]) ++ writeE e) ++ [symT [41]] by rw [hp]; simp]; exact ⟨_, _, _, rfl, rfl, rfl⟩
      · cases d7.symm.trans c7
    · have d7 := c7
      (repeat (first | refine WC.seqK fun K hK => ?_ | refine WC.block ?_ | refine WC.regionG rfl fun ops hG => ?_))
      refine WL.po (PO.bin (Ev.tmp rfl) Ev.const rfl) (leB rfl) ?_
      refine WL.po (PO.assign (Ev.tmp rfl)) (leB rfl) ?_
      refine WL.nil (keepF (ts := [0, 3, 6, 7]) rfl (toK (by assumption) ?_))
      (try clear hG ops)
      (repeat (first | refine WC.seqK fun K hK => ?_ | refine WC.block ?_ | refine WC.regionG rfl fun ops hG => ?_))
      refine WC.cond (Ev.tmp rfl) (fun c7 => ?_) (fun c7 => ?_)
      · have d8 := c7
        refine WC.skip (keepF (ts := [0, 3, 7]) rfl (toK (by assumption) ?_))
        (repeat (first | refine WC.seqK fun K hK => ?_ | refine WC.block ?_ | refine WC.regionG rfl fun ops hG => ?_))
        refine WC.cond (Ev.tmp rfl) (fun c7 => ?_) (fun c7 => ?_)
        · have hp : opndE e = symT [40] :: (writeE e ++ [symT [41]]) := by unfold opndE opndP par; rw [d6, d7, d8]; rfl
          (repeat (first | refine WC.seqK fun K hK => ?_ | refine WC.block ?_ | refine WC.regionG rfl fun ops hG => ?_))
          refine WC.take (r := .row _ _ _ _ _) (by (repeat (first | exact Del.here | apply Del.next))) ?_
          refine WC.drawS [1, 2, 3] (.op 0 (.op 4 (.op 1 (.op 2 (.op 3 .nil))))) [5, 6, 7, 8, 9] _ [_] mixed (fun _ _ _ _ _ h => h) [] (by kernel_rfl) ?_
          refine SR.po rfl rfl (PO.move (Ev.tmp rfl)) (leB rfl) ?_
          refine SR.po rfl rfl (PO.loadA Tryd.underlying27 rfl rfl (Ev.tmp rfl) (by (repeat (first | exact mem0 _ | apply memT))) rfl) (leB rfl) ?_
          refine SR.callP rfl rfl Ev.func (Evs.cons Ev.const Evs.nil) (fun fr => sym_ct _ _ _) (leB rfl) ?_
          refine SR.buildSlice rfl rfl EL28 rfl (EvP.cons (Ev.tmp rfl) EvP.nil) rfl rfl (by decide) rfl (leB rfl) fun b14 => ?_
          refine SR.appendE rfl rfl EL28 (Ev.tmp rfl) (Ev.tmp rfl) (by first | assumption | exact Rd.ofSl (by assumption) | exact Rd.ofPt rfl (by decide) (by (repeat (first | exact mem0 _ | apply memT))) | exact Rd.mono (by assumption) (View.le.refl _) (by (repeat (first | exact sub0 _ | exact subA _ _ | refine subC _ ?_ | apply subK | refine subT _ ?_))) | exact Rd.inRow (by (repeat (first | exact mem0 _ | apply memT))) (by assumption) (by assumption) (by assumption)) (by first | exact one_of rfl | exact fl_ones (fun _ => rfl) _) hl1.symm (fl_snoc (enc := encK) _ (symT [40])) (by omega) (by omega) (fun v' => by (repeat (first | exact Upd.here | apply Upd.next))) (leB rfl) fun a15 c15 => ?_
          refine SR.nil rfl rfl ?_
          refine WL.perm (Del.perm (r := .row _ _ _ _ _) (by (repeat (first | exact Del.here | apply Del.next)))) ?_
          refine WL.callK Ev.func (Evs.cons (Ev.tmp rfl) (Evs.cons (Ev.tmp rfl) Evs.nil)) (hw _ (xs ++ [symT [40]]) _ _ (hT.mono (by (repeat (first | exact sub0 _ | exact subA _ _ | refine subC _ ?_ | apply subK | refine subT _ ?_)))) hF hW (by omega)) (leB rfl) ?_
          rintro _ _ ⟨a17, c17, k17, e17, rfl, rfl⟩
          refine WL.knowRow (a := a17) (by (repeat (first | exact mem0 _ | apply memT))) fun p17 q17 r17 => ?_
          subst e17
          refine WL.callP Ev.func (Evs.cons Ev.const Evs.nil) (sym_ct _ _ _) (leB rfl) ?_
          refine WL.buildSlice EL28 rfl (EvP.cons (Ev.tmp rfl) EvP.nil) rfl rfl (by decide) rfl (leB rfl) fun b19 => ?_
          refine WL.appendE EL28 (Ev.tmp rfl) (Ev.tmp rfl) (by first | assumption | exact Rd.ofSl (by assumption) | exact Rd.ofPt rfl (by decide) (by (repeat (first | exact mem0 _ | apply memT))) | exact Rd.mono (by assumption) (View.le.refl _) (by (repeat (first | exact sub0 _ | exact subA _ _ | refine subC _ ?_ | apply subK | refine subT _ ?_))) | exact Rd.inRow (by (repeat (first | exact mem0 _ | apply memT))) (by assumption) (by assumption) (by assumption)) (by first | exact one_of rfl | exact fl_ones (fun _ => rfl) _) (show _ = (((xs ++ [symT [40]]) ++ writeE e) ++ [symT [41]]).length by rw [hl3, hl2]; omega) (fl_snoc (enc := encK) _ (symT [41])) (by omega) (by omega) (fun v' => by (repeat (first | exact Upd.here | apply Upd.next))) (leB rfl) fun a20 c20 => ?_
          refine WL.po (PO.assign (Ev.tmp rfl)) (leB rfl) ?_
          refine WL.nil (keepF (ts := [4]) rfl (toK (by assumption) ?_))
          (try clear hG ops)
          refine WC.ret (end1 (h' := .row (.slice a20 (((xs ++ [symT [40]]) ++ writeE e) ++ [symT [41]]).length c20) 36 4 (((xs ++ [symT [40]]) ++ writeE e) ++ [symT [41]]).length (fl encK (((xs ++ [symT [40]]) ++ writeE e) ++ [symT [41]])) :: h) (.inl rfl) rfl (RV.tmp rfl) (View.le.refl m) (by (repeat (first | exact sub0 _ | exact subA _ _ | refine subC _ ?_ | apply subK | refine subT _ ?_))) ?_)
          rw [show xs ++ opndE e = ((xs ++ [symT [40]]) ++ writeE e) ++ [symT [41]] by rw [hp]; simp]; exact ⟨_, _, _, rfl, rfl, rfl⟩
        · cases d8.symm.trans c7
      · have d8 := c7
        (repeat (first | refine WC.seqK fun K hK => ?_ | refine WC.block ?_ | refine WC.regionG rfl fun ops hG => ?_))
        refine WL.po (PO.bin (Ev.tmp rfl) Ev.const rfl) (leB rfl) ?_
        refine WL.po (PO.assign (Ev.tmp rfl)) (leB rfl) ?_
        refine WL.nil (keepF (ts := [0, 3, 7]) rfl (toK (by assumption) ?_))
        (try clear hG ops)
        (repeat (first | refine WC.seqK fun K hK => ?_ | refine WC.block ?_ | refine WC.regionG rfl fun ops hG => ?_))
        refine WC.cond (Ev.tmp rfl) (fun c7 => ?_) (fun c7 => ?_)
        · have hp : opndE e = symT [40] :: (writeE e ++ [symT [41]]) := by unfold opndE opndP par; rw [d6, d7, d8, c7]; rfl
          (repeat (first | refine WC.seqK fun K hK => ?_ | refine WC.block ?_ | refine WC.regionG rfl fun ops hG => ?_))
          refine WC.take (r := .row _ _ _ _ _) (by (repeat (first | exact Del.here | apply Del.next))) ?_
          refine WC.drawS [1, 2, 3] (.op 0 (.op 4 (.op 1 (.op 2 (.op 3 .nil))))) [5, 6, 7, 8, 9] _ [_] mixed (fun _ _ _ _ _ h => h) [] (by kernel_rfl) ?_
          refine SR.po rfl rfl (PO.move (Ev.tmp rfl)) (leB rfl) ?_
          refine SR.po rfl rfl (PO.loadA Tryd.underlying27 rfl rfl (Ev.tmp rfl) (by (repeat (first | exact mem0 _ | apply memT))) rfl) (leB rfl) ?_
          refine SR.callP rfl rfl Ev.func (Evs.cons Ev.const Evs.nil) (fun fr => sym_ct _ _ _) (leB rfl) ?_
          refine SR.buildSlice rfl rfl EL28 rfl (EvP.cons (Ev.tmp rfl) EvP.nil) rfl rfl (by decide) rfl (leB rfl) fun b14 => ?_
          refine SR.appendE rfl rfl EL28 (Ev.tmp rfl) (Ev.tmp rfl) (by first | assumption | exact Rd.ofSl (by assumption) | exact Rd.ofPt rfl (by decide) (by (repeat (first | exact mem0 _ | apply memT))) | exact Rd.mono (by assumption) (View.le.refl _) (by (repeat (first | exact sub0 _ | exact subA _ _ | refine subC _ ?_ | apply subK | refine subT _ ?_))) | exact Rd.inRow (by (repeat (first | exact mem0 _ | apply memT))) (by assumption) (by assumption) (by assumption)) (by first | exact one_of rfl | exact fl_ones (fun _ => rfl) _) hl1.symm (fl_snoc (enc := encK) _ (symT [40])) (by omega) (by omega) (fun v' => by (repeat (first | exact Upd.here | apply Upd.next))) (leB rfl) fun a15 c15 => ?_
          refine SR.nil rfl rfl ?_
          refine WL.perm (Del.perm (r := .row _ _ _ _ _) (by (repeat (first | exact Del.here | apply Del.next)))) ?_
          refine WL.callK Ev.func (Evs.cons (Ev.tmp rfl) (Evs.cons (Ev.tmp rfl) Evs.nil)) (hw _ (xs ++ [symT [40]]) _ _ (hT.mono (by (repeat (first | exact sub0 _ | exact subA _ _ | refine subC _ ?_ | apply subK | refine subT _ ?_)))) hF hW (by omega)) (leB rfl) ?_
          rintro _ _ ⟨a17, c17, k17, e17, rfl, rfl⟩
          refine WL.knowRow (a := a17) (by (repeat (first | exact mem0 _ | apply memT))) fun p17 q17 r17 => ?_
          subst e17
          refine WL.callP Ev.func (Evs.cons Ev.const Evs.nil) (sym_ct _ _ _) (leB rfl) ?_
          refine WL.buildSlice EL28 rfl (EvP.cons (Ev.tmp rfl) EvP.nil) rfl rfl (by decide) rfl (leB rfl) fun b19 => ?_
          refine WL.appendE EL28 (Ev.tmp rfl) (Ev.tmp rfl) (by first | assumption | exact Rd.ofSl (by assumption) | exact Rd.ofPt rfl (by decide) (by (repeat (first | exact mem0 _ | apply memT))) | exact Rd.mono (by assumption) (View.le.refl _) (by (repeat (first | exact sub0 _ | exact subA _ _ | refine subC _ ?_ | apply subK | refine subT _ ?_))) | exact Rd.inRow (by (repeat (first | exact mem0 _ | apply memT))) (by assumption) (by assumption) (by assumption)) (by first | exact one_of rfl | exact fl_ones (fun _ => rfl) _) (show _ = (((xs ++ [symT [40]]) ++ writeE e) ++ [symT [41]]).length by rw [hl3, hl2]; omega) (fl_snoc (enc := encK) _ (symT [41])) (by omega) (by omega) (fun v' => by (repeat (first | exact Upd.here | apply Upd.next))) (leB rfl) fun a20 c20 => ?_
          refine WL.po (PO.assign (Ev.tmp rfl)) (leB rfl) ?_
          refine WL.nil (keepF (ts := [4]) rfl (toK (by assumption) ?_))
          (try clear hG ops)
          refine WC.ret (end1 (h' := .row (.slice a20 (((xs ++ [symT [40]]) ++ writeE e) ++ [symT [41]]).length c20) 36 4 (((xs ++ [symT [40]]) ++ writeE e) ++ [symT [41]]).length (fl encK (((xs ++ [symT [40]]) ++ writeE e) ++ [symT [41]])) :: h) (.inl rfl) rfl (RV.tmp rfl) (View.le.refl m) (by (repeat (first | exact sub0 _ | exact subA _ _ | refine subC _ ?_ | apply subK | refine subT _ ?_))) ?_)
          rw [show xs ++ opndE e = ((xs ++ [symT [40]]) ++ writeE e) ++ [symT [41]] by rw [hp]; simp]; exact ⟨_, _, _, rfl, rfl, rfl⟩
        · have hp : opndE e = writeE e := by unfold opndE opndP par; rw [d6, d7, d8, c7]; rfl
          refine WC.skip (keepF (ts := [0, 3]) rfl (toK (by assumption) ?_))
          (repeat (first | refine WC.seqK fun K hK => ?_ | refine WC.block ?_ | refine WC.regionG rfl fun ops hG => ?_))
          refine WL.po (PO.move (Ev.tmp rfl)) (leB rfl) ?_
          refine WL.po (PO.loadA Tryd.underlying27 rfl rfl (Ev.tmp rfl) (by (repeat (first | exact mem0 _ | apply memT))) rfl) (leB rfl) ?_
          refine WL.perm (Del.perm (r := .row _ _ _ _ _) (by (repeat (first | exact Del.here | apply Del.next)))) ?_
          refine WL.callK Ev.func (Evs.cons (Ev.tmp rfl) (Evs.cons (Ev.tmp rfl) Evs.nil)) (hw _ xs _ _ (hT.mono (by (repeat (first | exact sub0 _ | exact subA _ _ | refine subC _ ?_ | apply subK | refine subT _ ?_)))) hF hW (by omega)) (leB rfl) ?_
          rintro _ _ ⟨a23, c23, k23, e23, rfl, rfl⟩
          refine WL.knowRow (a := a23) (by (repeat (first | exact mem0 _ | apply memT))) fun p23 q23 r23 => ?_
          refine WL.po (PO.assign (Ev.tmp rfl)) (leB rfl) ?_
          refine WL.nil (keepF (ts := [4]) rfl (toK (by assumption) ?_))
          (try clear hG ops)
          refine WC.ret (end1 (h' := .row (.slice a23 k23 c23) 36 4 k23 (fl encK (xs ++ writeE e)) :: h) (.inl rfl) rfl (RV.tmp rfl) (View.le.refl m) (by (repeat (first | exact sub0 _ | exact subA _ _ | refine subC _ ?_ | apply subK | refine subT _ ?_))) ?_)
          rw [hp]; exact ⟨_, _, _, e23, rfl, rfl⟩
theorem wr_at {e : Ex} {ws : List (Bool × List Tok)} (hw : writeL e.l = ws) : writeE e = wr e.k e.o e.t e.n e.s ws := by rw [writeE_eq, hw]
theorem write_ct {m : View} (hg : Glob m) (e : Ex) : WCT m e := by
  refine Ex.ind (p := fun e => WCT m e) (fun e ih h xs a c hT hF hW hl => ?_) e
  obtain ⟨⟨hk, ho, ht⟩, hn, hs⟩ := hW.spec
  have hce := cntE_eq e
  have hr := hT.rd
  have hkind := good_kind hF
  have we := writeE_eq e
  have hl1 : ∀ t : Tok, xs.length + 1 = (xs ++ [t]).length := by simp
  have hl2 : ∀ t u : Tok, xs.length + 2 = (xs ++ [t, u]).length := by simp
  have hlp := prim_len e.t
  refine CT.body Tryd.call34 Tryd.func34 rfl Tryd.ntmps34 (leB rfl) rfl ?_
  (repeat (first | refine WC.seqK fun K hK => ?_ | refine WC.block ?_ | refine WC.regionG rfl fun ops hG => ?_))
  refine WL.box (Ev.tmp rfl) rfl (leB rfl) fun b3 => ?_
  refine WL.po (PO.assign Ev.const) (leB rfl) ?_
  refine WL.nil (keepF (ts := [0, 3]) rfl (toK (by assumption) ?_))
  (try clear hG ops)
  (repeat (first | refine WC.seqK fun K hK => ?_ | refine WC.block ?_ | refine WC.regionG rfl fun ops hG => ?_))
  refine WL.po (PO.fieldAddr Tryd.underlying27 rfl (Nat.ne_of_beq_eq_false rfl) (Ev.tmp rfl)) (leB rfl) ?_
  refine WL.po (PO.load1 Tryd.underlying9 rfl (Ev.tmp rfl) (by (repeat (first | exact mem0 _ | apply memT))) rfl) (leB rfl) ?_
  refine WL.po (PO.build Tryd.underlying36 rfl rfl rfl (EvP.cons Ev.const (EvP.cons (Ev.tmp rfl) EvP.nil)) rfl) (leB rfl) ?_
  refine WL.alloc rfl rfl (leB rfl) fun b5 => ?_
  refine WL.store rfl (Ev.tmp rfl) (Ev.tmp rfl) rfl rfl rfl rfl (by (repeat (first | exact Upd.here | apply Upd.next))) ?_
  refine WL.nil (keepF (ts := [0, 3, 5]) rfl (toK (by assumption) ?_))
  (try clear hG ops)
  (repeat (first | refine WC.seqK fun K hK => ?_ | refine WC.block ?_ | refine WC.regionG rfl fun ops hG => ?_))
  refine WL.po (PO.fieldAddr Tryd.underlying27 rfl (Nat.ne_of_beq_eq_false rfl) (Ev.tmp rfl)) (leB rfl) ?_
  refine WL.po (PO.load1 Tryd.underlying22 rfl (Ev.tmp rfl) (by (repeat (first | exact mem0 _ | apply memT))) rfl) (leB rfl) ?_
  refine WL.nil (keepF (ts := [0, 3, 5, 10]) rfl (toK (by assumption) ?_))
  (try clear hG ops)
  (repeat (first | refine WC.seqK fun K hK => ?_ | refine WC.block ?_ | refine WC.regionG rfl fun ops hG => ?_))
  refine WL.po (PO.bin (Ev.tmp rfl) Ev.const rfl) (leB rfl) ?_
  refine WL.po (PO.assign (Ev.tmp rfl)) (leB rfl) ?_
  refine WL.nil (keepF (ts := [0, 3, 5, 10, 11]) rfl (toK (by assumption) ?_))
  (try clear hG ops)
  (repeat (first | refine WC.seqK fun K hK => ?_ | refine WC.block ?_ | refine WC.regionG rfl fun ops hG => ?_))
  refine WC.cond (Ev.tmp rfl) (fun c11 => ?_) (fun c11 => ?_)
  · replace c11 := t_eq c11
    have we1 : writeE e = [numT e.n] := by rw [we]; simp [wr, c11]
    (repeat (first | refine WC.seqK fun K hK => ?_ | refine WC.block ?_ | refine WC.regionG rfl fun ops hG => ?_))
    refine WL.po (PO.move (Ev.tmp rfl)) (leB rfl) ?_
    refine WL.po (PO.fieldAddr Tryd.underlying27 rfl (Nat.ne_of_beq_eq_false rfl) (Ev.tmp rfl)) (leB rfl) ?_
    refine WL.po (PO.load1 Tryd.underlying21 rfl (Ev.tmp rfl) (by (repeat (first | exact mem0 _ | apply memT))) rfl) (leB rfl) ?_
    refine WL.po (PO.build Tryd.underlying36 rfl rfl rfl (EvP.cons Ev.const (EvP.cons (Ev.tmp rfl) EvP.nil)) rfl) (leB rfl) ?_
    refine WL.buildSlice EL28 rfl (EvP.cons (Ev.tmp rfl) EvP.nil) rfl rfl (by decide) rfl (leB rfl) fun b17 => ?_
    have hq := hl1 (numT e.n)
    refine WL.appendE EL28 (Ev.tmp rfl) (Ev.tmp rfl) (by first | assumption | exact Rd.ofSl (by assumption) | exact Rd.ofPt rfl (by decide) (by (repeat (first | exact mem0 _ | apply memT))) | exact Rd.mono (by assumption) (View.le.refl _) (by (repeat (first | exact sub0 _ | exact subA _ _ | refine subC _ ?_ | apply subK | refine subT _ ?_))) | exact Rd.inRow (by (repeat (first | exact mem0 _ | apply memT))) (by assumption) (by assumption) (by assumption)) (by first | exact one_of rfl | exact fl_ones (fun _ => rfl) _) hq (fl_snoc (enc := encK) _ (numT e.n)) (by omega) (by omega) (fun v' => by (repeat (first | exact Upd.here | apply Upd.next))) (leB rfl) fun a18 c18 => ?_
    refine WL.po (PO.assign (Ev.tmp rfl)) (leB rfl) ?_
    refine WL.nil (keepF (ts := [4]) rfl (toK (by assumption) ?_))
    (try clear hG ops)
    refine WC.ret (end1 (h' := .row (.slice a18 (xs ++ [numT e.n]).length c18) 36 4 (xs ++ [numT e.n]).length (fl encK (xs ++ [numT e.n])) :: h) (.inl rfl) rfl (RV.tmp rfl) (View.le.refl m) (by (repeat (first | exact sub0 _ | exact subA _ _ | refine subC _ ?_ | apply subK | refine subT _ ?_))) ?_)
    rw [we1]; exact ⟨_, _, _, rfl, rfl, rfl⟩
  · replace c11 := f_eq c11
    (repeat (first | refine WC.seqK fun K hK => ?_ | refine WC.block ?_ | refine WC.regionG rfl fun ops hG => ?_))
    refine WL.po (PO.bin (Ev.tmp rfl) Ev.const rfl) (leB rfl) ?_
    refine WL.po (PO.assign (Ev.tmp rfl)) (leB rfl) ?_
    refine WL.nil (keepF (ts := [0, 3, 5, 10, 19]) rfl (toK (by assumption) ?_))
    (try clear hG ops)
    (repeat (first | refine WC.seqK fun K hK => ?_ | refine WC.block ?_ | refine WC.regionG rfl fun ops hG => ?_))
    refine WC.cond (Ev.tmp rfl) (fun c19 => ?_) (fun c19 => ?_)
    · replace c19 := t_eq c19
      have we1 : writeE e = [byteT e.n] := by rw [we]; simp [wr, c19]
      (repeat (first | refine WC.seqK fun K hK => ?_ | refine WC.block ?_ | refine WC.regionG rfl fun ops hG => ?_))
      refine WL.po (PO.move (Ev.tmp rfl)) (leB rfl) ?_
      refine WL.po (PO.fieldAddr Tryd.underlying27 rfl (Nat.ne_of_beq_eq_false rfl) (Ev.tmp rfl)) (leB rfl) ?_
      refine WL.po (PO.load1 Tryd.underlying21 rfl (Ev.tmp rfl) (by (repeat (first | exact mem0 _ | apply memT))) rfl) (leB rfl) ?_
      refine WL.po (PO.build Tryd.underlying36 rfl rfl rfl (EvP.cons Ev.const (EvP.cons (Ev.tmp rfl) EvP.nil)) rfl) (leB rfl) ?_
      refine WL.buildSlice EL28 rfl (EvP.cons (Ev.tmp rfl) EvP.nil) rfl rfl (by decide) rfl (leB rfl) fun b25 => ?_
      have hq := hl1 (byteT e.n)
      refine WL.appendE EL28 (Ev.tmp rfl) (Ev.tmp rfl) (by first | assumption | exact Rd.ofSl (by assumption) | exact Rd.ofPt rfl (by decide) (by (repeat (first | exact mem0 _ | apply memT))) | exact Rd.mono (by assumption) (View.le.refl _) (by (repeat (first | exact sub0 _ | exact subA _ _ | refine subC _ ?_ | apply subK | refine subT _ ?_))) | exact Rd.inRow (by (repeat (first | exact mem0 _ | apply memT))) (by assumption) (by assumption) (by assumption)) (by first | exact one_of rfl | exact fl_ones (fun _ => rfl) _) hq (fl_snoc (enc := encK) _ (byteT e.n)) (by omega) (by omega) (fun v' => by (repeat (first | exact Upd.here | apply Upd.next))) (leB rfl) fun a26 c26 => ?_
      refine WL.po (PO.assign (Ev.tmp rfl)) (leB rfl) ?_
      refine WL.nil (keepF (ts := [4]) rfl (toK (by assumption) ?_))
      (try clear hG ops)
      refine WC.ret (end1 (h' := .row (.slice a26 (xs ++ [byteT e.n]).length c26) 36 4 (xs ++ [byteT e.n]).length (fl encK (xs ++ [byteT e.n])) :: h) (.inl rfl) rfl (RV.tmp rfl) (View.le.refl m) (by (repeat (first | exact sub0 _ | exact subA _ _ | refine subC _ ?_ | apply subK | refine subT _ ?_))) ?_)
      rw [we1]; exact ⟨_, _, _, rfl, rfl, rfl⟩
    · replace c19 := f_eq c19
      (repeat (first | refine WC.seqK fun K hK => ?_ | refine WC.block ?_ | refine WC.regionG rfl fun ops hG => ?_))
      refine WL.po (PO.bin (Ev.tmp rfl) Ev.const rfl) (leB rfl) ?_
      refine WL.po (PO.assign (Ev.tmp rfl)) (leB rfl) ?_
      refine WL.nil (keepF (ts := [0, 3, 5, 10, 27]) rfl (toK (by assumption) ?_))
      (try clear hG ops)
      (repeat (first | refine WC.seqK fun K hK => ?_ | refine WC.block ?_ | refine WC.regionG rfl fun ops hG => ?_))
      refine WC.cond (Ev.tmp rfl) (fun c27 => ?_) (fun c27 => ?_)
      · replace c27 := t_eq c27
        (repeat (first | refine WC.seqK fun K hK => ?_ | refine WC.block ?_ | refine WC.regionG rfl fun ops hG => ?_))
        refine WL.po (PO.fieldAddr Tryd.underlying27 rfl (Nat.ne_of_beq_eq_false rfl) (Ev.tmp rfl)) (leB rfl) ?_
        refine WL.po (PO.load1 Tryd.underlying21 rfl (Ev.tmp rfl) (by (repeat (first | exact mem0 _ | apply memT))) rfl) (leB rfl) ?_
        refine WL.po (PO.bin (Ev.tmp rfl) Ev.const rfl) (leB rfl) ?_
        refine WL.nil (keepF (ts := [0, 31]) rfl (toK (by assumption) ?_))
        (try clear hG ops)
        (repeat (first | refine WC.seqK fun K hK => ?_ | refine WC.block ?_ | refine WC.regionG rfl fun ops hG => ?_))
        refine WC.cond (Ev.tmp rfl) (fun c31 => ?_) (fun c31 => ?_)
        · replace c31 := t_eq c31
          have we1 : writeE e = [markT [70, 65, 76, 83, 69]] := by rw [we]; simp [wr, c27, c31]
          (repeat (first | refine WC.seqK fun K hK => ?_ | refine WC.block ?_ | refine WC.regionG rfl fun ops hG => ?_))
          refine WL.po (PO.move (Ev.tmp rfl)) (leB rfl) ?_
          refine WL.callP Ev.func (Evs.cons Ev.const Evs.nil) (marked_ct hg _ (by decide) _) (leB rfl) ?_
          refine WL.buildSlice EL28 rfl (EvP.cons (Ev.tmp rfl) EvP.nil) rfl rfl (by decide) rfl (leB rfl) fun b34 => ?_
          have hq := hl1 (markT [70, 65, 76, 83, 69])
          refine WL.appendE EL28 (Ev.tmp rfl) (Ev.tmp rfl) (by first | assumption | exact Rd.ofSl (by assumption) | exact Rd.ofPt rfl (by decide) (by (repeat (first | exact mem0 _ | apply memT))) | exact Rd.mono (by assumption) (View.le.refl _) (by (repeat (first | exact sub0 _ | exact subA _ _ | refine subC _ ?_ | apply subK | refine subT _ ?_))) | exact Rd.inRow (by (repeat (first | exact mem0 _ | apply memT))) (by assumption) (by assumption) (by assumption)) (by first | exact one_of rfl | exact fl_ones (fun _ => rfl) _) hq (fl_snoc (enc := encK) _ (markT [70, 65, 76, 83, 69])) (by omega) (by omega) (fun v' => by (repeat (first | exact Upd.here | apply Upd.next))) (leB rfl) fun a35 c35 => ?_
          refine WL.po (PO.assign (Ev.tmp rfl)) (leB rfl) ?_
          refine WL.nil (keepF (ts := [4]) rfl (toK (by assumption) ?_))
          (try clear hG ops)
          refine WC.ret (end1 (h' := .row (.slice a35 (xs ++ [markT [70, 65, 76, 83, 69]]).length c35) 36 4 (xs ++ [markT [70, 65, 76, 83, 69]]).length (fl encK (xs ++ [markT [70, 65, 76, 83, 69]])) :: h) (.inl rfl) rfl (RV.tmp rfl) (View.le.refl m) (by (repeat (first | exact sub0 _ | exact subA _ _ | refine subC _ ?_ | apply subK | refine subT _ ?_))) ?_)
          rw [we1]; exact ⟨_, _, _, rfl, rfl, rfl⟩
        · replace c31 := f_eq c31
          have we1 : writeE e = [markT [84, 82, 85, 69]] := by rw [we]; simp [wr, c27, c31]
          refine WC.skip (keepF (ts := [0]) rfl (toK (by assumption) ?_))
          (repeat (first | refine WC.seqK fun K hK => ?_ | refine WC.block ?_ | refine WC.regionG rfl fun ops hG => ?_))
          refine WL.po (PO.move (Ev.tmp rfl)) (leB rfl) ?_
          refine WL.callP Ev.func (Evs.cons Ev.const Evs.nil) (marked_ct hg _ (by decide) _) (leB rfl) ?_
          refine WL.buildSlice EL28 rfl (EvP.cons (Ev.tmp rfl) EvP.nil) rfl rfl (by decide) rfl (leB rfl) fun b38 => ?_
          have hq := hl1 (markT [84, 82, 85, 69])
          refine WL.appendE EL28 (Ev.tmp rfl) (Ev.tmp rfl) (by first | assumption | exact Rd.ofSl (by assumption) | exact Rd.ofPt rfl (by decide) (by (repeat (first | exact mem0 _ | apply memT))) | exact Rd.mono (by assumption) (View.le.refl _) (by (repeat (first | exact sub0 _ | exact subA _ _ | refine subC _ ?_ | apply subK | refine subT _ ?_))) | exact Rd.inRow (by (repeat (first | exact mem0 _ | apply memT))) (by assumption) (by assumption) (by assumption)) (by first | exact one_of rfl | exact fl_ones (fun _ => rfl) _) hq (fl_snoc (enc := encK) _ (markT [84, 82, 85, 69])) (by omega) (by omega) (fun v' => by (repeat (first | exact Upd.here | apply Upd.next))) (leB rfl) fun a39 c39 => ?_
          refine WL.po (PO.assign (Ev.tmp rfl)) (leB rfl) ?_
          refine WL.nil (keepF (ts := [4]) rfl (toK (by assumption) ?_))
          (try clear hG ops)
          refine WC.ret (end1 (h' := .row (.slice a39 (xs ++ [markT [84, 82, 85, 69]]).length c39) 36 4 (xs ++ [markT [84, 82, 85, 69]]).length (fl encK (xs ++ [markT [84, 82, 85, 69]])) :: h) (.inl rfl) rfl (RV.tmp rfl) (View.le.refl m) (by (repeat (first | exact sub0 _ | exact subA _ _ | refine subC _ ?_ | apply subK | refine subT _ ?_))) ?_)
          rw [we1]; exact ⟨_, _, _, rfl, rfl, rfl⟩
      · replace c27 := f_eq c27
        (repeat (first | refine WC.seqK fun K hK => ?_ | refine WC.block ?_ | refine WC.regionG rfl fun ops hG => ?_))
        refine WL.po (PO.bin (Ev.tmp rfl) Ev.const rfl) (leB rfl) ?_
        refine WL.po (PO.assign (Ev.tmp rfl)) (leB rfl) ?_
        refine WL.nil (keepF (ts := [0, 3, 5, 10, 40]) rfl (toK (by assumption) ?_))
        (try clear hG ops)
        (repeat (first | refine WC.seqK fun K hK => ?_ | refine WC.block ?_ | refine WC.regionG rfl fun ops hG => ?_))
        refine WC.cond (Ev.tmp rfl) (fun c40 => ?_) (fun c40 => ?_)
        · replace c40 := t_eq c40
          have we1 : writeE e = [nameT e.s] := by rw [we]; simp [wr, c40]
          (repeat (first | refine WC.seqK fun K hK => ?_ | refine WC.block ?_ | refine WC.regionG rfl fun ops hG => ?_))
          refine WL.po (PO.move (Ev.tmp rfl)) (leB rfl) ?_
          refine WL.po (PO.loadA Tryd.underlying36 rfl rfl (Ev.tmp rfl) (by (repeat (first | exact mem0 _ | apply memT))) rfl) (leB rfl) ?_
          refine WL.buildSlice EL28 rfl (EvP.cons (Ev.tmp rfl) EvP.nil) rfl rfl (by decide) rfl (leB rfl) fun b44 => ?_
          have hq := hl1 (nameT e.s)
          refine WL.appendE EL28 (Ev.tmp rfl) (Ev.tmp rfl) (by first | assumption | exact Rd.ofSl (by assumption) | exact Rd.ofPt rfl (by decide) (by (repeat (first | exact mem0 _ | apply memT))) | exact Rd.mono (by assumption) (View.le.refl _) (by (repeat (first | exact sub0 _ | exact subA _ _ | refine subC _ ?_ | apply subK | refine subT _ ?_))) | exact Rd.inRow (by (repeat (first | exact mem0 _ | apply memT))) (by assumption) (by assumption) (by assumption)) (by first | exact one_of rfl | exact fl_ones (fun _ => rfl) _) hq (fl_snoc (enc := encK) _ (nameT e.s)) (by omega) (by omega) (fun v' => by (repeat (first | exact Upd.here | apply Upd.next))) (leB rfl) fun a45 c45 => ?_
          refine WL.po (PO.assign (Ev.tmp rfl)) (leB rfl) ?_
          refine WL.nil (keepF (ts := [4]) rfl (toK (by assumption) ?_))
          (try clear hG ops)
          refine WC.ret (end1 (h' := .row (.slice a45 (xs ++ [nameT e.s]).length c45) 36 4 (xs ++ [nameT e.s]).length (fl encK (xs ++ [nameT e.s])) :: h) (.inl rfl) rfl (RV.tmp rfl) (View.le.refl m) (by (repeat (first | exact sub0 _ | exact subA _ _ | refine subC _ ?_ | apply subK | refine subT _ ?_))) ?_)
          rw [we1]; exact ⟨_, _, _, rfl, rfl, rfl⟩
        · replace c40 := f_eq c40
          (repeat (first | refine WC.seqK fun K hK => ?_ | refine WC.block ?_ | refine WC.regionG rfl fun ops hG => ?_))
          refine WL.po (PO.bin (Ev.tmp rfl) Ev.const rfl) (leB rfl) ?_
          refine WL.po (PO.assign (Ev.tmp rfl)) (leB rfl) ?_
          refine WL.nil (keepF (ts := [0, 3, 5, 10, 46]) rfl (toK (by assumption) ?_))
          (try clear hG ops)
          (repeat (first | refine WC.seqK fun K hK => ?_ | refine WC.block ?_ | refine WC.regionG rfl fun ops hG => ?_))
          refine WC.cond (Ev.tmp rfl) (fun c46 => ?_) (fun c46 => ?_)
          · replace c46 := t_eq c46
            have we1 : writeE e = [markT [83, 73, 90, 69], nameT e.s] := by rw [we]; simp [wr, c46]
            (repeat (first | refine WC.seqK fun K hK => ?_ | refine WC.block ?_ | refine WC.regionG rfl fun ops hG => ?_))
            refine WC.take (r := .row _ _ _ _ _) (by (repeat (first | exact Del.here | apply Del.next))) ?_
            refine WC.drawS [1] (.op 0 (.op 2 (.op 1 .nil))) [3, 4, 5] _ [_] mixed (fun _ _ _ _ _ h => h) [0] (by kernel_rfl) ?_
            refine SR.po rfl rfl (PO.move (Ev.tmp rfl)) (leB rfl) ?_
            refine SR.po rfl rfl (PO.loadA Tryd.underlying36 rfl rfl (Ev.tmp rfl) (by (repeat (first | exact mem0 _ | apply memT))) rfl) (leB rfl) ?_
            refine SR.callP rfl rfl Ev.func (Evs.cons Ev.const Evs.nil) (fun fr => marked_ct hg _ (by decide) _) (leB rfl) ?_
            refine SR.nil rfl rfl ?_
            refine WL.buildSlice EL28 rfl (EvP.cons (Ev.tmp rfl) (EvP.cons (Ev.tmp rfl) EvP.nil)) rfl rfl (by decide) rfl (leB rfl) fun b51 => ?_
            have hq := hl2 (markT [83, 73, 90, 69]) (nameT e.s)
            refine WL.appendE EL28 (Ev.tmp rfl) (Ev.tmp rfl) (by first | assumption | exact Rd.ofSl (by assumption) | exact Rd.ofPt rfl (by decide) (by (repeat (first | exact mem0 _ | apply memT))) | exact Rd.mono (by assumption) (View.le.refl _) (by (repeat (first | exact sub0 _ | exact subA _ _ | refine subC _ ?_ | apply subK | refine subT _ ?_))) | exact Rd.inRow (by (repeat (first | exact mem0 _ | apply memT))) (by assumption) (by assumption) (by assumption)) (by first | exact one_of rfl | exact fl_ones (fun _ => rfl) _) hq (fl_app (enc := encK) xs [markT [83, 73, 90, 69], nameT e.s]).symm (by omega) (by omega) (fun v' => by (repeat (first | exact Upd.here | apply Upd.next))) (leB rfl) fun a52 c52 => ?_
            refine WL.po (PO.assign (Ev.tmp rfl)) (leB rfl) ?_
            refine WL.nil (keepF (ts := [4]) rfl (toK (by assumption) ?_))
            (try clear hG ops)
            refine WC.ret (end1 (h' := .row (.slice a52 (xs ++ [markT [83, 73, 90, 69], nameT e.s]).length c52) 36 4 (xs ++ [markT [83, 73, 90, 69], nameT e.s]).length (fl encK (xs ++ [markT [83, 73, 90, 69], nameT e.s])) :: h) (.inl rfl) rfl (RV.tmp rfl) (View.le.refl m) (by (repeat (first | exact sub0 _ | exact subA _ _ | refine subC _ ?_ | apply subK | refine subT _ ?_))) ?_)
            rw [we1]; exact ⟨_, _, _, rfl, rfl, rfl⟩
          · replace c46 := f_eq c46
            (repeat (first | refine WC.seqK fun K hK => ?_ | refine WC.block ?_ | refine WC.regionG rfl fun ops hG => ?_))
            refine WL.po (PO.bin (Ev.tmp rfl) Ev.const rfl) (leB rfl) ?_
            refine WL.po (PO.assign (Ev.tmp rfl)) (leB rfl) ?_
            refine WL.nil (keepF (ts := [0, 3, 5, 10, 53]) rfl (toK (by assumption) ?_))
            (try clear hG ops)
            (repeat (first | refine WC.seqK fun K hK => ?_ | refine WC.block ?_ | refine WC.regionG rfl fun ops hG => ?_))
            refine WC.cond (Ev.tmp rfl) (fun c53 => ?_) (fun c53 => ?_)
            · replace c53 := t_eq c53
              obtain ⟨x, hx⟩ := one_part hF (.inl c53)
              have hx0 : e.l[0]? = some x := by rw [hx]; rfl
              have hxl : e.l.length = 1 := by rw [hx]; rfl
              have hxm : x ∈ e.l := by rw [hx]; exact List.Mem.head _
              have hcx : cntL e.l = cntE x := by rw [hx]; simp [cntL]
              have we1 : xs ++ writeE e = ((xs ++ [nameT e.s, symT [91]]) ++ writeE x) ++ [symT [93]] := by rw [we, hx]; simp [wr, c53, writeL]
              have hwx := write_len x (hF.part hxm)
              have hl3 : ((xs ++ [nameT e.s, symT [91]]) ++ writeE x).length = xs.length + 2 + (writeE x).length := by simp; omega
              have hl4 : (((xs ++ [nameT e.s, symT [91]]) ++ writeE x) ++ [symT [93]]).length = xs.length + 3 + (writeE x).length := by simp; omega
              have hl5 := hl2 (nameT e.s) (symT [91])
              (repeat (first | refine WC.seqK fun K hK => ?_ | refine WC.block ?_ | refine WC.regionG rfl fun ops hG => ?_))
              refine WC.take (r := .row _ _ _ _ _) (by (repeat (first | exact Del.here | apply Del.next))) ?_
              refine WC.drawS [2, 3, 4] (.op 0 (.op 1 (.op 5 (.op 6 (.op 7 (.op 8 (.op 2 (.op 3 (.op 4 .nil))))))))) [9, 10, 11, 12, 13] _ [_] mixed (fun _ _ _ _ _ h => h) [] (by kernel_rfl) ?_
              refine SR.po rfl rfl (PO.move (Ev.tmp rfl)) (leB rfl) ?_
              refine SR.po rfl rfl (PO.loadA Tryd.underlying36 rfl rfl (Ev.tmp rfl) (by (repeat (first | exact mem0 _ | apply memT))) rfl) (leB rfl) ?_
              refine SR.po rfl rfl (PO.fieldAddr Tryd.underlying27 rfl (Nat.ne_of_beq_eq_false rfl) (Ev.tmp rfl)) (leB rfl) ?_
              refine SR.po rfl rfl (PO.load1 Tryd.underlying25 rfl (Ev.tmp rfl) (by (repeat (first | exact mem0 _ | apply memT))) rfl) (leB rfl) ?_
              refine SR.po rfl rfl (PO.idx EL25.und EL25.size EL25.posz (Ev.tmp rfl) Ev.const (by first | assumption | exact Rd.ofSl (by assumption) | exact Rd.ofPt rfl (by decide) (by (repeat (first | exact mem0 _ | apply memT))) | exact Rd.mono (by assumption) (View.le.refl _) (by (repeat (first | exact sub0 _ | exact subA _ _ | refine subC _ ?_ | apply subK | refine subT _ ?_))) | exact Rd.inRow (by (repeat (first | exact mem0 _ | apply memT))) (by assumption) (by assumption) (by assumption)) rfl (q := 0) (by omega)) (leB rfl) ?_
              refine SR.po rfl rfl (PO.loadFA Tryd.underlying27 rfl rfl exE_len (by first | assumption | exact Rd.ofSl (by assumption) | exact Rd.ofPt rfl (by decide) (by (repeat (first | exact mem0 _ | apply memT))) | exact Rd.mono (by assumption) (View.le.refl _) (by (repeat (first | exact sub0 _ | exact subA _ _ | refine subC _ ?_ | apply subK | refine subT _ ?_))) | exact Rd.inRow (by (repeat (first | exact mem0 _ | apply memT))) (by assumption) (by assumption) (by assumption)) (Ev.tmp rfl) (by assumption) rfl rfl (Nat.succ_pos _)) (leB rfl) ?_
              refine SR.callP rfl rfl Ev.func (Evs.cons Ev.const Evs.nil) (fun fr => sym_ct _ _ _) (leB rfl) ?_
              refine SR.buildSlice rfl rfl EL28 rfl (EvP.cons (Ev.tmp rfl) (EvP.cons (Ev.tmp rfl) EvP.nil)) rfl rfl (by decide) rfl (leB rfl) fun b58 => ?_
              refine SR.appendE rfl rfl EL28 (Ev.tmp rfl) (Ev.tmp rfl) (by first | assumption | exact Rd.ofSl (by assumption) | exact Rd.ofPt rfl (by decide) (by (repeat (first | exact mem0 _ | apply memT))) | exact Rd.mono (by assumption) (View.le.refl _) (by (repeat (first | exact sub0 _ | exact subA _ _ | refine subC _ ?_ | apply subK | refine subT _ ?_))) | exact Rd.inRow (by (repeat (first | exact mem0 _ | apply memT))) (by assumption) (by assumption) (by assumption)) (by first | exact one_of rfl | exact fl_ones (fun _ => rfl) _) hl5 (fl_app (enc := encK) xs [nameT e.s, symT [91]]).symm (by omega) (by omega) (fun v' => by (repeat (first | exact Upd.here | apply Upd.next))) (leB rfl) fun a59 c59 => ?_
              refine SR.nil rfl rfl ?_
              refine WL.perm (Del.perm (r := .row _ _ _ _ _) (by (repeat (first | exact Del.here | apply Del.next)))) ?_
              refine WL.callK Ev.func (Evs.cons (Ev.tmp rfl) (Evs.cons (Ev.tmp rfl) Evs.nil)) (ih x hxm _ (xs ++ [nameT e.s, symT [91]]) _ _ ((hT.part hxm).mono (by (repeat (first | exact sub0 _ | exact subA _ _ | refine subC _ ?_ | apply subK | refine subT _ ?_)))) (hF.part hxm) (hW.part hxm) (by omega)) (leB rfl) ?_
              rintro _ _ ⟨a64, c64, k64, e64, rfl, rfl⟩
              refine WL.knowRow (a := a64) (by (repeat (first | exact mem0 _ | apply memT))) fun p64 q64 r64 => ?_
              subst e64
              refine WL.callP Ev.func (Evs.cons Ev.const Evs.nil) (sym_ct _ _ _) (leB rfl) ?_
              refine WL.buildSlice EL28 rfl (EvP.cons (Ev.tmp rfl) EvP.nil) rfl rfl (by decide) rfl (leB rfl) fun b66 => ?_
              refine WL.appendE EL28 (Ev.tmp rfl) (Ev.tmp rfl) (by first | assumption | exact Rd.ofSl (by assumption) | exact Rd.ofPt rfl (by decide) (by (repeat (first | exact mem0 _ | apply memT))) | exact Rd.mono (by assumption) (View.le.refl _) (by (repeat (first | exact sub0 _ | exact subA _ _ | refine subC _ ?_ | apply subK | refine subT _ ?_))) | exact Rd.inRow (by (repeat (first | exact mem0 _ | apply memT))) (by assumption) (by assumption) (by assumption)) (by first | exact one_of rfl | exact fl_ones (fun _ => rfl) _) (show _ = (((xs ++ [nameT e.s, symT [91]]) ++ writeE x) ++ [symT [93]]).length by rw [hl4, hl3]; omega) (fl_snoc (enc := encK) _ (symT [93])) (by omega) (by omega) (fun v' => by (repeat (first | exact Upd.here | apply Upd.next))) (leB rfl) fun a67 c67 => ?_
              refine WL.po (PO.assign (Ev.tmp rfl)) (leB rfl) ?_
              refine WL.nil (keepF (ts := [4]) rfl (toK (by assumption) ?_))
              (try clear hG ops)
              refine WC.ret (end1 (h' := .row (.slice a67 (((xs ++ [nameT e.s, symT [91]]) ++ writeE x) ++ [symT [93]]).length c67) 36 4 (((xs ++ [nameT e.s, symT [91]]) ++ writeE x) ++ [symT [93]]).length (fl encK (((xs ++ [nameT e.s, symT [91]]) ++ writeE x) ++ [symT [93]])) :: h) (.inl rfl) rfl (RV.tmp rfl) (View.le.refl m) (by (repeat (first | exact sub0 _ | exact subA _ _ | refine subC _ ?_ | apply subK | refine subT _ ?_))) ?_)
              rw [we1]; exact ⟨_, _, _, rfl, rfl, rfl⟩
            · replace c53 := f_eq c53
              (repeat (first | refine WC.seqK fun K hK => ?_ | refine WC.block ?_ | refine WC.regionG rfl fun ops hG => ?_))
              refine WL.po (PO.bin (Ev.tmp rfl) Ev.const rfl) (leB rfl) ?_
              refine WL.po (PO.assign (Ev.tmp rfl)) (leB rfl) ?_
              refine WL.nil (keepF (ts := [0, 3, 10, 68]) rfl (toK (by assumption) ?_))
              (try clear hG ops)
              (repeat (first | refine WC.seqK fun K hK => ?_ | refine WC.block ?_ | refine WC.regionG rfl fun ops hG => ?_))
              refine WC.cond (Ev.tmp rfl) (fun c68 => ?_) (fun c68 => ?_)
              · replace c68 := t_eq c68
                obtain ⟨x, hx⟩ := one_part hF (.inr (.inl c68))
                have hx0 : e.l[0]? = some x := by rw [hx]; rfl
                have hxl : e.l.length = 1 := by rw [hx]; rfl
                have hxm : x ∈ e.l := by rw [hx]; exact List.Mem.head _
                have hcx : cntL e.l = cntE x := by rw [hx]; simp [cntL]
                have we1 : xs ++ writeE e = (xs ++ [operT e.o]) ++ opndE x := by rw [we, hx]; simp [wr, c68, writeL, opndE]
                have hl3 := hl1 (operT e.o)
                (repeat (first | refine WC.seqK fun K hK => ?_ | refine WC.block ?_ | refine WC.regionG rfl fun ops hG => ?_))
                refine WC.take (r := .row _ _ _ _ _) (by (repeat (first | exact Del.here | apply Del.next))) ?_
                refine WC.drawS [3, 4, 5] (.op 0 (.op 1 (.op 2 (.op 6 (.op 7 (.op 8 (.op 9 (.op 3 (.op 4 (.op 5 .nil)))))))))) [10, 11] _ [_] mixed (fun _ _ _ _ _ h => h) [] (by kernel_rfl) ?_
                refine SR.po rfl rfl (PO.move (Ev.tmp rfl)) (leB rfl) ?_
                refine SR.po rfl rfl (PO.fieldAddr Tryd.underlying27 rfl (Nat.ne_of_beq_eq_false rfl) (Ev.tmp rfl)) (leB rfl) ?_
                refine SR.po rfl rfl (PO.load1 Tryd.underlying23 rfl (Ev.tmp rfl) (by (repeat (first | exact mem0 _ | apply memT))) rfl) (leB rfl) ?_
                refine SR.po rfl rfl (PO.fieldAddr Tryd.underlying27 rfl (Nat.ne_of_beq_eq_false rfl) (Ev.tmp rfl)) (leB rfl) ?_
                refine SR.po rfl rfl (PO.load1 Tryd.underlying25 rfl (Ev.tmp rfl) (by (repeat (first | exact mem0 _ | apply memT))) rfl) (leB rfl) ?_
                refine SR.po rfl rfl (PO.idx EL25.und EL25.size EL25.posz (Ev.tmp rfl) Ev.const (by first | assumption | exact Rd.ofSl (by assumption) | exact Rd.ofPt rfl (by decide) (by (repeat (first | exact mem0 _ | apply memT))) | exact Rd.mono (by assumption) (View.le.refl _) (by (repeat (first | exact sub0 _ | exact subA _ _ | refine subC _ ?_ | apply subK | refine subT _ ?_))) | exact Rd.inRow (by (repeat (first | exact mem0 _ | apply memT))) (by assumption) (by assumption) (by assumption)) rfl (q := 0) (by omega)) (leB rfl) ?_
                refine SR.po rfl rfl (PO.loadFA Tryd.underlying27 rfl rfl exE_len (by first | assumption | exact Rd.ofSl (by assumption) | exact Rd.ofPt rfl (by decide) (by (repeat (first | exact mem0 _ | apply memT))) | exact Rd.mono (by assumption) (View.le.refl _) (by (repeat (first | exact sub0 _ | exact subA _ _ | refine subC _ ?_ | apply subK | refine subT _ ?_))) | exact Rd.inRow (by (repeat (first | exact mem0 _ | apply memT))) (by assumption) (by assumption) (by assumption)) (Ev.tmp rfl) (by assumption) rfl rfl (Nat.succ_pos _)) (leB rfl) ?_
                refine SR.callP rfl rfl Ev.func (Evs.cons (Ev.tmp rfl) Evs.nil) (fun fr => operator_ct hg _ (by assumption) _) (leB rfl) ?_
                refine SR.buildSlice rfl rfl EL28 rfl (EvP.cons (Ev.tmp rfl) EvP.nil) rfl rfl (by decide) rfl (leB rfl) fun b74 => ?_
                refine SR.appendE rfl rfl EL28 (Ev.tmp rfl) (Ev.tmp rfl) (by first | assumption | exact Rd.ofSl (by assumption) | exact Rd.ofPt rfl (by decide) (by (repeat (first | exact mem0 _ | apply memT))) | exact Rd.mono (by assumption) (View.le.refl _) (by (repeat (first | exact sub0 _ | exact subA _ _ | refine subC _ ?_ | apply subK | refine subT _ ?_))) | exact Rd.inRow (by (repeat (first | exact mem0 _ | apply memT))) (by assumption) (by assumption) (by assumption)) (by first | exact one_of rfl | exact fl_ones (fun _ => rfl) _) hl3 (fl_snoc (enc := encK) _ (operT e.o)) (by omega) (by omega) (fun v' => by (repeat (first | exact Upd.here | apply Upd.next))) (leB rfl) fun a75 c75 => ?_
                refine SR.nil rfl rfl ?_
                refine WL.perm (Del.perm (r := .row _ _ _ _ _) (by (repeat (first | exact Del.here | apply Del.next)))) ?_
                refine WL.callK Ev.func (Evs.cons (Ev.tmp rfl) (Evs.cons (Ev.tmp rfl) Evs.nil)) (opnd_of x (ih x hxm) _ (xs ++ [operT e.o]) _ _ ((hT.part hxm).mono (by (repeat (first | exact sub0 _ | exact subA _ _ | refine subC _ ?_ | apply subK | refine subT _ ?_)))) (hF.part hxm) (hW.part hxm) (by omega)) (leB rfl) ?_
                rintro _ _ ⟨a80, c80, k80, e80, rfl, rfl⟩
                refine WL.knowRow (a := a80) (by (repeat (first | exact mem0 _ | apply memT))) fun p80 q80 r80 => ?_
                subst e80
                refine WL.po (PO.assign (Ev.tmp rfl)) (leB rfl) ?_
                refine WL.nil (keepF (ts := [4]) rfl (toK (by assumption) ?_))
                (try clear hG ops)
                refine WC.ret (end1 (h' := .row (.slice a80 ((xs ++ [operT e.o]) ++ opndE x).length c80) 36 4 ((xs ++ [operT e.o]) ++ opndE x).length (fl encK ((xs ++ [operT e.o]) ++ opndE x)) :: h) (.inl rfl) rfl (RV.tmp rfl) (View.le.refl m) (by (repeat (first | exact sub0 _ | exact subA _ _ | refine subC _ ?_ | apply subK | refine subT _ ?_))) ?_)
                rw [we1]; exact ⟨_, _, _, rfl, rfl, rfl⟩
              · replace c68 := f_eq c68
                (repeat (first | refine WC.seqK fun K hK => ?_ | refine WC.block ?_ | refine WC.regionG rfl fun ops hG => ?_))
                refine WL.po (PO.bin (Ev.tmp rfl) Ev.const rfl) (leB rfl) ?_
                refine WL.po (PO.assign (Ev.tmp rfl)) (leB rfl) ?_
                refine WL.nil (keepF (ts := [0, 3, 81]) rfl (toK (by assumption) ?_))
                (try clear hG ops)
                (repeat (first | refine WC.seqK fun K hK => ?_ | refine WC.block ?_ | refine WC.regionG rfl fun ops hG => ?_))
                refine WC.cond (Ev.tmp rfl) (fun c81 => ?_) (fun c81 => ?_)
                · replace c81 := t_eq c81
                  obtain ⟨x, hx⟩ := one_part hF (.inr (.inr c81))
                  have hx0 : e.l[0]? = some x := by rw [hx]; rfl
                  have hxl : e.l.length = 1 := by rw [hx]; rfl
                  have hxm : x ∈ e.l := by rw [hx]; exact List.Mem.head _
                  have hcx : cntL e.l = cntE x := by rw [hx]; simp [cntL]
                  have we1 : xs ++ writeE e = (xs ++ [markT (primP e.t)]) ++ opndE x := by rw [we, hx]; simp [wr, c81, writeL, opndE]
                  have hl3 := hl1 (markT (primP e.t))
                  (repeat (first | refine WC.seqK fun K hK => ?_ | refine WC.block ?_ | refine WC.regionG rfl fun ops hG => ?_))
                  refine WC.take (r := .row _ _ _ _ _) (by (repeat (first | exact Del.here | apply Del.next))) ?_
                  refine WC.drawS [3, 4, 5, 6] (.op 0 (.op 1 (.op 2 (.op 7 (.op 8 (.op 9 (.op 10 (.op 3 (.op 4 (.op 5 (.op 6 .nil))))))))))) [11, 12] _ [_] mixed (fun _ _ _ _ _ h => h) [] (by kernel_rfl) ?_
                  refine SR.po rfl rfl (PO.move (Ev.tmp rfl)) (leB rfl) ?_
                  refine SR.po rfl rfl (PO.fieldAddr Tryd.underlying27 rfl (Nat.ne_of_beq_eq_false rfl) (Ev.tmp rfl)) (leB rfl) ?_
                  refine SR.po rfl rfl (PO.load1 Tryd.underlying24 rfl (Ev.tmp rfl) (by (repeat (first | exact mem0 _ | apply memT))) rfl) (leB rfl) ?_
                  refine SR.po rfl rfl (PO.fieldAddr Tryd.underlying27 rfl (Nat.ne_of_beq_eq_false rfl) (Ev.tmp rfl)) (leB rfl) ?_
                  refine SR.po rfl rfl (PO.load1 Tryd.underlying25 rfl (Ev.tmp rfl) (by (repeat (first | exact mem0 _ | apply memT))) rfl) (leB rfl) ?_
                  refine SR.po rfl rfl (PO.idx EL25.und EL25.size EL25.posz (Ev.tmp rfl) Ev.const (by first | assumption | exact Rd.ofSl (by assumption) | exact Rd.ofPt rfl (by decide) (by (repeat (first | exact mem0 _ | apply memT))) | exact Rd.mono (by assumption) (View.le.refl _) (by (repeat (first | exact sub0 _ | exact subA _ _ | refine subC _ ?_ | apply subK | refine subT _ ?_))) | exact Rd.inRow (by (repeat (first | exact mem0 _ | apply memT))) (by assumption) (by assumption) (by assumption)) rfl (q := 0) (by omega)) (leB rfl) ?_
                  refine SR.po rfl rfl (PO.loadFA Tryd.underlying27 rfl rfl exE_len (by first | assumption | exact Rd.ofSl (by assumption) | exact Rd.ofPt rfl (by decide) (by (repeat (first | exact mem0 _ | apply memT))) | exact Rd.mono (by assumption) (View.le.refl _) (by (repeat (first | exact sub0 _ | exact subA _ _ | refine subC _ ?_ | apply subK | refine subT _ ?_))) | exact Rd.inRow (by (repeat (first | exact mem0 _ | apply memT))) (by assumption) (by assumption) (by assumption)) (Ev.tmp rfl) (by assumption) rfl rfl (Nat.succ_pos _)) (leB rfl) ?_
                  refine SR.callP rfl rfl Ev.func (Evs.cons (Ev.tmp rfl) Evs.nil) (fun fr => prim_ct _ _ _) (leB rfl) ?_
                  refine SR.callP rfl rfl Ev.func (Evs.cons (Ev.tmp rfl) Evs.nil) (fun fr => marked_ct hg (primP e.t) (by omega) _) (leB rfl) ?_
                  refine SR.buildSlice rfl rfl EL28 rfl (EvP.cons (Ev.tmp rfl) EvP.nil) rfl rfl (by decide) rfl (leB rfl) fun b88 => ?_
                  refine SR.appendE rfl rfl EL28 (Ev.tmp rfl) (Ev.tmp rfl) (by first | assumption | exact Rd.ofSl (by assumption) | exact Rd.ofPt rfl (by decide) (by (repeat (first | exact mem0 _ | apply memT))) | exact Rd.mono (by assumption) (View.le.refl _) (by (repeat (first | exact sub0 _ | exact subA _ _ | refine subC _ ?_ | apply subK | refine subT _ ?_))) | exact Rd.inRow (by (repeat (first | exact mem0 _ | apply memT))) (by assumption) (by assumption) (by assumption)) (by first | exact one_of rfl | exact fl_ones (fun _ => rfl) _) hl3 (fl_snoc (enc := encK) _ (markT (primP e.t))) (by omega) (by omega) (fun v' => by (repeat (first | exact Upd.here | apply Upd.next))) (leB rfl) fun a89 c89 => ?_
                  refine SR.nil rfl rfl ?_
                  refine WL.perm (Del.perm (r := .row _ _ _ _ _) (by (repeat (first | exact Del.here | apply Del.next)))) ?_
                  refine WL.callK Ev.func (Evs.cons (Ev.tmp rfl) (Evs.cons (Ev.tmp rfl) Evs.nil)) (opnd_of x (ih x hxm) _ (xs ++ [markT (primP e.t)]) _ _ ((hT.part hxm).mono (by (repeat (first | exact sub0 _ | exact subA _ _ | refine subC _ ?_ | apply subK | refine subT _ ?_)))) (hF.part hxm) (hW.part hxm) (by omega)) (leB rfl) ?_
                  rintro _ _ ⟨a94, c94, k94, e94, rfl, rfl⟩
                  refine WL.knowRow (a := a94) (by (repeat (first | exact mem0 _ | apply memT))) fun p94 q94 r94 => ?_
                  subst e94
                  refine WL.po (PO.assign (Ev.tmp rfl)) (leB rfl) ?_
                  refine WL.nil (keepF (ts := [4]) rfl (toK (by assumption) ?_))
                  (try clear hG ops)
                  refine WC.ret (end1 (h' := .row (.slice a94 ((xs ++ [markT (primP e.t)]) ++ opndE x).length c94) 36 4 ((xs ++ [markT (primP e.t)]) ++ opndE x).length (fl encK ((xs ++ [markT (primP e.t)]) ++ opndE x)) :: h) (.inl rfl) rfl (RV.tmp rfl) (View.le.refl m) (by (repeat (first | exact sub0 _ | exact subA _ _ | refine subC _ ?_ | apply subK | refine subT _ ?_))) ?_)
                  rw [we1]; exact ⟨_, _, _, rfl, rfl, rfl⟩
                · replace c81 := f_eq c81
                  have hk7 : e.k = 7 := by
                    rcases hkind with h | h | h | h | h | h | h | h | h <;> first | exact h | (exfalso; simp_all; done)
                  obtain ⟨x, y, hx⟩ := two_parts hF hk7
                  have hx0 : e.l[0]? = some x := by rw [hx]; rfl
                  have hy0 : e.l[1]? = some y := by rw [hx]; rfl
                  have hxl : e.l.length = 2 := by rw [hx]; rfl
                  have hxm : x ∈ e.l := by rw [hx]; exact List.Mem.head _
                  have hym : y ∈ e.l := by rw [hx]; exact List.Mem.tail _ (List.Mem.head _)
                  have hcx : cntL e.l = cntE x + cntE y := by rw [hx]; simp [cntL]
                  have we1 : xs ++ writeE e = ((xs ++ opndE x) ++ [operT e.o]) ++ opndE y := by rw [we, hx]; simp [wr, hk7, writeL, opndE]
                  have hwx := write_len x (hF.part hxm)
                  have hox := opnd_len (par x.k, writeE x)
                  have hl3 : (xs ++ opndE x).length + 1 = ((xs ++ opndE x) ++ [operT e.o]).length := (@List.length_append _ (xs ++ opndE x) [operT e.o]).symm
                  have hl4 : (xs ++ opndE x).length ≤ xs.length + 5 * cntE x := by
                    rw [List.length_append]
                    have : (opndE x).length ≤ (writeE x).length + 2 := hox
                    have := cntE_eq x
                    omega
                  have hcy := cntE_eq y
                  have hcx2 := cntE_eq x
                  refine WC.skip (keepF (ts := [0, 3]) rfl (toK (by assumption) ?_))
                  (repeat (first | refine WC.seqK fun K hK => ?_ | refine WC.block ?_ | refine WC.regionG rfl fun ops hG => ?_))
                  refine WC.take (r := .row _ _ _ _ _) (by (repeat (first | exact Del.here | apply Del.next))) ?_
                  refine WC.drawS [5, 8, 9, 10] (.op 0 (.op 1 (.op 2 (.op 3 (.op 4 (.op 6 (.op 7 (.op 11 (.op 12 (.op 13 (.op 14 (.op 5 (.op 8 (.op 9 (.op 10 .nil))))))))))))))) [15, 16] _ [_] mixed (fun _ _ _ _ _ h => h) [] (by kernel_rfl) ?_
                  refine SR.po rfl rfl (PO.move (Ev.tmp rfl)) (leB rfl) ?_
                  refine SR.po rfl rfl (PO.fieldAddr Tryd.underlying27 rfl (Nat.ne_of_beq_eq_false rfl) (Ev.tmp rfl)) (leB rfl) ?_
                  refine SR.po rfl rfl (PO.load1 Tryd.underlying25 rfl (Ev.tmp rfl) (by (repeat (first | exact mem0 _ | apply memT))) rfl) (leB rfl) ?_
                  refine SR.po rfl rfl (PO.idx EL25.und EL25.size EL25.posz (Ev.tmp rfl) Ev.const (by first | assumption | exact Rd.ofSl (by assumption) | exact Rd.ofPt rfl (by decide) (by (repeat (first | exact mem0 _ | apply memT))) | exact Rd.mono (by assumption) (View.le.refl _) (by (repeat (first | exact sub0 _ | exact subA _ _ | refine subC _ ?_ | apply subK | refine subT _ ?_))) | exact Rd.inRow (by (repeat (first | exact mem0 _ | apply memT))) (by assumption) (by assumption) (by assumption)) rfl (q := 0) (by omega)) (leB rfl) ?_
                  refine SR.po rfl rfl (PO.loadFA Tryd.underlying27 rfl rfl exE_len (by first | assumption | exact Rd.ofSl (by assumption) | exact Rd.ofPt rfl (by decide) (by (repeat (first | exact mem0 _ | apply memT))) | exact Rd.mono (by assumption) (View.le.refl _) (by (repeat (first | exact sub0 _ | exact subA _ _ | refine subC _ ?_ | apply subK | refine subT _ ?_))) | exact Rd.inRow (by (repeat (first | exact mem0 _ | apply memT))) (by assumption) (by assumption) (by assumption)) (Ev.tmp rfl) (by assumption) rfl rfl (Nat.succ_pos _)) (leB rfl) ?_
                  refine SR.po rfl rfl (PO.fieldAddr Tryd.underlying27 rfl (Nat.ne_of_beq_eq_false rfl) (Ev.tmp rfl)) (leB rfl) ?_
                  refine SR.po rfl rfl (PO.load1 Tryd.underlying23 rfl (Ev.tmp rfl) (by (repeat (first | exact mem0 _ | apply memT))) rfl) (leB rfl) ?_
                  refine SR.po rfl rfl (PO.fieldAddr Tryd.underlying27 rfl (Nat.ne_of_beq_eq_false rfl) (Ev.tmp rfl)) (leB rfl) ?_
                  refine SR.po rfl rfl (PO.load1 Tryd.underlying25 rfl (Ev.tmp rfl) (by (repeat (first | exact mem0 _ | apply memT))) rfl) (leB rfl) ?_
                  refine SR.po rfl rfl (PO.idx EL25.und EL25.size EL25.posz (Ev.tmp rfl) Ev.const (by first | assumption | exact Rd.ofSl (by assumption) | exact Rd.ofPt rfl (by decide) (by (repeat (first | exact mem0 _ | apply memT))) | exact Rd.mono (by assumption) (View.le.refl _) (by (repeat (first | exact sub0 _ | exact subA _ _ | refine subC _ ?_ | apply subK | refine subT _ ?_))) | exact Rd.inRow (by (repeat (first | exact mem0 _ | apply memT))) (by assumption) (by assumption) (by assumption)) rfl (q := 1) (by omega)) (leB rfl) ?_
                  refine SR.po rfl rfl (PO.loadFA Tryd.underlying27 rfl rfl exE_len (by first | assumption | exact Rd.ofSl (by assumption) | exact Rd.ofPt rfl (by decide) (by (repeat (first | exact mem0 _ | apply memT))) | exact Rd.mono (by assumption) (View.le.refl _) (by (repeat (first | exact sub0 _ | exact subA _ _ | refine subC _ ?_ | apply subK | refine subT _ ?_))) | exact Rd.inRow (by (repeat (first | exact mem0 _ | apply memT))) (by assumption) (by assumption) (by assumption)) (Ev.tmp rfl) (by assumption) rfl rfl (Nat.succ_pos _)) (leB rfl) ?_
                  refine SR.callO rfl rfl Ev.func (Evs.cons (Ev.tmp rfl) (Evs.cons (Ev.tmp rfl) Evs.nil)) (by (repeat (first | exact Del.here | apply Del.next))) (fun fr => opnd_of x (ih x hxm) _ xs _ _ (TOk.fr ((hT.part hxm).mono (by (repeat (first | exact sub0 _ | exact subA _ _ | refine subC _ ?_ | apply subK | refine subT _ ?_)))) fr) (hF.part hxm) (hW.part hxm) (by omega)) (leB rfl) fun a100 c100 => ?_
                  refine SR.callP rfl rfl Ev.func (Evs.cons (Ev.tmp rfl) Evs.nil) (fun fr => operator_ct hg _ (by assumption) _) (leB rfl) ?_
                  refine SR.buildSlice rfl rfl EL28 rfl (EvP.cons (Ev.tmp rfl) EvP.nil) rfl rfl (by decide) rfl (leB rfl) fun b104 => ?_
                  refine SR.appendE rfl rfl EL28 (Ev.tmp rfl) (Ev.tmp rfl) (by first | assumption | exact Rd.ofSl (by assumption) | exact Rd.ofPt rfl (by decide) (by (repeat (first | exact mem0 _ | apply memT))) | exact Rd.mono (by assumption) (View.le.refl _) (by (repeat (first | exact sub0 _ | exact subA _ _ | refine subC _ ?_ | apply subK | refine subT _ ?_))) | exact Rd.inRow (by (repeat (first | exact mem0 _ | apply memT))) (by assumption) (by assumption) (by assumption)) (by first | exact one_of rfl | exact fl_ones (fun _ => rfl) _) hl3 (fl_snoc (enc := encK) _ (operT e.o)) (by omega) (by omega) (fun v' => by (repeat (first | exact Upd.here | apply Upd.next))) (leB rfl) fun a105 c105 => ?_
                  refine SR.nil rfl rfl ?_
                  refine WL.perm (Del.perm (r := .row _ _ _ _ _) (by (repeat (first | exact Del.here | apply Del.next)))) ?_
                  refine WL.callK Ev.func (Evs.cons (Ev.tmp rfl) (Evs.cons (Ev.tmp rfl) Evs.nil)) (opnd_of y (ih y hym) _ ((xs ++ opndE x) ++ [operT e.o]) _ _ ((hT.part hym).mono (by (repeat (first | exact sub0 _ | exact subA _ _ | refine subC _ ?_ | apply subK | refine subT _ ?_)))) (hF.part hym) (hW.part hym) (by omega)) (leB rfl) ?_
                  rintro _ _ ⟨a110, c110, k110, e110, rfl, rfl⟩
                  refine WL.knowRow (a := a110) (by (repeat (first | exact mem0 _ | apply memT))) fun p110 q110 r110 => ?_
                  subst e110
                  refine WL.po (PO.assign (Ev.tmp rfl)) (leB rfl) ?_
                  refine WL.nil (keepF (ts := [4]) rfl (toK (by assumption) ?_))
                  (try clear hG ops)
                  refine WC.ret (end1 (h' := .row (.slice a110 (((xs ++ opndE x) ++ [operT e.o]) ++ opndE y).length c110) 36 4 (((xs ++ opndE x) ++ [operT e.o]) ++ opndE y).length (fl encK (((xs ++ opndE x) ++ [operT e.o]) ++ opndE y)) :: h) (.inl rfl) rfl (RV.tmp rfl) (View.le.refl m) (by (repeat (first | exact sub0 _ | exact subA _ _ | refine subC _ ?_ | apply subK | refine subT _ ?_))) ?_)
                  rw [we1]; exact ⟨_, _, _, rfl, rfl, rfl⟩
theorem tokens_ct {m : View} (hg : Glob m) (e : Ex) (h : List Res) (hT : TOk m h e) (hW : Wf e) : CT Tryd.prog 9 [exV e] h m
    (fun v _ h' => (mayE e = true ∧ ∃ a c, v = .tuple #[.slice a (writeE e).length c, .int .i64 0] ∧ h' = .row (.slice a (writeE e).length c) 36 4 (writeE e).length (fl encK (writeE e)) :: h) ∨ (mayE e = false ∧ v = .tuple #[.slice none 0 0, .int .i64 2] ∧ h' = h)) := by
  refine CT.body Tryd.call9 Tryd.func9 rfl Tryd.ntmps9 (leB rfl) rfl ?_
  (repeat (first | refine WC.seqK fun K hK => ?_ | refine WC.block ?_ | refine WC.regionG rfl fun ops hG => ?_))
  refine WL.box (Ev.tmp rfl) rfl (leB rfl) fun b1 => ?_
  refine WL.po (PO.assign Ev.const) (leB rfl) ?_
  refine WL.po (PO.assign Ev.const) (leB rfl) ?_
  refine WL.nil (keepF (ts := [1]) rfl (toK (by assumption) ?_))
  (try clear hG ops)
  (repeat (first | refine WC.seqK fun K hK => ?_ | refine WC.block ?_ | refine WC.regionG rfl fun ops hG => ?_))
  refine WL.po (PO.loadA Tryd.underlying27 rfl rfl (Ev.tmp rfl) (by (repeat (first | exact mem0 _ | apply memT))) rfl) (leB rfl) ?_
  refine WL.callP Ev.func (Evs.cons (Ev.tmp rfl) Evs.nil) (may_ct hg e _ (hT.mono (by (repeat (first | exact sub0 _ | exact subA _ _ | refine subC _ ?_ | apply subK | refine subT _ ?_)))) hW) (leB rfl) ?_
  refine WL.po (PO.not (Ev.tmp rfl)) (leB rfl) ?_
  refine WL.nil (keepF (ts := [1, 6]) rfl (toK (by assumption) ?_))
  (try clear hG ops)
  (repeat (first | refine WC.seqK fun K hK => ?_ | refine WC.block ?_ | refine WC.regionG rfl fun ops hG => ?_))
  refine WC.cond (Ev.tmp rfl) (fun c6 => ?_) (fun c6 => ?_)
  · have d6 : mayE e = false := by simpa using c6
    (repeat (first | refine WC.seqK fun K hK => ?_ | refine WC.block ?_ | refine WC.regionG rfl fun ops hG => ?_))
    refine WL.po (PO.assign Ev.const) (leB rfl) ?_
    refine WL.po (PO.assign Ev.const) (leB rfl) ?_
    refine WL.nil (keepF (ts := [2, 3]) rfl (toK (by assumption) ?_))
    (try clear hG ops)
    refine WC.ret (end2 (h' := h) (.inl rfl) rfl (RV.tmp rfl) (RV.tmp rfl) (View.le.refl m) (by (repeat (first | exact sub0 _ | exact subA _ _ | refine subC _ ?_ | apply subK | refine subT _ ?_))) ?_)
    exact .inr ⟨d6, rfl, rfl⟩
  · have d6 : mayE e = true := by simpa using c6
    obtain ⟨hF, hc⟩ := may_good d6
    refine WC.skip (keepF (ts := [1]) rfl (toK (by assumption) ?_))
    (repeat (first | refine WC.seqK fun K hK => ?_ | refine WC.block ?_ | refine WC.regionG rfl fun ops hG => ?_))
    refine WL.po (PO.loadA Tryd.underlying27 rfl rfl (Ev.tmp rfl) (by (repeat (first | exact mem0 _ | apply memT))) rfl) (leB rfl) ?_
    refine WL.addNil 36 4 ?_
    refine WL.callK Ev.func (Evs.cons Ev.const (Evs.cons (Ev.tmp rfl) Evs.nil)) (write_ct hg e _ [] none 0 (hT.mono (by (repeat (first | exact sub0 _ | exact subA _ _ | refine subC _ ?_ | apply subK | refine subT _ ?_)))) hF hW (by simp; omega)) (leB rfl) ?_
    rintro _ _ ⟨a8, c8, k8, e8, rfl, rfl⟩
    refine WL.knowRow (a := a8) (by (repeat (first | exact mem0 _ | apply memT))) fun p8 q8 r8 => ?_
    subst e8
    refine WL.po (PO.assign (Ev.tmp rfl)) (leB rfl) ?_
    refine WL.po (PO.assign Ev.const) (leB rfl) ?_
    refine WL.nil (keepF (ts := [2, 3]) rfl (toK (by assumption) ?_))
    (try clear hG ops)
    refine WC.ret (end2 (h' := .row (.slice a8 (writeE e).length c8) 36 4 (writeE e).length (fl encK (writeE e)) :: h) (.inl rfl) rfl (RV.tmp rfl) (RV.tmp rfl) (View.le.refl m) (by (repeat (first | exact sub0 _ | exact subA _ _ | refine subC _ ?_ | apply subK | refine subT _ ?_))) ?_)
    exact .inl ⟨d6, _, _, rfl, rfl⟩
end Go.Proofs.YtheejlbhmbbdjaaDoor

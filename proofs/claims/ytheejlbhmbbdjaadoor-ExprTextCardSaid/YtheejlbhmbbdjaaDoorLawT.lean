/- expr: ExprText. -/
import Derived.Test.YtheejlbhmbbdjaaDoorExpO
import Derived.Test.YtheejlbhmbbdjaaDoorExpZ
namespace Go.Proofs.YtheejlbhmbbdjaaDoor
open Go.Eng Go.Xp Go
open Go.Ty (Tok encK encK_len tokV)
open Go.Lx (mayK lexO textO textL place)
set_option maxRecDepth 100000
theorem text_law {m : View} (hg : Glob m) (hp : Pow m) (e : Ex) (h : List Res) (hT : TOk m h e) (hW : Wf e) : CT Tryd.prog 5 [exV e] h m Law := by
  have htl := tokP_len e
  have htk := tok_tkl hW
  have hmay : ∀ x ∈ tokP e, mayK x = true ∧ (-2147483648 ≤ x.n ∧ x.n ≤ 2147483647) := fun x hx => by
    unfold tokP at hx
    split at hx
    · rename_i hm
      exact write_may e (may_good hm).1 hW x hx
    · exact (List.not_mem_nil hx).elim
  obtain ⟨⟨u, f⟩, hU⟩ : ∃ o, textO (tokP e) = o := ⟨_, rfl⟩
  have hor := Go.Lx.textO_or (fun x hx => (hmay x hx).1) hU
  refine CT.body Tryd.call5 Tryd.func5 rfl Tryd.ntmps5 (leB rfl) rfl ?_
  (repeat (first | refine WC.seqK fun K hK => ?_ | refine WC.block ?_ | refine WC.regionG rfl fun ops hG => ?_))
  refine WL.box (Ev.tmp rfl) rfl (leB rfl) fun b1 => ?_
  refine WL.po (PO.assign Ev.const) (leB rfl) ?_
  refine WL.nil (keepF (ts := [1]) rfl (toK (by assumption) ?_))
  (try clear hG ops)
  (repeat (first | refine WC.seqK fun K hK => ?_ | refine WC.block ?_ | refine WC.regionG rfl fun ops hG => ?_))
  refine WL.po (PO.loadA Tryd.underlying27 rfl rfl (Ev.tmp rfl) (by (repeat (first | exact mem0 _ | apply memT))) rfl) (leB rfl) ?_
  refine WL.callK Ev.func (Evs.cons (Ev.tmp rfl) Evs.nil) (tokF_ct hg e _ (hT.mono (by (repeat (first | exact sub0 _ | exact subA _ _ | refine subC _ ?_ | apply subK | refine subT _ ?_)))) hW) (leB rfl) ?_
  rintro _ _ ⟨a15, c15, rfl, rfl⟩
  refine WL.knowRow (a := a15) (by (repeat (first | exact mem0 _ | apply memT))) fun p15 q15 r15 => ?_
  have htx := lxText_ct a15 _ c15 (tokP e) (.row (.slice a15 (tokP e).length c15) 36 4 (tokP e).length (fl encK (tokP e)) :: .pt b1 (.cells (exE e).toArray 27 (0, 0)) :: h) m hg hp (Rd.inRow (List.Mem.head _) r15 p15 q15) htk
  rw [hU] at htx
  refine WL.po (PO.move (Ev.tmp rfl)) (leB rfl) ?_
  refine WL.po (PO.extract (Ev.tmp rfl) rfl) (leB rfl) ?_
  refine WL.po (PO.extract (Ev.tmp rfl) rfl) (leB rfl) ?_
  refine WL.po (PO.assign (Ev.tmp rfl)) (leB rfl) ?_
  refine WL.po (PO.assign (Ev.tmp rfl)) (leB rfl) ?_
  refine WL.nil (keepF (ts := [1, 3]) rfl (toK (by assumption) ?_))
  (try clear hG ops)
  (repeat (first | refine WC.seqK fun K hK => ?_ | refine WC.block ?_ | refine WC.regionG rfl fun ops hG => ?_))
  refine WL.po (PO.move (Ev.tmp rfl)) (leB rfl) ?_
  refine WL.callP Ev.func (Evs.cons (Ev.tmp rfl) Evs.nil) (htx) (leB rfl) ?_
  refine WL.po (PO.move (Ev.tmp rfl)) (leB rfl) ?_
  refine WL.po (PO.extract (Ev.tmp rfl) rfl) (leB rfl) ?_
  refine WL.po (PO.extract (Ev.tmp rfl) rfl) (leB rfl) ?_
  refine WL.po (PO.assign (Ev.tmp rfl)) (leB rfl) ?_
  refine WL.po (PO.assign (Ev.tmp rfl)) (leB rfl) ?_
  refine WL.nil (keepF (ts := [1, 3, 5, 6]) rfl (toK (by assumption) ?_))
  (try clear hG ops)
  (repeat (first | refine WC.seqK fun K hK => ?_ | refine WC.block ?_ | refine WC.regionG rfl fun ops hG => ?_))
  refine WL.po (PO.loadA Tryd.underlying27 rfl rfl (Ev.tmp rfl) (by (repeat (first | exact mem0 _ | apply memT))) rfl) (leB rfl) ?_
  refine WL.callP Ev.func (Evs.cons (Ev.tmp rfl) Evs.nil) (may_ct hg e _ (hT.mono (by (repeat (first | exact sub0 _ | exact subA _ _ | refine subC _ ?_ | apply subK | refine subT _ ?_)))) hW) (leB rfl) ?_
  refine WL.po (PO.not (Ev.tmp rfl)) (leB rfl) ?_
  refine WL.po (PO.move (Ev.tmp rfl)) (leB rfl) ?_
  refine WL.poG (GU.f (hG _ _ rfl) rfl) (fun hc => PO.move (Ev.tmp rfl)) (leB rfl) ?_
  refine WL.poG (GU.f (hG _ _ rfl) rfl) (fun hc => PO.bin (Ev.gv rfl hc) Ev.const rfl) (leB rfl) ?_
  refine WL.po (PO.pickOr rfl rfl) (leB rfl) ?_
  refine WL.nil (keepF (ts := [1, 3, 5, 6, 29]) rfl (toK (by assumption) ?_))
  (try clear hG ops)
  (repeat (first | refine WC.seqK fun K hK => ?_ | refine WC.block ?_ | refine WC.regionG rfl fun ops hG => ?_))
  refine WC.cond (Ev.tmp rfl) (fun c29 => ?_) (fun c29 => ?_)
  · (repeat (first | refine WC.seqK fun K hK => ?_ | refine WC.block ?_ | refine WC.regionG rfl fun ops hG => ?_))
    refine WL.callP Ev.func Evs.nil (works_ct hg hp _) (leB rfl) ?_
    refine WL.po (PO.assign (Ev.tmp rfl)) (leB rfl) ?_
    refine WL.nil (keepF (ts := [2]) rfl (toK (by assumption) ?_))
    (try clear hG ops)
    refine WC.ret (end1 (h' := h) (.inl rfl) rfl (RV.tmp rfl) (View.le.refl m) (by (repeat (first | exact sub0 _ | exact subA _ _ | refine subC _ ?_ | apply subK | refine subT _ ?_))) ?_)
    rfl
  · have hd : mayE e = true ∧ f ≠ 3 := by simp at c29; exact c29
    obtain ⟨d, hf3⟩ := hd
    obtain ⟨rfl, rfl, hul⟩ : f = 0 ∧ u = textL none (tokP e) ∧ u.length ≤ 256 := by
      rcases hor with h1 | h1
      · exact absurd h1.1 hf3
      · exact h1
    obtain ⟨b1', b2', b3'⟩ := Go.Lx.text_back (fun x hx => (hmay x hx).1) (fun x hx => (hmay x hx).2) hul
    obtain ⟨P, hP⟩ : ∃ P, P = place none 0 (tokP e) := ⟨_, rfl⟩
    have hPl : P.length = (tokP e).length := by rw [hP]; exact Go.Lx.place_len _ _ _
    have hfp : frontP P = .ok (strip e, (tokP e).length) := by
      have ht : tokP e = writeE e := by unfold tokP; rw [d]; rfl
      rw [hP, front_same (place_nx (tokP e) none 0 (fun x hx => (hmay x hx).1) b3'), ht]
      have := front_write d hW (rest := []) (by unfold NoBr; decide +kernel) (by unfold NoOp; decide +kernel)
      rwa [List.append_nil] at this
    rw [← hP] at b1' b3'
    have hfN : frontN P = (tokP e).length := by unfold frontN; rw [hfp]
    have hfE : frontE P = 0 := by unfold frontE; rw [hfp]
    have hfX : frontX P = strip e := by unfold frontX; rw [hfp]
    have hPn : ∀ x ∈ P, mayK x = true ∧ (-2147483648 ≤ x.n ∧ x.n ≤ 2147483647) := fun x hx => by
      refine ⟨b3' x hx, ?_⟩
      rw [hP] at hx
      obtain ⟨t, ht, hxt⟩ := Go.Lx.place_mem _ _ _ x hx
      rw [hxt]
      exact (hmay t ht).2
    have hPk : TkL P := fun x hx => ⟨(hPn x hx).2, by have := Go.Lx.may_len (hPn x hx).1; omega⟩
    have hlx : ∀ h' : List Res, CT Tryd.prog 18 [str (textL none (tokP e))] h' m (fun v _ h'' => ∃ a c, v = .tuple #[.slice a P.length c, .int .i64 0, .int .i64 0] ∧ h'' = .row (.slice a P.length c) 36 4 P.length (fl encK P) :: h') := fun h' => by
      have := lxTokens_ct (textL none (tokP e)) h' m hg (by omega)
      rw [b1'] at this
      exact this
    refine WC.skip (keepF (ts := [1, 3, 5, 6]) rfl (toK (by assumption) ?_))
    (repeat (first | refine WC.seqK fun K hK => ?_ | refine WC.block ?_ | refine WC.regionG rfl fun ops hG => ?_))
    refine WL.po (PO.move (Ev.tmp rfl)) (leB rfl) ?_
    refine WL.callK Ev.func (Evs.cons (Ev.tmp rfl) Evs.nil) (hlx _) (leB rfl) ?_
    rintro _ _ ⟨a33, c33, rfl, rfl⟩
    refine WL.knowRow (a := a33) (by (repeat (first | exact mem0 _ | apply memT))) fun p33 q33 r33 => ?_
    refine WL.po (PO.move (Ev.tmp rfl)) (leB rfl) ?_
    refine WL.po (PO.extract (Ev.tmp rfl) rfl) (leB rfl) ?_
    refine WL.po (PO.extract (Ev.tmp rfl) rfl) (leB rfl) ?_
    refine WL.po (PO.extract (Ev.tmp rfl) rfl) (leB rfl) ?_
    refine WL.po (PO.assign (Ev.tmp rfl)) (leB rfl) ?_
    refine WL.po (PO.assign (Ev.tmp rfl)) (leB rfl) ?_
    refine WL.po (PO.assign (Ev.tmp rfl)) (leB rfl) ?_
    refine WL.nil (keepF (ts := [1, 3, 6, 7, 9]) rfl (toK (by assumption) ?_))
    (try clear hG ops)
    (repeat (first | refine WC.seqK fun K hK => ?_ | refine WC.block ?_ | refine WC.regionG rfl fun ops hG => ?_))
    refine WL.po (PO.move (Ev.tmp rfl)) (leB rfl) ?_
    refine WL.callK Ev.func (Evs.cons (Ev.tmp rfl) Evs.nil) (frontF_ct hg a33 c33 P _ (tks_of (Rd.inRow (List.Mem.head _) r33 p33 q33) (by omega) hPk) (fun t ht => (hPk t ht).1)) (leB rfl) ?_
    rintro _ _ ⟨tx, bl, rfl, ⟨hst, hTx, hWx⟩, rfl⟩
    refine WL.perm (perm_mid bl [_, _, _] h) ?_
    rw [hfN, hfE]
    refine WL.po (PO.move (Ev.tmp rfl)) (leB rfl) ?_
    refine WL.po (PO.extract (Ev.tmp rfl) rfl) (leB rfl) ?_
    refine WL.po (PO.extract (Ev.tmp rfl) rfl) (leB rfl) ?_
    refine WL.po (PO.extract (Ev.tmp rfl) rfl) (leB rfl) ?_
    refine WL.alloc rfl rfl (leB rfl) fun b10 => ?_
    refine WL.store rfl (Ev.tmp rfl) (Ev.tmp rfl) rfl rfl rfl rfl (by (repeat (first | exact Upd.here | apply Upd.next))) ?_
    refine WL.po (PO.assign (Ev.tmp rfl)) (leB rfl) ?_
    refine WL.po (PO.assign (Ev.tmp rfl)) (leB rfl) ?_
    refine WL.nil (keepF (ts := [1, 3, 6, 7, 9, 10, 11, 12]) rfl (toK (by assumption) ?_))
    (try clear hG ops)
    (repeat (first | refine WC.seqK fun K hK => ?_ | refine WC.block ?_ | refine WC.regionG rfl fun ops hG => ?_))
    refine WL.po (PO.move (Ev.tmp rfl)) (leB rfl) ?_
    refine WL.po (PO.bin (Ev.tmp rfl) Ev.const rfl) (leB rfl) ?_
    refine WL.po (PO.move (Ev.tmp rfl)) (leB rfl) ?_
    refine WL.unG (GU.t (hG _ _ rfl) rfl) rfl ?_
    refine WL.po (PO.move (Ev.tmp rfl)) (leB rfl) ?_
    refine WL.unG (GU.t (hG _ _ rfl) rfl) rfl ?_
    refine WL.po (PO.bin (Ev.tmp rfl) Ev.const rfl) (leB rfl) ?_
    refine WL.po (PO.pickAnd rfl rfl) (leB rfl) ?_
    refine WL.po (PO.move (Ev.tmp rfl)) (leB rfl) ?_
    refine WL.unG (GU.t (hG _ _ rfl) rfl) rfl ?_
    refine WL.po (PO.move (Ev.tmp rfl)) (leB rfl) ?_
    refine WL.unG (GU.t (hG _ _ rfl) rfl) rfl ?_
    refine WL.po (PO.bin (Ev.tmp rfl) Ev.const rfl) (leB rfl) ?_
    refine WL.po (PO.pickAnd rfl rfl) (leB rfl) ?_
    refine WL.po (PO.move (Ev.tmp rfl)) (leB rfl) ?_
    refine WL.unG (GU.t (hG _ _ rfl) rfl) rfl ?_
    refine WL.po (PO.move (Ev.tmp rfl)) (leB rfl) ?_
    refine WL.unG (GU.t (hG _ _ rfl) rfl) rfl ?_
    refine WL.po (PO.move (Ev.tmp rfl)) (leB rfl) ?_
    refine WL.unG (GU.t (hG _ _ rfl) rfl) rfl ?_
    refine WL.po (PO.lenSl Tryd.underlying28 (Ev.tmp rfl)) (leB rfl) ?_
    refine WL.unG (GU.t (hG _ _ rfl) rfl) rfl ?_
    refine WL.po (PO.bin (Ev.tmp rfl) (Ev.tmp rfl) rfl) (leB rfl) ?_
    refine WL.val (v' := .bool true) (congrArg Value.bool (by rw [hPl]; simp)) ?_
    refine WL.po (PO.pickAnd rfl rfl) (leB rfl) ?_
    refine WL.po (PO.move (Ev.tmp rfl)) (leB rfl) ?_
    refine WL.unG (GU.t (hG _ _ rfl) rfl) rfl ?_
    refine WL.po (PO.move (Ev.tmp rfl)) (leB rfl) ?_
    refine WL.unG (GU.t (hG _ _ rfl) rfl) rfl ?_
    refine WL.po (PO.lenSl Tryd.underlying28 (Ev.tmp rfl)) (leB rfl) ?_
    refine WL.unG (GU.t (hG _ _ rfl) rfl) rfl ?_
    refine WL.po (PO.move (Ev.tmp rfl)) (leB rfl) ?_
    refine WL.unG (GU.t (hG _ _ rfl) rfl) rfl ?_
    refine WL.po (PO.lenSl Tryd.underlying28 (Ev.tmp rfl)) (leB rfl) ?_
    refine WL.unG (GU.t (hG _ _ rfl) rfl) rfl ?_
    refine WL.po (PO.bin (Ev.tmp rfl) (Ev.tmp rfl) rfl) (leB rfl) ?_
    refine WL.val (v' := .bool true) (congrArg Value.bool (by rw [hPl]; simp)) ?_
    refine WL.po (PO.pickAnd rfl rfl) (leB rfl) ?_
    refine WL.po (PO.move (Ev.tmp rfl)) (leB rfl) ?_
    refine WL.unG (GU.t (hG _ _ rfl) rfl) rfl ?_
    refine WL.po (PO.loadA Tryd.underlying27 rfl rfl (Ev.tmp rfl) (by (repeat (first | exact mem0 _ | apply memT))) rfl) (leB rfl) ?_
    refine WL.unG (GU.t (hG _ _ rfl) rfl) rfl ?_
    refine WL.po (PO.loadA Tryd.underlying27 rfl rfl (Ev.tmp rfl) (by (repeat (first | exact mem0 _ | apply memT))) rfl) (leB rfl) ?_
    refine WL.unG (GU.t (hG _ _ rfl) rfl) rfl ?_
    refine WL.callP Ev.func (Evs.cons (Ev.tmp rfl) (Evs.cons (Ev.tmp rfl) Evs.nil)) (CT.val (sameR_ct tx e _ _ (hTx.mono ((List.sublist_append_left bl h).trans (by (repeat (first | exact sub0 _ | exact subA _ _ | refine subC _ ?_ | apply subK | refine subT _ ?_))))) (hT.mono (by (repeat (first | exact sub0 _ | exact subA _ _ | refine subC _ ?_ | apply subK | refine subT _ ?_))))) (congrArg Value.bool ((same_strip tx e).2 (hst.trans hfX)))) (leB rfl) ?_
    refine WL.po (PO.pickAnd rfl rfl) (leB rfl) ?_
    refine WL.po (PO.move (Ev.tmp rfl)) (leB rfl) ?_
    refine WL.unG (GU.t (hG _ _ rfl) rfl) rfl ?_
    refine WL.callP Ev.func Evs.nil (works_ct hg hp _) (leB rfl) ?_
    refine WL.po (PO.pickAnd rfl rfl) (leB rfl) ?_
    refine WL.po (PO.assign (Ev.tmp rfl)) (leB rfl) ?_
    refine WL.nil (keepF (ts := [2]) rfl (toK (by assumption) ?_))
    (try clear hG ops)
    refine WC.ret (end1 (h' := h) (.inl rfl) rfl (RV.tmp rfl) (View.le.refl m) (by (repeat (first | exact sub0 _ | exact subA _ _ | refine subC _ ?_ | apply subK | refine subT _ ?_))) ?_)
    rfl
end Go.Proofs.YtheejlbhmbbdjaaDoor

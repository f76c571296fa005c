/- expr: ExprTrees. -/
import Derived.Test.YtheejlbhmbbdjaaDoorLawA
namespace Go.Proofs.YtheejlbhmbbdjaaDoor
open Go.Eng Go.Xp Go
open Go.Ty (Tok encK encK_len tokV)
open Go.Lx (encB encB_len)
set_option maxRecDepth 100000
abbrev CopR (m : View) (e : Ex) (h : List Res) (v : Value) (h' : List Res) : Prop := ∃ t bl, v = exV t ∧ (strip t = strip e ∧ TOk m bl t ∧ Wf t) ∧ h' = bl ++ h
theorem cop_cx {m : View} {e : Ex} {h : List Res} (c : CT Tryd.prog 28 [exV e] h m (fun v _ h' => CopR m e h v h')) :
    CX Tryd.prog 28 [exV e] h m (fun v _ h' => ∃ hp', h' = hp' ++ h ∧ ∃ t, v = exV t ∧ (strip t = strip e ∧ TOk m hp' t ∧ Wf t)) (fun _ _ => False) :=
  CX.ofCT (CT.conv c fun _ m' _ _ _ st ⟨t, bl, e1, e2, e3⟩ => ⟨m', bl ++ h, View.le.refl _, e3 ▸ st, bl, rfl, t, e1, e2⟩)
theorem copied_ct (e : Ex) : ∀ (h : List Res) (m : View), TOk m h e → Wf e → cntE e ≤ 1048576 → CT Tryd.prog 28 [exV e] h m (fun v _ h' => CopR m e h v h') := by
  refine Ex.ind (p := fun e => ∀ (h : List Res) (m : View), TOk m h e → Wf e → cntE e ≤ 1048576 → CT Tryd.prog 28 [exV e] h m (fun v _ h' => CopR m e h v h')) (fun e ih h m hT hW hc => ?_) e
  have hr := hT.rd
  have hce := cntE_eq e
  have hle := cnt_len e.l
  obtain ⟨⟨hk, ho, ht⟩, hn, hs⟩ := hW.spec
  refine CT.body Tryd.call28 Tryd.func28 rfl Tryd.ntmps28 (leB rfl) rfl ?_
  (repeat (first | refine WC.seqK fun K hK => ?_ | refine WC.block ?_ | refine WC.regionG rfl fun ops hG => ?_))
  refine WL.box (Ev.tmp rfl) rfl (leB rfl) fun b1 => ?_
  refine WL.alloc rfl rfl (leB rfl) fun b2 => ?_
  refine WL.nil (keepF (ts := [1, 2]) rfl (toK (by assumption) ?_))
  (try clear hG ops)
  (repeat (first | refine WC.seqK fun K hK => ?_ | refine WC.block ?_ | refine WC.regionG rfl fun ops hG => ?_))
  refine WL.po (PO.loadA Tryd.underlying27 rfl rfl (Ev.tmp rfl) (by (repeat (first | exact mem0 _ | apply memT))) rfl) (leB rfl) ?_
  refine WL.alloc rfl rfl (leB rfl) fun b3 => ?_
  refine WL.store rfl (Ev.tmp rfl) (Ev.tmp rfl) rfl rfl rfl rfl (by (repeat (first | exact Upd.here | apply Upd.next))) ?_
  refine WL.nil (keepF (ts := [1, 2, 3]) rfl (toK (by assumption) ?_))
  (try clear hG ops)
  (repeat (first | refine WC.seqK fun K hK => ?_ | refine WC.block ?_ | refine WC.regionG rfl fun ops hG => ?_))
  refine WL.po (PO.fieldAddr Tryd.underlying27 rfl (Nat.ne_of_beq_eq_false rfl) (Ev.tmp rfl)) (leB rfl) ?_
  refine WL.store rfl (Ev.tmp rfl) Ev.const rfl rfl rfl rfl (by (repeat (first | exact Upd.here | apply Upd.next))) ?_
  refine WL.addNil 27 6 ?_
  refine WL.nil (keepF (ts := [1, 2, 3]) rfl (toK (by assumption) ?_))
  (try clear hG ops)
  (repeat (first | refine WC.seqK fun K hK => ?_ | refine WC.block ?_ | refine WC.regionG rfl fun ops hG => ?_))
  refine WL.po (PO.fieldAddr Tryd.underlying27 rfl (Nat.ne_of_beq_eq_false rfl) (Ev.tmp rfl)) (leB rfl) ?_
  refine WL.po (PO.load1 Tryd.underlying25 rfl (Ev.tmp rfl) (by (repeat (first | exact mem0 _ | apply memT))) rfl) (leB rfl) ?_
  refine WL.po (PO.lenSl Tryd.underlying25 (Ev.tmp rfl)) (leB rfl) ?_
  refine WL.po (PO.move Ev.const) (leB rfl) ?_
  refine WL.nil (keepF (ts := [1, 2, 3, 9, 10]) rfl (toK (by assumption) ?_))
  (try clear hG ops)
  (repeat (first | refine WC.seqK fun K hK => ?_ | refine WC.block ?_ | refine WC.regionG rfl fun ops hG => ?_))
  refine WC.loopI [1, 2, 3, 9] rfl (fun μ F' h' => ∃ a : Option Addr, ∃ c : Nat, ∃ l : List Ex, ∃ bl : List Res, (l.length ≤ e.l.length ∧ l.map strip = (e.l.take l.length).map strip ∧ ∀ x ∈ l, TOk m bl x ∧ Wf x) ∧ e.l.length - l.length = μ ∧ F' = [(10, .int .i64 (l.length : Nat))] ∧ .row (.slice a l.length c) 27 6 l.length (fl exE l) :: .pt b3 (.cells (exE (.mk e.k e.o e.t e.n e.s a c l)).toArray 27 (0, 0)) :: .pt b2 (.cells (exE zeroE).toArray 27 (0, 0)) :: .pt b1 (.cells (exE e).toArray 27 (0, 0)) :: (bl ++ h) = h') (e.l.length - ([]).length) [(10, .int .i64 (([]).length : Nat))] (h0 := .row (.slice none ([]).length 0) 27 6 ([]).length (fl exE ([])) :: .pt b3 (.cells (exE (.mk e.k e.o e.t e.n e.s none 0 ([]))).toArray 27 (0, 0)) :: .pt b2 (.cells (exE zeroE).toArray 27 (0, 0)) :: .pt b1 (.cells (exE e).toArray 27 (0, 0)) :: (([]) ++ h)) ?_ (by (repeat (first | exact sub0 _ | exact subA _ _ | refine subC _ ?_ | apply subK | refine subT _ ?_))) ⟨none, 0, [], [], ⟨by simp, rfl, fun _ hx => (List.not_mem_nil hx).elim⟩, rfl, rfl, rfl⟩ ?_
  · (repeat (first | exact Sub.nil | refine Sub.cons rfl ?_ | refine Sub.consE rfl (by simp; done) ?_))
  rintro _ _ _ ⟨a, c, l, bl, ⟨hi, hm, ha⟩, rfl, rfl, rfl⟩
  refine WC.frm rfl ?_
  have hrd : Rd m (.row (.slice a l.length c) 27 6 l.length (fl exE l) :: .pt b3 (.cells (exE (.mk e.k e.o e.t e.n e.s a c l)).toArray 27 (0, 0)) :: .pt b2 (.cells (exE zeroE).toArray 27 (0, 0)) :: .pt b1 (.cells (exE e).toArray 27 (0, 0)) :: (bl ++ h)) e.a e.l.length e.c 6 (fl exE e.l) := hr.mono (View.le.refl m) (by (repeat (first | exact sub0 _ | exact subA _ _ | refine subC _ ?_ | apply subK | refine subT _ ?_)))
  (repeat (first | refine WC.seqK fun K hK => ?_ | refine WC.block ?_ | refine WC.regionG rfl fun ops hG => ?_))
  refine WL.po (PO.bin (Ev.tmp rfl) (Ev.tmp rfl) rfl) (leB rfl) ?_
  refine WL.nil (keepF (ts := [1, 2, 3, 9, 10, 11]) rfl (toK (by assumption) ?_))
  (try clear hG ops)
  (repeat (first | refine WC.seqK fun K hK => ?_ | refine WC.block ?_ | refine WC.regionG rfl fun ops hG => ?_))
  refine WC.cond (Ev.tmp rfl) (fun c11 => ?_) (fun c11 => ?_)
  · replace c11 := of_decide_eq_true c11
    obtain ⟨x, hx⟩ := get_some (l := e.l) (k := l.length) (by omega)
    have hxm := List.mem_of_getElem? hx
    have hcx := cnt_mem hxm
    have htk : (e.l.take (l.length + 1)).map strip = (e.l.take l.length).map strip ++ [strip x] := by rw [take_at hx, List.map_append]; rfl
    refine WC.skip (keepF (ts := [1, 2, 3, 9, 10]) rfl (toK (by assumption) ?_))
    (repeat (first | refine WC.seqK fun K hK => ?_ | refine WC.block ?_ | refine WC.regionG rfl fun ops hG => ?_))
    refine WL.po (PO.move (Ev.tmp rfl)) (leB rfl) ?_
    refine WL.po (PO.assign (Ev.tmp rfl)) (leB rfl) ?_
    refine WL.nil (keepF (ts := [1, 2, 3, 4, 9, 10]) rfl (toK (by assumption) ?_))
    (try clear hG ops)
    (repeat (first | refine WC.seqK fun K hK => ?_ | refine WC.block ?_ | refine WC.regionG rfl fun ops hG => ?_))
    refine WC.drawS [7, 8] (.op 0 (.op 1 (.op 2 (.op 3 (.op 4 (.op 5 (.op 6 (.op 7 (.op 8 .nil))))))))) [9, 10, 11] _ [] mixed (fun _ _ _ _ _ h => h) [] (by kernel_rfl) ?_
    refine SR.po rfl rfl (PO.fieldAddr Tryd.underlying27 rfl (Nat.ne_of_beq_eq_false rfl) (Ev.tmp rfl)) (leB rfl) ?_
    refine SR.po rfl rfl (PO.load1 Tryd.underlying25 rfl (Ev.tmp rfl) (by (repeat (first | exact mem0 _ | apply memT))) rfl) (leB rfl) ?_
    refine SR.po rfl rfl (PO.fieldAddr Tryd.underlying27 rfl (Nat.ne_of_beq_eq_false rfl) (Ev.tmp rfl)) (leB rfl) ?_
    refine SR.po rfl rfl (PO.load1 Tryd.underlying25 rfl (Ev.tmp rfl) (by (repeat (first | exact mem0 _ | apply memT))) rfl) (leB rfl) ?_
    refine SR.po rfl rfl (PO.move (Ev.tmp rfl)) (leB rfl) ?_
    refine SR.po rfl rfl (PO.idx EL25.und EL25.size EL25.posz (Ev.tmp rfl) (Ev.tmp rfl) (by first | assumption | exact Rd.ofSl (by assumption) | exact Rd.ofPt rfl (by decide) (by (repeat (first | exact mem0 _ | apply memT))) | exact Rd.mono (by assumption) (View.le.refl _) (by (repeat (first | exact sub0 _ | exact subA _ _ | refine subC _ ?_ | apply subK | refine subT _ ?_))) | exact Rd.inRow (by (repeat (first | exact mem0 _ | apply memT))) (by assumption) (by assumption) (by assumption)) rfl (by omega)) (leB rfl) ?_
    refine SR.po rfl rfl (PO.loadFA Tryd.underlying27 rfl rfl exE_len (by first | assumption | exact Rd.ofSl (by assumption) | exact Rd.ofPt rfl (by decide) (by (repeat (first | exact mem0 _ | apply memT))) | exact Rd.mono (by assumption) (View.le.refl _) (by (repeat (first | exact sub0 _ | exact subA _ _ | refine subC _ ?_ | apply subK | refine subT _ ?_))) | exact Rd.inRow (by (repeat (first | exact mem0 _ | apply memT))) (by assumption) (by assumption) (by assumption)) (Ev.tmp rfl) (by assumption) rfl rfl (Nat.succ_pos _)) (leB rfl) ?_
    refine SR.callX rfl rfl Ev.func (Evs.cons (Ev.tmp rfl) Evs.nil) (fun fr => cop_cx (ih x hxm _ m (((hT.part hxm).mono (by (repeat (first | exact sub0 _ | exact subA _ _ | refine subC _ ?_ | apply subK | refine subT _ ?_)))).fr fr) (hW.part hxm) (by omega))) (leB rfl) (fun fr v hv hx => ?_) fun v20 h20 hr20 => ?_
    · exact hx.elim
    obtain ⟨tx, rfl, hst, hTx, hWx⟩ := hr20
    have hln : (l ++ [tx]).length = l.length + 1 := List.length_append
    refine SR.buildSlice rfl rfl EL25 rfl (EvP.cons (Ev.tmp rfl) EvP.nil) rfl rfl (by decide) rfl (leB rfl) fun b21 => ?_
    refine SR.nilP (H := .pt b21 (.cells (exE tx).toArray 27 (0, 0)) :: .row (.slice a l.length c) 27 6 l.length (fl exE l) :: .pt b3 (.cells (exE (.mk e.k e.o e.t e.n e.s a c l)).toArray 27 (0, 0)) :: .pt b2 (.cells (exE zeroE).toArray 27 (0, 0)) :: .pt b1 (.cells (exE e).toArray 27 (0, 0)) :: ((h20 ++ bl) ++ h)) rfl (by rw [List.append_assoc]; exact (perm_mid h20 [_, _, _, _] (bl ++ h)).cons _) ?_
    refine WL.appendE EL25 (Ev.tmp rfl) (Ev.tmp rfl) (by first | assumption | exact Rd.ofSl (by assumption) | exact Rd.ofPt rfl (by decide) (by (repeat (first | exact mem0 _ | apply memT))) | exact Rd.mono (by assumption) (View.le.refl _) (by (repeat (first | exact sub0 _ | exact subA _ _ | refine subC _ ?_ | apply subK | refine subT _ ?_))) | exact Rd.inRow (by (repeat (first | exact mem0 _ | apply memT))) (by assumption) (by assumption) (by assumption)) (by first | exact one_of rfl | exact fl_ones (fun _ => rfl) _) (show l.length + 1 = (l ++ [tx]).length by simp) (fl_snoc (enc := exE) _ (tx)) (by omega) (by omega) (fun v' => by (repeat (first | exact Upd.here | apply Upd.next))) (leB rfl) fun a22 c22 => ?_
    refine WL.po (PO.fieldAddr Tryd.underlying27 rfl (Nat.ne_of_beq_eq_false rfl) (Ev.tmp rfl)) (leB rfl) ?_
    refine WL.store rfl (Ev.tmp rfl) (Ev.tmp rfl) rfl rfl rfl rfl (by (repeat (first | exact Upd.here | apply Upd.next))) ?_
    refine WL.nil (keepF (ts := [1, 2, 3, 9, 10]) rfl (toK (by assumption) ?_))
    (try clear hG ops)
    (repeat (first | refine WC.seqK fun K hK => ?_ | refine WC.block ?_ | refine WC.regionG rfl fun ops hG => ?_))
    refine WL.po (PO.addI (Ev.tmp rfl) Ev.const (by omega)) (leB rfl) ?_
    refine WL.val (v' := .int .i64 ((l ++ [tx]).length : Nat)) (congrArg (Value.int .i64) (by omega)) ?_
    have hm2 : (l ++ [tx]).map strip = (e.l.take (l ++ [tx]).length).map strip := by
      rw [hln, htk, List.map_append, hm, ← hst]
      rfl
    have ha2 : ∀ y ∈ l ++ [tx], TOk m (h20 ++ bl) y ∧ Wf y := fun y hy => by
      rcases List.mem_append.1 hy with h1 | h1
      · exact ⟨(ha y h1).1.mono (List.sublist_append_right _ _), (ha y h1).2⟩
      · rw [List.mem_singleton] at h1
        subst h1
        exact ⟨hTx.mono (List.sublist_append_left _ _), hWx⟩
    refine WL.po (PO.move (Ev.tmp rfl)) (leB rfl) ?_
    refine WL.nil (loopBackI (e.l.length - (l ++ [tx]).length) [(10, .int .i64 ((l ++ [tx]).length : Nat))] (h'' := .row (.slice a22 (l ++ [tx]).length c22) 27 6 (l ++ [tx]).length (fl exE (l ++ [tx])) :: .pt b3 (.cells (exE (.mk e.k e.o e.t e.n e.s a22 c22 (l ++ [tx]))).toArray 27 (0, 0)) :: .pt b2 (.cells (exE zeroE).toArray 27 (0, 0)) :: .pt b1 (.cells (exE e).toArray 27 (0, 0)) :: ((h20 ++ bl) ++ h)) (by omega) ?_ (by (repeat (first | exact Sub.nil | refine Sub.cons rfl ?_ | refine Sub.consE rfl (by simp; done) ?_))) (by (repeat (first | exact sub0 _ | exact subA _ _ | refine subC _ ?_ | apply subK | refine subT _ ?_))) ⟨a22, c22, l ++ [tx], h20 ++ bl, ⟨by omega, hm2, ha2⟩, rfl, rfl, rfl⟩)
    (repeat (first | exact Sub.nil | refine Sub.cons rfl ?_ | refine Sub.consE rfl (by simp; done) ?_))
  · replace c11 := of_decide_eq_false c11
    have hll : l.length = e.l.length := by omega
    rw [hll, List.take_length] at hm
    refine WC.knowRow (a := a) (by (repeat (first | exact mem0 _ | apply memT))) fun p9 q9 r9 => ?_
    refine WC.exit (keepF (ts := [2, 3]) rfl (toK (by assumption) ?_))
    (repeat (first | refine WC.seqK fun K hK => ?_ | refine WC.block ?_ | refine WC.regionG rfl fun ops hG => ?_))
    refine WL.po (PO.loadA Tryd.underlying27 rfl rfl (Ev.tmp rfl) (by (repeat (first | exact mem0 _ | apply memT))) rfl) (leB rfl) ?_
    refine WL.store rfl (Ev.tmp rfl) (Ev.tmp rfl) rfl rfl rfl rfl (by (repeat (first | exact Upd.here | apply Upd.next))) ?_
    refine WL.nil (keepF (ts := [2]) rfl (toK (by assumption) ?_))
    (try clear hG ops)
    refine WC.ret (end1 (h' := .row (.slice a l.length c) 27 6 l.length (fl exE l) :: (bl ++ h)) (.inl rfl) rfl (RV.cellA Tryd.underlying27 rfl rfl rfl (by (repeat (first | exact mem0 _ | apply memT))) rfl) (View.le.refl m) (by (repeat (first | exact sub0 _ | exact subA _ _ | refine subC _ ?_ | apply subK | refine subT _ ?_))) ?_)
    exact ⟨.mk e.k e.o e.t e.n e.s a c l, .row (.slice a l.length c) 27 6 l.length (fl exE l) :: bl, rfl, ⟨by rw [strip_eq, strip_eq e]; show Ex.mk _ _ _ _ _ _ _ (l.map strip) = _; rw [hm]; rfl, .mk (Rd.inRow (List.Mem.head _) r9 p9 q9) (fun y hy => (ha y hy).1.mono (List.sublist_cons_self _ _)), .mk hk ho ht hn hs fun y hy => (ha y hy).2⟩, rfl⟩
theorem nm_cx {m : View} {f : FuncId} {e : Ex} {h : List Res} {l : List B} (c : CT Tryd.prog f [exV e] h m (fun v _ h' => OwnF encB 9 1 h l v h')) :
    CX Tryd.prog f [exV e] h m (fun v _ h' => ∃ hp', h' = hp' ++ h ∧ ∃ a c, v = .slice a l.length c ∧ hp' = [.row (.slice a l.length c) 9 1 l.length (fl encB l)]) (fun _ _ => False) :=
  CX.ofCT (CT.conv c fun _ m' _ _ _ st ⟨a, c, k, hk, e1, e2⟩ => ⟨m', [.row (.slice a l.length c) 9 1 l.length (fl encB l)] ++ h, View.le.refl _, by subst hk; rw [e2] at st; exact st, _, rfl, a, c, by subst hk; exact e1, rfl⟩)
theorem cnt_strip2 (e : Ex) : cntE (strip e) = cntE e := by
  refine Ex.ind (p := fun e => cntE (strip e) = cntE e) (fun e ih => ?_) e
  rw [cntE_eq, cntE_eq, l_strip]
  have key : ∀ (l : List Ex), (∀ x ∈ l, x ∈ e.l) → cntL (l.map strip) = cntL l := by
    intro l
    induction l with
    | nil => intro _; rfl
    | cons x r ihr =>
      intro hm
      rw [List.map_cons]
      unfold cntL
      rw [ih x (hm x (by simp)), ihr fun y hy => hm y (by simp [hy])]
  rw [key e.l fun _ h => h]
theorem names_strip2 (e : Ex) : namesE (strip e) = namesE e := by
  refine Ex.ind (p := fun e => namesE (strip e) = namesE e) (fun e ih => ?_) e
  rw [namesE_eq, namesE_eq, l_strip, strip_eq]
  have key : ∀ (l : List Ex), (∀ x ∈ l, x ∈ e.l) → namesL (l.map strip) = namesL l := by
    intro l
    induction l with
    | nil => intro _; rfl
    | cons x r ihr =>
      intro hm
      rw [List.map_cons]
      unfold namesL
      rw [ih x (hm x (by simp)), ihr fun y hy => hm y (by simp [hy])]
  rw [key e.l fun _ h => h]
  rfl
theorem trees_law {m : View} (hg : Glob m) (hp : Pow m) (e f : Ex) (o : Int) (ho : 0 ≤ o ∧ o ≤ 255) (h : List Res) (hT : TOk m h e) (hW : Wf e) (hc : cntE e ≤ 1048576) (hTf : TOk m h f) : CT Tryd.prog 8 [exV e, exV f, .int .u8 o] h m Law := by
  refine CT.body Tryd.call8 Tryd.func8 rfl Tryd.ntmps8 (leB rfl) rfl ?_
  (repeat (first | refine WC.seqK fun K hK => ?_ | refine WC.block ?_ | refine WC.regionG rfl fun ops hG => ?_))
  refine WL.box (Ev.tmp rfl) rfl (leB rfl) fun b3 => ?_
  refine WL.box (Ev.tmp rfl) rfl (leB rfl) fun b4 => ?_
  refine WL.po (PO.assign Ev.const) (leB rfl) ?_
  refine WL.nil (keepF (ts := [2, 3, 4]) rfl (toK (by assumption) ?_))
  (try clear hG ops)
  (repeat (first | refine WC.seqK fun K hK => ?_ | refine WC.block ?_ | refine WC.regionG rfl fun ops hG => ?_))
  refine WL.po (PO.loadA Tryd.underlying27 rfl rfl (Ev.tmp rfl) (by (repeat (first | exact mem0 _ | apply memT))) rfl) (leB rfl) ?_
  refine WL.callK Ev.func (Evs.cons (Ev.tmp rfl) Evs.nil) (copied_ct e _ _ (hT.mono (by (repeat (first | exact sub0 _ | exact subA _ _ | refine subC _ ?_ | apply subK | refine subT _ ?_)))) hW hc) (leB rfl) ?_
  rintro _ _ ⟨tx, bl, rfl, ⟨hst, hTx, hWx⟩, rfl⟩
  refine WL.perm (perm_mid bl [_, _] h) ?_
  refine WL.alloc rfl rfl (leB rfl) fun b7 => ?_
  refine WL.store rfl (Ev.tmp rfl) (Ev.tmp rfl) rfl rfl rfl rfl (by (repeat (first | exact Upd.here | apply Upd.next))) ?_
  refine WL.nil (keepF (ts := [2, 3, 4, 7]) rfl (toK (by assumption) ?_))
  (try clear hG ops)
  (repeat (first | refine WC.seqK fun K hK => ?_ | refine WC.block ?_ | refine WC.regionG rfl fun ops hG => ?_))
  have hmx : mayE tx = mayE e := by rw [← may_strip, hst, may_strip]
  have hcx : cntE tx = cntE e := by rw [← cnt_strip2, hst, cnt_strip2]
  have hnx : namesE tx = namesE e := by rw [← names_strip2, hst, names_strip2]
  have hse : sameE tx e = true := (same_strip tx e).2 hst
  have hsf : sameE tx f = sameE e f := by rw [Bool.eq_iff_iff, same_strip, same_strip, hst]
  have hTb : TOk m (bl ++ h) tx := hTx.mono (List.sublist_append_left bl h)
  refine WL.po (PO.move (Ev.tmp rfl)) (leB rfl) ?_
  refine WL.callP Ev.func (Evs.cons (Ev.tmp rfl) Evs.nil) (word_ct o ho _ _) (leB rfl) ?_
  refine WL.po (PO.move (Ev.tmp rfl)) (leB rfl) ?_
  refine WL.po (PO.extract (Ev.tmp rfl) rfl) (leB rfl) ?_
  refine WL.po (PO.extract (Ev.tmp rfl) rfl) (leB rfl) ?_
  refine WL.po (PO.assign (Ev.tmp rfl)) (leB rfl) ?_
  refine WL.po (PO.assign (Ev.tmp rfl)) (leB rfl) ?_
  refine WL.nil (keepF (ts := [2, 3, 4, 7, 8, 9]) rfl (toK (by assumption) ?_))
  (try clear hG ops)
  (repeat (first | refine WC.seqK fun K hK => ?_ | refine WC.block ?_ | refine WC.regionG rfl fun ops hG => ?_))
  refine WL.po (PO.move (Ev.tmp rfl)) (leB rfl) ?_
  refine WL.callP Ev.func (Evs.cons (Ev.tmp rfl) Evs.nil) (wordER_ct o ho _ _) (leB rfl) ?_
  refine WL.po (PO.move (Ev.tmp rfl)) (leB rfl) ?_
  refine WL.po (PO.extract (Ev.tmp rfl) rfl) (leB rfl) ?_
  refine WL.po (PO.extract (Ev.tmp rfl) rfl) (leB rfl) ?_
  refine WL.po (PO.assign (Ev.tmp rfl)) (leB rfl) ?_
  refine WL.po (PO.assign (Ev.tmp rfl)) (leB rfl) ?_
  refine WL.nil (keepF (ts := [3, 4, 7, 8, 9, 10, 11]) rfl (toK (by assumption) ?_))
  (try clear hG ops)
  (repeat (first | refine WC.seqK fun K hK => ?_ | refine WC.block ?_ | refine WC.regionG rfl fun ops hG => ?_))
  refine WC.drawS [1, 3, 7, 9, 14] (.op 0 (.op 2 (.op 1 (.op 3 (.op 4 (.op 5 (.op 6 (.op 8 (.op 7 (.op 9 (.op 10 (.op 11 (.op 12 (.op 13 (.op 15 (.op 14 .nil)))))))))))))))) [16, 17, 18, 19] _ [] mixed (fun _ _ _ _ _ h => h) [] (by kernel_rfl) ?_
  refine SR.po rfl rfl (PO.loadA Tryd.underlying27 rfl rfl (Ev.tmp rfl) (by (repeat (first | exact mem0 _ | apply memT))) rfl) (leB rfl) ?_
  refine SR.po rfl rfl (PO.loadA Tryd.underlying27 rfl rfl (Ev.tmp rfl) (by (repeat (first | exact mem0 _ | apply memT))) rfl) (leB rfl) ?_
  refine SR.callP rfl rfl Ev.func (Evs.cons (Ev.tmp rfl) Evs.nil) (fun fr => CT.val (may_ct hg tx _ (TOk.fr (hTb.mono (by (repeat (first | exact sub0 _ | exact subA _ _ | refine subC _ ?_ | apply subK | refine subT _ ?_)))) fr) hWx) (congrArg Value.bool hmx)) (leB rfl) ?_
  refine SR.callP rfl rfl Ev.func (Evs.cons (Ev.tmp rfl) Evs.nil) (fun fr => mayR_ct e _ (TOk.fr (hT.mono (by (repeat (first | exact sub0 _ | exact subA _ _ | refine subC _ ?_ | apply subK | refine subT _ ?_)))) fr) hW) (leB rfl) ?_
  refine SR.po rfl rfl (PO.eqlB Tryd.underlying4 (Ev.tmp rfl) (Ev.tmp rfl)) (leB rfl) ?_
  refine SR.val (v' := .bool true) (congrArg Value.bool (beq_self_eq_true _)) ?_
  refine SR.po rfl rfl (PO.move (Ev.tmp rfl)) (leB rfl) ?_
  refine SR.poU rfl rfl (GU.t rfl rfl) rfl (PO.loadA Tryd.underlying27 rfl rfl (Ev.tmp rfl) (by (repeat (first | exact mem0 _ | apply memT))) rfl) (leB rfl) ?_
  refine SR.poU rfl rfl (GU.t rfl rfl) rfl (PO.loadA Tryd.underlying27 rfl rfl (Ev.tmp rfl) (by (repeat (first | exact mem0 _ | apply memT))) rfl) (leB rfl) ?_
  refine SR.callU rfl rfl (GU.t rfl rfl) rfl Ev.func (Evs.cons (Ev.tmp rfl) Evs.nil) (fun fr => CT.val (size_ct tx _ _ (TOk.fr (hTb.mono (by (repeat (first | exact sub0 _ | exact subA _ _ | refine subC _ ?_ | apply subK | refine subT _ ?_)))) fr) (by omega)) (congrArg (fun n : Nat => Value.int .i64 n) hcx)) (leB rfl) ?_
  refine SR.callU rfl rfl (GU.t rfl rfl) rfl Ev.func (Evs.cons (Ev.tmp rfl) Evs.nil) (fun fr => sizeR_ct e _ _ (TOk.fr (hT.mono (by (repeat (first | exact sub0 _ | exact subA _ _ | refine subC _ ?_ | apply subK | refine subT _ ?_)))) fr) (by omega)) (leB rfl) ?_
  refine SR.poU rfl rfl (GU.t rfl rfl) rfl (PO.bin (Ev.tmp rfl) (Ev.tmp rfl) rfl) (leB rfl) ?_
  refine SR.val (v' := .bool true) (congrArg Value.bool (beq_self_eq_true _)) ?_
  refine SR.po rfl rfl (PO.pickAnd rfl rfl) (leB rfl) ?_
  refine SR.po rfl rfl (PO.move (Ev.tmp rfl)) (leB rfl) ?_
  refine SR.poU rfl rfl (GU.t rfl rfl) rfl (PO.loadA Tryd.underlying27 rfl rfl (Ev.tmp rfl) (by (repeat (first | exact mem0 _ | apply memT))) rfl) (leB rfl) ?_
  refine SR.poU rfl rfl (GU.t rfl rfl) rfl (PO.loadA Tryd.underlying27 rfl rfl (Ev.tmp rfl) (by (repeat (first | exact mem0 _ | apply memT))) rfl) (leB rfl) ?_
  refine SR.callXU rfl rfl (GU.t rfl rfl) rfl Ev.func (Evs.cons (Ev.tmp rfl) Evs.nil) (fun fr => nm_cx (names_ct tx _ m (TOk.fr (hTb.mono (by (repeat (first | exact sub0 _ | exact subA _ _ | refine subC _ ?_ | apply subK | refine subT _ ?_)))) fr) (by omega))) (leB rfl) (fun fr v hv hx => ?_) fun v40 h40 hr40 => ?_
  · exact hx.elim
  obtain ⟨a40, c40, rfl, rfl⟩ := hr40
  refine SR.nil rfl rfl ?_
  refine WL.knowRow (a := a40) (by (repeat (first | exact mem0 _ | apply memT))) fun p40 q40 r40 => ?_
  refine WL.unG (GU.t rfl rfl) rfl ?_
  refine WL.callK Ev.func (Evs.cons (Ev.tmp rfl) Evs.nil) (namesR_ct e _ _ (hT.mono (by (repeat (first | exact sub0 _ | exact subA _ _ | refine subC _ ?_ | apply subK | refine subT _ ?_)))) (by omega)) (leB rfl) ?_
  rintro _ _ ⟨a42, c42, k42, e42, rfl, rfl⟩
  refine WL.knowRow (a := a42) (by (repeat (first | exact mem0 _ | apply memT))) fun p42 q42 r42 => ?_
  refine WL.unG (GU.t rfl rfl) rfl ?_
  refine WL.callP Ev.func (Evs.cons (Ev.tmp rfl) (Evs.cons (Ev.tmp rfl) Evs.nil)) (CT.val (texts_ct a40 a42 (namesE tx).length c40 k42 c42 (namesE tx) (namesE e) _ m (Rd.inRow (by (repeat (first | exact mem0 _ | apply memT))) r40 p40 q40) (Rd.inRow (by (repeat (first | exact mem0 _ | apply memT))) r42 p42 q42)) (congrArg Value.bool (show (namesE tx == namesE e) = true by rw [hnx]; exact beq_self_eq_true _))) (leB rfl) ?_
  refine WL.po (PO.pickAnd rfl rfl) (leB rfl) ?_
  refine WL.po (PO.assign (Ev.tmp rfl)) (leB rfl) ?_
  refine WL.nil (keepF (ts := [3, 4, 7, 8, 9, 10, 11, 12]) rfl (toK (by assumption) ?_))
  (try clear hG ops)
  (repeat (first | refine WC.seqK fun K hK => ?_ | refine WC.block ?_ | refine WC.regionG rfl fun ops hG => ?_))
  refine WC.drawS [2, 6] (.op 0 (.op 1 (.op 2 (.op 3 (.op 4 (.op 5 (.op 7 (.op 8 (.op 6 .nil))))))))) [9, 10, 11, 12] _ [] mixed (fun _ _ _ _ _ h => h) [] (by kernel_rfl) ?_
  refine SR.po rfl rfl (PO.loadA Tryd.underlying27 rfl rfl (Ev.tmp rfl) (by (repeat (first | exact mem0 _ | apply memT))) rfl) (leB rfl) ?_
  refine SR.po rfl rfl (PO.loadA Tryd.underlying27 rfl rfl (Ev.tmp rfl) (by (repeat (first | exact mem0 _ | apply memT))) rfl) (leB rfl) ?_
  refine SR.callP rfl rfl Ev.func (Evs.cons (Ev.tmp rfl) (Evs.cons (Ev.tmp rfl) Evs.nil)) (fun fr => CT.val (same_ct tx e _ _ (TOk.fr (hTb.mono (by (repeat (first | exact sub0 _ | exact subA _ _ | refine subC _ ?_ | apply subK | refine subT _ ?_)))) fr) (TOk.fr (hT.mono (by (repeat (first | exact sub0 _ | exact subA _ _ | refine subC _ ?_ | apply subK | refine subT _ ?_)))) fr)) (congrArg Value.bool hse)) (leB rfl) ?_
  refine SR.po rfl rfl (PO.move (Ev.tmp rfl)) (leB rfl) ?_
  refine SR.poU rfl rfl (GU.t rfl rfl) rfl (PO.loadA Tryd.underlying27 rfl rfl (Ev.tmp rfl) (by (repeat (first | exact mem0 _ | apply memT))) rfl) (leB rfl) ?_
  refine SR.poU rfl rfl (GU.t rfl rfl) rfl (PO.loadA Tryd.underlying27 rfl rfl (Ev.tmp rfl) (by (repeat (first | exact mem0 _ | apply memT))) rfl) (leB rfl) ?_
  refine SR.poU rfl rfl (GU.t rfl rfl) rfl (PO.loadA Tryd.underlying27 rfl rfl (Ev.tmp rfl) (by (repeat (first | exact mem0 _ | apply memT))) rfl) (leB rfl) ?_
  refine SR.poU rfl rfl (GU.t rfl rfl) rfl (PO.loadA Tryd.underlying27 rfl rfl (Ev.tmp rfl) (by (repeat (first | exact mem0 _ | apply memT))) rfl) (leB rfl) ?_
  refine SR.callU rfl rfl (GU.t rfl rfl) rfl Ev.func (Evs.cons (Ev.tmp rfl) (Evs.cons (Ev.tmp rfl) Evs.nil)) (fun fr => CT.val (same_ct tx f _ _ (TOk.fr (hTb.mono (by (repeat (first | exact sub0 _ | exact subA _ _ | refine subC _ ?_ | apply subK | refine subT _ ?_)))) fr) (TOk.fr (hTf.mono (by (repeat (first | exact sub0 _ | exact subA _ _ | refine subC _ ?_ | apply subK | refine subT _ ?_)))) fr)) (congrArg Value.bool hsf)) (leB rfl) ?_
  refine SR.nil rfl rfl ?_
  refine WL.unG (GU.t rfl rfl) rfl ?_
  refine WL.callP Ev.func (Evs.cons (Ev.tmp rfl) (Evs.cons (Ev.tmp rfl) Evs.nil)) (sameR_ct e f _ _ (hT.mono (by (repeat (first | exact sub0 _ | exact subA _ _ | refine subC _ ?_ | apply subK | refine subT _ ?_)))) (hTf.mono (by (repeat (first | exact sub0 _ | exact subA _ _ | refine subC _ ?_ | apply subK | refine subT _ ?_))))) (leB rfl) ?_
  refine WL.unG (GU.t rfl rfl) rfl ?_
  refine WL.po (PO.eqlB Tryd.underlying4 (Ev.tmp rfl) (Ev.tmp rfl)) (leB rfl) ?_
  refine WL.val (v' := .bool true) (congrArg Value.bool (beq_self_eq_true _)) ?_
  refine WL.po (PO.pickAnd rfl rfl) (leB rfl) ?_
  refine WL.po (PO.assign (Ev.tmp rfl)) (leB rfl) ?_
  refine WL.nil (keepF (ts := [3, 7, 8, 9, 10, 11, 12, 13]) rfl (toK (by assumption) ?_))
  (try clear hG ops)
  (repeat (first | refine WC.seqK fun K hK => ?_ | refine WC.block ?_ | refine WC.regionG rfl fun ops hG => ?_))
  refine WL.po (PO.move (Ev.tmp rfl)) (leB rfl) ?_
  refine WL.po (PO.move (Ev.tmp rfl)) (leB rfl) ?_
  refine WL.unG (GU.t (hG _ _ rfl) rfl) rfl ?_
  refine WL.po (PO.move (Ev.tmp rfl)) (leB rfl) ?_
  refine WL.po (PO.pickAnd rfl rfl) (leB rfl) ?_
  refine WL.po (PO.move (Ev.tmp rfl)) (leB rfl) ?_
  refine WL.unG (GU.t (hG _ _ rfl) rfl) rfl ?_
  refine WL.po (PO.move (Ev.tmp rfl)) (leB rfl) ?_
  refine WL.unG (GU.t (hG _ _ rfl) rfl) rfl ?_
  refine WL.po (PO.move (Ev.tmp rfl)) (leB rfl) ?_
  refine WL.unG (GU.t (hG _ _ rfl) rfl) rfl ?_
  refine WL.po (PO.eqlS (Ev.tmp rfl) (Ev.tmp rfl)) (leB rfl) ?_
  refine WL.val (v' := .bool true) (congrArg Value.bool (beq_self_eq_true _)) ?_
  refine WL.po (PO.pickAnd rfl rfl) (leB rfl) ?_
  refine WL.po (PO.move (Ev.tmp rfl)) (leB rfl) ?_
  refine WL.unG (GU.t (hG _ _ rfl) rfl) rfl ?_
  refine WL.po (PO.move (Ev.tmp rfl)) (leB rfl) ?_
  refine WL.unG (GU.t (hG _ _ rfl) rfl) rfl ?_
  refine WL.po (PO.move (Ev.tmp rfl)) (leB rfl) ?_
  refine WL.unG (GU.t (hG _ _ rfl) rfl) rfl ?_
  refine WL.po (PO.eqlB Tryd.underlying4 (Ev.tmp rfl) (Ev.tmp rfl)) (leB rfl) ?_
  refine WL.val (v' := .bool true) (congrArg Value.bool (beq_self_eq_true _)) ?_
  refine WL.po (PO.pickAnd rfl rfl) (leB rfl) ?_
  refine WL.po (PO.move (Ev.tmp rfl)) (leB rfl) ?_
  refine WL.unG (GU.t (hG _ _ rfl) rfl) rfl ?_
  refine WL.po (PO.loadA Tryd.underlying27 rfl rfl (Ev.tmp rfl) (by (repeat (first | exact mem0 _ | apply memT))) rfl) (leB rfl) ?_
  refine WL.unG (GU.t (hG _ _ rfl) rfl) rfl ?_
  refine WL.po (PO.loadA Tryd.underlying27 rfl rfl (Ev.tmp rfl) (by (repeat (first | exact mem0 _ | apply memT))) rfl) (leB rfl) ?_
  refine WL.unG (GU.t (hG _ _ rfl) rfl) rfl ?_
  refine WL.callP Ev.func (Evs.cons (Ev.tmp rfl) (Evs.cons (Ev.tmp rfl) Evs.nil)) (CT.val (sameR_ct tx e _ _ (hTb.mono (by (repeat (first | exact sub0 _ | exact subA _ _ | refine subC _ ?_ | apply subK | refine subT _ ?_)))) (hT.mono (by (repeat (first | exact sub0 _ | exact subA _ _ | refine subC _ ?_ | apply subK | refine subT _ ?_))))) (congrArg Value.bool hse)) (leB rfl) ?_
  refine WL.po (PO.pickAnd rfl rfl) (leB rfl) ?_
  refine WL.po (PO.move (Ev.tmp rfl)) (leB rfl) ?_
  refine WL.unG (GU.t (hG _ _ rfl) rfl) rfl ?_
  refine WL.callP Ev.func Evs.nil (works_ct hg hp _) (leB rfl) ?_
  refine WL.po (PO.pickAnd rfl rfl) (leB rfl) ?_
  refine WL.po (PO.assign (Ev.tmp rfl)) (leB rfl) ?_
  refine WL.nil (keepF (ts := [6]) rfl (toK (by assumption) ?_))
  (try clear hG ops)
  refine WC.ret (end1 (h' := h) (.inl rfl) rfl (RV.tmp rfl) (View.le.refl m) (by (repeat (first | exact sub0 _ | exact subA _ _ | refine subC _ ?_ | apply subK | refine subT _ ?_))) ?_)
  rfl
end Go.Proofs.YtheejlbhmbbdjaaDoor

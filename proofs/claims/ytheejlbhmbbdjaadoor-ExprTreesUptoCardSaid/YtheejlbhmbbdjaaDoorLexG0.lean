/- lex: the laws' helpers, walked. -/
import Derived.Test.YtheejlbhmbbdjaaDoorLexD
import Derived.Test.YtheejlbhmbbdjaaDoorLexF
import Derived.Test.YtheejlbhmbbdjaaDoorLexXm
namespace Go.Proofs.YtheejlbhmbbdjaaDoor
open Go.Eng Go.Lx Go.Ty
set_option maxRecDepth 100000
theorem sameK_ct (s1 : Option Addr) (n1 c1 : Nat) (s2 : Option Addr) (n2 c2 : Nat) (l w : List Tok) (h : List Res) (m : View) (h1 : Rd m h s1 n1 c1 4 (fl encK l)) (h2 : Rd m h s2 n2 c2 4 (fl encK w)) :
    CT Tryd.prog 11 [.slice s1 n1 c1, .slice s2 n2 c2] h m (Pure1 h (.bool (eqL sameT l w))) := by
  have hl1 := h1.lenF encK_len (by decide)
  have hl2 := h2.lenF encK_len (by decide)
  subst hl1 hl2
  have hmx1 := h1.mx
  have hle1 := h1.le
  have hmx2 := h2.mx
  have hle2 := h2.le
  refine CT.body Tryd.call11 Tryd.func11 rfl Tryd.ntmps11 (leB rfl) rfl ?_
  (repeat (first | refine WC.seqK fun K hK => ?_ | refine WC.block ?_ | refine WC.regionG rfl fun ops hG => ?_))
  refine WL.po (PO.assign Ev.const) (leB rfl) ?_
  refine WL.nil (keepF (ts := [0, 1]) rfl (toK (by assumption) ?_))
  (try clear hG ops)
  (repeat (first | refine WC.seqK fun K hK => ?_ | refine WC.block ?_ | refine WC.regionG rfl fun ops hG => ?_))
  refine WL.po (PO.move (Ev.tmp rfl)) (leB rfl) ?_
  refine WL.po (PO.lenSl Tryd.underlying28 (Ev.tmp rfl)) (leB rfl) ?_
  refine WL.po (PO.move (Ev.tmp rfl)) (leB rfl) ?_
  refine WL.po (PO.lenSl Tryd.underlying28 (Ev.tmp rfl)) (leB rfl) ?_
  refine WL.po (PO.bin (Ev.tmp rfl) (Ev.tmp rfl) rfl) (leB rfl) ?_
  refine WL.nil (keepF (ts := [0, 1, 10]) rfl (toK (by assumption) ?_))
  (try clear hG ops)
  (repeat (first | refine WC.seqK fun K hK => ?_ | refine WC.block ?_ | refine WC.regionG rfl fun ops hG => ?_))
  refine WC.cond (Ev.tmp rfl) (fun c10 => ?_) (fun c10 => ?_)
  · replace c10 := t_ne c10
    (repeat (first | refine WC.seqK fun K hK => ?_ | refine WC.block ?_ | refine WC.regionG rfl fun ops hG => ?_))
    refine WL.po (PO.assign Ev.const) (leB rfl) ?_
    refine WL.nil (keepF (ts := [4]) rfl (toK (by assumption) ?_))
    (try clear hG ops)
    refine WC.ret (end1 (h' := h) (.inl rfl) rfl (RV.tmp rfl) (View.le.refl m) (by (repeat (first | exact sub0 _ | exact subA _ _ | refine subC _ ?_ | apply subK | refine subT _ ?_))) ?_)
    exact ⟨by rw [eqL_len sameT l w (by omega)], rfl⟩
  · replace c10 := f_ne c10
    refine WC.skip (keepF (ts := [0, 1]) rfl (toK (by assumption) ?_))
    (repeat (first | refine WC.seqK fun K hK => ?_ | refine WC.block ?_ | refine WC.regionG rfl fun ops hG => ?_))
    refine WL.po (PO.assign Ev.const) (leB rfl) ?_
    refine WL.nil (keepF (ts := [0, 1, 5]) rfl (toK (by assumption) ?_))
    (try clear hG ops)
    (repeat (first | refine WC.seqK fun K hK => ?_ | refine WC.block ?_ | refine WC.regionG rfl fun ops hG => ?_))
    refine WC.loopI [0, 1] rfl (fun μ F' h' => ∃ j : Nat, (j ≤ l.length ∧ eqL sameT l w = eqL sameT (l.drop j) (w.drop j)) ∧ l.length - j = μ ∧ F' = [(5, .int .i64 j)] ∧ h = h') (l.length - 0) [(5, .int .i64 0)] (h0 := h) ?_ (by (repeat (first | exact sub0 _ | exact subA _ _ | refine subC _ ?_ | apply subK | refine subT _ ?_))) ⟨0, ⟨by omega, rfl⟩, rfl, rfl, rfl⟩ ?_
    · (repeat (first | exact Sub.nil | refine Sub.cons rfl ?_ | refine Sub.consE rfl (by simp; done) ?_))
    rintro _ _ _ ⟨j, ⟨hk, hJ⟩, rfl, rfl, rfl⟩
    refine WC.frm rfl ?_
    (repeat (first | refine WC.seqK fun K hK => ?_ | refine WC.block ?_ | refine WC.regionG rfl fun ops hG => ?_))
    refine WL.po (PO.move (Ev.tmp rfl)) (leB rfl) ?_
    refine WL.po (PO.move (Ev.tmp rfl)) (leB rfl) ?_
    refine WL.po (PO.lenSl Tryd.underlying28 (Ev.tmp rfl)) (leB rfl) ?_
    refine WL.po (PO.bin (Ev.tmp rfl) (Ev.tmp rfl) rfl) (leB rfl) ?_
    refine WL.nil (keepF (ts := [0, 1, 5, 14]) rfl (toK (by assumption) ?_))
    (try clear hG ops)
    (repeat (first | refine WC.seqK fun K hK => ?_ | refine WC.block ?_ | refine WC.regionG rfl fun ops hG => ?_))
    refine WC.cond (Ev.tmp rfl) (fun c14 => ?_) (fun c14 => ?_)
    · replace c14 := of_decide_eq_true c14
      obtain ⟨x, hx⟩ := get_some (l := l) (k := j) (by omega)
      obtain ⟨y, hy⟩ := get_some (l := w) (k := j) (by omega)
      rw [eqL_drop sameT hx hy] at hJ
      refine WC.skip (keepF (ts := [0, 1, 5]) rfl (toK (by assumption) ?_))
      (repeat (first | refine WC.seqK fun K hK => ?_ | refine WC.block ?_ | refine WC.regionG rfl fun ops hG => ?_))
      refine WC.drawS [] (.op 0 (.op 1 (.op 2 (.op 3 (.op 4 (.op 5 (.op 6 (.op 7 (.op 8 (.op 9 (.op 10 (.op 11 (.op 12 (.op 13 (.op 14 (.op 15 (.op 16 (.op 17 (.op 18 (.op 19 (.op 20 (.op 21 (.op 22 (.op 23 (.op 24 (.op 25 (.op 26 (.op 27 (.op 28 (.op 29 (.op 30 (.op 31 (.op 32 (.op 33 (.op 34 .nil))))))))))))))))))))))))))))))))))) [35, 36] _ [] mixed (fun _ _ _ _ _ h => h) [] (by kernel_rfl) ?_
      refine SR.po rfl rfl (PO.move (Ev.tmp rfl)) (leB rfl) ?_
      refine SR.po rfl rfl (PO.move (Ev.tmp rfl)) (leB rfl) ?_
      refine SR.po rfl rfl (PO.idx EL28.und EL28.size EL28.posz (Ev.tmp rfl) (Ev.tmp rfl) (by first | assumption | exact Rd.ofSl (by assumption) | exact Rd.ofPt rfl (by decide) (by (repeat (first | exact mem0 _ | apply memT))) | exact Rd.mono (by assumption) (View.le.refl _) (by (repeat (first | exact sub0 _ | exact subA _ _ | refine subC _ ?_ | apply subK | refine subT _ ?_))) | exact Rd.inRow (by (repeat (first | exact mem0 _ | apply memT))) (by assumption) (by assumption) (by assumption)) rfl (by omega)) (leB rfl) ?_
      refine SR.po rfl rfl (PO.fieldF Tryd.underlying36 rfl (Nat.ne_of_beq_eq_false rfl) encK_len (Nat.succ_pos _) (by first | assumption | exact Rd.ofSl (by assumption) | exact Rd.ofPt rfl (by decide) (by (repeat (first | exact mem0 _ | apply memT))) | exact Rd.mono (by assumption) (View.le.refl _) (by (repeat (first | exact sub0 _ | exact subA _ _ | refine subC _ ?_ | apply subK | refine subT _ ?_))) | exact Rd.inRow (by (repeat (first | exact mem0 _ | apply memT))) (by assumption) (by assumption) (by assumption)) hx (Ev.tmp rfl)) (leB rfl) ?_
      refine SR.po rfl rfl (PO.loadFf Tryd.underlying34 rfl encK_len (by first | assumption | exact Rd.ofSl (by assumption) | exact Rd.ofPt rfl (by decide) (by (repeat (first | exact mem0 _ | apply memT))) | exact Rd.mono (by assumption) (View.le.refl _) (by (repeat (first | exact sub0 _ | exact subA _ _ | refine subC _ ?_ | apply subK | refine subT _ ?_))) | exact Rd.inRow (by (repeat (first | exact mem0 _ | apply memT))) (by assumption) (by assumption) (by assumption)) (Ev.tmp rfl) hx rfl) (leB rfl) ?_
      refine SR.po rfl rfl (PO.move (Ev.tmp rfl)) (leB rfl) ?_
      refine SR.po rfl rfl (PO.move (Ev.tmp rfl)) (leB rfl) ?_
      refine SR.po rfl rfl (PO.idx EL28.und EL28.size EL28.posz (Ev.tmp rfl) (Ev.tmp rfl) (by first | assumption | exact Rd.ofSl (by assumption) | exact Rd.ofPt rfl (by decide) (by (repeat (first | exact mem0 _ | apply memT))) | exact Rd.mono (by assumption) (View.le.refl _) (by (repeat (first | exact sub0 _ | exact subA _ _ | refine subC _ ?_ | apply subK | refine subT _ ?_))) | exact Rd.inRow (by (repeat (first | exact mem0 _ | apply memT))) (by assumption) (by assumption) (by assumption)) rfl (by omega)) (leB rfl) ?_
      refine SR.po rfl rfl (PO.fieldF Tryd.underlying36 rfl (Nat.ne_of_beq_eq_false rfl) encK_len (Nat.succ_pos _) (by first | assumption | exact Rd.ofSl (by assumption) | exact Rd.ofPt rfl (by decide) (by (repeat (first | exact mem0 _ | apply memT))) | exact Rd.mono (by assumption) (View.le.refl _) (by (repeat (first | exact sub0 _ | exact subA _ _ | refine subC _ ?_ | apply subK | refine subT _ ?_))) | exact Rd.inRow (by (repeat (first | exact mem0 _ | apply memT))) (by assumption) (by assumption) (by assumption)) hy (Ev.tmp rfl)) (leB rfl) ?_
      refine SR.po rfl rfl (PO.loadFf Tryd.underlying34 rfl encK_len (by first | assumption | exact Rd.ofSl (by assumption) | exact Rd.ofPt rfl (by decide) (by (repeat (first | exact mem0 _ | apply memT))) | exact Rd.mono (by assumption) (View.le.refl _) (by (repeat (first | exact sub0 _ | exact subA _ _ | refine subC _ ?_ | apply subK | refine subT _ ?_))) | exact Rd.inRow (by (repeat (first | exact mem0 _ | apply memT))) (by assumption) (by assumption) (by assumption)) (Ev.tmp rfl) hy rfl) (leB rfl) ?_
      refine SR.po rfl rfl (PO.bin (Ev.tmp rfl) (Ev.tmp rfl) rfl) (leB rfl) ?_
      refine SR.po rfl rfl (PO.move (Ev.tmp rfl)) (leB rfl) ?_
      refine SR.poG rfl rfl (GU.f rfl rfl) (fun hc => PO.move (Ev.tmp rfl)) (leB rfl) ?_
      refine SR.poG rfl rfl (GU.f rfl rfl) (fun hc => PO.move (Ev.tmp rfl)) (leB rfl) ?_
      refine SR.poG rfl rfl (GU.f rfl rfl) (fun hc => PO.idx EL28.und EL28.size EL28.posz (Ev.gv rfl hc) (Ev.gv rfl hc) (by first | assumption | exact Rd.ofSl (by assumption) | exact Rd.ofPt rfl (by decide) (by (repeat (first | exact mem0 _ | apply memT))) | exact Rd.mono (by assumption) (View.le.refl _) (by (repeat (first | exact sub0 _ | exact subA _ _ | refine subC _ ?_ | apply subK | refine subT _ ?_))) | exact Rd.inRow (by (repeat (first | exact mem0 _ | apply memT))) (by assumption) (by assumption) (by assumption)) rfl (by omega)) (leB rfl) ?_
      refine SR.poG rfl rfl (GU.f rfl rfl) (fun hc => PO.fieldF Tryd.underlying36 rfl (Nat.ne_of_beq_eq_false rfl) encK_len (Nat.succ_pos _) (by first | assumption | exact Rd.ofSl (by assumption) | exact Rd.ofPt rfl (by decide) (by (repeat (first | exact mem0 _ | apply memT))) | exact Rd.mono (by assumption) (View.le.refl _) (by (repeat (first | exact sub0 _ | exact subA _ _ | refine subC _ ?_ | apply subK | refine subT _ ?_))) | exact Rd.inRow (by (repeat (first | exact mem0 _ | apply memT))) (by assumption) (by assumption) (by assumption)) hx (Ev.gv rfl hc)) (leB rfl) ?_
      refine SR.poG rfl rfl (GU.f rfl rfl) (fun hc => PO.loadFf Tryd.underlying9 rfl encK_len (by first | assumption | exact Rd.ofSl (by assumption) | exact Rd.ofPt rfl (by decide) (by (repeat (first | exact mem0 _ | apply memT))) | exact Rd.mono (by assumption) (View.le.refl _) (by (repeat (first | exact sub0 _ | exact subA _ _ | refine subC _ ?_ | apply subK | refine subT _ ?_))) | exact Rd.inRow (by (repeat (first | exact mem0 _ | apply memT))) (by assumption) (by assumption) (by assumption)) (Ev.gv rfl hc) hx rfl) (leB rfl) ?_
      refine SR.poG rfl rfl (GU.f rfl rfl) (fun hc => PO.move (Ev.tmp rfl)) (leB rfl) ?_
      refine SR.poG rfl rfl (GU.f rfl rfl) (fun hc => PO.move (Ev.tmp rfl)) (leB rfl) ?_
      refine SR.poG rfl rfl (GU.f rfl rfl) (fun hc => PO.idx EL28.und EL28.size EL28.posz (Ev.gv rfl hc) (Ev.gv rfl hc) (by first | assumption | exact Rd.ofSl (by assumption) | exact Rd.ofPt rfl (by decide) (by (repeat (first | exact mem0 _ | apply memT))) | exact Rd.mono (by assumption) (View.le.refl _) (by (repeat (first | exact sub0 _ | exact subA _ _ | refine subC _ ?_ | apply subK | refine subT _ ?_))) | exact Rd.inRow (by (repeat (first | exact mem0 _ | apply memT))) (by assumption) (by assumption) (by assumption)) rfl (by omega)) (leB rfl) ?_
      refine SR.poG rfl rfl (GU.f rfl rfl) (fun hc => PO.fieldF Tryd.underlying36 rfl (Nat.ne_of_beq_eq_false rfl) encK_len (Nat.succ_pos _) (by first | assumption | exact Rd.ofSl (by assumption) | exact Rd.ofPt rfl (by decide) (by (repeat (first | exact mem0 _ | apply memT))) | exact Rd.mono (by assumption) (View.le.refl _) (by (repeat (first | exact sub0 _ | exact subA _ _ | refine subC _ ?_ | apply subK | refine subT _ ?_))) | exact Rd.inRow (by (repeat (first | exact mem0 _ | apply memT))) (by assumption) (by assumption) (by assumption)) hy (Ev.gv rfl hc)) (leB rfl) ?_
      refine SR.poG rfl rfl (GU.f rfl rfl) (fun hc => PO.loadFf Tryd.underlying9 rfl encK_len (by first | assumption | exact Rd.ofSl (by assumption) | exact Rd.ofPt rfl (by decide) (by (repeat (first | exact mem0 _ | apply memT))) | exact Rd.mono (by assumption) (View.le.refl _) (by (repeat (first | exact sub0 _ | exact subA _ _ | refine subC _ ?_ | apply subK | refine subT _ ?_))) | exact Rd.inRow (by (repeat (first | exact mem0 _ | apply memT))) (by assumption) (by assumption) (by assumption)) (Ev.gv rfl hc) hy rfl) (leB rfl) ?_
      refine SR.poG rfl rfl (GU.f rfl rfl) (fun hc => PO.neqS (Ev.gv rfl hc) (Ev.gv rfl hc)) (leB rfl) ?_
      refine SR.po rfl rfl (PO.pickOr rfl rfl) (leB rfl) ?_
      refine SR.po rfl rfl (PO.move (Ev.tmp rfl)) (leB rfl) ?_
      refine SR.poG rfl rfl (GU.f rfl rfl) (fun hc => PO.move (Ev.tmp rfl)) (leB rfl) ?_
      refine SR.poG rfl rfl (GU.f rfl rfl) (fun hc => PO.move (Ev.tmp rfl)) (leB rfl) ?_
      refine SR.poG rfl rfl (GU.f rfl rfl) (fun hc => PO.idx EL28.und EL28.size EL28.posz (Ev.gv rfl hc) (Ev.gv rfl hc) (by first | assumption | exact Rd.ofSl (by assumption) | exact Rd.ofPt rfl (by decide) (by (repeat (first | exact mem0 _ | apply memT))) | exact Rd.mono (by assumption) (View.le.refl _) (by (repeat (first | exact sub0 _ | exact subA _ _ | refine subC _ ?_ | apply subK | refine subT _ ?_))) | exact Rd.inRow (by (repeat (first | exact mem0 _ | apply memT))) (by assumption) (by assumption) (by assumption)) rfl (by omega)) (leB rfl) ?_
      refine SR.poG rfl rfl (GU.f rfl rfl) (fun hc => PO.fieldF Tryd.underlying36 rfl (Nat.ne_of_beq_eq_false rfl) encK_len (Nat.succ_pos _) (by first | assumption | exact Rd.ofSl (by assumption) | exact Rd.ofPt rfl (by decide) (by (repeat (first | exact mem0 _ | apply memT))) | exact Rd.mono (by assumption) (View.le.refl _) (by (repeat (first | exact sub0 _ | exact subA _ _ | refine subC _ ?_ | apply subK | refine subT _ ?_))) | exact Rd.inRow (by (repeat (first | exact mem0 _ | apply memT))) (by assumption) (by assumption) (by assumption)) hx (Ev.gv rfl hc)) (leB rfl) ?_
      refine SR.poG rfl rfl (GU.f rfl rfl) (fun hc => PO.loadFf Tryd.underlying21 rfl encK_len (by first | assumption | exact Rd.ofSl (by assumption) | exact Rd.ofPt rfl (by decide) (by (repeat (first | exact mem0 _ | apply memT))) | exact Rd.mono (by assumption) (View.le.refl _) (by (repeat (first | exact sub0 _ | exact subA _ _ | refine subC _ ?_ | apply subK | refine subT _ ?_))) | exact Rd.inRow (by (repeat (first | exact mem0 _ | apply memT))) (by assumption) (by assumption) (by assumption)) (Ev.gv rfl hc) hx rfl) (leB rfl) ?_
      refine SR.poG rfl rfl (GU.f rfl rfl) (fun hc => PO.move (Ev.tmp rfl)) (leB rfl) ?_
      refine SR.poG rfl rfl (GU.f rfl rfl) (fun hc => PO.move (Ev.tmp rfl)) (leB rfl) ?_
      refine SR.poG rfl rfl (GU.f rfl rfl) (fun hc => PO.idx EL28.und EL28.size EL28.posz (Ev.gv rfl hc) (Ev.gv rfl hc) (by first | assumption | exact Rd.ofSl (by assumption) | exact Rd.ofPt rfl (by decide) (by (repeat (first | exact mem0 _ | apply memT))) | exact Rd.mono (by assumption) (View.le.refl _) (by (repeat (first | exact sub0 _ | exact subA _ _ | refine subC _ ?_ | apply subK | refine subT _ ?_))) | exact Rd.inRow (by (repeat (first | exact mem0 _ | apply memT))) (by assumption) (by assumption) (by assumption)) rfl (by omega)) (leB rfl) ?_
      refine SR.poG rfl rfl (GU.f rfl rfl) (fun hc => PO.fieldF Tryd.underlying36 rfl (Nat.ne_of_beq_eq_false rfl) encK_len (Nat.succ_pos _) (by first | assumption | exact Rd.ofSl (by assumption) | exact Rd.ofPt rfl (by decide) (by (repeat (first | exact mem0 _ | apply memT))) | exact Rd.mono (by assumption) (View.le.refl _) (by (repeat (first | exact sub0 _ | exact subA _ _ | refine subC _ ?_ | apply subK | refine subT _ ?_))) | exact Rd.inRow (by (repeat (first | exact mem0 _ | apply memT))) (by assumption) (by assumption) (by assumption)) hy (Ev.gv rfl hc)) (leB rfl) ?_
      refine SR.poG rfl rfl (GU.f rfl rfl) (fun hc => PO.loadFf Tryd.underlying21 rfl encK_len (by first | assumption | exact Rd.ofSl (by assumption) | exact Rd.ofPt rfl (by decide) (by (repeat (first | exact mem0 _ | apply memT))) | exact Rd.mono (by assumption) (View.le.refl _) (by (repeat (first | exact sub0 _ | exact subA _ _ | refine subC _ ?_ | apply subK | refine subT _ ?_))) | exact Rd.inRow (by (repeat (first | exact mem0 _ | apply memT))) (by assumption) (by assumption) (by assumption)) (Ev.gv rfl hc) hy rfl) (leB rfl) ?_
      refine SR.nil rfl rfl ?_
      refine WL.poG (GU.f rfl rfl) (fun hc => PO.bin (Ev.gv rfl hc) (Ev.gv rfl hc) rfl) (leB rfl) ?_
      refine WL.po (PO.pickOr rfl rfl) (leB rfl) ?_
      refine WL.nil (keepF (ts := [0, 1, 5, 53]) rfl (toK (by assumption) ?_))
      (try clear hG ops)
      (repeat (first | refine WC.seqK fun K hK => ?_ | refine WC.block ?_ | refine WC.regionG rfl fun ops hG => ?_))
      refine WC.cond (Ev.tmp rfl) (fun c53 => ?_) (fun c53 => ?_)
      · have d53 : sameT x y = false := by unfold sameT; rw [c53]; rfl
        rw [d53] at hJ
        (repeat (first | refine WC.seqK fun K hK => ?_ | refine WC.block ?_ | refine WC.regionG rfl fun ops hG => ?_))
        refine WL.po (PO.assign Ev.const) (leB rfl) ?_
        refine WL.nil (keepF (ts := [4]) rfl (toK (by assumption) ?_))
        (try clear hG ops)
        refine WC.ret (end1 (h' := h) (.inl rfl) rfl (RV.tmp rfl) (View.le.refl m) (by (repeat (first | exact sub0 _ | exact subA _ _ | refine subC _ ?_ | apply subK | refine subT _ ?_))) ?_)
        exact ⟨by rw [hJ]; rfl, rfl⟩
      · have d53 : sameT x y = true := by unfold sameT; rw [c53]; rfl
        rw [d53] at hJ
        refine WC.skip (keepF (ts := [0, 1, 5]) rfl (toK (by assumption) ?_))
        (repeat (first | refine WC.seqK fun K hK => ?_ | refine WC.block ?_ | refine WC.regionG rfl fun ops hG => ?_))
        refine WL.po (PO.move (Ev.tmp rfl)) (leB rfl) ?_
        refine WL.po (PO.addI (Ev.tmp rfl) Ev.const (by omega)) (leB rfl) ?_
        refine WL.po (PO.assign (Ev.tmp rfl)) (leB rfl) ?_
        refine WL.nil (loopBackI (l.length - (j + 1)) [(5, .int .i64 (j + 1))] (h'' := h) (by omega) ?_ (by (repeat (first | exact Sub.nil | refine Sub.cons rfl ?_ | refine Sub.consE rfl (by simp; done) ?_))) (by (repeat (first | exact sub0 _ | exact subA _ _ | refine subC _ ?_ | apply subK | refine subT _ ?_))) ⟨j + 1, ⟨by omega, by simpa using hJ⟩, rfl, rfl, rfl⟩)
        (repeat (first | exact Sub.nil | refine Sub.cons rfl ?_ | refine Sub.consE rfl (by simp; done) ?_))
    · replace c14 := of_decide_eq_false c14
      rw [List.drop_eq_nil_of_le (by omega), List.drop_eq_nil_of_le (by omega)] at hJ
      refine WC.exit (keepF (ts := []) rfl (toK (by assumption) ?_))
      (repeat (first | refine WC.seqK fun K hK => ?_ | refine WC.block ?_ | refine WC.regionG rfl fun ops hG => ?_))
      refine WL.po (PO.assign Ev.const) (leB rfl) ?_
      refine WL.nil (keepF (ts := [4]) rfl (toK (by assumption) ?_))
      (try clear hG ops)
      refine WC.ret (end1 (h' := h) (.inl rfl) rfl (RV.tmp rfl) (View.le.refl m) (by (repeat (first | exact sub0 _ | exact subA _ _ | refine subC _ ?_ | apply subK | refine subT _ ?_))) ?_)
      exact ⟨by rw [hJ]; rfl, rfl⟩
end Go.Proofs.YtheejlbhmbbdjaaDoor

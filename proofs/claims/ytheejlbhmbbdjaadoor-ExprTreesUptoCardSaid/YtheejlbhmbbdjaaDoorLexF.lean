/- lex: Text, walked. -/
import Derived.Test.YtheejlbhmbbdjaaDoorLexE
namespace Go.Proofs.YtheejlbhmbbdjaaDoor
open Go.Eng Go.Lx Go.Ty
set_option maxRecDepth 100000
theorem text_ct (t : Tok) (h : List Res) (m : View) (hp : Pow m) (hn : -2147483648 ≤ t.n ∧ t.n ≤ 2147483647) (hk : mayK t = true) : CT Tryd.prog 43 [tokV t] h m (Pure1 h (str (textP t))) := by
  refine CT.body Tryd.call43 Tryd.func43 rfl Tryd.ntmps43 (leB rfl) rfl ?_
  (repeat (first | refine WC.seqK fun K hK => ?_ | refine WC.block ?_ | refine WC.regionG rfl fun ops hG => ?_))
  refine WL.box (Ev.tmp rfl) rfl (leB rfl) fun b1 => ?_
  refine WL.po (PO.assign Ev.const) (leB rfl) ?_
  refine WL.nil (keepF (ts := [1]) rfl (toK (by assumption) ?_))
  (try clear hG ops)
  (repeat (first | refine WC.seqK fun K hK => ?_ | refine WC.block ?_ | refine WC.regionG rfl fun ops hG => ?_))
  refine WL.po (PO.fieldAddr Tryd.underlying36 rfl (Nat.ne_of_beq_eq_false rfl) (Ev.tmp rfl)) (leB rfl) ?_
  refine WL.po (PO.load1 Tryd.underlying34 rfl (Ev.tmp rfl) (by (repeat (first | exact mem0 _ | apply memT))) rfl) (leB rfl) ?_
  refine WL.nil (keepF (ts := [1, 4]) rfl (toK (by assumption) ?_))
  (try clear hG ops)
  (repeat (first | refine WC.seqK fun K hK => ?_ | refine WC.block ?_ | refine WC.regionG rfl fun ops hG => ?_))
  refine WL.po (PO.bin (Ev.tmp rfl) Ev.const rfl) (leB rfl) ?_
  refine WL.po (PO.assign (Ev.tmp rfl)) (leB rfl) ?_
  refine WL.nil (keepF (ts := [1, 4, 5]) rfl (toK (by assumption) ?_))
  (try clear hG ops)
  (repeat (first | refine WC.seqK fun K hK => ?_ | refine WC.block ?_ | refine WC.regionG rfl fun ops hG => ?_))
  refine WC.cond (Ev.tmp rfl) (fun c5 => ?_) (fun c5 => ?_)
  · (repeat (first | refine WC.seqK fun K hK => ?_ | refine WC.block ?_ | refine WC.regionG rfl fun ops hG => ?_))
    refine WL.po (PO.fieldAddr Tryd.underlying36 rfl (Nat.ne_of_beq_eq_false rfl) (Ev.tmp rfl)) (leB rfl) ?_
    refine WL.po (PO.load1 Tryd.underlying21 rfl (Ev.tmp rfl) (by (repeat (first | exact mem0 _ | apply memT))) rfl) (leB rfl) ?_
    refine WL.po (PO.fieldAddr Tryd.underlying36 rfl (Nat.ne_of_beq_eq_false rfl) (Ev.tmp rfl)) (leB rfl) ?_
    refine WL.po (PO.load1 Tryd.underlying21 rfl (Ev.tmp rfl) (by (repeat (first | exact mem0 _ | apply memT))) rfl) (leB rfl) ?_
    refine WL.po (PO.bin (Ev.tmp rfl) Ev.const rfl) (leB rfl) ?_
    refine WL.callP Ev.func (Evs.cons (Ev.tmp rfl) (Evs.cons (Ev.tmp rfl) Evs.nil)) (wordP_ct t.n _ _ _ hp hn) (leB rfl) ?_
    refine WL.po (PO.assign (Ev.tmp rfl)) (leB rfl) ?_
    refine WL.nil (keepF (ts := [2]) rfl (toK (by assumption) ?_))
    (try clear hG ops)
    refine WC.ret (end1 (h' := h) (.inl rfl) rfl (RV.tmp rfl) (View.le.refl m) (by (repeat (first | exact sub0 _ | exact subA _ _ | refine subC _ ?_ | apply subK | refine subT _ ?_))) ?_)
    exact ⟨by unfold textP; rw [c5]; rfl, rfl⟩
  · (repeat (first | refine WC.seqK fun K hK => ?_ | refine WC.block ?_ | refine WC.regionG rfl fun ops hG => ?_))
    refine WL.po (PO.bin (Ev.tmp rfl) Ev.const rfl) (leB rfl) ?_
    refine WL.po (PO.assign (Ev.tmp rfl)) (leB rfl) ?_
    refine WL.nil (keepF (ts := [1, 13]) rfl (toK (by assumption) ?_))
    (try clear hG ops)
    (repeat (first | refine WC.seqK fun K hK => ?_ | refine WC.block ?_ | refine WC.regionG rfl fun ops hG => ?_))
    refine WC.cond (Ev.tmp rfl) (fun c13 => ?_) (fun c13 => ?_)
    · have hb : 0 ≤ t.n ∧ t.n < 256 := by
        have e : t.kind = 4 := eq_of_beq c13
        unfold mayK at hk
        rw [e] at hk
        simp at hk
        omega
      have hsl := shown_len t.n.toNat
      (repeat (first | refine WC.seqK fun K hK => ?_ | refine WC.block ?_ | refine WC.regionG rfl fun ops hG => ?_))
      refine WL.po (PO.fieldAddr Tryd.underlying36 rfl (Nat.ne_of_beq_eq_false rfl) (Ev.tmp rfl)) (leB rfl) ?_
      refine WL.po (PO.load1 Tryd.underlying21 rfl (Ev.tmp rfl) (by (repeat (first | exact mem0 _ | apply memT))) rfl) (leB rfl) ?_
      refine WL.val (v' := .int .i32 (t.n.toNat : Int)) (congrArg (Value.int .i32) (by omega)) ?_
      refine WL.callP Ev.func (Evs.cons (Ev.tmp rfl) Evs.nil) (shown_ct t.n.toNat _ _ (by omega)) (leB rfl) ?_
      refine WL.po (PO.catS Ev.const (Ev.tmp rfl) (by simp; omega)) (leB rfl) ?_
      refine WL.po (PO.catS (Ev.tmp rfl) Ev.const (by simp; omega)) (leB rfl) ?_
      refine WL.po (PO.assign (Ev.tmp rfl)) (leB rfl) ?_
      refine WL.nil (keepF (ts := [2]) rfl (toK (by assumption) ?_))
      (try clear hG ops)
      refine WC.ret (end1 (h' := h) (.inl rfl) rfl (RV.tmp rfl) (View.le.refl m) (by (repeat (first | exact sub0 _ | exact subA _ _ | refine subC _ ?_ | apply subK | refine subT _ ?_))) ?_)
      exact ⟨by unfold textP; rw [c5, c13]; rfl, rfl⟩
    · refine WC.skip (keepF (ts := [1]) rfl (toK (by assumption) ?_))
      (repeat (first | refine WC.seqK fun K hK => ?_ | refine WC.block ?_ | refine WC.regionG rfl fun ops hG => ?_))
      refine WL.po (PO.fieldAddr Tryd.underlying36 rfl (Nat.ne_of_beq_eq_false rfl) (Ev.tmp rfl)) (leB rfl) ?_
      refine WL.po (PO.load1 Tryd.underlying9 rfl (Ev.tmp rfl) (by (repeat (first | exact mem0 _ | apply memT))) rfl) (leB rfl) ?_
      refine WL.po (PO.assign (Ev.tmp rfl)) (leB rfl) ?_
      refine WL.nil (keepF (ts := [2]) rfl (toK (by assumption) ?_))
      (try clear hG ops)
      refine WC.ret (end1 (h' := h) (.inl rfl) rfl (RV.tmp rfl) (View.le.refl m) (by (repeat (first | exact sub0 _ | exact subA _ _ | refine subC _ ?_ | apply subK | refine subT _ ?_))) ?_)
      exact ⟨by unfold textP; rw [c5, c13]; rfl, rfl⟩
def TkL (l : List Tok) : Prop := ∀ x, x ∈ l → (-2147483648 ≤ x.n ∧ x.n ≤ 2147483647) ∧ x.text.length ≤ 140737488355328
theorem any_bad {l : List Tok} {i : Nat} {x : Tok} (hx : l[i]? = some x) (h : mayK x = false) : l.any (fun t => !mayK t) = true :=
  List.any_eq_true.2 ⟨x, List.mem_of_getElem? hx, by rw [h]; rfl⟩
theorem any_step {l : List Tok} {i : Nat} {x : Tok} (hx : l[i]? = some x) (h : mayK x = true) (hJ : (l.take i).any (fun t => !mayK t) = false) : (l.take (i + 1)).any (fun t => !mayK t) = false := by
  rw [List.take_add_one, hx, List.any_append, hJ]
  simp [h]
theorem gap_at {l : List Tok} {i : Nat} (hi : i < l.length) (x : Tok) : gapO (lastO none (l.take i)) x = (decide ((i : Int) > 0) && gap (l.getD (i - 1) zeroK) x) := by
  cases i with
  | zero => rfl
  | succ j =>
    have hj : j < l.length := by omega
    rw [lastO_take l j none l[j] (List.getElem?_eq_getElem hj), Nat.add_sub_cancel, List.getD_eq_getElem?_getD, List.getElem?_eq_getElem hj]
    have : decide (((j + 1 : Nat) : Int) > 0) = true := by simp
    rw [this]
    rfl
theorem lxText_ct (a : Option Addr) (k c : Nat) (l : List Tok) (h : List Res) (m : View) (hg : Glob m) (hp : Pow m) (hs : Rd m h a k c 4 (fl encK l)) (hT : TkL l) :
    CT Tryd.prog 17 [.slice a k c] h m (Pure1 h (.tuple #[str (textO l).1, .int .i64 (textO l).2])) := by
  have hl := hs.lenF encK_len (by decide)
  subst hl
  have hmx := hs.mx
  have hle := hs.le
  have hq : ∀ n : Nat, n < l.length → l[n]? = some (l.getD n zeroK) := fun n hn => by rw [List.getD_eq_getElem?_getD, List.getElem?_eq_getElem hn]; rfl
  refine CT.body Tryd.call17 Tryd.func17 rfl Tryd.ntmps17 (leB rfl) rfl ?_
  (repeat (first | refine WC.seqK fun K hK => ?_ | refine WC.block ?_ | refine WC.regionG rfl fun ops hG => ?_))
  refine WL.po (PO.assign Ev.const) (leB rfl) ?_
  refine WL.po (PO.assign Ev.const) (leB rfl) ?_
  refine WL.nil (keepF (ts := [0]) rfl (toK (by assumption) ?_))
  (try clear hG ops)
  (repeat (first | refine WC.seqK fun K hK => ?_ | refine WC.block ?_ | refine WC.regionG rfl fun ops hG => ?_))
  refine WL.po (PO.assign Ev.func) (leB rfl) ?_
  refine WL.nil (keepF (ts := [0, 4]) rfl (toK (by assumption) ?_))
  (try clear hG ops)
  (repeat (first | refine WC.seqK fun K hK => ?_ | refine WC.block ?_ | refine WC.regionG rfl fun ops hG => ?_))
  refine WL.po (PO.move (Ev.tmp rfl)) (leB rfl) ?_
  refine WL.po (PO.lenSl Tryd.underlying28 (Ev.tmp rfl)) (leB rfl) ?_
  refine WL.po (PO.move Ev.const) (leB rfl) ?_
  refine WL.nil (keepF (ts := [0, 4, 10, 11, 12]) rfl (toK (by assumption) ?_))
  (try clear hG ops)
  (repeat (first | refine WC.seqK fun K hK => ?_ | refine WC.block ?_ | refine WC.regionG rfl fun ops hG => ?_))
  refine WC.loopI [0, 4, 10, 11] rfl (fun μ F' h' => ∃ i : Nat, (i ≤ l.length ∧ (l.take i).any (fun t => !mayK t) = false) ∧ l.length - i = μ ∧ F' = [(12, .int .i64 i)] ∧ h = h') (l.length - 0) [(12, .int .i64 0)] (h0 := h) ?_ (by (repeat (first | exact sub0 _ | exact subA _ _ | refine subC _ ?_ | apply subK | refine subT _ ?_))) ⟨0, ⟨by omega, rfl⟩, rfl, rfl, rfl⟩ ?_
  · (repeat (first | exact Sub.nil | refine Sub.cons rfl ?_ | refine Sub.consE rfl (by simp; done) ?_))
  rintro _ _ _ ⟨i, ⟨hi, hJ⟩, rfl, rfl, rfl⟩
  refine WC.frm rfl ?_
  (repeat (first | refine WC.seqK fun K hK => ?_ | refine WC.block ?_ | refine WC.regionG rfl fun ops hG => ?_))
  refine WL.po (PO.bin (Ev.tmp rfl) (Ev.tmp rfl) rfl) (leB rfl) ?_
  refine WL.nil (keepF (ts := [0, 4, 10, 11, 12, 13]) rfl (toK (by assumption) ?_))
  (try clear hG ops)
  (repeat (first | refine WC.seqK fun K hK => ?_ | refine WC.block ?_ | refine WC.regionG rfl fun ops hG => ?_))
  refine WC.cond (Ev.tmp rfl) (fun c13 => ?_) (fun c13 => ?_)
  · replace c13 := of_decide_eq_true c13
    obtain ⟨x, hx⟩ := get_some (l := l) (k := i) (by omega)
    have hxT := hT x (List.mem_of_getElem? hx)
    refine WC.skip (keepF (ts := [0, 4, 10, 11, 12]) rfl (toK (by assumption) ?_))
    (repeat (first | refine WC.seqK fun K hK => ?_ | refine WC.block ?_ | refine WC.regionG rfl fun ops hG => ?_))
    refine WL.po (PO.idx EL28.und EL28.size EL28.posz (Ev.tmp rfl) (Ev.tmp rfl) (by first | assumption | exact Rd.ofSl (by assumption) | exact Rd.ofPt rfl (by decide) (by (repeat (first | exact mem0 _ | apply memT))) | exact Rd.mono (by assumption) (View.le.refl _) (by (repeat (first | exact sub0 _ | exact subA _ _ | refine subC _ ?_ | apply subK | refine subT _ ?_))) | exact Rd.inRow (by (repeat (first | exact mem0 _ | apply memT))) (by assumption) (by assumption) (by assumption)) rfl (by omega)) (leB rfl) ?_
    refine WL.po (PO.loadFA Tryd.underlying36 rfl rfl encK_len (by first | assumption | exact Rd.ofSl (by assumption) | exact Rd.ofPt rfl (by decide) (by (repeat (first | exact mem0 _ | apply memT))) | exact Rd.mono (by assumption) (View.le.refl _) (by (repeat (first | exact sub0 _ | exact subA _ _ | refine subC _ ?_ | apply subK | refine subT _ ?_))) | exact Rd.inRow (by (repeat (first | exact mem0 _ | apply memT))) (by assumption) (by assumption) (by assumption)) (Ev.tmp rfl) (by assumption) rfl rfl (Nat.succ_pos _)) (leB rfl) ?_
    refine WL.alloc rfl rfl (leB rfl) fun b6 => ?_
    refine WL.store rfl (Ev.tmp rfl) (Ev.tmp rfl) rfl rfl rfl rfl (by (repeat (first | exact Upd.here | apply Upd.next))) ?_
    refine WL.nil (keepF (ts := [0, 4, 6, 10, 11, 12]) rfl (toK (by assumption) ?_))
    (try clear hG ops)
    (repeat (first | refine WC.seqK fun K hK => ?_ | refine WC.block ?_ | refine WC.regionG rfl fun ops hG => ?_))
    refine WL.po (PO.loadA Tryd.underlying36 rfl rfl (Ev.tmp rfl) (by (repeat (first | exact mem0 _ | apply memT))) rfl) (leB rfl) ?_
    refine WL.callP Ev.func (Evs.cons (Ev.tmp rfl) Evs.nil) (lxMay_ct x _ _ hg hxT.2) (leB rfl) ?_
    refine WL.po (PO.not (Ev.tmp rfl)) (leB rfl) ?_
    refine WL.nil (keepF (ts := [0, 4, 10, 11, 12, 18]) rfl (toK (by assumption) ?_))
    (try clear hG ops)
    (repeat (first | refine WC.seqK fun K hK => ?_ | refine WC.block ?_ | refine WC.regionG rfl fun ops hG => ?_))
    refine WC.cond (Ev.tmp rfl) (fun c18 => ?_) (fun c18 => ?_)
    · have d18 : mayK x = false := by simpa using c18
      have hO := textO_bad (any_bad hx d18)
      (repeat (first | refine WC.seqK fun K hK => ?_ | refine WC.block ?_ | refine WC.regionG rfl fun ops hG => ?_))
      refine WL.po (PO.assign Ev.const) (leB rfl) ?_
      refine WL.po (PO.assign Ev.const) (leB rfl) ?_
      refine WL.nil (keepF (ts := [2, 3]) rfl (toK (by assumption) ?_))
      (try clear hG ops)
      refine WC.ret (end2 (h' := h) (.inl rfl) rfl (RV.tmp rfl) (RV.tmp rfl) (View.le.refl m) (by (repeat (first | exact sub0 _ | exact subA _ _ | refine subC _ ?_ | apply subK | refine subT _ ?_))) ?_)
      exact ⟨by rw [hO], rfl⟩
    · have d18 : mayK x = true := by simpa using c18
      have hJ2 := any_step hx d18 hJ
      refine WC.skip (keepF (ts := [0, 4, 10, 11, 12]) rfl (toK (by assumption) ?_))
      (repeat (first | refine WC.seqK fun K hK => ?_ | refine WC.block ?_ | refine WC.regionG rfl fun ops hG => ?_))
      refine WL.po (PO.addI (Ev.tmp rfl) Ev.const (by omega)) (leB rfl) ?_
      refine WL.po (PO.move (Ev.tmp rfl)) (leB rfl) ?_
      refine WL.nil (loopBackI (l.length - (i + 1)) [(12, .int .i64 (i + 1))] (h'' := h) (by omega) ?_ (by (repeat (first | exact Sub.nil | refine Sub.cons rfl ?_ | refine Sub.consE rfl (by simp; done) ?_))) (by (repeat (first | exact sub0 _ | exact subA _ _ | refine subC _ ?_ | apply subK | refine subT _ ?_))) ⟨i + 1, ⟨by omega, hJ2⟩, rfl, rfl, rfl⟩)
      (repeat (first | exact Sub.nil | refine Sub.cons rfl ?_ | refine Sub.consE rfl (by simp; done) ?_))
  · replace c13 := of_decide_eq_false c13
    rw [List.take_of_length_le (by omega)] at hJ
    have hall : ∀ x, x ∈ l → mayK x = true := fun x hx => by
      have := List.any_eq_false.1 hJ x hx
      simpa using this
    refine WC.exit (keepF (ts := [0, 4]) rfl (toK (by assumption) ?_))
    (repeat (first | refine WC.seqK fun K hK => ?_ | refine WC.block ?_ | refine WC.regionG rfl fun ops hG => ?_))
    refine WL.po (PO.assign Ev.const) (leB rfl) ?_
    refine WL.nil (keepF (ts := [0, 4, 7]) rfl (toK (by assumption) ?_))
    (try clear hG ops)
    (repeat (first | refine WC.seqK fun K hK => ?_ | refine WC.block ?_ | refine WC.regionG rfl fun ops hG => ?_))
    refine WL.po (PO.move (Ev.tmp rfl)) (leB rfl) ?_
    refine WL.po (PO.lenSl Tryd.underlying28 (Ev.tmp rfl)) (leB rfl) ?_
    refine WL.po (PO.move Ev.const) (leB rfl) ?_
    refine WL.nil (keepF (ts := [0, 4, 7, 20, 21, 22]) rfl (toK (by assumption) ?_))
    (try clear hG ops)
    (repeat (first | refine WC.seqK fun K hK => ?_ | refine WC.block ?_ | refine WC.regionG rfl fun ops hG => ?_))
    refine WC.loopI [0, 4, 20, 21] rfl (fun μ F' h' => ∃ i : Nat, ∃ s : B, ((i ≤ l.length ∧ s.length ≤ 256) ∧ s = textL none (l.take i)) ∧ l.length - i = μ ∧ F' = [(7, str s), (22, .int .i64 i)] ∧ h = h') (l.length - 0) [(7, str ([])), (22, .int .i64 0)] (h0 := h) ?_ (by (repeat (first | exact sub0 _ | exact subA _ _ | refine subC _ ?_ | apply subK | refine subT _ ?_))) ⟨0, [], ⟨⟨by omega, by decide⟩, rfl⟩, rfl, rfl, rfl⟩ ?_
    · (repeat (first | exact Sub.nil | refine Sub.cons rfl ?_ | refine Sub.consE rfl (by simp; done) ?_))
    rintro _ _ _ ⟨i, s, ⟨⟨hi, hs256⟩, hS⟩, rfl, rfl, rfl⟩
    refine WC.frm rfl ?_
    (repeat (first | refine WC.seqK fun K hK => ?_ | refine WC.block ?_ | refine WC.regionG rfl fun ops hG => ?_))
    refine WL.po (PO.bin (Ev.tmp rfl) (Ev.tmp rfl) rfl) (leB rfl) ?_
    refine WL.nil (keepF (ts := [0, 4, 7, 20, 21, 22, 23]) rfl (toK (by assumption) ?_))
    (try clear hG ops)
    (repeat (first | refine WC.seqK fun K hK => ?_ | refine WC.block ?_ | refine WC.regionG rfl fun ops hG => ?_))
    refine WC.cond (Ev.tmp rfl) (fun c23 => ?_) (fun c23 => ?_)
    · replace c23 := of_decide_eq_true c23
      obtain ⟨x, hx⟩ := get_some (l := l) (k := i) (by omega)
      have hxT := hT x (List.mem_of_getElem? hx)
      have hxK := hall x (List.mem_of_getElem? hx)
      have hgap := gap_at (l := l) (i := i) (by omega) x
      have hsn := textL_snoc none hx
      have hxl := textP_len hxT.1 hxT.2
      generalize hy : l.getD (i - 1) zeroK = y at hgap
      have hqy : 0 < i → l[i - 1]? = some y := fun h0 => by rw [hq (i - 1) (by omega), hy]
      refine WC.skip (keepF (ts := [0, 4, 7, 20, 21, 22]) rfl (toK (by assumption) ?_))
      (repeat (first | refine WC.seqK fun K hK => ?_ | refine WC.block ?_ | refine WC.regionG rfl fun ops hG => ?_))
      refine WL.po (PO.move (Ev.tmp rfl)) (leB rfl) ?_
      refine WL.po (PO.idx EL28.und EL28.size EL28.posz (Ev.tmp rfl) (Ev.tmp rfl) (by first | assumption | exact Rd.ofSl (by assumption) | exact Rd.ofPt rfl (by decide) (by (repeat (first | exact mem0 _ | apply memT))) | exact Rd.mono (by assumption) (View.le.refl _) (by (repeat (first | exact sub0 _ | exact subA _ _ | refine subC _ ?_ | apply subK | refine subT _ ?_))) | exact Rd.inRow (by (repeat (first | exact mem0 _ | apply memT))) (by assumption) (by assumption) (by assumption)) rfl (by omega)) (leB rfl) ?_
      refine WL.po (PO.loadFA Tryd.underlying36 rfl rfl encK_len (by first | assumption | exact Rd.ofSl (by assumption) | exact Rd.ofPt rfl (by decide) (by (repeat (first | exact mem0 _ | apply memT))) | exact Rd.mono (by assumption) (View.le.refl _) (by (repeat (first | exact sub0 _ | exact subA _ _ | refine subC _ ?_ | apply subK | refine subT _ ?_))) | exact Rd.inRow (by (repeat (first | exact mem0 _ | apply memT))) (by assumption) (by assumption) (by assumption)) (Ev.tmp rfl) (by assumption) rfl rfl (Nat.succ_pos _)) (leB rfl) ?_
      refine WL.alloc rfl rfl (leB rfl) fun b9 => ?_
      refine WL.po (PO.assign (Ev.tmp rfl)) (leB rfl) ?_
      refine WL.store rfl (Ev.tmp rfl) (Ev.tmp rfl) rfl rfl rfl rfl (by (repeat (first | exact Upd.here | apply Upd.next))) ?_
      refine WL.nil (keepF (ts := [0, 4, 7, 8, 9, 20, 21, 22]) rfl (toK (by assumption) ?_))
      (try clear hG ops)
      (repeat (first | refine WC.seqK fun K hK => ?_ | refine WC.block ?_ | refine WC.regionG rfl fun ops hG => ?_))
      refine WL.po (PO.move (Ev.tmp rfl)) (leB rfl) ?_
      refine WL.po (PO.bin (Ev.tmp rfl) Ev.const rfl) (leB rfl) ?_
      refine WL.po (PO.move (Ev.tmp rfl)) (leB rfl) ?_
      refine WL.poG (GU.t (hG _ _ rfl) rfl) (fun hc => PO.move (Ev.tmp rfl)) (leB rfl) ?_
      refine WL.poG (GU.t (hG _ _ rfl) rfl) (fun hc => PO.loadA Tryd.underlying36 rfl rfl (Ev.tmp rfl) (by (repeat (first | exact mem0 _ | apply memT))) rfl) (leB rfl) ?_
      refine WL.callG (GU.t (hG _ _ rfl) rfl) (fun hc => ⟨(Ev.gv rfl hc), (Evs.cons (Ev.gv rfl hc) (Evs.cons Ev.const Evs.nil)), among_ct x closeB _ _ hg (by decide)⟩) (leB rfl) ?_
      refine WL.poG (GU.t (hG _ _ rfl) rfl) (fun hc => PO.not (Ev.gv rfl hc)) (leB rfl) ?_
      refine WL.po (PO.pickAnd rfl rfl) (leB rfl) ?_
      refine WL.po (PO.move (Ev.tmp rfl)) (leB rfl) ?_
      refine WL.poG (GU.t (hG _ _ rfl) rfl) (fun hc => PO.move (Ev.tmp rfl)) (leB rfl) ?_
      refine WL.poG (GU.t (hG _ _ rfl) rfl) (fun hc => PO.move (Ev.tmp rfl)) (leB rfl) ?_
      refine WL.poG (GU.t (hG _ _ rfl) rfl) (fun hc => PO.move (Ev.tmp rfl)) (leB rfl) ?_
      refine WL.poG (GU.t (hG _ _ rfl) rfl) (fun hc => PO.subI (Ev.gv rfl hc) Ev.const (by first | omega | (simp at hc; omega))) (leB rfl) ?_
      refine WL.poG (GU.t (hG _ _ rfl) rfl) (fun hc => PO.idx EL28.und EL28.size EL28.posz (Ev.gv rfl hc) (Ev.gv rfl hc) (by first | assumption | exact Rd.ofSl (by assumption) | exact Rd.ofPt rfl (by decide) (by (repeat (first | exact mem0 _ | apply memT))) | exact Rd.mono (by assumption) (View.le.refl _) (by (repeat (first | exact sub0 _ | exact subA _ _ | refine subC _ ?_ | apply subK | refine subT _ ?_))) | exact Rd.inRow (by (repeat (first | exact mem0 _ | apply memT))) (by assumption) (by assumption) (by assumption)) (q := i - 1) (by simp at hc; omega) (by simp at hc; omega)) (leB rfl) ?_
      refine WL.poG (GU.t (hG _ _ rfl) rfl) (fun hc => PO.loadFA Tryd.underlying36 rfl rfl encK_len (by first | assumption | exact Rd.ofSl (by assumption) | exact Rd.ofPt rfl (by decide) (by (repeat (first | exact mem0 _ | apply memT))) | exact Rd.mono (by assumption) (View.le.refl _) (by (repeat (first | exact sub0 _ | exact subA _ _ | refine subC _ ?_ | apply subK | refine subT _ ?_))) | exact Rd.inRow (by (repeat (first | exact mem0 _ | apply memT))) (by assumption) (by assumption) (by assumption)) (Ev.gv rfl hc) (hqy (by simp at hc; omega)) rfl rfl (Nat.succ_pos _)) (leB rfl) ?_
      refine WL.callG (GU.t (hG _ _ rfl) rfl) (fun hc => ⟨(Ev.gv rfl hc), (Evs.cons (Ev.gv rfl hc) (Evs.cons Ev.const Evs.nil)), among_ct y openB _ _ hg (by decide)⟩) (leB rfl) ?_
      refine WL.poG (GU.t (hG _ _ rfl) rfl) (fun hc => PO.not (Ev.gv rfl hc)) (leB rfl) ?_
      refine WL.po (PO.pickAnd rfl rfl) (leB rfl) ?_
      refine WL.po (PO.move (Ev.tmp rfl)) (leB rfl) ?_
      refine WL.poG (GU.t (hG _ _ rfl) rfl) (fun hc => PO.move (Ev.tmp rfl)) (leB rfl) ?_
      refine WL.poG (GU.t (hG _ _ rfl) rfl) (fun hc => PO.move (Ev.tmp rfl)) (leB rfl) ?_
      refine WL.poG (GU.t (hG _ _ rfl) rfl) (fun hc => PO.subI (Ev.gv rfl hc) Ev.const (by first | omega | (simp at hc; omega))) (leB rfl) ?_
      refine WL.poG (GU.t (hG _ _ rfl) rfl) (fun hc => PO.idx EL28.und EL28.size EL28.posz (Ev.gv rfl hc) (Ev.gv rfl hc) (by first | assumption | exact Rd.ofSl (by assumption) | exact Rd.ofPt rfl (by decide) (by (repeat (first | exact mem0 _ | apply memT))) | exact Rd.mono (by assumption) (View.le.refl _) (by (repeat (first | exact sub0 _ | exact subA _ _ | refine subC _ ?_ | apply subK | refine subT _ ?_))) | exact Rd.inRow (by (repeat (first | exact mem0 _ | apply memT))) (by assumption) (by assumption) (by assumption)) (q := i - 1) (by simp at hc; omega) (by simp at hc; omega)) (leB rfl) ?_
      refine WL.poG (GU.t (hG _ _ rfl) rfl) (fun hc => PO.fieldF Tryd.underlying36 rfl (Nat.ne_of_beq_eq_false rfl) encK_len (Nat.succ_pos _) (by first | assumption | exact Rd.ofSl (by assumption) | exact Rd.ofPt rfl (by decide) (by (repeat (first | exact mem0 _ | apply memT))) | exact Rd.mono (by assumption) (View.le.refl _) (by (repeat (first | exact sub0 _ | exact subA _ _ | refine subC _ ?_ | apply subK | refine subT _ ?_))) | exact Rd.inRow (by (repeat (first | exact mem0 _ | apply memT))) (by assumption) (by assumption) (by assumption)) (hqy (by simp at hc; omega)) (Ev.gv rfl hc)) (leB rfl) ?_
      refine WL.poG (GU.t (hG _ _ rfl) rfl) (fun hc => PO.loadFf Tryd.underlying34 rfl encK_len (by first | assumption | exact Rd.ofSl (by assumption) | exact Rd.ofPt rfl (by decide) (by (repeat (first | exact mem0 _ | apply memT))) | exact Rd.mono (by assumption) (View.le.refl _) (by (repeat (first | exact sub0 _ | exact subA _ _ | refine subC _ ?_ | apply subK | refine subT _ ?_))) | exact Rd.inRow (by (repeat (first | exact mem0 _ | apply memT))) (by assumption) (by assumption) (by assumption)) (Ev.gv rfl hc) (hqy (by simp at hc; omega)) rfl) (leB rfl) ?_
      refine WL.poG (GU.t (hG _ _ rfl) rfl) (fun hc => PO.bin (Ev.gv rfl hc) Ev.const rfl) (leB rfl) ?_
      refine WL.poG (GU.t (hG _ _ rfl) rfl) (fun hc => PO.move (Ev.gv rfl hc)) (leB rfl) ?_
      refine WL.poG (GU.nf (hG _ _ rfl) rfl) (fun hc => PO.move (Ev.tmp rfl)) (leB rfl) ?_
      refine WL.poG (GU.nf (hG _ _ rfl) rfl) (fun hc => PO.loadA Tryd.underlying36 rfl rfl (Ev.tmp rfl) (by (repeat (first | exact mem0 _ | apply memT))) rfl) (leB rfl) ?_
      refine WL.callG (GU.nf (hG _ _ rfl) rfl) (fun hc => ⟨(Ev.gv rfl hc), (Evs.cons (Ev.gv rfl hc) (Evs.cons Ev.const Evs.nil)), among_ct x openB _ _ hg (by decide)⟩) (leB rfl) ?_
      refine WL.poG (GU.nf (hG _ _ rfl) rfl) (fun hc => PO.not (Ev.gv rfl hc)) (leB rfl) ?_
      refine WL.poG (GU.t (hG _ _ rfl) rfl) (fun hc => PO.pickOrN hc rfl rfl) (leB rfl) ?_
      refine WL.po (PO.pickAnd rfl rfl) (leB rfl) ?_
      refine WL.nil (keepF (ts := [0, 4, 7, 9, 20, 21, 22, 59]) rfl (toK (by assumption) ?_))
      (try clear hG ops)
      (repeat refine WC.seqK fun K hK => ?_)
      refine WC.cutK (by assumption) [0, 4, 9, 20, 21, 22] rfl (fun F' h' => ∃ u : B, (u = s ++ sep (gapO (lastO none (l.take i)) x) ∧ u.length ≤ 257) ∧ F' = [(7, str u)] ∧ .pt b9 (.cells (encK x).toArray 36 (0, 0)) :: h = h') ?_ ?_
      · (repeat (first | refine WC.seqK fun K hK => ?_ | refine WC.block ?_ | refine WC.regionG rfl fun ops hG => ?_))
        refine WC.cond (Ev.tmp rfl) (fun c59 => ?_) (fun c59 => ?_)
        · have d59 : gapO (lastO none (l.take i)) x = true := by rw [hgap]; simpa [gap, Bool.and_assoc] using c59
          (repeat (first | refine WC.seqK fun K hK => ?_ | refine WC.block ?_ | refine WC.regionG rfl fun ops hG => ?_))
          refine WL.po (PO.move (Ev.tmp rfl)) (leB rfl) ?_
          refine WL.po (PO.catS (Ev.tmp rfl) Ev.const (by simp; omega)) (leB rfl) ?_
          refine WL.po (PO.assign (Ev.tmp rfl)) (leB rfl) ?_
          refine WL.nil (meetI [(7, str (s ++ [32]))] (h'' := .pt b9 (.cells (encK x).toArray 36 (0, 0)) :: h) ?_ (by (repeat (first | exact Sub.nil | refine Sub.cons rfl ?_ | refine Sub.consE rfl (by simp; done) ?_))) (by (repeat (first | exact sub0 _ | exact subA _ _ | refine subC _ ?_ | apply subK | refine subT _ ?_))) ⟨s ++ [32], ⟨by rw [d59]; rfl, by rw [List.length_append, List.length_singleton]; omega⟩, rfl, rfl⟩)
          (repeat (first | exact Sub.nil | refine Sub.cons rfl ?_ | refine Sub.consE rfl (by simp; done) ?_))
        · have d59 : gapO (lastO none (l.take i)) x = false := by rw [hgap]; simpa [gap, Bool.and_assoc] using c59
          refine WC.skip (meetI [(7, str s)] (h'' := .pt b9 (.cells (encK x).toArray 36 (0, 0)) :: h) ?_ (by (repeat (first | exact Sub.nil | refine Sub.cons rfl ?_ | refine Sub.consE rfl (by simp; done) ?_))) (by (repeat (first | exact sub0 _ | exact subA _ _ | refine subC _ ?_ | apply subK | refine subT _ ?_))) ⟨s, ⟨by rw [d59]; exact (List.append_nil s).symm, by omega⟩, rfl, rfl⟩)
          (repeat (first | exact Sub.nil | refine Sub.cons rfl ?_ | refine Sub.consE rfl (by simp; done) ?_))
      rintro _ _ ⟨u, ⟨hu, hul⟩, rfl, rfl⟩
      refine WC.frm rfl ?_
      (repeat (first | refine WC.seqK fun K hK => ?_ | refine WC.block ?_ | refine WC.regionG rfl fun ops hG => ?_))
      refine WL.po (PO.move (Ev.tmp rfl)) (leB rfl) ?_
      refine WL.po (PO.loadA Tryd.underlying36 rfl rfl (Ev.tmp rfl) (by (repeat (first | exact mem0 _ | apply memT))) rfl) (leB rfl) ?_
      refine WL.callP Ev.func (Evs.cons (Ev.tmp rfl) Evs.nil) (text_ct x _ _ hp hxT.1 hxK) (leB rfl) ?_
      refine WL.po (PO.catS (Ev.tmp rfl) (Ev.tmp rfl) (by omega)) (leB rfl) ?_
      refine WL.po (PO.assign (Ev.tmp rfl)) (leB rfl) ?_
      refine WL.nil (keepF (ts := [0, 4, 7, 20, 21, 22]) rfl (toK (by assumption) ?_))
      (try clear hG ops)
      (repeat (first | refine WC.seqK fun K hK => ?_ | refine WC.block ?_ | refine WC.regionG rfl fun ops hG => ?_))
      refine WL.po (PO.move (Ev.tmp rfl)) (leB rfl) ?_
      refine WL.po (PO.lenS Tryd.underlying9 (Ev.tmp rfl)) (leB rfl) ?_
      refine WL.po (PO.bin (Ev.tmp rfl) Ev.const rfl) (leB rfl) ?_
      refine WL.nil (keepF (ts := [0, 4, 7, 20, 21, 22, 68]) rfl (toK (by assumption) ?_))
      (try clear hG ops)
      (repeat (first | refine WC.seqK fun K hK => ?_ | refine WC.block ?_ | refine WC.regionG rfl fun ops hG => ?_))
      refine WC.cond (Ev.tmp rfl) (fun c68 => ?_) (fun c68 => ?_)
      · have hlong : 256 < (u ++ textP x).length := by have := of_decide_eq_true c68; omega
        have hO := textO_long hJ (i := i + 1) (by rw [hsn, ← hS, ← List.append_assoc, ← hu]; exact hlong)
        (repeat (first | refine WC.seqK fun K hK => ?_ | refine WC.block ?_ | refine WC.regionG rfl fun ops hG => ?_))
        refine WL.po (PO.assign Ev.const) (leB rfl) ?_
        refine WL.po (PO.assign Ev.const) (leB rfl) ?_
        refine WL.nil (keepF (ts := [2, 3]) rfl (toK (by assumption) ?_))
        (try clear hG ops)
        refine WC.ret (end2 (h' := h) (.inl rfl) rfl (RV.tmp rfl) (RV.tmp rfl) (View.le.refl m) (by (repeat (first | exact sub0 _ | exact subA _ _ | refine subC _ ?_ | apply subK | refine subT _ ?_))) ?_)
        exact ⟨by rw [hO], rfl⟩
      · have hshort : (u ++ textP x).length ≤ 256 := by have := of_decide_eq_false c68; omega
        refine WC.skip (keepF (ts := [0, 4, 7, 20, 21, 22]) rfl (toK (by assumption) ?_))
        (repeat (first | refine WC.seqK fun K hK => ?_ | refine WC.block ?_ | refine WC.regionG rfl fun ops hG => ?_))
        refine WL.po (PO.addI (Ev.tmp rfl) Ev.const (by omega)) (leB rfl) ?_
        refine WL.po (PO.move (Ev.tmp rfl)) (leB rfl) ?_
        refine WL.nil (loopBackI (l.length - (i + 1)) [(7, str (u ++ textP x)), (22, .int .i64 (i + 1))] (h'' := h) (by omega) ?_ (by (repeat (first | exact Sub.nil | refine Sub.cons rfl ?_ | refine Sub.consE rfl (by simp; done) ?_))) (by (repeat (first | exact sub0 _ | exact subA _ _ | refine subC _ ?_ | apply subK | refine subT _ ?_))) ⟨i + 1, u ++ textP x, ⟨⟨by omega, hshort⟩, by rw [hsn, ← hS, ← List.append_assoc, ← hu]⟩, rfl, rfl, rfl⟩)
        (repeat (first | exact Sub.nil | refine Sub.cons rfl ?_ | refine Sub.consE rfl (by simp; done) ?_))
    · replace c23 := of_decide_eq_false c23
      rw [List.take_of_length_le (by omega)] at hS
      have hO := textO_ok hJ (by rw [← hS]; exact hs256)
      refine WC.exit (keepF (ts := [7]) rfl (toK (by assumption) ?_))
      (repeat (first | refine WC.seqK fun K hK => ?_ | refine WC.block ?_ | refine WC.regionG rfl fun ops hG => ?_))
      refine WL.po (PO.move (Ev.tmp rfl)) (leB rfl) ?_
      refine WL.po (PO.assign (Ev.tmp rfl)) (leB rfl) ?_
      refine WL.po (PO.assign Ev.const) (leB rfl) ?_
      refine WL.nil (keepF (ts := [2, 3]) rfl (toK (by assumption) ?_))
      (try clear hG ops)
      refine WC.ret (end2 (h' := h) (.inl rfl) rfl (RV.tmp rfl) (RV.tmp rfl) (View.le.refl m) (by (repeat (first | exact sub0 _ | exact subA _ _ | refine subC _ ?_ | apply subK | refine subT _ ?_))) ?_)
      exact ⟨by rw [hO, hS], rfl⟩
end Go.Proofs.YtheejlbhmbbdjaaDoor

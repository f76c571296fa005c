/- layout: the reference's Rows, walked. -/
import Derived.Test.YtmffmpadfpajcaaDoorLayE
namespace Go.Proofs.YtmffmpadfpajcaaDoor
open Go.Eng Go.Ly Go
set_option maxRecDepth 100000
def RowsO (o : Out) (h : List Res) : Value → View → List Res → Prop := fun v _ h' => ∃ a c, v = .tuple #[.slice a o.1.length c, .int .i64 o.2.1, .int .i64 o.2.2] ∧ h' = .row (.slice a o.1.length c) 34 3 o.1.length (fl encR o.1) :: h
theorem RowsO.bad {o : Out} {h : List Res} {m : View} {no e : Nat} (ho : o = ([], no, e)) : RowsO o h (.tuple #[.slice none 0 0, .int .i64 no, .int .i64 e]) m (.row (.slice none 0 0) 34 3 0 [] :: h) := by
  subst ho
  exact ⟨none, 0, rfl, rfl⟩
theorem RowsO.ok {o : Out} {h : List Res} {m : View} {a : Option Addr} {c : Nat} {l : List Rw} (ho : o = (l, 0, 0)) : RowsO o h (.tuple #[.slice a l.length c, .int .i64 0, .int .i64 0]) m (.row (.slice a l.length c) 34 3 l.length (fl encR l) :: h) := by
  subst ho
  exact ⟨a, c, rfl, rfl⟩
theorem half_eq {n : Nat} (h : n ≤ 65536) : IntKind.i64.wrap ((n : Int).tdiv 2) = ((n / 2 : Nat) : Int) := by
  rw [show (n : Int).tdiv 2 = ((n / 2 : Nat) : Int) from rfl, IntKind.wrap_i64]
  omega
theorem odd_eq {n : Nat} (h : n ≤ 65536) (b : Int) : (((n : Int).tmod 2 == 1) || decide (IntKind.i64.wrap ((n : Int).tdiv 2) > b + 1)) = (decide (n % 2 = 1) || decide (((n / 2 : Nat) : Int) > b + 1)) := by
  rw [half_eq h]
  congr 1
  rw [show (n : Int).tmod 2 = ((n % 2 : Nat) : Int) from rfl, Bool.eq_iff_iff]
  simp
  omega
theorem long_eq {s : S} {n : Nat} {t : B} {l : List Rw} (h : n ≤ 65536) (h1 : s.first.ind = n) (h2 : textS s = t) (h3 : s.out = l) : ((decide (IntKind.i64.wrap ((n : Int).tdiv 2) > 32) || decide ((t.length : Int) > 256)) || ((l.length : Int) == 2048)) = longS s := by
  subst h1 h2 h3
  rw [half_eq h]
  unfold longS
  congr 1
  · congr 1
    · exact decide_eq_decide.2 (by omega)
    · exact decide_eq_decide.2 (by omega)
  · rw [Bool.eq_iff_iff]
    simp
    omega
theorem close_len {s : S} {l : List Rw} (h : s.out = l) : l.length + 1 = (closeS s).out.length := by
  subst h
  simp [closeS]
theorem close_fl {s : S} {l : List Rw} {no : Int} {n : Nat} {t : B} (h : n ≤ 65536) (h1 : s.first.ind = n) (h2 : textS s = t) (h3 : s.out = l) (h4 : (s.first.no : Int) = no) : fl encR l ++ [.int .i64 no, .int .i64 (IntKind.i64.wrap ((n : Int).tdiv 2)), str t] = fl encR (closeS s).out := by
  subst h1 h2 h3 h4
  rw [half_eq h]
  exact fl_snoc (enc := encR) _ ⟨s.first.no, (s.first.ind / 2 : Nat), textS s⟩
theorem text_first {s : S} {p : Pc} (h : s.parts = []) : textS (takeS s p) = p.text := by rw [text_take, h]; rfl
theorem text_next {s : S} {p : Pc} (h : s.parts ≠ []) : textS (takeS s p) = (textS s ++ [32]) ++ p.text := by
  rw [text_take, if_neg (by simpa using h)]
  simp
theorem rowsR_ct (src : B) (h : List Res) (m : View) (hs : src.length ≤ 1000000) : CT Tryd.prog 8 [str src] h m (RowsO (rowsP src) h) := by
  have hcount : (lines src).length ≤ src.length + 1 := lines_count src []
  have hall : ∀ x ∈ lines src, x.length ≤ 140737488355328 := fun x hx => by have := lines_le hx; omega
  have hsm : ∀ x ∈ lines src, x.length ≤ src.length := fun x hx => lines_le hx
  refine CT.body Tryd.call8 Tryd.func8 rfl Tryd.ntmps8 (Nat.le_of_ble_eq_true rfl) rfl ?_
  (repeat (first | refine WC.seqK fun K hK => ?_ | refine WC.block ?_ | refine WC.regionG rfl fun ops hG => ?_))
  refine WL.addNil 34 3 ?_
  refine WL.po (PO.assign Ev.const) (Nat.le_of_ble_eq_true rfl) ?_
  refine WL.po (PO.assign Ev.const) (Nat.le_of_ble_eq_true rfl) ?_
  refine WL.po (PO.assign Ev.const) (Nat.le_of_ble_eq_true rfl) ?_
  refine WL.nil (keepF (ts := [0]) rfl (toK (by assumption) ?_))
  (try clear hG ops)
  (repeat (first | refine WC.seqK fun K hK => ?_ | refine WC.block ?_ | refine WC.regionG rfl fun ops hG => ?_))
  refine WL.po (PO.move (Ev.tmp rfl)) (Nat.le_of_ble_eq_true rfl) ?_
  refine WL.po (PO.lenS Tryd.underlying9 (Ev.tmp rfl)) (Nat.le_of_ble_eq_true rfl) ?_
  refine WL.po (PO.bin (Ev.tmp rfl) Ev.const rfl) (Nat.le_of_ble_eq_true rfl) ?_
  refine WL.nil (keepF (ts := [0, 18]) rfl (toK (by assumption) ?_))
  (try clear hG ops)
  (repeat (first | refine WC.seqK fun K hK => ?_ | refine WC.block ?_ | refine WC.regionG rfl fun ops hG => ?_))
  refine WC.cond (Ev.tmp rfl) (fun c18 => ?_) (fun c18 => ?_)
  · replace c18 := of_decide_eq_true c18
    (repeat (first | refine WC.seqK fun K hK => ?_ | refine WC.block ?_ | refine WC.regionG rfl fun ops hG => ?_))
    refine WL.po (PO.assign Ev.const) (Nat.le_of_ble_eq_true rfl) ?_
    refine WL.po (PO.assign Ev.const) (Nat.le_of_ble_eq_true rfl) ?_
    refine WL.po (PO.assign Ev.const) (Nat.le_of_ble_eq_true rfl) ?_
    refine WL.nil (keepF (ts := [2, 3, 4]) rfl (toK (by assumption) ?_))
    (try clear hG ops)
    refine WC.ret (end3 (h' := .row (.slice none 0 0) 34 3 0 [] :: h) (.inl rfl) rfl (RV.tmp rfl) (RV.tmp rfl) (RV.tmp rfl) (View.le.refl m) (by (repeat (first | exact List.Sublist.refl _ | refine List.Sublist.cons_cons _ ?_ | apply List.Sublist.cons))) ?_)
    exact RowsO.bad (by unfold rowsP; rw [if_pos (by omega)])
  · replace c18 := of_decide_eq_false c18
    refine WC.skip (keepF (ts := [0]) rfl (toK (by assumption) ?_))
    (repeat (first | refine WC.seqK fun K hK => ?_ | refine WC.block ?_ | refine WC.regionG rfl fun ops hG => ?_))
    refine WL.po (PO.move (Ev.tmp rfl)) (Nat.le_of_ble_eq_true rfl) ?_
    refine WL.callK Ev.func (Evs.cons (Ev.tmp rfl) Evs.nil) (linesR_ct _ _ _ (by omega)) (Nat.le_of_ble_eq_true rfl) ?_
    rintro _ _ ⟨a20, c20, k20, e20, rfl, rfl⟩
    refine WL.knowRow (a := a20) (by (repeat (first | exact List.Mem.head _ | apply List.Mem.tail))) fun p20 q20 r20 => ?_
    refine WL.po (PO.assign (Ev.tmp rfl)) (Nat.le_of_ble_eq_true rfl) ?_
    refine WL.nil (keepF (ts := [5]) rfl (toK (by assumption) ?_))
    (try clear hG ops)
    (repeat (first | refine WC.seqK fun K hK => ?_ | refine WC.block ?_ | refine WC.regionG rfl fun ops hG => ?_))
    refine WL.po (PO.assign Ev.const) (Nat.le_of_ble_eq_true rfl) ?_
    refine WL.nil (keepF (ts := [5, 6]) rfl (toK (by assumption) ?_))
    (try clear hG ops)
    (repeat (first | refine WC.seqK fun K hK => ?_ | refine WC.block ?_ | refine WC.regionG rfl fun ops hG => ?_))
    refine WC.loopI [5] rfl (fun μ F' h' => ∃ k : Nat, (k ≤ (lines src).length ∧ wrongL 0 (lines src) = wrongL k ((lines src).drop k)) ∧ (lines src).length - k = μ ∧ F' = [(6, .int .i64 k)] ∧ .row (.slice a20 k20 c20) 9 1 k20 (fl encB (lines src)) :: .row (.slice none 0 0) 34 3 0 [] :: h = h') ((lines src).length - 0) [(6, .int .i64 0)] (h0 := .row (.slice a20 k20 c20) 9 1 k20 (fl encB (lines src)) :: .row (.slice none 0 0) 34 3 0 [] :: h) ?_ (by (repeat (first | exact List.Sublist.refl _ | refine List.Sublist.cons_cons _ ?_ | apply List.Sublist.cons))) ⟨0, ⟨by omega, rfl⟩, rfl, rfl, rfl⟩ ?_
    · (repeat (first | exact Sub.nil | refine Sub.cons rfl ?_ | refine Sub.consE rfl (by simp; done) ?_))
    rintro _ _ _ ⟨k, ⟨hk, hJ⟩, rfl, rfl, rfl⟩
    refine WC.frm rfl ?_
    (repeat (first | refine WC.seqK fun K hK => ?_ | refine WC.block ?_ | refine WC.regionG rfl fun ops hG => ?_))
    refine WL.po (PO.move (Ev.tmp rfl)) (Nat.le_of_ble_eq_true rfl) ?_
    refine WL.po (PO.move (Ev.tmp rfl)) (Nat.le_of_ble_eq_true rfl) ?_
    refine WL.po (PO.lenSl Tryd.underlying38 (Ev.tmp rfl)) (Nat.le_of_ble_eq_true rfl) ?_
    refine WL.po (PO.bin (Ev.tmp rfl) (Ev.tmp rfl) rfl) (Nat.le_of_ble_eq_true rfl) ?_
    refine WL.nil (keepF (ts := [5, 6, 24]) rfl (toK (by assumption) ?_))
    (try clear hG ops)
    (repeat (first | refine WC.seqK fun K hK => ?_ | refine WC.block ?_ | refine WC.regionG rfl fun ops hG => ?_))
    refine WC.cond (Ev.tmp rfl) (fun c24 => ?_) (fun c24 => ?_)
    · replace c24 := of_decide_eq_true c24
      obtain ⟨x, hx⟩ := get_some (l := lines src) (k := k) (by omega)
      have hxl := hall x (List.mem_of_getElem? hx)
      rw [wrongL_drop hx] at hJ
      refine WC.skip (keepF (ts := [5, 6]) rfl (toK (by assumption) ?_))
      (repeat (first | refine WC.seqK fun K hK => ?_ | refine WC.block ?_ | refine WC.regionG rfl fun ops hG => ?_))
      refine WL.po (PO.move (Ev.tmp rfl)) (Nat.le_of_ble_eq_true rfl) ?_
      refine WL.po (PO.move (Ev.tmp rfl)) (Nat.le_of_ble_eq_true rfl) ?_
      refine WL.po (PO.idx EL38.und EL38.size EL38.posz (Ev.tmp rfl) (Ev.tmp rfl) (by first | assumption | exact Rd.ofSl (by assumption) | exact Rd.ofPt rfl (by decide) (by (repeat (first | exact List.Mem.head _ | apply List.Mem.tail))) | exact Rd.mono (by assumption) (View.le.refl _) (by (repeat (first | exact List.Sublist.refl _ | refine List.Sublist.cons_cons _ ?_ | apply List.Sublist.cons))) | exact Rd.inRow (by (repeat (first | exact List.Mem.head _ | apply List.Mem.tail))) (by assumption) (by assumption) (by assumption)) rfl (by omega)) (Nat.le_of_ble_eq_true rfl) ?_
      refine WL.po (PO.loadF1 Tryd.underlying9 rfl encB_len (by first | assumption | exact Rd.ofSl (by assumption) | exact Rd.ofPt rfl (by decide) (by (repeat (first | exact List.Mem.head _ | apply List.Mem.tail))) | exact Rd.mono (by assumption) (View.le.refl _) (by (repeat (first | exact List.Sublist.refl _ | refine List.Sublist.cons_cons _ ?_ | apply List.Sublist.cons))) | exact Rd.inRow (by (repeat (first | exact List.Mem.head _ | apply List.Mem.tail))) (by assumption) (by assumption) (by assumption)) (Ev.tmp rfl) (by assumption) rfl) (Nat.le_of_ble_eq_true rfl) ?_
      refine WL.callP Ev.func (Evs.cons (Ev.tmp rfl) Evs.nil) (plain_ct _ _ _ (by omega)) (Nat.le_of_ble_eq_true rfl) ?_
      refine WL.po (PO.not (Ev.tmp rfl)) (Nat.le_of_ble_eq_true rfl) ?_
      refine WL.nil (keepF (ts := [5, 6, 32]) rfl (toK (by assumption) ?_))
      (try clear hG ops)
      (repeat (first | refine WC.seqK fun K hK => ?_ | refine WC.block ?_ | refine WC.regionG rfl fun ops hG => ?_))
      refine WC.cond (Ev.tmp rfl) (fun c32 => ?_) (fun c32 => ?_)
      · have c32' : x.all okB = false := by simpa using c32
        rw [c32', wrong_lines] at hJ
        (repeat (first | refine WC.seqK fun K hK => ?_ | refine WC.block ?_ | refine WC.regionG rfl fun ops hG => ?_))
        refine WL.po (PO.move (Ev.tmp rfl)) (Nat.le_of_ble_eq_true rfl) ?_
        refine WL.po (PO.addI (Ev.tmp rfl) Ev.const (by omega)) (Nat.le_of_ble_eq_true rfl) ?_
        refine WL.po (PO.assign Ev.const) (Nat.le_of_ble_eq_true rfl) ?_
        refine WL.po (PO.assign (Ev.tmp rfl)) (Nat.le_of_ble_eq_true rfl) ?_
        refine WL.po (PO.assign Ev.const) (Nat.le_of_ble_eq_true rfl) ?_
        refine WL.nil (keepF (ts := [2, 3, 4]) rfl (toK (by assumption) ?_))
        (try clear hG ops)
        refine WC.ret (end3 (h' := .row (.slice none 0 0) 34 3 0 [] :: h) (.inl rfl) rfl (RV.tmp rfl) (RV.tmp rfl) (RV.tmp rfl) (View.le.refl m) (by (repeat (first | exact List.Sublist.refl _ | refine List.Sublist.cons_cons _ ?_ | apply List.Sublist.cons))) ?_)
        exact RowsO.bad (no := k + 1) (by unfold rowsP; rw [if_neg (by omega), hJ]; exact if_pos (by simp))
      · have c32' : x.all okB = true := by simpa using c32
        rw [c32'] at hJ
        refine WC.skip (keepF (ts := [5, 6]) rfl (toK (by assumption) ?_))
        (repeat (first | refine WC.seqK fun K hK => ?_ | refine WC.block ?_ | refine WC.regionG rfl fun ops hG => ?_))
        refine WL.po (PO.move (Ev.tmp rfl)) (Nat.le_of_ble_eq_true rfl) ?_
        refine WL.po (PO.addI (Ev.tmp rfl) Ev.const (by omega)) (Nat.le_of_ble_eq_true rfl) ?_
        refine WL.po (PO.assign (Ev.tmp rfl)) (Nat.le_of_ble_eq_true rfl) ?_
        refine WL.nil (loopBackI ((lines src).length - (k + 1)) [(6, .int .i64 (k + 1))] (h'' := .row (.slice a20 k20 c20) 9 1 k20 (fl encB (lines src)) :: .row (.slice none 0 0) 34 3 0 [] :: h) (by omega) ?_ (by (repeat (first | exact Sub.nil | refine Sub.cons rfl ?_ | refine Sub.consE rfl (by simp; done) ?_))) (by (repeat (first | exact List.Sublist.refl _ | refine List.Sublist.cons_cons _ ?_ | apply List.Sublist.cons))) ⟨k + 1, ⟨by omega, hJ⟩, rfl, rfl, rfl⟩)
        (repeat (first | exact Sub.nil | refine Sub.cons rfl ?_ | refine Sub.consE rfl (by simp; done) ?_))
    · replace c24 := of_decide_eq_false c24
      rw [show (lines src).drop k = [] from List.drop_eq_nil_of_le (by omega), wrong_lines] at hJ
      have hrows : rowsP src = run (piecesP 0 (lines src)) s0 := by unfold rowsP; rw [if_neg (by omega), hJ]; exact if_neg (by simp [wrongL])
      refine WC.exit (keepF (ts := [5]) rfl (toK (by assumption) ?_))
      (repeat (first | refine WC.seqK fun K hK => ?_ | refine WC.block ?_ | refine WC.regionG rfl fun ops hG => ?_))
      refine WL.po (PO.assign Ev.const) (Nat.le_of_ble_eq_true rfl) ?_
      refine WL.nil (keepF (ts := [5, 7]) rfl (toK (by assumption) ?_))
      (try clear hG ops)
      (repeat (first | refine WC.seqK fun K hK => ?_ | refine WC.block ?_ | refine WC.regionG rfl fun ops hG => ?_))
      refine WL.po (PO.assign Ev.const) (Nat.le_of_ble_eq_true rfl) ?_
      refine WL.nil (keepF (ts := [5, 7, 8]) rfl (toK (by assumption) ?_))
      (try clear hG ops)
      (repeat (first | refine WC.seqK fun K hK => ?_ | refine WC.block ?_ | refine WC.regionG rfl fun ops hG => ?_))
      refine WL.po (PO.move (Ev.tmp rfl)) (Nat.le_of_ble_eq_true rfl) ?_
      refine WL.callP Ev.func (Evs.cons (Ev.tmp rfl) (Evs.cons Ev.const Evs.nil)) (next_ct _ _ _ (lines src) 0 _ _ (by first | assumption | exact Rd.ofSl (by assumption) | exact Rd.ofPt rfl (by decide) (by (repeat (first | exact List.Mem.head _ | apply List.Mem.tail))) | exact Rd.mono (by assumption) (View.le.refl _) (by (repeat (first | exact List.Sublist.refl _ | refine List.Sublist.cons_cons _ ?_ | apply List.Sublist.cons))) | exact Rd.inRow (by (repeat (first | exact List.Mem.head _ | apply List.Mem.tail))) (by assumption) (by assumption) (by assumption)) (by omega) hall (by omega)) (Nat.le_of_ble_eq_true rfl) ?_
      refine WL.po (PO.assign (Ev.tmp rfl)) (Nat.le_of_ble_eq_true rfl) ?_
      refine WL.nil (keepF (ts := [5, 7, 8, 9]) rfl (toK (by assumption) ?_))
      (try clear hG ops)
      (repeat (first | refine WC.seqK fun K hK => ?_ | refine WC.block ?_ | refine WC.regionG rfl fun ops hG => ?_))
      refine WC.loopI [5] rfl (fun μ F' h' => ∃ k : Nat, ∃ s : S, ∃ a : Option Addr, ∃ c : Nat, (((k ≤ (lines src).length ∧ s.parts = []) ∧ Inv k s) ∧ rowsP src = run (piecesP k ((lines src).drop k)) s) ∧ (lines src).length - k = μ ∧ F' = [(7, .slice a s.out.length c), (8, .int .i64 s.before), (9, .int .i64 (nextA k ((lines src).drop k)))] ∧ .row (.slice a20 k20 c20) 9 1 k20 (fl encB (lines src)) :: .row (.slice a s.out.length c) 34 3 s.out.length (fl encR s.out) :: h = h') ((lines src).length - 0) [(7, .slice none s0.out.length 0), (8, .int .i64 s0.before), (9, .int .i64 (nextA 0 ((lines src).drop 0)))] (h0 := .row (.slice a20 k20 c20) 9 1 k20 (fl encB (lines src)) :: .row (.slice none s0.out.length 0) 34 3 s0.out.length (fl encR s0.out) :: h) ?_ (by (repeat (first | exact List.Sublist.refl _ | refine List.Sublist.cons_cons _ ?_ | apply List.Sublist.cons))) ⟨0, s0, none, 0, ⟨⟨⟨by omega, rfl⟩, Inv.start⟩, hrows⟩, rfl, rfl, rfl⟩ ?_
      · (repeat (first | exact Sub.nil | refine Sub.cons rfl ?_ | refine Sub.consE rfl (by simp; done) ?_))
      rintro _ _ _ ⟨k, s, a, c, ⟨⟨⟨hk, hp0⟩, hI⟩, hJ⟩, rfl, rfl, rfl⟩
      refine WC.frm rfl ?_
      have hspec := nextA_spec _ rfl hk
      generalize nextA k ((lines src).drop k) = j at *
      have hbef := hI.bef
      have hout := hI.out
      (repeat (first | refine WC.seqK fun K hK => ?_ | refine WC.block ?_ | refine WC.regionG rfl fun ops hG => ?_))
      refine WL.po (PO.move (Ev.tmp rfl)) (Nat.le_of_ble_eq_true rfl) ?_
      refine WL.po (PO.move (Ev.tmp rfl)) (Nat.le_of_ble_eq_true rfl) ?_
      refine WL.po (PO.lenSl Tryd.underlying38 (Ev.tmp rfl)) (Nat.le_of_ble_eq_true rfl) ?_
      refine WL.po (PO.bin (Ev.tmp rfl) (Ev.tmp rfl) rfl) (Nat.le_of_ble_eq_true rfl) ?_
      refine WL.nil (keepF (ts := [5, 7, 8, 9, 40]) rfl (toK (by assumption) ?_))
      (try clear hG ops)
      (repeat (first | refine WC.seqK fun K hK => ?_ | refine WC.block ?_ | refine WC.regionG rfl fun ops hG => ?_))
      refine WC.cond (Ev.tmp rfl) (fun c40 => ?_) (fun c40 => ?_)
      · replace c40 := of_decide_eq_true c40
        rcases hspec with ⟨h1, _⟩ | ⟨j', x, rfl, h2, h3, hx, h5, h6⟩
        · omega
        have hxl := hall x (List.mem_of_getElem? hx)
        have hxs := hsm x (List.mem_of_getElem? hx)
        have htl := txt_len x
        have hil := ind_le x
        rw [h5, run_first hp0] at hJ
        refine WC.skip (keepF (ts := [5, 7, 8, 9]) rfl (toK (by assumption) ?_))
        (repeat (first | refine WC.seqK fun K hK => ?_ | refine WC.block ?_ | refine WC.regionG rfl fun ops hG => ?_))
        refine WL.po (PO.move (Ev.tmp rfl)) (Nat.le_of_ble_eq_true rfl) ?_
        refine WL.po (PO.addI (Ev.tmp rfl) Ev.const (by omega)) (Nat.le_of_ble_eq_true rfl) ?_
        refine WL.po (PO.assign (Ev.tmp rfl)) (Nat.le_of_ble_eq_true rfl) ?_
        refine WL.nil (keepF (ts := [5, 7, 8, 9, 10]) rfl (toK (by assumption) ?_))
        (try clear hG ops)
        (repeat (first | refine WC.seqK fun K hK => ?_ | refine WC.block ?_ | refine WC.regionG rfl fun ops hG => ?_))
        refine WL.po (PO.move (Ev.tmp rfl)) (Nat.le_of_ble_eq_true rfl) ?_
        refine WL.po (PO.move (Ev.tmp rfl)) (Nat.le_of_ble_eq_true rfl) ?_
        refine WL.po (PO.idx EL38.und EL38.size EL38.posz (Ev.tmp rfl) (Ev.tmp rfl) (by first | assumption | exact Rd.ofSl (by assumption) | exact Rd.ofPt rfl (by decide) (by (repeat (first | exact List.Mem.head _ | apply List.Mem.tail))) | exact Rd.mono (by assumption) (View.le.refl _) (by (repeat (first | exact List.Sublist.refl _ | refine List.Sublist.cons_cons _ ?_ | apply List.Sublist.cons))) | exact Rd.inRow (by (repeat (first | exact List.Mem.head _ | apply List.Mem.tail))) (by assumption) (by assumption) (by assumption)) rfl (by omega)) (Nat.le_of_ble_eq_true rfl) ?_
        refine WL.po (PO.loadF1 Tryd.underlying9 rfl encB_len (by first | assumption | exact Rd.ofSl (by assumption) | exact Rd.ofPt rfl (by decide) (by (repeat (first | exact List.Mem.head _ | apply List.Mem.tail))) | exact Rd.mono (by assumption) (View.le.refl _) (by (repeat (first | exact List.Sublist.refl _ | refine List.Sublist.cons_cons _ ?_ | apply List.Sublist.cons))) | exact Rd.inRow (by (repeat (first | exact List.Mem.head _ | apply List.Mem.tail))) (by assumption) (by assumption) (by assumption)) (Ev.tmp rfl) (by assumption) rfl) (Nat.le_of_ble_eq_true rfl) ?_
        refine WL.callP Ev.func (Evs.cons (Ev.tmp rfl) Evs.nil) (cutR_ct _ _ _ (by omega)) (Nat.le_of_ble_eq_true rfl) ?_
        refine WL.po (PO.move (Ev.tmp rfl)) (Nat.le_of_ble_eq_true rfl) ?_
        refine WL.po (PO.extract (Ev.tmp rfl) rfl) (Nat.le_of_ble_eq_true rfl) ?_
        refine WL.po (PO.extract (Ev.tmp rfl) rfl) (Nat.le_of_ble_eq_true rfl) ?_
        refine WL.po (PO.assign (Ev.tmp rfl)) (Nat.le_of_ble_eq_true rfl) ?_
        refine WL.po (PO.assign (Ev.tmp rfl)) (Nat.le_of_ble_eq_true rfl) ?_
        refine WL.nil (keepF (ts := [5, 7, 8, 9, 10, 11, 12]) rfl (toK (by assumption) ?_))
        (try clear hG ops)
        (repeat (first | refine WC.seqK fun K hK => ?_ | refine WC.block ?_ | refine WC.regionG rfl fun ops hG => ?_))
        refine WL.po (PO.move (Ev.tmp rfl)) (Nat.le_of_ble_eq_true rfl) ?_
        refine WL.po (PO.rem (Ev.tmp rfl) Ev.const (by decide)) (Nat.le_of_ble_eq_true rfl) ?_
        refine WL.po (PO.bin (Ev.tmp rfl) Ev.const rfl) (Nat.le_of_ble_eq_true rfl) ?_
        refine WL.po (PO.move (Ev.tmp rfl)) (Nat.le_of_ble_eq_true rfl) ?_
        refine WL.poG (GU.f (hG _ _ rfl) rfl) (fun hc => PO.move (Ev.tmp rfl)) (Nat.le_of_ble_eq_true rfl) ?_
        refine WL.poG (GU.f (hG _ _ rfl) rfl) (fun hc => PO.quo (Ev.gv rfl hc) Ev.const (by decide)) (Nat.le_of_ble_eq_true rfl) ?_
        refine WL.poG (GU.f (hG _ _ rfl) rfl) (fun hc => PO.move (Ev.tmp rfl)) (Nat.le_of_ble_eq_true rfl) ?_
        refine WL.poG (GU.f (hG _ _ rfl) rfl) (fun hc => PO.addI (Ev.gv rfl hc) Ev.const (by first | omega | (simp at hc; omega))) (Nat.le_of_ble_eq_true rfl) ?_
        refine WL.poG (GU.f (hG _ _ rfl) rfl) (fun hc => PO.bin (Ev.gv rfl hc) (Ev.gv rfl hc) rfl) (Nat.le_of_ble_eq_true rfl) ?_
        refine WL.po (PO.pickOr rfl rfl) (Nat.le_of_ble_eq_true rfl) ?_
        refine WL.nil (keepF (ts := [5, 7, 9, 10, 11, 12, 64]) rfl (toK (by assumption) ?_))
        (try clear hG ops)
        (repeat (first | refine WC.seqK fun K hK => ?_ | refine WC.block ?_ | refine WC.regionG rfl fun ops hG => ?_))
        refine WC.cond (Ev.tmp rfl) (fun c64 => ?_) (fun c64 => ?_)
        · rw [odd_eq (by omega)] at c64
          rw [if_pos c64] at hJ
          (repeat (first | refine WC.seqK fun K hK => ?_ | refine WC.block ?_ | refine WC.regionG rfl fun ops hG => ?_))
          refine WL.addNil 34 3 ?_
          refine WL.po (PO.move (Ev.tmp rfl)) (Nat.le_of_ble_eq_true rfl) ?_
          refine WL.po (PO.assign Ev.const) (Nat.le_of_ble_eq_true rfl) ?_
          refine WL.po (PO.assign (Ev.tmp rfl)) (Nat.le_of_ble_eq_true rfl) ?_
          refine WL.po (PO.assign Ev.const) (Nat.le_of_ble_eq_true rfl) ?_
          refine WL.nil (keepF (ts := [2, 3, 4]) rfl (toK (by assumption) ?_))
          (try clear hG ops)
          refine WC.ret (end3 (h' := .row (.slice none 0 0) 34 3 0 [] :: h) (.inl rfl) rfl (RV.tmp rfl) (RV.tmp rfl) (RV.tmp rfl) (View.le.refl m) (by (repeat (first | exact List.Sublist.refl _ | refine List.Sublist.cons_cons _ ?_ | apply List.Sublist.cons))) ?_)
          exact RowsO.bad (no := j + 1) hJ
        · rw [odd_eq (by omega)] at c64
          rw [if_neg (by rw [c64]; decide)] at hJ
          have hpk : PcOk ⟨j + 1, ind x, txt x⟩ := ⟨h6, by show (txt x).length ≤ 65536; omega, by show ind x ≤ 65536; omega, by show j + 1 ≤ 65537; omega⟩
          refine WC.skip (keepF (ts := [5, 7, 9, 10, 11, 12]) rfl (toK (by assumption) ?_))
          (repeat (first | refine WC.seqK fun K hK => ?_ | refine WC.block ?_ | refine WC.regionG rfl fun ops hG => ?_))
          refine WC.loopI [5, 7, 10, 11] rfl (fun μ F' h' => ∃ i : Nat, ∃ t : S, ((((k ≤ i ∧ i < (lines src).length) ∧ t.parts ≠ []) ∧ (t.first = ⟨j + 1, ind x, txt x⟩ ∧ t.out = s.out ∧ t.last = i + 1) ∧ Inv (i + 1) t) ∧ rowsP src = finS (run (piecesP (i + 1) ((lines src).drop (i + 1)))) t) ∧ (lines src).length - i = μ ∧ F' = [(9, .int .i64 i), (12, str (textS t))] ∧ .row (.slice a20 k20 c20) 9 1 k20 (fl encB (lines src)) :: .row (.slice a s.out.length c) 34 3 s.out.length (fl encR s.out) :: h = h') ((lines src).length - j) [(9, .int .i64 j), (12, str (textS (takeS s ⟨j + 1, ind x, txt x⟩)))] (h0 := .row (.slice a20 k20 c20) 9 1 k20 (fl encB (lines src)) :: .row (.slice a s.out.length c) 34 3 s.out.length (fl encR s.out) :: h) ?_ (by (repeat (first | exact List.Sublist.refl _ | refine List.Sublist.cons_cons _ ?_ | apply List.Sublist.cons))) ⟨j, takeS s ⟨j + 1, ind x, txt x⟩, ⟨⟨⟨⟨h2, h3⟩, by simp [takeS]⟩, ⟨by simp [takeS, hp0], rfl, rfl⟩, (hI.take hpk).mono (by omega)⟩, hJ⟩, rfl, rfl, rfl⟩ ?_
          · rw [text_first hp0]; (repeat (first | exact Sub.nil | refine Sub.cons rfl ?_ | refine Sub.consE rfl (by simp; done) ?_))
          rintro _ _ _ ⟨i, t, ⟨⟨⟨⟨hki, hil2⟩, htp⟩, ⟨hf, ho, hlast⟩, hI2⟩, hJ2⟩, rfl, rfl, rfl⟩
          refine WC.frm rfl ?_
          have htx2 := hI2.txt
          have hf1 : t.first.ind = ind x := by rw [hf]
          have hf2 : (t.first.no : Int) = (j : Int) + 1 := by rw [hf]; rfl
          (repeat (first | refine WC.seqK fun K hK => ?_ | refine WC.block ?_ | refine WC.regionG rfl fun ops hG => ?_))
          refine WL.po (PO.move (Ev.tmp rfl)) (Nat.le_of_ble_eq_true rfl) ?_
          refine WL.callP Ev.func (Evs.cons (Ev.tmp rfl) Evs.nil) (contR_ct _ _ _ (by omega)) (Nat.le_of_ble_eq_true rfl) ?_
          refine WL.nil (keepF (ts := [5, 7, 9, 10, 11, 12, 67]) rfl (toK (by assumption) ?_))
          (try clear hG ops)
          (repeat (first | refine WC.seqK fun K hK => ?_ | refine WC.block ?_ | refine WC.regionG rfl fun ops hG => ?_))
          refine WC.cond (Ev.tmp rfl) (fun c67 => ?_) (fun c67 => ?_)
          · unfold finS at hJ2
            rw [if_pos c67] at hJ2
            refine WC.skip (keepF (ts := [5, 7, 9, 10, 11, 12]) rfl (toK (by assumption) ?_))
            (repeat (first | refine WC.seqK fun K hK => ?_ | refine WC.block ?_ | refine WC.regionG rfl fun ops hG => ?_))
            refine WL.po (PO.move (Ev.tmp rfl)) (Nat.le_of_ble_eq_true rfl) ?_
            refine WL.po (PO.move (Ev.tmp rfl)) (Nat.le_of_ble_eq_true rfl) ?_
            refine WL.po (PO.addI (Ev.tmp rfl) Ev.const (by omega)) (Nat.le_of_ble_eq_true rfl) ?_
            refine WL.val (v' := .int .i64 ((i + 1 : Nat) : Int)) rfl ?_
            refine WL.callP Ev.func (Evs.cons (Ev.tmp rfl) (Evs.cons (Ev.tmp rfl) Evs.nil)) (next_ct _ _ _ (lines src) (i + 1) _ _ (by first | assumption | exact Rd.ofSl (by assumption) | exact Rd.ofPt rfl (by decide) (by (repeat (first | exact List.Mem.head _ | apply List.Mem.tail))) | exact Rd.mono (by assumption) (View.le.refl _) (by (repeat (first | exact List.Sublist.refl _ | refine List.Sublist.cons_cons _ ?_ | apply List.Sublist.cons))) | exact Rd.inRow (by (repeat (first | exact List.Mem.head _ | apply List.Mem.tail))) (by assumption) (by assumption) (by assumption)) (by omega) hall (by omega)) (Nat.le_of_ble_eq_true rfl) ?_
            refine WL.po (PO.assign (Ev.tmp rfl)) (Nat.le_of_ble_eq_true rfl) ?_
            refine WL.nil (keepF (ts := [5, 7, 9, 10, 11, 12, 13]) rfl (toK (by assumption) ?_))
            (try clear hG ops)
            (repeat (first | refine WC.seqK fun K hK => ?_ | refine WC.block ?_ | refine WC.regionG rfl fun ops hG => ?_))
            have hspec2 := nextA_spec _ rfl (ls := lines src) (k := i + 1) (by omega)
            generalize nextA (i + 1) ((lines src).drop (i + 1)) = to at *
            refine WL.po (PO.move (Ev.tmp rfl)) (Nat.le_of_ble_eq_true rfl) ?_
            refine WL.po (PO.move (Ev.tmp rfl)) (Nat.le_of_ble_eq_true rfl) ?_
            refine WL.po (PO.lenSl Tryd.underlying38 (Ev.tmp rfl)) (Nat.le_of_ble_eq_true rfl) ?_
            refine WL.po (PO.bin (Ev.tmp rfl) (Ev.tmp rfl) rfl) (Nat.le_of_ble_eq_true rfl) ?_
            refine WL.nil (keepF (ts := [5, 7, 9, 10, 11, 12, 13, 75]) rfl (toK (by assumption) ?_))
            (try clear hG ops)
            (repeat (first | refine WC.seqK fun K hK => ?_ | refine WC.block ?_ | refine WC.regionG rfl fun ops hG => ?_))
            refine WC.cond (Ev.tmp rfl) (fun c75 => ?_) (fun c75 => ?_)
            · replace c75 := t_eq c75
              have hnil : piecesP (i + 1) ((lines src).drop (i + 1)) = [] := by
                rcases hspec2 with ⟨_, hnil⟩ | ⟨j2, y, h1, h2, h3, _⟩
                · exact hnil
                · omega
              rw [hnil, run_end htp, hlast] at hJ2
              (repeat (first | refine WC.seqK fun K hK => ?_ | refine WC.block ?_ | refine WC.regionG rfl fun ops hG => ?_))
              refine WL.addNil 34 3 ?_
              refine WL.po (PO.move (Ev.tmp rfl)) (Nat.le_of_ble_eq_true rfl) ?_
              refine WL.po (PO.addI (Ev.tmp rfl) Ev.const (by omega)) (Nat.le_of_ble_eq_true rfl) ?_
              refine WL.po (PO.assign Ev.const) (Nat.le_of_ble_eq_true rfl) ?_
              refine WL.po (PO.assign (Ev.tmp rfl)) (Nat.le_of_ble_eq_true rfl) ?_
              refine WL.po (PO.assign Ev.const) (Nat.le_of_ble_eq_true rfl) ?_
              refine WL.nil (keepF (ts := [2, 3, 4]) rfl (toK (by assumption) ?_))
              (try clear hG ops)
              refine WC.ret (end3 (h' := .row (.slice none 0 0) 34 3 0 [] :: h) (.inl rfl) rfl (RV.tmp rfl) (RV.tmp rfl) (RV.tmp rfl) (View.le.refl m) (by (repeat (first | exact List.Sublist.refl _ | refine List.Sublist.cons_cons _ ?_ | apply List.Sublist.cons))) ?_)
              exact RowsO.bad (no := i + 1) hJ2
            · replace c75 := f_eq c75
              rcases hspec2 with ⟨_, hnil⟩ | ⟨j2, y, rfl, g2, g3, hy, g5, g6⟩
              · omega
              have hyl := hall y (List.mem_of_getElem? hy)
              have hys := hsm y (List.mem_of_getElem? hy)
              have hytl := txt_len y
              have hyil := ind_le y
              rw [g5, run_more htp, hf1] at hJ2
              have hpk2 : PcOk ⟨to + 1, ind y, txt y⟩ := ⟨g6, by show (txt y).length ≤ 65536; omega, by show ind y ≤ 65536; omega, by show to + 1 ≤ 65537; omega⟩
              refine WC.skip (keepF (ts := [5, 7, 10, 11, 12, 13]) rfl (toK (by assumption) ?_))
              (repeat (first | refine WC.seqK fun K hK => ?_ | refine WC.block ?_ | refine WC.regionG rfl fun ops hG => ?_))
              refine WL.po (PO.move (Ev.tmp rfl)) (Nat.le_of_ble_eq_true rfl) ?_
              refine WL.po (PO.move (Ev.tmp rfl)) (Nat.le_of_ble_eq_true rfl) ?_
              refine WL.po (PO.idx EL38.und EL38.size EL38.posz (Ev.tmp rfl) (Ev.tmp rfl) (by first | assumption | exact Rd.ofSl (by assumption) | exact Rd.ofPt rfl (by decide) (by (repeat (first | exact List.Mem.head _ | apply List.Mem.tail))) | exact Rd.mono (by assumption) (View.le.refl _) (by (repeat (first | exact List.Sublist.refl _ | refine List.Sublist.cons_cons _ ?_ | apply List.Sublist.cons))) | exact Rd.inRow (by (repeat (first | exact List.Mem.head _ | apply List.Mem.tail))) (by assumption) (by assumption) (by assumption)) rfl (by omega)) (Nat.le_of_ble_eq_true rfl) ?_
              refine WL.po (PO.loadF1 Tryd.underlying9 rfl encB_len (by first | assumption | exact Rd.ofSl (by assumption) | exact Rd.ofPt rfl (by decide) (by (repeat (first | exact List.Mem.head _ | apply List.Mem.tail))) | exact Rd.mono (by assumption) (View.le.refl _) (by (repeat (first | exact List.Sublist.refl _ | refine List.Sublist.cons_cons _ ?_ | apply List.Sublist.cons))) | exact Rd.inRow (by (repeat (first | exact List.Mem.head _ | apply List.Mem.tail))) (by assumption) (by assumption) (by assumption)) (Ev.tmp rfl) (by assumption) rfl) (Nat.le_of_ble_eq_true rfl) ?_
              refine WL.callP Ev.func (Evs.cons (Ev.tmp rfl) Evs.nil) (cutR_ct _ _ _ (by omega)) (Nat.le_of_ble_eq_true rfl) ?_
              refine WL.po (PO.move (Ev.tmp rfl)) (Nat.le_of_ble_eq_true rfl) ?_
              refine WL.po (PO.extract (Ev.tmp rfl) rfl) (Nat.le_of_ble_eq_true rfl) ?_
              refine WL.po (PO.extract (Ev.tmp rfl) rfl) (Nat.le_of_ble_eq_true rfl) ?_
              refine WL.po (PO.assign (Ev.tmp rfl)) (Nat.le_of_ble_eq_true rfl) ?_
              refine WL.po (PO.assign (Ev.tmp rfl)) (Nat.le_of_ble_eq_true rfl) ?_
              refine WL.nil (keepF (ts := [5, 7, 10, 11, 12, 13, 14, 15]) rfl (toK (by assumption) ?_))
              (try clear hG ops)
              (repeat (first | refine WC.seqK fun K hK => ?_ | refine WC.block ?_ | refine WC.regionG rfl fun ops hG => ?_))
              refine WL.po (PO.move (Ev.tmp rfl)) (Nat.le_of_ble_eq_true rfl) ?_
              refine WL.po (PO.move (Ev.tmp rfl)) (Nat.le_of_ble_eq_true rfl) ?_
              refine WL.po (PO.bin (Ev.tmp rfl) (Ev.tmp rfl) rfl) (Nat.le_of_ble_eq_true rfl) ?_
              refine WL.nil (keepF (ts := [5, 7, 10, 11, 12, 13, 15, 88]) rfl (toK (by assumption) ?_))
              (try clear hG ops)
              (repeat (first | refine WC.seqK fun K hK => ?_ | refine WC.block ?_ | refine WC.regionG rfl fun ops hG => ?_))
              refine WC.cond (Ev.tmp rfl) (fun c88 => ?_) (fun c88 => ?_)
              · replace c88 := of_decide_eq_true c88
                rw [if_pos (decide_eq_true (by show ind y < ind x; omega))] at hJ2
                (repeat (first | refine WC.seqK fun K hK => ?_ | refine WC.block ?_ | refine WC.regionG rfl fun ops hG => ?_))
                refine WL.addNil 34 3 ?_
                refine WL.po (PO.move (Ev.tmp rfl)) (Nat.le_of_ble_eq_true rfl) ?_
                refine WL.po (PO.addI (Ev.tmp rfl) Ev.const (by omega)) (Nat.le_of_ble_eq_true rfl) ?_
                refine WL.po (PO.assign Ev.const) (Nat.le_of_ble_eq_true rfl) ?_
                refine WL.po (PO.assign (Ev.tmp rfl)) (Nat.le_of_ble_eq_true rfl) ?_
                refine WL.po (PO.assign Ev.const) (Nat.le_of_ble_eq_true rfl) ?_
                refine WL.nil (keepF (ts := [2, 3, 4]) rfl (toK (by assumption) ?_))
                (try clear hG ops)
                refine WC.ret (end3 (h' := .row (.slice none 0 0) 34 3 0 [] :: h) (.inl rfl) rfl (RV.tmp rfl) (RV.tmp rfl) (RV.tmp rfl) (View.le.refl m) (by (repeat (first | exact List.Sublist.refl _ | refine List.Sublist.cons_cons _ ?_ | apply List.Sublist.cons))) ?_)
                exact RowsO.bad (no := to + 1) hJ2
              · replace c88 := of_decide_eq_false c88
                rw [if_neg (by simp; omega)] at hJ2
                refine WC.skip (keepF (ts := [5, 7, 10, 11, 12, 13, 15]) rfl (toK (by assumption) ?_))
                (repeat (first | refine WC.seqK fun K hK => ?_ | refine WC.block ?_ | refine WC.regionG rfl fun ops hG => ?_))
                refine WL.po (PO.move (Ev.tmp rfl)) (Nat.le_of_ble_eq_true rfl) ?_
                refine WL.po (PO.catS (Ev.tmp rfl) Ev.const (by simp; omega)) (Nat.le_of_ble_eq_true rfl) ?_
                refine WL.po (PO.move (Ev.tmp rfl)) (Nat.le_of_ble_eq_true rfl) ?_
                refine WL.po (PO.catS (Ev.tmp rfl) (Ev.tmp rfl) (by simp; omega)) (Nat.le_of_ble_eq_true rfl) ?_
                refine WL.po (PO.assign (Ev.tmp rfl)) (Nat.le_of_ble_eq_true rfl) ?_
                refine WL.nil (keepF (ts := [5, 7, 10, 11, 12, 13]) rfl (toK (by assumption) ?_))
                (try clear hG ops)
                (repeat (first | refine WC.seqK fun K hK => ?_ | refine WC.block ?_ | refine WC.regionG rfl fun ops hG => ?_))
                refine WL.po (PO.move (Ev.tmp rfl)) (Nat.le_of_ble_eq_true rfl) ?_
                refine WL.po (PO.assign (Ev.tmp rfl)) (Nat.le_of_ble_eq_true rfl) ?_
                refine WL.nil (loopBackI ((lines src).length - to) [(9, .int .i64 to), (12, str (textS (takeS t ⟨to + 1, ind y, txt y⟩)))] (h'' := .row (.slice a20 k20 c20) 9 1 k20 (fl encB (lines src)) :: .row (.slice a s.out.length c) 34 3 s.out.length (fl encR s.out) :: h) (by omega) ?_ (by (repeat (first | exact Sub.nil | refine Sub.cons rfl ?_ | refine Sub.consE rfl (by simp; done) ?_))) (by (repeat (first | exact List.Sublist.refl _ | refine List.Sublist.cons_cons _ ?_ | apply List.Sublist.cons))) ⟨to, takeS t ⟨to + 1, ind y, txt y⟩, ⟨⟨⟨⟨by omega, g3⟩, by simp [takeS]⟩, ⟨by simp [takeS, hf, htp], ho, rfl⟩, (hI2.take hpk2).mono (by omega)⟩, hJ2⟩, rfl, rfl, rfl⟩)
                rw [text_next htp]; (repeat (first | exact Sub.nil | refine Sub.cons rfl ?_ | refine Sub.consE rfl (by simp; done) ?_))
          · unfold finS at hJ2
            rw [if_neg (by rw [c67]; decide)] at hJ2
            have hlong := long_eq (by omega) hf1 rfl ho
            refine WC.exit (keepF (ts := [5, 7, 9, 10, 11, 12]) rfl (toK (by assumption) ?_))
            (repeat (first | refine WC.seqK fun K hK => ?_ | refine WC.block ?_ | refine WC.regionG rfl fun ops hG => ?_))
            refine WL.po (PO.move (Ev.tmp rfl)) (Nat.le_of_ble_eq_true rfl) ?_
            refine WL.po (PO.quo (Ev.tmp rfl) Ev.const (by decide)) (Nat.le_of_ble_eq_true rfl) ?_
            refine WL.po (PO.bin (Ev.tmp rfl) Ev.const rfl) (Nat.le_of_ble_eq_true rfl) ?_
            refine WL.po (PO.move (Ev.tmp rfl)) (Nat.le_of_ble_eq_true rfl) ?_
            refine WL.poG (GU.f (hG _ _ rfl) rfl) (fun hc => PO.move (Ev.tmp rfl)) (Nat.le_of_ble_eq_true rfl) ?_
            refine WL.poG (GU.f (hG _ _ rfl) rfl) (fun hc => PO.lenS Tryd.underlying9 (Ev.gv rfl hc)) (Nat.le_of_ble_eq_true rfl) ?_
            refine WL.poG (GU.f (hG _ _ rfl) rfl) (fun hc => PO.bin (Ev.gv rfl hc) Ev.const rfl) (Nat.le_of_ble_eq_true rfl) ?_
            refine WL.po (PO.pickOr rfl rfl) (Nat.le_of_ble_eq_true rfl) ?_
            refine WL.po (PO.move (Ev.tmp rfl)) (Nat.le_of_ble_eq_true rfl) ?_
            refine WL.poG (GU.f (hG _ _ rfl) rfl) (fun hc => PO.move (Ev.tmp rfl)) (Nat.le_of_ble_eq_true rfl) ?_
            refine WL.poG (GU.f (hG _ _ rfl) rfl) (fun hc => PO.lenSl Tryd.underlying22 (Ev.gv rfl hc)) (Nat.le_of_ble_eq_true rfl) ?_
            refine WL.poG (GU.f (hG _ _ rfl) rfl) (fun hc => PO.bin (Ev.gv rfl hc) Ev.const rfl) (Nat.le_of_ble_eq_true rfl) ?_
            refine WL.po (PO.pickOr rfl rfl) (Nat.le_of_ble_eq_true rfl) ?_
            refine WL.nil (keepF (ts := [5, 7, 9, 10, 11, 12, 108]) rfl (toK (by assumption) ?_))
            (try clear hG ops)
            (repeat (first | refine WC.seqK fun K hK => ?_ | refine WC.block ?_ | refine WC.regionG rfl fun ops hG => ?_))
            refine WC.cond (Ev.tmp rfl) (fun c108 => ?_) (fun c108 => ?_)
            · rw [hlong] at c108
              rw [if_pos c108, hf] at hJ2
              (repeat (first | refine WC.seqK fun K hK => ?_ | refine WC.block ?_ | refine WC.regionG rfl fun ops hG => ?_))
              refine WL.addNil 34 3 ?_
              refine WL.po (PO.move (Ev.tmp rfl)) (Nat.le_of_ble_eq_true rfl) ?_
              refine WL.po (PO.assign Ev.const) (Nat.le_of_ble_eq_true rfl) ?_
              refine WL.po (PO.assign (Ev.tmp rfl)) (Nat.le_of_ble_eq_true rfl) ?_
              refine WL.po (PO.assign Ev.const) (Nat.le_of_ble_eq_true rfl) ?_
              refine WL.nil (keepF (ts := [2, 3, 4]) rfl (toK (by assumption) ?_))
              (try clear hG ops)
              refine WC.ret (end3 (h' := .row (.slice none 0 0) 34 3 0 [] :: h) (.inl rfl) rfl (RV.tmp rfl) (RV.tmp rfl) (RV.tmp rfl) (View.le.refl m) (by (repeat (first | exact List.Sublist.refl _ | refine List.Sublist.cons_cons _ ?_ | apply List.Sublist.cons))) ?_)
              exact RowsO.bad (no := j + 1) hJ2
            · rw [hlong] at c108
              rw [if_neg (by rw [c108]; decide)] at hJ2
              have hI3 := hI2.close c108 htp
              have hout3 := hI3.out
              have hbb : (closeS t).before = IntKind.i64.wrap ((ind x : Int).tdiv 2) := by rw [half_eq (by omega)]; show ((t.first.ind / 2 : Nat) : Int) = _; rw [hf1]
              refine WC.skip (keepF (ts := [5, 7, 9, 10, 11, 12]) rfl (toK (by assumption) ?_))
              (repeat (first | refine WC.seqK fun K hK => ?_ | refine WC.block ?_ | refine WC.regionG rfl fun ops hG => ?_))
              refine WL.po (PO.move (Ev.tmp rfl)) (Nat.le_of_ble_eq_true rfl) ?_
              refine WL.po (PO.quo (Ev.tmp rfl) Ev.const (by decide)) (Nat.le_of_ble_eq_true rfl) ?_
              refine WL.po (PO.assign (Ev.tmp rfl)) (Nat.le_of_ble_eq_true rfl) ?_
              refine WL.nil (keepF (ts := [5, 7, 8, 9, 10, 12]) rfl (toK (by assumption) ?_))
              (try clear hG ops)
              (repeat (first | refine WC.seqK fun K hK => ?_ | refine WC.block ?_ | refine WC.regionG rfl fun ops hG => ?_))
              refine WL.po (PO.move (Ev.tmp rfl)) (Nat.le_of_ble_eq_true rfl) ?_
              refine WL.po (PO.move (Ev.tmp rfl)) (Nat.le_of_ble_eq_true rfl) ?_
              refine WL.po (PO.move (Ev.tmp rfl)) (Nat.le_of_ble_eq_true rfl) ?_
              refine WL.po (PO.move (Ev.tmp rfl)) (Nat.le_of_ble_eq_true rfl) ?_
              refine WL.po (PO.build Tryd.underlying34 rfl rfl rfl (EvP.cons (Ev.tmp rfl) (EvP.cons (Ev.tmp rfl) (EvP.cons (Ev.tmp rfl) EvP.nil))) rfl) (Nat.le_of_ble_eq_true rfl) ?_
              refine WL.buildSlice EL22 rfl (EvP.cons (Ev.tmp rfl) EvP.nil) rfl rfl (by decide) rfl (Nat.le_of_ble_eq_true rfl) fun b117 => ?_
              refine WL.appendE EL22 (Ev.tmp rfl) (Ev.tmp rfl) (by first | assumption | exact Rd.ofSl (by assumption) | exact Rd.ofPt rfl (by decide) (by (repeat (first | exact List.Mem.head _ | apply List.Mem.tail))) | exact Rd.mono (by assumption) (View.le.refl _) (by (repeat (first | exact List.Sublist.refl _ | refine List.Sublist.cons_cons _ ?_ | apply List.Sublist.cons))) | exact Rd.inRow (by (repeat (first | exact List.Mem.head _ | apply List.Mem.tail))) (by assumption) (by assumption) (by assumption)) (by first | exact one_of rfl | exact fl_ones (fun _ => rfl) _) (close_len ho) (close_fl (by omega) hf1 rfl ho hf2) (by omega) (by omega) (fun v' => by (repeat (first | exact Upd.here | apply Upd.next))) (Nat.le_of_ble_eq_true rfl) fun a118 c118 => ?_
              refine WL.po (PO.assign (Ev.tmp rfl)) (Nat.le_of_ble_eq_true rfl) ?_
              refine WL.nil (keepF (ts := [5, 7, 8, 9]) rfl (toK (by assumption) ?_))
              (try clear hG ops)
              (repeat (first | refine WC.seqK fun K hK => ?_ | refine WC.block ?_ | refine WC.regionG rfl fun ops hG => ?_))
              refine WL.po (PO.move (Ev.tmp rfl)) (Nat.le_of_ble_eq_true rfl) ?_
              refine WL.po (PO.move (Ev.tmp rfl)) (Nat.le_of_ble_eq_true rfl) ?_
              refine WL.po (PO.addI (Ev.tmp rfl) Ev.const (by omega)) (Nat.le_of_ble_eq_true rfl) ?_
              refine WL.val (v' := .int .i64 ((i + 1 : Nat) : Int)) rfl ?_
              refine WL.callP Ev.func (Evs.cons (Ev.tmp rfl) (Evs.cons (Ev.tmp rfl) Evs.nil)) (next_ct _ _ _ (lines src) (i + 1) _ _ (by first | assumption | exact Rd.ofSl (by assumption) | exact Rd.ofPt rfl (by decide) (by (repeat (first | exact List.Mem.head _ | apply List.Mem.tail))) | exact Rd.mono (by assumption) (View.le.refl _) (by (repeat (first | exact List.Sublist.refl _ | refine List.Sublist.cons_cons _ ?_ | apply List.Sublist.cons))) | exact Rd.inRow (by (repeat (first | exact List.Mem.head _ | apply List.Mem.tail))) (by assumption) (by assumption) (by assumption)) (by omega) hall (by omega)) (Nat.le_of_ble_eq_true rfl) ?_
              refine WL.po (PO.assign (Ev.tmp rfl)) (Nat.le_of_ble_eq_true rfl) ?_
              refine WL.nil (loopBackI ((lines src).length - (i + 1)) [(7, .slice a118 (closeS t).out.length c118), (8, .int .i64 (closeS t).before), (9, .int .i64 (nextA (i + 1) ((lines src).drop (i + 1))))] (h'' := .row (.slice a20 k20 c20) 9 1 k20 (fl encB (lines src)) :: .row (.slice a118 (closeS t).out.length c118) 34 3 (closeS t).out.length (fl encR (closeS t).out) :: h) (by omega) ?_ (by (repeat (first | exact Sub.nil | refine Sub.cons rfl ?_ | refine Sub.consE rfl (by simp; done) ?_))) (by (repeat (first | exact List.Sublist.refl _ | refine List.Sublist.cons_cons _ ?_ | apply List.Sublist.cons))) ⟨i + 1, closeS t, a118, c118, ⟨⟨⟨by omega, rfl⟩, hI3⟩, hJ2⟩, rfl, rfl, rfl⟩)
              rw [hbb]; (repeat (first | exact Sub.nil | refine Sub.cons rfl ?_ | refine Sub.consE rfl (by simp; done) ?_))
      · replace c40 := of_decide_eq_false c40
        have hnil : piecesP k ((lines src).drop k) = [] := by
          rcases hspec with ⟨_, hnil⟩ | ⟨j2, y, h1, h2, h3, _⟩
          · exact hnil
          · omega
        rw [hnil, run_done hp0] at hJ
        refine WC.exit (keepF (ts := [7]) rfl (toK (by assumption) ?_))
        (repeat (first | refine WC.seqK fun K hK => ?_ | refine WC.block ?_ | refine WC.regionG rfl fun ops hG => ?_))
        refine WL.po (PO.move (Ev.tmp rfl)) (Nat.le_of_ble_eq_true rfl) ?_
        refine WL.po (PO.assign (Ev.tmp rfl)) (Nat.le_of_ble_eq_true rfl) ?_
        refine WL.po (PO.assign Ev.const) (Nat.le_of_ble_eq_true rfl) ?_
        refine WL.po (PO.assign Ev.const) (Nat.le_of_ble_eq_true rfl) ?_
        refine WL.nil (keepF (ts := [2, 3, 4]) rfl (toK (by assumption) ?_))
        (try clear hG ops)
        refine WC.ret (end3 (h' := .row (.slice a s.out.length c) 34 3 s.out.length (fl encR s.out) :: h) (.inl rfl) rfl (RV.tmp rfl) (RV.tmp rfl) (RV.tmp rfl) (View.le.refl m) (by (repeat (first | exact List.Sublist.refl _ | refine List.Sublist.cons_cons _ ?_ | apply List.Sublist.cons))) ?_)
        exact RowsO.ok hJ
end Go.Proofs.YtmffmpadfpajcaaDoor

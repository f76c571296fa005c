/- expr: ExprBack. -/
import Derived.Test.YtheejlbhmbbdjaaDoorLawA
import Derived.Test.YtheejlbhmbbdjaaDoorExpV
namespace Go.Proofs.YtheejlbhmbbdjaaDoor
open Go.Eng Go.Xp Go
open Go.Ty (Tok encK encK_len tokV)
open Go.Lx (mayK)
set_option maxRecDepth 100000
def dyF (t : Tok) : Nat → Nat → Bool
  | 0, _ => false
  | n + 1, o => if ((t.kind == 5) || (t.kind == 2)) && (t.text == (wordP (o : Nat)).1) then true else dyF t n (o + 1)
theorem dyF_step (t : Tok) (n o : Nat) : dyF t (n + 1) o = if ((t.kind == 5) || (t.kind == 2)) && (t.text == (wordP (o : Nat)).1) then true else dyF t n (o + 1) := rfl
theorem dyadic_ct (t : Tok) (h : List Res) (m : View) : CT Tryd.prog 14 [tokV t] h m (Pure1 h (.bool (dyF t 22 1))) := by
  refine CT.body Tryd.call14 Tryd.func14 rfl Tryd.ntmps14 (leB rfl) rfl ?_
  (repeat (first | refine WC.seqK fun K hK => ?_ | refine WC.block ?_ | refine WC.regionG rfl fun ops hG => ?_))
  refine WL.box (Ev.tmp rfl) rfl (leB rfl) fun b1 => ?_
  refine WL.po (PO.assign Ev.const) (leB rfl) ?_
  refine WL.nil (keepF (ts := [1]) rfl (toK (by assumption) ?_))
  (try clear hG ops)
  (repeat (first | refine WC.seqK fun K hK => ?_ | refine WC.block ?_ | refine WC.regionG rfl fun ops hG => ?_))
  refine WL.po (PO.assign Ev.const) (leB rfl) ?_
  refine WL.nil (keepF (ts := [1, 3]) rfl (toK (by assumption) ?_))
  (try clear hG ops)
  (repeat (first | refine WC.seqK fun K hK => ?_ | refine WC.block ?_ | refine WC.regionG rfl fun ops hG => ?_))
  refine WC.loopI [1] rfl (fun μ F' h' => ∃ j : Nat, ((1 ≤ j ∧ j ≤ 23) ∧ dyF t 22 1 = dyF t (23 - j) j) ∧ 23 - j = μ ∧ F' = [(3, .int .u8 j)] ∧ .pt b1 (.cells (encK t).toArray 36 (0, 0)) :: h = h') (23 - 1) [(3, .int .u8 1)] (h0 := .pt b1 (.cells (encK t).toArray 36 (0, 0)) :: h) ?_ (by (repeat (first | exact sub0 _ | exact subA _ _ | refine subC _ ?_ | apply subK | refine subT _ ?_))) ⟨1, ⟨⟨by omega, by omega⟩, rfl⟩, rfl, rfl, rfl⟩ ?_
  · (repeat (first | exact Sub.nil | refine Sub.cons rfl ?_ | refine Sub.consE rfl (by simp; done) ?_))
  rintro _ _ _ ⟨j, ⟨hj, hJ⟩, rfl, rfl, rfl⟩
  refine WC.frm rfl ?_
  (repeat (first | refine WC.seqK fun K hK => ?_ | refine WC.block ?_ | refine WC.regionG rfl fun ops hG => ?_))
  refine WL.po (PO.move (Ev.tmp rfl)) (leB rfl) ?_
  refine WL.po (PO.bin (Ev.tmp rfl) Ev.const rfl) (leB rfl) ?_
  refine WL.nil (keepF (ts := [1, 3, 7]) rfl (toK (by assumption) ?_))
  (try clear hG ops)
  (repeat (first | refine WC.seqK fun K hK => ?_ | refine WC.block ?_ | refine WC.regionG rfl fun ops hG => ?_))
  refine WC.cond (Ev.tmp rfl) (fun c7 => ?_) (fun c7 => ?_)
  · replace c7 := of_decide_eq_true c7
    obtain ⟨n, hn⟩ : ∃ n, 23 - j = n + 1 := ⟨22 - j, by omega⟩
    have hn2 : 23 - (j + 1) = n := by omega
    rw [hn] at hJ
    replace hJ := hJ.trans (dyF_step t n j)
    refine WC.skip (keepF (ts := [1, 3]) rfl (toK (by assumption) ?_))
    (repeat (first | refine WC.seqK fun K hK => ?_ | refine WC.block ?_ | refine WC.regionG rfl fun ops hG => ?_))
    refine WL.po (PO.move (Ev.tmp rfl)) (leB rfl) ?_
    refine WL.callP Ev.func (Evs.cons (Ev.tmp rfl) Evs.nil) (word_ct j (by omega) _ _) (leB rfl) ?_
    refine WL.po (PO.move (Ev.tmp rfl)) (leB rfl) ?_
    refine WL.po (PO.extract (Ev.tmp rfl) rfl) (leB rfl) ?_
    refine WL.po (PO.extract (Ev.tmp rfl) rfl) (leB rfl) ?_
    refine WL.po (PO.assign (Ev.tmp rfl)) (leB rfl) ?_
    refine WL.po (PO.assign (Ev.tmp rfl)) (leB rfl) ?_
    refine WL.nil (keepF (ts := [1, 3, 4]) rfl (toK (by assumption) ?_))
    (try clear hG ops)
    (repeat (first | refine WC.seqK fun K hK => ?_ | refine WC.block ?_ | refine WC.regionG rfl fun ops hG => ?_))
    refine WL.po (PO.fieldAddr Tryd.underlying36 rfl (Nat.ne_of_beq_eq_false rfl) (Ev.tmp rfl)) (leB rfl) ?_
    refine WL.po (PO.load1 Tryd.underlying34 rfl (Ev.tmp rfl) (by (repeat (first | exact mem0 _ | apply memT))) rfl) (leB rfl) ?_
    refine WL.po (PO.bin (Ev.tmp rfl) Ev.const rfl) (leB rfl) ?_
    refine WL.po (PO.move (Ev.tmp rfl)) (leB rfl) ?_
    refine WL.poG (GU.f (hG _ _ rfl) rfl) (fun hc => PO.fieldAddr Tryd.underlying36 rfl (Nat.ne_of_beq_eq_false rfl) (Ev.tmp rfl)) (leB rfl) ?_
    refine WL.poG (GU.f (hG _ _ rfl) rfl) (fun hc => PO.load1 Tryd.underlying34 rfl (Ev.gv rfl hc) (by (repeat (first | exact mem0 _ | apply memT))) rfl) (leB rfl) ?_
    refine WL.poG (GU.f (hG _ _ rfl) rfl) (fun hc => PO.bin (Ev.gv rfl hc) Ev.const rfl) (leB rfl) ?_
    refine WL.po (PO.pickOr rfl rfl) (leB rfl) ?_
    refine WL.po (PO.move (Ev.tmp rfl)) (leB rfl) ?_
    refine WL.poG (GU.t (hG _ _ rfl) rfl) (fun hc => PO.fieldAddr Tryd.underlying36 rfl (Nat.ne_of_beq_eq_false rfl) (Ev.tmp rfl)) (leB rfl) ?_
    refine WL.poG (GU.t (hG _ _ rfl) rfl) (fun hc => PO.load1 Tryd.underlying9 rfl (Ev.gv rfl hc) (by (repeat (first | exact mem0 _ | apply memT))) rfl) (leB rfl) ?_
    refine WL.poG (GU.t (hG _ _ rfl) rfl) (fun hc => PO.move (Ev.tmp rfl)) (leB rfl) ?_
    refine WL.poG (GU.t (hG _ _ rfl) rfl) (fun hc => PO.eqlS (Ev.gv rfl hc) (Ev.gv rfl hc)) (leB rfl) ?_
    refine WL.po (PO.pickAnd rfl rfl) (leB rfl) ?_
    refine WL.nil (keepF (ts := [1, 3, 28]) rfl (toK (by assumption) ?_))
    (try clear hG ops)
    (repeat (first | refine WC.seqK fun K hK => ?_ | refine WC.block ?_ | refine WC.regionG rfl fun ops hG => ?_))
    refine WC.cond (Ev.tmp rfl) (fun c28 => ?_) (fun c28 => ?_)
    · replace hJ := hJ.trans (if_pos c28)
      (repeat (first | refine WC.seqK fun K hK => ?_ | refine WC.block ?_ | refine WC.regionG rfl fun ops hG => ?_))
      refine WL.po (PO.assign Ev.const) (leB rfl) ?_
      refine WL.nil (keepF (ts := [2]) rfl (toK (by assumption) ?_))
      (try clear hG ops)
      refine WC.ret (end1 (h' := h) (.inl rfl) rfl (RV.tmp rfl) (View.le.refl m) (by (repeat (first | exact sub0 _ | exact subA _ _ | refine subC _ ?_ | apply subK | refine subT _ ?_))) ?_)
      exact ⟨by rw [hJ], rfl⟩
    · replace hJ := hJ.trans (if_neg (by rw [c28]; decide))
      refine WC.skip (keepF (ts := [1, 3]) rfl (toK (by assumption) ?_))
      (repeat (first | refine WC.seqK fun K hK => ?_ | refine WC.block ?_ | refine WC.regionG rfl fun ops hG => ?_))
      refine WL.po (PO.move (Ev.tmp rfl)) (leB rfl) ?_
      refine WL.po (PO.bin (Ev.tmp rfl) Ev.const rfl) (leB rfl) ?_
      refine WL.val (v' := .int .u8 (j + 1 : Nat)) (congrArg (Value.int .u8) (by unfold IntKind.wrap; simp [IntKind.bits, IntKind.signed]; omega)) ?_
      refine WL.po (PO.assign (Ev.tmp rfl)) (leB rfl) ?_
      refine WL.nil (loopBackI (23 - (j + 1)) [(3, .int .u8 (j + 1))] (h'' := .pt b1 (.cells (encK t).toArray 36 (0, 0)) :: h) (by omega) ?_ (by (repeat (first | exact Sub.nil | refine Sub.cons rfl ?_ | refine Sub.consE rfl (by simp; done) ?_))) (by (repeat (first | exact sub0 _ | exact subA _ _ | refine subC _ ?_ | apply subK | refine subT _ ?_))) ⟨j + 1, ⟨⟨by omega, by omega⟩, by rw [hn2]; exact hJ⟩, rfl, rfl, rfl⟩)
      (repeat (first | exact Sub.nil | refine Sub.cons rfl ?_ | refine Sub.consE rfl (by simp; done) ?_))
  · replace c7 := of_decide_eq_false c7
    rw [show 23 - j = 0 by omega] at hJ
    replace hJ : dyF t 22 1 = false := hJ
    refine WC.exit (keepF (ts := []) rfl (toK (by assumption) ?_))
    (repeat (first | refine WC.seqK fun K hK => ?_ | refine WC.block ?_ | refine WC.regionG rfl fun ops hG => ?_))
    refine WL.po (PO.assign Ev.const) (leB rfl) ?_
    refine WL.nil (keepF (ts := [2]) rfl (toK (by assumption) ?_))
    (try clear hG ops)
    refine WC.ret (end1 (h' := h) (.inl rfl) rfl (RV.tmp rfl) (View.le.refl m) (by (repeat (first | exact sub0 _ | exact subA _ _ | refine subC _ ?_ | apply subK | refine subT _ ?_))) ?_)
    exact ⟨by rw [hJ], rfl⟩
theorem dy_no {t : Tok} : ∀ {n o : Nat}, dyF t n o = false → opF { t with at_ := 0 } n o = 0
  | 0, _, _ => rfl
  | n + 1, o, h => by
    rw [dyF_step] at h
    split at h
    · cases h
    · rename_i hq
      have hne : ({ t with at_ := 0 } : Tok) ≠ operT (o : Nat) := fun e => hq (by
        obtain ⟨z, hz⟩ : ∃ z, z = ({ t with at_ := 0 } : Tok) := ⟨_, rfl⟩
        rw [← hz] at e
        have hk : t.kind = z.kind := by rw [hz]
        have hx : t.text = z.text := by rw [hz]
        rw [e] at hk hx
        have hm : (operT (o : Nat)).text = (wordP (o : Nat)).1 := by unfold operT markT; split <;> rfl
        rcases mark_kind (wordP (o : Nat)).1 with h | h
        · rw [hx, hm, hk.trans h]; simp
        · rw [hx, hm, hk.trans h]; simp)
      unfold opF
      rw [if_neg hne]
      exact dy_no h
theorem opF_zero : ∀ n o : Nat, opF zeroT n o = 0
  | 0, _ => rfl
  | n + 1, o => by
    have hne : zeroT ≠ operT (o : Nat) := fun e => by
      have hk : (0 : Int) = (operT (o : Nat)).kind := congrArg Tok.kind e
      rcases mark_kind (wordP (o : Nat)).1 with h | h
      · have := hk.trans h; omega
      · have := hk.trans h; omega
    unfold opF
    rw [if_neg hne]
    exact opF_zero n (o + 1)
theorem front_no {t : Tok} {r : List Tok} (hd : dyF t 22 1 = false) (hx : (t.text == [91]) = false) : NoBr (t :: r) ∧ NoOp (t :: r) := by
  unfold NoBr NoOp
  rw [next_cons]
  split
  · refine ⟨fun e => ?_, dy_no hd⟩
    have : t.text = [91] := congrArg Tok.text e
    simp [this] at hx
  · exact ⟨by decide +kernel, opF_zero _ _⟩
theorem no_nil : NoBr [] ∧ NoOp [] := ⟨by unfold NoBr; decide +kernel, opF_zero _ _⟩
theorem front_wr {e : Ex} {rs : List Tok} (hm : mayE e = true) (hW : Wf e) (hno : NoBr rs ∧ NoOp rs) : (frontN (tokP e ++ rs) = (tokP e).length ∧ frontE (tokP e ++ rs) = 0) ∧ frontX (tokP e ++ rs) = strip e := by
  have h := front_write hm hW hno.1 hno.2
  have ht : tokP e = writeE e := by unfold tokP; rw [hm]; rfl
  unfold frontN frontE frontX
  rw [ht, h]
  exact ⟨⟨rfl, rfl⟩, rfl⟩
theorem front_pr {e : Ex} {rs : List Tok} (hm : mayE e = true) (hW : Wf e) (hno : NoBr rs ∧ NoOp rs) : (frontN ((([symT [40]] ++ tokP e) ++ [symT [41]]) ++ rs) = (tokP e).length + 2 ∧ frontE ((([symT [40]] ++ tokP e) ++ [symT [41]]) ++ rs) = 0) ∧ frontX ((([symT [40]] ++ tokP e) ++ [symT [41]]) ++ rs) = strip e := by
  have h := front_par hm hW hno.2
  have ht : tokP e = writeE e := by unfold tokP; rw [hm]; rfl
  replace h : frontP ((([symT [40]] ++ writeE e) ++ [symT [41]]) ++ rs) = .ok (strip e, (writeE e).length + 2) := h
  unfold frontN frontE frontX
  rw [ht, h]
  exact ⟨⟨rfl, rfl⟩, rfl⟩
theorem tkl_sym {s : B} (hs : s.length ≤ 140737488355328) : TkL [symT s] := fun x hx => by
  rw [List.mem_singleton] at hx
  subst hx
  exact ⟨z0, hs⟩
/-- The bounds of the tokens of an expression. -/
theorem tok_tkl {e : Ex} (hW : Wf e) : TkL (tokP e) := by
  unfold tokP
  split
  · rename_i hm
    exact fun x hx => ⟨(write_may e (may_good hm).1 hW x hx).2, by have := Go.Lx.may_len (write_may e (may_good hm).1 hW x hx).1; omega⟩
  · exact fun x hx => (List.not_mem_nil hx).elim
theorem tks_of {m : View} {h : List Res} {a : Option Addr} {c : Nat} {ts : List Tok} (r : Rd m h a ts.length c 4 (fl encK ts)) (hl : ts.length ≤ 1000000) (hk : TkL ts) : Tks m h a c ts := ⟨r, hl, fun t ht => (hk t ht).2⟩
theorem tkl_app {a b : List Tok} (ha : TkL a) (hb : TkL b) : TkL (a ++ b) := fun x hx => by
  rcases List.mem_append.1 hx with h | h
  · exact ha x h
  · exact hb x h
theorem tokP_len (e : Ex) : (tokP e).length ≤ 2000 := by
  unfold tokP
  split
  · rename_i hm
    obtain ⟨hF, hc⟩ := may_good hm
    have := write_len e hF
    omega
  · exact Nat.zero_le _
theorem back_law {m : View} (hg : Glob m) (hp : Pow m) (e : Ex) (a : Option Addr) (k c : Nat) (l : List Tok) (h : List Res) (hT : TOk m h e) (hW : Wf e) (hr : Rd m h a k c 4 (fl encK l)) (hL : TkL l) :
    CT Tryd.prog 4 [exV e, .slice a k c] h m Law := by
  have hl := hr.lenF encK_len (by decide)
  subst hl
  have hmx := hr.mx
  have hle := hr.le
  obtain ⟨ls, hls⟩ : ∃ ls, ls = l.take 20 := ⟨_, rfl⟩
  have hn : ls.length = min 20 l.length := by rw [hls, List.length_take]
  have hr2 : Rd m h (sl1 a 0 c 4) ls.length c 4 (fl encK ls) := by
    have := hr.takeF encK_len (j := min 20 l.length) (by omega)
    rwa [← hn, show l.take ls.length = ls by rw [hn, hls, ← List.take_eq_take_min]] at this
  have hLs : TkL ls := fun x hx => hL x (List.mem_of_mem_take (hls ▸ hx))
  obtain ⟨u, hu⟩ : ∃ u, ∀ _ : 0 < ls.length, ls[0]? = some u := by
    cases ls with
    | nil => exact ⟨zeroT, fun h => absurd h (Nat.lt_irrefl 0)⟩
    | cons x r => exact ⟨x, fun _ => rfl⟩
  have htl := tokP_len e
  have htk := tok_tkl hW
  refine CT.body Tryd.call4 Tryd.func4 rfl Tryd.ntmps4 (leB rfl) rfl ?_
  (repeat (first | refine WC.seqK fun K hK => ?_ | refine WC.block ?_ | refine WC.regionG rfl fun ops hG => ?_))
  refine WL.box (Ev.tmp rfl) rfl (leB rfl) fun b2 => ?_
  refine WL.po (PO.assign Ev.const) (leB rfl) ?_
  refine WL.nil (keepF (ts := [1, 2]) rfl (toK (by assumption) ?_))
  (try clear hG ops)
  (repeat (first | refine WC.seqK fun K hK => ?_ | refine WC.block ?_ | refine WC.regionG rfl fun ops hG => ?_))
  refine WL.po (PO.move (Ev.tmp rfl)) (leB rfl) ?_
  refine WL.po (PO.move (Ev.tmp rfl)) (leB rfl) ?_
  refine WL.po (PO.lenSl Tryd.underlying28 (Ev.tmp rfl)) (leB rfl) ?_
  refine WL.po (PO.min (Ev.tmp rfl) Ev.const) (leB rfl) ?_
  refine WL.po (PO.sliceH EL28.und EL28.size (Ev.tmp rfl) (Ev.tmp rfl) (u := ls.length) (by split <;> omega) (by omega)) (leB rfl) ?_
  refine WL.po (PO.assign (Ev.tmp rfl)) (leB rfl) ?_
  refine WL.nil (keepF (ts := [1, 2]) rfl (toK (by assumption) ?_))
  (try clear hG ops)
  (repeat (first | refine WC.seqK fun K hK => ?_ | refine WC.block ?_ | refine WC.regionG rfl fun ops hG => ?_))
  refine WL.po (PO.loadA Tryd.underlying27 rfl rfl (Ev.tmp rfl) (by (repeat (first | exact mem0 _ | apply memT))) rfl) (leB rfl) ?_
  refine WL.callK Ev.func (Evs.cons (Ev.tmp rfl) Evs.nil) (tokF_ct hg e _ (hT.mono (by (repeat (first | exact sub0 _ | exact subA _ _ | refine subC _ ?_ | apply subK | refine subT _ ?_)))) hW) (leB rfl) ?_
  rintro _ _ ⟨a21, c21, rfl, rfl⟩
  refine WL.knowRow (a := a21) (by (repeat (first | exact mem0 _ | apply memT))) fun p21 q21 r21 => ?_
  refine WL.po (PO.move (Ev.tmp rfl)) (leB rfl) ?_
  refine WL.po (PO.extract (Ev.tmp rfl) rfl) (leB rfl) ?_
  refine WL.po (PO.extract (Ev.tmp rfl) rfl) (leB rfl) ?_
  refine WL.po (PO.assign (Ev.tmp rfl)) (leB rfl) ?_
  refine WL.po (PO.assign (Ev.tmp rfl)) (leB rfl) ?_
  refine WL.nil (keepF (ts := [1, 2, 5, 6]) rfl (toK (by assumption) ?_))
  (try clear hG ops)
  (repeat (first | refine WC.seqK fun K hK => ?_ | refine WC.block ?_ | refine WC.regionG rfl fun ops hG => ?_))
  refine WL.po (PO.loadA Tryd.underlying27 rfl rfl (Ev.tmp rfl) (by (repeat (first | exact mem0 _ | apply memT))) rfl) (leB rfl) ?_
  refine WL.callP Ev.func (Evs.cons (Ev.tmp rfl) Evs.nil) (may_ct hg e _ (hT.mono (by (repeat (first | exact sub0 _ | exact subA _ _ | refine subC _ ?_ | apply subK | refine subT _ ?_)))) hW) (leB rfl) ?_
  refine WL.po (PO.not (Ev.tmp rfl)) (leB rfl) ?_
  refine WL.nil (keepF (ts := [1, 2, 5, 6, 26]) rfl (toK (by assumption) ?_))
  (try clear hG ops)
  (repeat (first | refine WC.seqK fun K hK => ?_ | refine WC.block ?_ | refine WC.regionG rfl fun ops hG => ?_))
  refine WC.cond (Ev.tmp rfl) (fun c26 => ?_) (fun c26 => ?_)
  · have d : mayE e = false := by simpa using c26
    have ht0 : (tokP e).length = 0 := by unfold tokP; rw [d]; rfl
    have te : tokErr e = 2 := by unfold tokErr; rw [d]; rfl
    (repeat (first | refine WC.seqK fun K hK => ?_ | refine WC.block ?_ | refine WC.regionG rfl fun ops hG => ?_))
    refine WL.po (PO.move (Ev.tmp rfl)) (leB rfl) ?_
    refine WL.po (PO.lenSl Tryd.underlying28 (Ev.tmp rfl)) (leB rfl) ?_
    refine WL.po (PO.bin (Ev.tmp rfl) Ev.const rfl) (leB rfl) ?_
    refine WL.val (v' := .bool true) (congrArg Value.bool (by rw [ht0]; rfl)) ?_
    refine WL.po (PO.move (Ev.tmp rfl)) (leB rfl) ?_
    refine WL.unG (GU.t (hG _ _ rfl) rfl) rfl ?_
    refine WL.po (PO.move (Ev.tmp rfl)) (leB rfl) ?_
    refine WL.unG (GU.t (hG _ _ rfl) rfl) rfl ?_
    refine WL.po (PO.bin (Ev.tmp rfl) Ev.const rfl) (leB rfl) ?_
    refine WL.val (v' := .bool true) (congrArg Value.bool (by rw [te]; rfl)) ?_
    refine WL.po (PO.pickAnd rfl rfl) (leB rfl) ?_
    refine WL.po (PO.move (Ev.tmp rfl)) (leB rfl) ?_
    refine WL.unG (GU.t (hG _ _ rfl) rfl) rfl ?_
    refine WL.callP Ev.func Evs.nil (works_ct hg hp _) (leB rfl) ?_
    refine WL.po (PO.pickAnd rfl rfl) (leB rfl) ?_
    refine WL.po (PO.assign (Ev.tmp rfl)) (leB rfl) ?_
    refine WL.nil (keepF (ts := [4]) rfl (toK (by assumption) ?_))
    (try clear hG ops)
    refine WC.ret (end1 (h' := h) (.inl rfl) rfl (RV.tmp rfl) (View.le.refl m) (by (repeat (first | exact sub0 _ | exact subA _ _ | refine subC _ ?_ | apply subK | refine subT _ ?_))) ?_)
    rfl
  · have d : mayE e = true := by simpa using c26
    have ht : tokP e = writeE e := by unfold tokP; rw [d]; rfl
    have te : tokErr e = 0 := by unfold tokErr; rw [d]; rfl
    have hpos : (tokP e).length ≠ 0 := by rw [ht]; exact write_pos e (may_good d).1
    refine WC.skip (keepF (ts := [1, 2, 5, 6]) rfl (toK (by assumption) ?_))
    (repeat (first | refine WC.seqK fun K hK => ?_ | refine WC.block ?_ | refine WC.regionG rfl fun ops hG => ?_))
    refine WL.po (PO.move (Ev.tmp rfl)) (leB rfl) ?_
    refine WL.po (PO.bin (Ev.tmp rfl) Ev.const rfl) (leB rfl) ?_
    refine WL.val (v' := .bool false) (congrArg Value.bool (by rw [te]; rfl)) ?_
    refine WL.po (PO.move (Ev.tmp rfl)) (leB rfl) ?_
    refine WL.poG (GU.f (hG _ _ rfl) rfl) (fun hc => PO.move (Ev.tmp rfl)) (leB rfl) ?_
    refine WL.poG (GU.f (hG _ _ rfl) rfl) (fun hc => PO.lenSl Tryd.underlying28 (Ev.gv rfl hc)) (leB rfl) ?_
    refine WL.poG (GU.f (hG _ _ rfl) rfl) (fun hc => PO.bin (Ev.gv rfl hc) Ev.const rfl) (leB rfl) ?_
    refine WL.po (PO.pickOr rfl rfl) (leB rfl) ?_
    refine WL.nil (keepF (ts := [1, 2, 5, 43]) rfl (toK (by assumption) ?_))
    (try clear hG ops)
    (repeat (first | refine WC.seqK fun K hK => ?_ | refine WC.block ?_ | refine WC.regionG rfl fun ops hG => ?_))
    refine WC.cond (Ev.tmp rfl) (fun c43 => ?_) (fun c43 => ?_)
    · exact absurd (by simpa using c43) (fun q : tokP e = [] => hpos (by rw [q]; rfl))
    · refine WC.skip (keepF (ts := [1, 2, 5]) rfl (toK (by assumption) ?_))
      (repeat (first | refine WC.seqK fun K hK => ?_ | refine WC.block ?_ | refine WC.regionG rfl fun ops hG => ?_))
      refine WL.po (PO.move (Ev.tmp rfl)) (leB rfl) ?_
      refine WL.po (PO.lenSl Tryd.underlying28 (Ev.tmp rfl)) (leB rfl) ?_
      refine WL.po (PO.bin (Ev.tmp rfl) Ev.const rfl) (leB rfl) ?_
      refine WL.po (PO.move (Ev.tmp rfl)) (leB rfl) ?_
      refine WL.poG (GU.t (hG _ _ rfl) rfl) (fun hc => PO.move (Ev.tmp rfl)) (leB rfl) ?_
      refine WL.poG (GU.t (hG _ _ rfl) rfl) (fun hc => PO.idx EL28.und EL28.size EL28.posz (Ev.gv rfl hc) Ev.const (by first | assumption | exact Rd.ofSl (by assumption) | exact Rd.ofPt rfl (by decide) (by (repeat (first | exact mem0 _ | apply memT))) | exact Rd.mono (by assumption) (View.le.refl _) (by (repeat (first | exact sub0 _ | exact subA _ _ | refine subC _ ?_ | apply subK | refine subT _ ?_))) | exact Rd.inRow (by (repeat (first | exact mem0 _ | apply memT))) (by assumption) (by assumption) (by assumption)) rfl (q := 0) (by simp at hc; omega)) (leB rfl) ?_
      refine WL.poG (GU.t (hG _ _ rfl) rfl) (fun hc => PO.loadFA Tryd.underlying36 rfl rfl encK_len (by first | assumption | exact Rd.ofSl (by assumption) | exact Rd.ofPt rfl (by decide) (by (repeat (first | exact mem0 _ | apply memT))) | exact Rd.mono (by assumption) (View.le.refl _) (by (repeat (first | exact sub0 _ | exact subA _ _ | refine subC _ ?_ | apply subK | refine subT _ ?_))) | exact Rd.inRow (by (repeat (first | exact mem0 _ | apply memT))) (by assumption) (by assumption) (by assumption)) (Ev.gv rfl hc) (hu (by simp at hc; omega)) rfl rfl (Nat.succ_pos _)) (leB rfl) ?_
      refine WL.callG (GU.t (hG _ _ rfl) rfl) (fun hc => ⟨Ev.func, (Evs.cons (Ev.gv rfl hc) Evs.nil), dyadic_ct _ _ _⟩) (leB rfl) ?_
      refine WL.poG (GU.t (hG _ _ rfl) rfl) (fun hc => PO.move (Ev.gv rfl hc)) (leB rfl) ?_
      refine WL.poG (GU.nf (hG _ _ rfl) rfl) (fun hc => PO.move (Ev.tmp rfl)) (leB rfl) ?_
      refine WL.poG (GU.nf (hG _ _ rfl) rfl) (fun hc => PO.idx EL28.und EL28.size EL28.posz (Ev.gv rfl hc) Ev.const (by first | assumption | exact Rd.ofSl (by assumption) | exact Rd.ofPt rfl (by decide) (by (repeat (first | exact mem0 _ | apply memT))) | exact Rd.mono (by assumption) (View.le.refl _) (by (repeat (first | exact sub0 _ | exact subA _ _ | refine subC _ ?_ | apply subK | refine subT _ ?_))) | exact Rd.inRow (by (repeat (first | exact mem0 _ | apply memT))) (by assumption) (by assumption) (by assumption)) rfl (q := 0) (by simp at hc; omega)) (leB rfl) ?_
      refine WL.poG (GU.nf (hG _ _ rfl) rfl) (fun hc => PO.fieldF Tryd.underlying36 rfl (Nat.ne_of_beq_eq_false rfl) encK_len (Nat.succ_pos _) (by first | assumption | exact Rd.ofSl (by assumption) | exact Rd.ofPt rfl (by decide) (by (repeat (first | exact mem0 _ | apply memT))) | exact Rd.mono (by assumption) (View.le.refl _) (by (repeat (first | exact sub0 _ | exact subA _ _ | refine subC _ ?_ | apply subK | refine subT _ ?_))) | exact Rd.inRow (by (repeat (first | exact mem0 _ | apply memT))) (by assumption) (by assumption) (by assumption)) (hu (by simp at hc; omega)) (Ev.gv rfl hc)) (leB rfl) ?_
      refine WL.poG (GU.nf (hG _ _ rfl) rfl) (fun hc => PO.loadFf Tryd.underlying9 rfl encK_len (by first | assumption | exact Rd.ofSl (by assumption) | exact Rd.ofPt rfl (by decide) (by (repeat (first | exact mem0 _ | apply memT))) | exact Rd.mono (by assumption) (View.le.refl _) (by (repeat (first | exact sub0 _ | exact subA _ _ | refine subC _ ?_ | apply subK | refine subT _ ?_))) | exact Rd.inRow (by (repeat (first | exact mem0 _ | apply memT))) (by assumption) (by assumption) (by assumption)) (Ev.gv rfl hc) (hu (by simp at hc; omega)) rfl) (leB rfl) ?_
      refine WL.poG (GU.nf (hG _ _ rfl) rfl) (fun hc => PO.eqlS (Ev.gv rfl hc) Ev.const) (leB rfl) ?_
      refine WL.poG (GU.t (hG _ _ rfl) rfl) (fun hc => PO.pickOrN hc rfl rfl) (leB rfl) ?_
      refine WL.po (PO.pickAnd rfl rfl) (leB rfl) ?_
      refine WL.nil (keepF (ts := [1, 2, 5, 59]) rfl (toK (by assumption) ?_))
      (try clear hG ops)
      (repeat refine WC.seqK fun K hK => ?_)
      refine WC.cutK (by assumption) [2, 5] rfl (fun F' h' => ∃ ar : Option Addr, ∃ cr : Nat, ∃ rs : List Tok, ((Rd m h ar rs.length cr 4 (fl encK rs) ∧ rs.length ≤ 20) ∧ (NoBr rs ∧ NoOp rs) ∧ TkL rs) ∧ F' = [(1, .slice ar rs.length cr)] ∧ .row (.slice a21 (tokP e).length c21) 36 4 (tokP e).length (fl encK (tokP e)) :: .pt b2 (.cells (exE e).toArray 27 (0, 0)) :: h = h') ?_ ?_
      · (repeat (first | refine WC.seqK fun K hK => ?_ | refine WC.block ?_ | refine WC.regionG rfl fun ops hG => ?_))
        refine WC.cond (Ev.tmp rfl) (fun c59 => ?_) (fun c59 => ?_)
        · (repeat (first | refine WC.seqK fun K hK => ?_ | refine WC.block ?_ | refine WC.regionG rfl fun ops hG => ?_))
          refine WL.po (PO.assign Ev.const) (leB rfl) ?_
          refine WL.nil (meetI [(1, .slice none ([]).length 0)] (h'' := .row (.slice a21 (tokP e).length c21) 36 4 (tokP e).length (fl encK (tokP e)) :: .pt b2 (.cells (exE e).toArray 27 (0, 0)) :: h) ?_ (by (repeat (first | exact Sub.nil | refine Sub.cons rfl ?_ | refine Sub.consE rfl (by simp; done) ?_))) (by (repeat (first | exact sub0 _ | exact subA _ _ | refine subC _ ?_ | apply subK | refine subT _ ?_))) ⟨none, 0, [], ⟨⟨Rd.nilF encK 4 m h, by decide⟩, no_nil, fun x hx => (List.not_mem_nil hx).elim⟩, rfl, rfl⟩)
          (repeat (first | exact Sub.nil | refine Sub.cons rfl ?_ | refine Sub.consE rfl (by simp; done) ?_))
        · have hno1 : NoBr ls ∧ NoOp ls := by
            cases ls with
            | nil => exact no_nil
            | cons x r =>
              have hux : x = u := Option.some.inj (hu (Nat.succ_pos _))
              subst hux
              simp at c59
              exact front_no c59.1 (by simpa using c59.2)
          refine WC.skip (meetI [(1, .slice (sl1 a 0 c 4) ls.length c)] (h'' := .row (.slice a21 (tokP e).length c21) 36 4 (tokP e).length (fl encK (tokP e)) :: .pt b2 (.cells (exE e).toArray 27 (0, 0)) :: h) ?_ (by (repeat (first | exact Sub.nil | refine Sub.cons rfl ?_ | refine Sub.consE rfl (by simp; done) ?_))) (by (repeat (first | exact sub0 _ | exact subA _ _ | refine subC _ ?_ | apply subK | refine subT _ ?_))) ⟨sl1 a 0 c 4, c, ls, ⟨⟨hr2, by omega⟩, hno1, hLs⟩, rfl, rfl⟩)
          (repeat (first | exact Sub.nil | refine Sub.cons rfl ?_ | refine Sub.consE rfl (by simp; done) ?_))
      rintro _ _ ⟨ar, cr, rs, ⟨⟨hrr, hrl⟩, hno, hrL⟩, rfl, rfl⟩
      refine WC.frm rfl ?_
      have hw1 := front_wr d hW hno
      have hw2 := front_pr d hW hno
      have hl1 : (tokP e ++ rs).length = (tokP e).length + rs.length := List.length_append
      have hl2 : ([symT [40]] ++ tokP e).length = 1 + (tokP e).length := by rw [List.length_append]; rfl
      have hl3 : (([symT [40]] ++ tokP e) ++ [symT [41]]).length = 2 + (tokP e).length := by rw [List.length_append, hl2]; show 1 + _ + 1 = _; omega
      have hl4 : ((([symT [40]] ++ tokP e) ++ [symT [41]]) ++ rs).length = 2 + (tokP e).length + rs.length := by rw [List.length_append, hl3]
      have hk1 : TkL (tokP e ++ rs) := tkl_app htk hrL
      have hk2 : TkL ((([symT [40]] ++ tokP e) ++ [symT [41]]) ++ rs) := tkl_app (tkl_app (tkl_app (tkl_sym (by decide)) htk) (tkl_sym (by decide))) hrL
      (repeat (first | refine WC.seqK fun K hK => ?_ | refine WC.block ?_ | refine WC.regionG rfl fun ops hG => ?_))
      refine WL.buildSlice0 EL28 (leB rfl) fun b61 => ?_
      refine WL.po (PO.move (Ev.tmp rfl)) (leB rfl) ?_
      refine WL.appendE EL28 (Ev.tmp rfl) (Ev.tmp rfl) (by first | assumption | exact Rd.ofSl (by assumption) | exact Rd.ofPt rfl (by decide) (by (repeat (first | exact mem0 _ | apply memT))) | exact Rd.mono (by assumption) (View.le.refl _) (by (repeat (first | exact sub0 _ | exact subA _ _ | refine subC _ ?_ | apply subK | refine subT _ ?_))) | exact Rd.inRow (by (repeat (first | exact mem0 _ | apply memT))) (by assumption) (by assumption) (by assumption)) (by first | exact one_of rfl | exact fl_ones (fun _ => rfl) _) (Nat.zero_add _) (List.nil_append _) (by omega) (by omega) (fun v' => by (repeat (first | exact Upd.here | apply Upd.next))) (leB rfl) fun a63 c63 => ?_
      refine WL.po (PO.move (Ev.tmp rfl)) (leB rfl) ?_
      refine WL.appendE EL28 (Ev.tmp rfl) (Ev.tmp rfl) (by first | assumption | exact Rd.ofSl (by assumption) | exact Rd.ofPt rfl (by decide) (by (repeat (first | exact mem0 _ | apply memT))) | exact Rd.mono (by assumption) (View.le.refl _) (by (repeat (first | exact sub0 _ | exact subA _ _ | refine subC _ ?_ | apply subK | refine subT _ ?_))) | exact Rd.inRow (by (repeat (first | exact mem0 _ | apply memT))) (by assumption) (by assumption) (by assumption)) (by first | exact one_of rfl | exact fl_ones (fun _ => rfl) _) hl1.symm ((fl_app (enc := encK) (tokP e) rs).symm) (by omega) (by omega) (fun v' => by (repeat (first | exact Upd.here | apply Upd.next))) (leB rfl) fun a65 c65 => ?_
      refine WL.knowRow (a := a65) (by (repeat (first | exact mem0 _ | apply memT))) fun p65 q65 r65 => ?_
      refine WL.callK Ev.func (Evs.cons (Ev.tmp rfl) Evs.nil) (frontF_ct hg a65 c65 (tokP e ++ rs) _ (tks_of (Rd.inRow (List.Mem.head _) r65 p65 q65) (by omega) hk1) (fun t ht => (hk1 t ht).1)) (leB rfl) ?_
      rintro _ _ ⟨tx, bl, rfl, ⟨hst, hTx, hWx⟩, rfl⟩
      refine WL.perm (perm_mid bl [_, _, _] h) ?_
      rw [hw1.1.1, hw1.1.2]
      refine WL.po (PO.move (Ev.tmp rfl)) (leB rfl) ?_
      refine WL.po (PO.extract (Ev.tmp rfl) rfl) (leB rfl) ?_
      refine WL.po (PO.extract (Ev.tmp rfl) rfl) (leB rfl) ?_
      refine WL.po (PO.extract (Ev.tmp rfl) rfl) (leB rfl) ?_
      refine WL.alloc rfl rfl (leB rfl) fun b7 => ?_
      refine WL.store rfl (Ev.tmp rfl) (Ev.tmp rfl) rfl rfl rfl rfl (by (repeat (first | exact Upd.here | apply Upd.next))) ?_
      refine WL.po (PO.assign (Ev.tmp rfl)) (leB rfl) ?_
      refine WL.po (PO.assign (Ev.tmp rfl)) (leB rfl) ?_
      refine WL.nil (keepF (ts := [1, 2, 5, 7, 8, 9]) rfl (toK (by assumption) ?_))
      (try clear hG ops)
      (repeat (first | refine WC.seqK fun K hK => ?_ | refine WC.block ?_ | refine WC.regionG rfl fun ops hG => ?_))
      refine WL.po (PO.build Tryd.underlying36 rfl rfl rfl (EvP.cons Ev.const (EvP.cons Ev.const EvP.nil)) rfl) (leB rfl) ?_
      refine WL.buildSlice EL28 rfl (EvP.cons (Ev.tmp rfl) EvP.nil) rfl rfl (by decide) rfl (leB rfl) fun b71 => ?_
      refine WL.ptRow (k := 1) (sz := 4) (cs := fl encK [symT [40]]) rfl (by decide) (by (repeat (first | exact Upd.here | apply Upd.next))) ?_
      refine WL.po (PO.move (Ev.tmp rfl)) (leB rfl) ?_
      refine WL.appendE EL28 (Ev.tmp rfl) (Ev.tmp rfl) (by first | assumption | exact Rd.ofSl (by assumption) | exact Rd.ofPt rfl (by decide) (by (repeat (first | exact mem0 _ | apply memT))) | exact Rd.mono (by assumption) (View.le.refl _) (by (repeat (first | exact sub0 _ | exact subA _ _ | refine subC _ ?_ | apply subK | refine subT _ ?_))) | exact Rd.inRow (by (repeat (first | exact mem0 _ | apply memT))) (by assumption) (by assumption) (by assumption)) (by first | exact one_of rfl | exact fl_ones (fun _ => rfl) _) hl2.symm ((fl_app (enc := encK) [symT [40]] (tokP e)).symm) (by omega) (by omega) (fun v' => by (repeat (first | exact Upd.here | apply Upd.next))) (leB rfl) fun a73 c73 => ?_
      refine WL.po (PO.build Tryd.underlying36 rfl rfl rfl (EvP.cons Ev.const (EvP.cons Ev.const EvP.nil)) rfl) (leB rfl) ?_
      refine WL.buildSlice EL28 rfl (EvP.cons (Ev.tmp rfl) EvP.nil) rfl rfl (by decide) rfl (leB rfl) fun b75 => ?_
      refine WL.appendE EL28 (Ev.tmp rfl) (Ev.tmp rfl) (by first | assumption | exact Rd.ofSl (by assumption) | exact Rd.ofPt rfl (by decide) (by (repeat (first | exact mem0 _ | apply memT))) | exact Rd.mono (by assumption) (View.le.refl _) (by (repeat (first | exact sub0 _ | exact subA _ _ | refine subC _ ?_ | apply subK | refine subT _ ?_))) | exact Rd.inRow (by (repeat (first | exact mem0 _ | apply memT))) (by assumption) (by assumption) (by assumption)) (by first | exact one_of rfl | exact fl_ones (fun _ => rfl) _) (show ([symT [40]] ++ tokP e).length + 1 = (([symT [40]] ++ tokP e) ++ [symT [41]]).length by omega) (fl_snoc (enc := encK) _ (symT [41])) (by omega) (by omega) (fun v' => by (repeat (first | exact Upd.here | apply Upd.next))) (leB rfl) fun a76 c76 => ?_
      refine WL.po (PO.assign (Ev.tmp rfl)) (leB rfl) ?_
      refine WL.nil (keepF (ts := [1, 2, 5, 7, 8, 9, 10]) rfl (toK (by assumption) ?_))
      (try clear hG ops)
      (repeat (first | refine WC.seqK fun K hK => ?_ | refine WC.block ?_ | refine WC.regionG rfl fun ops hG => ?_))
      refine WL.po (PO.move (Ev.tmp rfl)) (leB rfl) ?_
      refine WL.po (PO.move (Ev.tmp rfl)) (leB rfl) ?_
      refine WL.appendE EL28 (Ev.tmp rfl) (Ev.tmp rfl) (by first | assumption | exact Rd.ofSl (by assumption) | exact Rd.ofPt rfl (by decide) (by (repeat (first | exact mem0 _ | apply memT))) | exact Rd.mono (by assumption) (View.le.refl _) (by (repeat (first | exact sub0 _ | exact subA _ _ | refine subC _ ?_ | apply subK | refine subT _ ?_))) | exact Rd.inRow (by (repeat (first | exact mem0 _ | apply memT))) (by assumption) (by assumption) (by assumption)) (by first | exact one_of rfl | exact fl_ones (fun _ => rfl) _) (show _ + rs.length = ((([symT [40]] ++ tokP e) ++ [symT [41]]) ++ rs).length by omega) ((fl_app (enc := encK) (([symT [40]] ++ tokP e) ++ [symT [41]]) rs).symm) (by omega) (by omega) (fun v' => by (repeat (first | exact Upd.here | apply Upd.next))) (leB rfl) fun a80 c80 => ?_
      refine WL.knowRow (a := a80) (by (repeat (first | exact mem0 _ | apply memT))) fun p80 q80 r80 => ?_
      refine WL.callK Ev.func (Evs.cons (Ev.tmp rfl) Evs.nil) (frontF_ct hg a80 c80 ((([symT [40]] ++ tokP e) ++ [symT [41]]) ++ rs) _ (tks_of (Rd.inRow (by (repeat (first | exact mem0 _ | apply memT))) r80 p80 q80) (by omega) hk2) (fun t ht => (hk2 t ht).1)) (leB rfl) ?_
      rintro _ _ ⟨ty, bl2, rfl, ⟨hst2, hTy, hWy⟩, rfl⟩
      refine WL.perm (perm_mid bl2 [_, _, _, _, _, _] (bl ++ h)) ?_
      rw [hw2.1.1, hw2.1.2]
      refine WL.po (PO.move (Ev.tmp rfl)) (leB rfl) ?_
      refine WL.po (PO.extract (Ev.tmp rfl) rfl) (leB rfl) ?_
      refine WL.po (PO.extract (Ev.tmp rfl) rfl) (leB rfl) ?_
      refine WL.po (PO.extract (Ev.tmp rfl) rfl) (leB rfl) ?_
      refine WL.alloc rfl rfl (leB rfl) fun b11 => ?_
      refine WL.store rfl (Ev.tmp rfl) (Ev.tmp rfl) rfl rfl rfl rfl (by (repeat (first | exact Upd.here | apply Upd.next))) ?_
      refine WL.po (PO.assign (Ev.tmp rfl)) (leB rfl) ?_
      refine WL.po (PO.assign (Ev.tmp rfl)) (leB rfl) ?_
      refine WL.nil (keepF (ts := [2, 5, 7, 8, 9, 11, 12, 13]) rfl (toK (by assumption) ?_))
      (try clear hG ops)
      (repeat (first | refine WC.seqK fun K hK => ?_ | refine WC.block ?_ | refine WC.regionG rfl fun ops hG => ?_))
      refine WL.po (PO.move (Ev.tmp rfl)) (leB rfl) ?_
      refine WL.po (PO.bin (Ev.tmp rfl) Ev.const rfl) (leB rfl) ?_
      refine WL.po (PO.move (Ev.tmp rfl)) (leB rfl) ?_
      refine WL.unG (GU.t (hG _ _ rfl) rfl) rfl ?_
      refine WL.po (PO.move (Ev.tmp rfl)) (leB rfl) ?_
      refine WL.unG (GU.t (hG _ _ rfl) rfl) rfl ?_
      refine WL.po (PO.move (Ev.tmp rfl)) (leB rfl) ?_
      refine WL.unG (GU.t (hG _ _ rfl) rfl) rfl ?_
      refine WL.po (PO.lenSl Tryd.underlying28 (Ev.tmp rfl)) (leB rfl) ?_
      refine WL.unG (GU.t (hG _ _ rfl) rfl) rfl ?_
      refine WL.po (PO.bin (Ev.tmp rfl) (Ev.tmp rfl) rfl) (leB rfl) ?_
      refine WL.val (v' := .bool true) (congrArg Value.bool (beq_self_eq_true _)) ?_
      refine WL.po (PO.pickAnd rfl rfl) (leB rfl) ?_
      refine WL.po (PO.move (Ev.tmp rfl)) (leB rfl) ?_
      refine WL.unG (GU.t (hG _ _ rfl) rfl) rfl ?_
      refine WL.po (PO.loadA Tryd.underlying27 rfl rfl (Ev.tmp rfl) (by (repeat (first | exact mem0 _ | apply memT))) rfl) (leB rfl) ?_
      refine WL.unG (GU.t (hG _ _ rfl) rfl) rfl ?_
      refine WL.po (PO.loadA Tryd.underlying27 rfl rfl (Ev.tmp rfl) (by (repeat (first | exact mem0 _ | apply memT))) rfl) (leB rfl) ?_
      refine WL.unG (GU.t (hG _ _ rfl) rfl) rfl ?_
      refine WL.callP Ev.func (Evs.cons (Ev.tmp rfl) (Evs.cons (Ev.tmp rfl) Evs.nil)) (CT.val (sameR_ct tx e _ _ (hTx.mono ((List.sublist_append_left bl h).trans (by (repeat (first | exact sub0 _ | exact subA _ _ | refine subC _ ?_ | apply subK | refine subT _ ?_))))) (hT.mono (by (repeat (first | exact sub0 _ | exact subA _ _ | refine subC _ ?_ | apply subK | refine subT _ ?_))))) (congrArg Value.bool ((same_strip tx e).2 (hst.trans hw1.2)))) (leB rfl) ?_
      refine WL.po (PO.pickAnd rfl rfl) (leB rfl) ?_
      refine WL.po (PO.move (Ev.tmp rfl)) (leB rfl) ?_
      refine WL.unG (GU.t (hG _ _ rfl) rfl) rfl ?_
      refine WL.po (PO.move (Ev.tmp rfl)) (leB rfl) ?_
      refine WL.unG (GU.t (hG _ _ rfl) rfl) rfl ?_
      refine WL.po (PO.bin (Ev.tmp rfl) Ev.const rfl) (leB rfl) ?_
      refine WL.po (PO.pickAnd rfl rfl) (leB rfl) ?_
      refine WL.po (PO.move (Ev.tmp rfl)) (leB rfl) ?_
      refine WL.unG (GU.t (hG _ _ rfl) rfl) rfl ?_
      refine WL.po (PO.move (Ev.tmp rfl)) (leB rfl) ?_
      refine WL.unG (GU.t (hG _ _ rfl) rfl) rfl ?_
      refine WL.po (PO.move (Ev.tmp rfl)) (leB rfl) ?_
      refine WL.unG (GU.t (hG _ _ rfl) rfl) rfl ?_
      refine WL.po (PO.lenSl Tryd.underlying28 (Ev.tmp rfl)) (leB rfl) ?_
      refine WL.unG (GU.t (hG _ _ rfl) rfl) rfl ?_
      refine WL.po (PO.addI (Ev.tmp rfl) Ev.const (by first | omega | (simp at hc; omega))) (leB rfl) ?_
      refine WL.unG (GU.t (hG _ _ rfl) rfl) rfl ?_
      refine WL.po (PO.bin (Ev.tmp rfl) (Ev.tmp rfl) rfl) (leB rfl) ?_
      refine WL.val (v' := .bool true) (congrArg Value.bool (by simp)) ?_
      refine WL.po (PO.pickAnd rfl rfl) (leB rfl) ?_
      refine WL.po (PO.move (Ev.tmp rfl)) (leB rfl) ?_
      refine WL.unG (GU.t (hG _ _ rfl) rfl) rfl ?_
      refine WL.po (PO.loadA Tryd.underlying27 rfl rfl (Ev.tmp rfl) (by (repeat (first | exact mem0 _ | apply memT))) rfl) (leB rfl) ?_
      refine WL.unG (GU.t (hG _ _ rfl) rfl) rfl ?_
      refine WL.po (PO.loadA Tryd.underlying27 rfl rfl (Ev.tmp rfl) (by (repeat (first | exact mem0 _ | apply memT))) rfl) (leB rfl) ?_
      refine WL.unG (GU.t (hG _ _ rfl) rfl) rfl ?_
      refine WL.callP Ev.func (Evs.cons (Ev.tmp rfl) (Evs.cons (Ev.tmp rfl) Evs.nil)) (CT.val (sameR_ct ty e _ _ (hTy.mono ((List.sublist_append_left bl2 (bl ++ h)).trans (by (repeat (first | exact sub0 _ | exact subA _ _ | refine subC _ ?_ | apply subK | refine subT _ ?_))))) (hT.mono (by (repeat (first | exact sub0 _ | exact subA _ _ | refine subC _ ?_ | apply subK | refine subT _ ?_))))) (congrArg Value.bool ((same_strip ty e).2 (hst2.trans hw2.2)))) (leB rfl) ?_
      refine WL.po (PO.pickAnd rfl rfl) (leB rfl) ?_
      refine WL.po (PO.move (Ev.tmp rfl)) (leB rfl) ?_
      refine WL.unG (GU.t (hG _ _ rfl) rfl) rfl ?_
      refine WL.callP Ev.func Evs.nil (works_ct hg hp _) (leB rfl) ?_
      refine WL.po (PO.pickAnd rfl rfl) (leB rfl) ?_
      refine WL.po (PO.assign (Ev.tmp rfl)) (leB rfl) ?_
      refine WL.nil (keepF (ts := [4]) rfl (toK (by assumption) ?_))
      (try clear hG ops)
      refine WC.ret (end1 (h' := h) (.inl rfl) rfl (RV.tmp rfl) (View.le.refl m) (by (repeat (first | exact sub0 _ | exact subA _ _ | refine subC _ ?_ | apply subK | refine subT _ ?_))) ?_)
      rfl
end Go.Proofs.YtheejlbhmbbdjaaDoor

/- layout: the iterator over the lines that are not blank, walked: it calls yield with each piece. -/
import Derived.Test.YtmffmpadfpajcaaDoorLayA
namespace Go.Proofs.YtmffmpadfpajcaaDoor
open Go.Eng Go.Ly Go
set_option maxRecDepth 100000
theorem pieces_drop (k : Nat) {l : List B} {j : Nat} {s : B} (hs : l[j]? = some s) : piecesP k (l.drop j) = if txt s == [] then piecesP (k + 1) (l.drop (j + 1)) else ⟨k + 1, ind s, txt s⟩ :: piecesP (k + 1) (l.drop (j + 1)) := by
  rw [drop_at hs]
  rfl
theorem pc_val (k : Nat) (s : B) : Value.agg [.int .i64 ((k : Int) + 1), .int .i64 (((bodyL s).length : Int) - ((txt s).length : Int)), str (txt s)].toArray = pcV ⟨k + 1, ind s, txt s⟩ := by
  have h1 := txt_le s
  have h2 : ((bodyL s).length : Int) - ((txt s).length : Int) = (ind s : Nat) := by unfold ind; omega
  rw [h2]
  rfl
theorem iter_ct {m : View} (hg : Glob m) (src : B) (hs : src.length < 4294967281) (bb l : Nat) (J : List Pc → List Res → Prop) (Jx : List Res → Prop) (h0 : List Res) (hY : YieldK Tryd.prog m l pcV (piecesP 0 (lines src)) J Jx) (hJ0 : J [] h0) :
    CT Tryd.prog 42 [.func (.yield l) #[] #[], .pointer (some ⟨bb, 0, none⟩)] (.pt bb (.cells [str src].toArray 9 (0, 0)) :: h0) m (fun _ _ h' => J (piecesP 0 (lines src)) h' ∨ Jx h') := by
  have hcount := lines_count src []
  have hcount' : (lines src).length ≤ src.length + 1 := hcount
  refine CT.body Tryd.call42 Tryd.func42 rfl Tryd.ntmps42 (Nat.le_of_ble_eq_true rfl) rfl ?_
  (repeat (first | refine WC.seqK fun K hK => ?_ | refine WC.block ?_ | refine WC.regionG rfl fun ops hG => ?_))
  refine WL.po (PO.load1 Tryd.underlying9 rfl (Ev.tmp rfl) (by (repeat (first | exact List.Mem.head _ | apply List.Mem.tail))) rfl) (Nat.le_of_ble_eq_true rfl) ?_
  refine WL.callK Ev.func (Evs.cons (Ev.tmp rfl) (Evs.cons Ev.const Evs.nil)) (split_ct hg src hs _) (Nat.le_of_ble_eq_true rfl) ?_
  rintro _ _ ⟨b7, rfl, rfl⟩
  refine WL.po (PO.lenSl Tryd.underlying38 (Ev.tmp rfl)) (Nat.le_of_ble_eq_true rfl) ?_
  refine WL.po (PO.move Ev.const) (Nat.le_of_ble_eq_true rfl) ?_
  refine WL.nil (keepF (ts := [0, 7, 8, 9]) rfl (toK (by assumption) ?_))
  (try clear hG ops)
  (repeat (first | refine WC.seqK fun K hK => ?_ | refine WC.block ?_ | refine WC.regionG rfl fun ops hG => ?_))
  refine WC.loopI [0, 7, 8] rfl (fun μ F' h' => ∃ k : Nat, ∃ pre : List Pc, ∃ hj : List Res, ((k ≤ (lines src).length ∧ J pre hj) ∧ piecesP 0 (lines src) = pre ++ piecesP k ((lines src).drop k)) ∧ (lines src).length - k = μ ∧ F' = [(9, .int .i64 k)] ∧ .pt b7 (.cells (fl encB (lines src)).toArray 9 (0, 0)) :: .pt bb (.cells [str src].toArray 9 (0, 0)) :: hj = h') ((lines src).length - 0) [(9, .int .i64 0)] (h0 := .pt b7 (.cells (fl encB (lines src)).toArray 9 (0, 0)) :: .pt bb (.cells [str src].toArray 9 (0, 0)) :: h0) ?_ (by (repeat (first | exact List.Sublist.refl _ | refine List.Sublist.cons_cons _ ?_ | apply List.Sublist.cons))) ⟨0, [], h0, ⟨⟨by omega, hJ0⟩, rfl⟩, rfl, rfl, rfl⟩ ?_
  · (repeat (first | exact Sub.nil | refine Sub.cons rfl ?_ | refine Sub.consE rfl (by simp; done) ?_))
  rintro _ _ _ ⟨k, pre, hj, ⟨⟨hk, hJp⟩, hx⟩, rfl, rfl, rfl⟩
  refine WC.frm rfl ?_
  (repeat (first | refine WC.seqK fun K hK => ?_ | refine WC.block ?_ | refine WC.regionG rfl fun ops hG => ?_))
  refine WL.po (PO.bin (Ev.tmp rfl) (Ev.tmp rfl) rfl) (Nat.le_of_ble_eq_true rfl) ?_
  refine WL.nil (keepF (ts := [0, 7, 8, 9, 10]) rfl (toK (by assumption) ?_))
  (try clear hG ops)
  (repeat (first | refine WC.seqK fun K hK => ?_ | refine WC.block ?_ | refine WC.regionG rfl fun ops hG => ?_))
  refine WC.cond (Ev.tmp rfl) (fun c10 => ?_) (fun c10 => ?_)
  · replace c10 := of_decide_eq_true c10
    obtain ⟨s, hc⟩ := get_some (l := lines src) (k := k) (by omega)
    have hsl : s.length ≤ src.length := lines_le (List.mem_of_getElem? hc)
    have hcl := cutL_le s
    have hbl := bodyL_le s
    have htl := txt_le s
    have hrd : Rd m (.pt b7 (.cells (fl encB (lines src)).toArray 9 (0, 0)) :: .pt bb (.cells [str src].toArray 9 (0, 0)) :: hj) (some ⟨b7, 0, none⟩) (lines src).length (lines src).length 1 (fl encB (lines src)) := Rd.ofPt (by rw [fl_len encB_len]) (by omega) (List.Mem.head _)
    rw [pieces_drop k hc] at hx
    refine WC.skip (keepF (ts := [0, 7, 8, 9]) rfl (toK (by assumption) ?_))
    (repeat (first | refine WC.seqK fun K hK => ?_ | refine WC.block ?_ | refine WC.regionG rfl fun ops hG => ?_))
    refine WL.po (PO.move (Ev.tmp rfl)) (Nat.le_of_ble_eq_true rfl) ?_
    refine WL.po (PO.idx EL38.und EL38.size EL38.posz (Ev.tmp rfl) (Ev.tmp rfl) (by first | assumption | exact Rd.ofSl (by assumption) | exact Rd.ofPt rfl (by decide) (by (repeat (first | exact List.Mem.head _ | apply List.Mem.tail))) | exact Rd.mono (by assumption) (View.le.refl _) (by (repeat (first | exact List.Sublist.refl _ | refine List.Sublist.cons_cons _ ?_ | apply List.Sublist.cons))) | exact Rd.inRow (by (repeat (first | exact List.Mem.head _ | apply List.Mem.tail))) (by assumption) (by assumption) (by assumption)) rfl (by omega)) (Nat.le_of_ble_eq_true rfl) ?_
    refine WL.po (PO.loadF1 Tryd.underlying9 rfl encB_len (by first | assumption | exact Rd.ofSl (by assumption) | exact Rd.ofPt rfl (by decide) (by (repeat (first | exact List.Mem.head _ | apply List.Mem.tail))) | exact Rd.mono (by assumption) (View.le.refl _) (by (repeat (first | exact List.Sublist.refl _ | refine List.Sublist.cons_cons _ ?_ | apply List.Sublist.cons))) | exact Rd.inRow (by (repeat (first | exact List.Mem.head _ | apply List.Mem.tail))) (by assumption) (by assumption) (by assumption)) (Ev.tmp rfl) (by assumption) rfl) (Nat.le_of_ble_eq_true rfl) ?_
    refine WL.po (PO.assign (Ev.tmp rfl)) (Nat.le_of_ble_eq_true rfl) ?_
    refine WL.po (PO.assign (Ev.tmp rfl)) (Nat.le_of_ble_eq_true rfl) ?_
    refine WL.nil (keepF (ts := [0, 3, 4, 7, 8, 9]) rfl (toK (by assumption) ?_))
    (try clear hG ops)
    (repeat (first | refine WC.seqK fun K hK => ?_ | refine WC.block ?_ | refine WC.regionG rfl fun ops hG => ?_))
    refine WL.po (PO.move (Ev.tmp rfl)) (Nat.le_of_ble_eq_true rfl) ?_
    refine WL.callP Ev.func (Evs.cons (Ev.tmp rfl) (Evs.cons Ev.const Evs.nil)) (cut_ct hg s (by omega) _) (Nat.le_of_ble_eq_true rfl) ?_
    refine WL.po (PO.move (Ev.tmp rfl)) (Nat.le_of_ble_eq_true rfl) ?_
    refine WL.po (PO.extract (Ev.tmp rfl) rfl) (Nat.le_of_ble_eq_true rfl) ?_
    refine WL.po (PO.extract (Ev.tmp rfl) rfl) (Nat.le_of_ble_eq_true rfl) ?_
    refine WL.po (PO.extract (Ev.tmp rfl) rfl) (Nat.le_of_ble_eq_true rfl) ?_
    refine WL.po (PO.assign (Ev.tmp rfl)) (Nat.le_of_ble_eq_true rfl) ?_
    refine WL.nil (keepF (ts := [0, 3, 4, 7, 8, 9]) rfl (toK (by assumption) ?_))
    (try clear hG ops)
    (repeat (first | refine WC.seqK fun K hK => ?_ | refine WC.block ?_ | refine WC.regionG rfl fun ops hG => ?_))
    refine WL.po (PO.move (Ev.tmp rfl)) (Nat.le_of_ble_eq_true rfl) ?_
    refine WL.callP Ev.func (Evs.cons (Ev.tmp rfl) (Evs.cons Ev.const Evs.nil)) (body_ct s (by omega) _ _) (Nat.le_of_ble_eq_true rfl) ?_
    refine WL.po (PO.assign (Ev.tmp rfl)) (Nat.le_of_ble_eq_true rfl) ?_
    refine WL.nil (keepF (ts := [0, 3, 4, 7, 8, 9]) rfl (toK (by assumption) ?_))
    (try clear hG ops)
    (repeat (first | refine WC.seqK fun K hK => ?_ | refine WC.block ?_ | refine WC.regionG rfl fun ops hG => ?_))
    refine WL.po (PO.move (Ev.tmp rfl)) (Nat.le_of_ble_eq_true rfl) ?_
    refine WL.callP Ev.func (Evs.cons (Ev.tmp rfl) (Evs.cons Ev.const Evs.nil)) (txt_ct s _ _) (Nat.le_of_ble_eq_true rfl) ?_
    refine WL.po (PO.assign (Ev.tmp rfl)) (Nat.le_of_ble_eq_true rfl) ?_
    refine WL.nil (keepF (ts := [0, 3, 4, 5, 7, 8, 9]) rfl (toK (by assumption) ?_))
    (try clear hG ops)
    (repeat (first | refine WC.seqK fun K hK => ?_ | refine WC.block ?_))
    refine WC.regionY rfl fun ops hG => ?_
    refine WY.po rfl (PO.move (Ev.tmp rfl)) (Nat.le_of_ble_eq_true rfl) ?_
    refine WY.po rfl (PO.neqS (Ev.tmp rfl) Ev.const) (Nat.le_of_ble_eq_true rfl) ?_
    refine WY.po rfl (PO.move (Ev.tmp rfl)) (Nat.le_of_ble_eq_true rfl) ?_
    refine WY.poG rfl (GU.t (hG _ _ rfl) rfl) (fun hc => PO.move (Ev.tmp rfl)) (Nat.le_of_ble_eq_true rfl) ?_
    refine WY.poG rfl (GU.t (hG _ _ rfl) rfl) (fun hc => PO.move (Ev.tmp rfl)) (Nat.le_of_ble_eq_true rfl) ?_
    refine WY.poG rfl (GU.t (hG _ _ rfl) rfl) (fun hc => PO.addI (Ev.gv rfl hc) Ev.const (by first | omega | (simp at hc; omega))) (Nat.le_of_ble_eq_true rfl) ?_
    refine WY.poG rfl (GU.t (hG _ _ rfl) rfl) (fun hc => PO.move (Ev.tmp rfl)) (Nat.le_of_ble_eq_true rfl) ?_
    refine WY.poG rfl (GU.t (hG _ _ rfl) rfl) (fun hc => PO.lenS Tryd.underlying9 (Ev.gv rfl hc)) (Nat.le_of_ble_eq_true rfl) ?_
    refine WY.poG rfl (GU.t (hG _ _ rfl) rfl) (fun hc => PO.move (Ev.tmp rfl)) (Nat.le_of_ble_eq_true rfl) ?_
    refine WY.poG rfl (GU.t (hG _ _ rfl) rfl) (fun hc => PO.lenS Tryd.underlying9 (Ev.gv rfl hc)) (Nat.le_of_ble_eq_true rfl) ?_
    refine WY.poG rfl (GU.t (hG _ _ rfl) rfl) (fun hc => PO.subI (Ev.gv rfl hc) (Ev.gv rfl hc) (by first | omega | (simp at hc; omega))) (Nat.le_of_ble_eq_true rfl) ?_
    refine WY.poG rfl (GU.t (hG _ _ rfl) rfl) (fun hc => PO.move (Ev.tmp rfl)) (Nat.le_of_ble_eq_true rfl) ?_
    refine WY.poG rfl (GU.t (hG _ _ rfl) rfl) (fun hc => PO.build Tryd.underlying47 rfl rfl rfl (EvP.cons (Ev.gv rfl hc) (EvP.cons (Ev.gv rfl hc) (EvP.cons (Ev.gv rfl hc) EvP.nil))) rfl) (Nat.le_of_ble_eq_true rfl) ?_
    refine WY.yieldG (R := fun b h2 => ∃ h3, h2 = .pt b7 (.cells (fl encB (lines src)).toArray 9 (0, 0)) :: .pt bb (.cells [str src].toArray 9 (0, 0)) :: h3 ∧ ((b = true ∧ J (pre ++ [⟨k + 1, ind s, txt s⟩]) h3) ∨ (b = false ∧ Jx h3))) rfl (GU.t (hG _ _ rfl) rfl) (fun hc => ⟨Ev.gv rfl hc, Ev.eq (Ev.gv rfl hc) (pc_val k s), fun w st => ?_⟩) (Nat.le_of_ble_eq_true rfl) fun b37 h2 hb1 hb2 => ?_
    · have hne : (txt s == []) = false := by simpa [bne] using hc
      rw [hne] at hx
      refine (hY pre _ _ hj [.pt b7 (.cells (fl encB (lines src)).toArray 9 (0, 0)), .pt bb (.cells [str src].toArray 9 (0, 0))] w hx hJp st).mono ?_
      rintro b w' ⟨h3, st3, hR⟩
      exact ⟨_, st3, h3, rfl, hR⟩
    refine WY.ofWL rfl ?_
    refine WL.poG (GU.t (hG _ _ rfl) rfl) (fun hc => PO.not (Ev.gv rfl hc)) (Nat.le_of_ble_eq_true rfl) ?_
    refine WL.po (PO.pickAnd rfl rfl) (Nat.le_of_ble_eq_true rfl) ?_
    refine WL.nil (keepF (ts := [0, 7, 8, 9, 39]) rfl (toK (by assumption) ?_))
    (try clear hG ops)
    (repeat (first | refine WC.seqK fun K hK => ?_ | refine WC.block ?_ | refine WC.regionG rfl fun ops hG => ?_))
    refine WC.cond (Ev.tmp rfl) (fun c39 => ?_) (fun c39 => ?_)
    · obtain ⟨hne, hb⟩ : (txt s != []) = true ∧ b37 = false := by simpa using c39
      obtain ⟨h3, rfl, hR⟩ := hb1 hne
      rcases hR with ⟨hbt, _⟩ | ⟨_, hJx⟩
      · rw [hb] at hbt
        cases hbt
      refine WC.ret (end0 (h' := h3) (.inl rfl) rfl  (View.le.refl m) (by (repeat (first | exact List.Sublist.refl _ | refine List.Sublist.cons_cons _ ?_ | apply List.Sublist.cons))) ?_)
      exact .inr hJx
    · obtain ⟨h3, pre2, rfl, hJ3, hx3⟩ : ∃ h3 pre2, h2 = .pt b7 (.cells (fl encB (lines src)).toArray 9 (0, 0)) :: .pt bb (.cells [str src].toArray 9 (0, 0)) :: h3 ∧ J pre2 h3 ∧ piecesP 0 (lines src) = pre2 ++ piecesP (k + 1) ((lines src).drop (k + 1)) := by
        cases hne : txt s == [] with
        | true =>
          have hq : (txt s != []) = false := by rw [bne, hne]; rfl
          rw [hne] at hx
          exact ⟨hj, pre, hb2 hq, hJp, hx⟩
        | false =>
          have hq : (txt s != []) = true := by rw [bne, hne]; rfl
          obtain ⟨h3, e3, hR⟩ := hb1 hq
          rw [hne] at hx
          have hb : b37 = true := by
            have h9 : ((txt s != []) && !b37) = false := c39
            rw [hq] at h9
            simpa using h9
          rcases hR with ⟨_, hJ3⟩ | ⟨hbf, _⟩
          · exact ⟨h3, _, e3, hJ3, by rw [hx]; simp⟩
          · rw [hb] at hbf
            cases hbf
      refine WC.skip (keepF (ts := [0, 7, 8, 9]) rfl (toK (by assumption) ?_))
      (repeat (first | refine WC.seqK fun K hK => ?_ | refine WC.block ?_ | refine WC.regionG rfl fun ops hG => ?_))
      refine WL.po (PO.addI (Ev.tmp rfl) Ev.const (by omega)) (Nat.le_of_ble_eq_true rfl) ?_
      refine WL.po (PO.move (Ev.tmp rfl)) (Nat.le_of_ble_eq_true rfl) ?_
      refine WL.nil (loopBackI ((lines src).length - (k + 1)) [(9, .int .i64 (k + 1))] (h'' := .pt b7 (.cells (fl encB (lines src)).toArray 9 (0, 0)) :: .pt bb (.cells [str src].toArray 9 (0, 0)) :: h3) (by omega) ?_ (by (repeat (first | exact Sub.nil | refine Sub.cons rfl ?_ | refine Sub.consE rfl (by simp; done) ?_))) (by (repeat (first | exact List.Sublist.refl _ | refine List.Sublist.cons_cons _ ?_ | apply List.Sublist.cons))) ⟨k + 1, pre2, h3, ⟨⟨by omega, hJ3⟩, hx3⟩, rfl, rfl, rfl⟩)
      (repeat (first | exact Sub.nil | refine Sub.cons rfl ?_ | refine Sub.consE rfl (by simp; done) ?_))
  · replace c10 := of_decide_eq_false c10
    rw [List.drop_eq_nil_of_le (by omega)] at hx
    simp only [piecesP, List.append_nil] at hx
    refine WC.exit (end0 (h' := hj) (.inr rfl) rfl  (View.le.refl m) (by (repeat (first | exact List.Sublist.refl _ | refine List.Sublist.cons_cons _ ?_ | apply List.Sublist.cons))) ?_)
    exact .inl (by rw [hx]; exact hJp)
end Go.Proofs.YtmffmpadfpajcaaDoor

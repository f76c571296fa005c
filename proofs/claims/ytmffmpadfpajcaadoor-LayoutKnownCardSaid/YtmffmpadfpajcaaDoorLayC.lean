/- layout: Rows, walked. -/
import Derived.Test.YtmffmpadfpajcaaDoorLayB
import Derived.Test.YtmffmpadfpajcaaDoorLayF
import Derived.Test.YtmffmpadfpajcaaDoorEng19
namespace Go.Proofs.YtmffmpadfpajcaaDoor
open Go.Eng Go.Ly Go
set_option maxRecDepth 100000
theorem less_eq (s : S) (x : Pc) : (decide ((s.parts.length : Int) > 0) && decide ((x.ind : Int) < (s.first.ind : Int))) = lessS s x := by
  unfold lessS
  cases s.parts with
  | nil => simp
  | cons a l => simp
theorem long_eq' {s : S} {n : Nat} {t : B} {l : List Rw} (h1 : s.first.ind = n) (h2 : textS s = t) (h3 : s.out = l) : ((decide (((n / 2 : Nat) : Int) > 32) || decide ((t.length : Int) > 256)) || ((l.length : Int) == 2048)) = longS s := by
  subst h1 h2 h3
  unfold longS
  congr 1
  · congr 1
    · exact decide_eq_decide.2 (by omega)
    · exact decide_eq_decide.2 (by omega)
  · rw [Bool.eq_iff_iff]
    simp
    omega
theorem close_fl' {s : S} {l : List Rw} {no : Int} {n : Nat} {t : B} (h1 : s.first.ind = n) (h2 : textS s = t) (h3 : s.out = l) (h4 : (s.first.no : Int) = no) : fl encR l ++ [.int .i64 no, .int .i64 ((n / 2 : Nat) : Int), str t] = fl encR (closeS s).out := by
  subst h1 h2 h3 h4
  exact fl_snoc (enc := encR) _ ⟨s.first.no, (s.first.ind / 2 : Nat), textS s⟩
theorem rows_ct {m : View} (hg : Glob m) (src : B) (hs : src.length < 4294967281) (h : List Res) : CT Tryd.prog 7 [str src] h m (RowsO (rowsP src) h) := by
  have hs' : src.length ≤ 140737488355328 := by omega
  refine CT.bodyM Tryd.call7 Tryd.func7 rfl Tryd.ntmps7 (Nat.le_of_ble_eq_true rfl) rfl ?_
  (repeat (first | refine WC.seqK fun K hK => ?_ | refine WC.block ?_ | refine WC.regionG rfl fun ops hG => ?_))
  refine WL.alloc rfl rfl (Nat.le_of_ble_eq_true rfl) fun b2 => ?_
  refine WL.alloc rfl rfl (Nat.le_of_ble_eq_true rfl) fun b3 => ?_
  refine WL.alloc rfl rfl (Nat.le_of_ble_eq_true rfl) fun b4 => ?_
  refine WL.nil (keepF (ts := [0, 2, 3, 4]) rfl (toK (by assumption) ?_))
  (try clear hG ops)
  (repeat (first | refine WC.seqK fun K hK => ?_ | refine WC.block ?_))
  refine WC.scope rfl ?_
  (repeat (first | refine WC.seqK fun K hK => ?_ | refine WC.block ?_ | refine WC.regionG rfl fun ops hG => ?_))
  refine WL.po (PO.move (Ev.tmp rfl)) (Nat.le_of_ble_eq_true rfl) ?_
  refine WL.po (PO.lenS Tryd.underlying9 (Ev.tmp rfl)) (Nat.le_of_ble_eq_true rfl) ?_
  refine WL.po (PO.bin (Ev.tmp rfl) Ev.const rfl) (Nat.le_of_ble_eq_true rfl) ?_
  refine WL.nil (keepF (ts := [0, 2, 3, 4, 14]) rfl (toK (by assumption) ?_))
  (try clear hG ops)
  (repeat (first | refine WC.seqK fun K hK => ?_ | refine WC.block ?_ | refine WC.regionG rfl fun ops hG => ?_))
  refine WC.cond (Ev.tmp rfl) (fun c14 => ?_) (fun c14 => ?_)
  · replace c14 := of_decide_eq_true c14
    (repeat (first | refine WC.seqK fun K hK => ?_ | refine WC.block ?_ | refine WC.regionG rfl fun ops hG => ?_))
    refine WL.addNil 34 3 ?_
    refine WL.store rfl (Ev.tmp rfl) Ev.const rfl rfl rfl rfl (by (repeat (first | exact Upd.here | apply Upd.next))) ?_
    refine WL.store rfl (Ev.tmp rfl) Ev.const rfl rfl rfl rfl (by (repeat (first | exact Upd.here | apply Upd.next))) ?_
    refine WL.store rfl (Ev.tmp rfl) Ev.const rfl rfl rfl rfl (by (repeat (first | exact Upd.here | apply Upd.next))) ?_
    refine WL.nil (keepF (ts := [2, 3, 4]) rfl (toK (by assumption) ?_))
    (try clear hG ops)
    refine WC.ret (endM3 (h' := .row (.slice none 0 0) 34 3 0 [] :: h) (.inl rfl) (.inl ⟨rfl, rfl⟩) rfl (RV.cell1 Tryd.underlying22 rfl rfl (by (repeat (first | exact List.Mem.head _ | apply List.Mem.tail))) rfl) (RV.cell1 Tryd.underlying3 rfl rfl (by (repeat (first | exact List.Mem.head _ | apply List.Mem.tail))) rfl) (RV.cell1 Tryd.underlying23 rfl rfl (by (repeat (first | exact List.Mem.head _ | apply List.Mem.tail))) rfl) (View.le.refl m) (by (repeat (first | exact List.Sublist.refl _ | refine List.Sublist.cons_cons _ ?_ | apply List.Sublist.cons))) ?_)
    exact RowsO.bad (by unfold rowsP; rw [if_pos (by omega)])
  · replace c14 := of_decide_eq_false c14
    refine WC.skip (keepF (ts := [0, 2, 3, 4]) rfl (toK (by assumption) ?_))
    (repeat (first | refine WC.seqK fun K hK => ?_ | refine WC.block ?_ | refine WC.regionG rfl fun ops hG => ?_))
    refine WL.po (PO.move (Ev.tmp rfl)) (Nat.le_of_ble_eq_true rfl) ?_
    refine WL.callP Ev.func (Evs.cons (Ev.tmp rfl) Evs.nil) (wrong_ct _ _ _ (by assumption)) (Nat.le_of_ble_eq_true rfl) ?_
    refine WL.po (PO.assign (Ev.tmp rfl)) (Nat.le_of_ble_eq_true rfl) ?_
    refine WL.nil (keepF (ts := [0, 2, 3, 4, 5]) rfl (toK (by assumption) ?_))
    (try clear hG ops)
    (repeat (first | refine WC.seqK fun K hK => ?_ | refine WC.block ?_ | refine WC.regionG rfl fun ops hG => ?_))
    refine WL.po (PO.move (Ev.tmp rfl)) (Nat.le_of_ble_eq_true rfl) ?_
    refine WL.po (PO.bin (Ev.tmp rfl) Ev.const rfl) (Nat.le_of_ble_eq_true rfl) ?_
    refine WL.nil (keepF (ts := [0, 2, 3, 4, 5, 18]) rfl (toK (by assumption) ?_))
    (try clear hG ops)
    (repeat (first | refine WC.seqK fun K hK => ?_ | refine WC.block ?_ | refine WC.regionG rfl fun ops hG => ?_))
    refine WC.cond (Ev.tmp rfl) (fun c18 => ?_) (fun c18 => ?_)
    · replace c18 := of_decide_eq_true c18
      have hw : wrongP 1 src > 0 := by omega
      (repeat (first | refine WC.seqK fun K hK => ?_ | refine WC.block ?_ | refine WC.regionG rfl fun ops hG => ?_))
      refine WL.addNil 34 3 ?_
      refine WL.po (PO.move (Ev.tmp rfl)) (Nat.le_of_ble_eq_true rfl) ?_
      refine WL.store rfl (Ev.tmp rfl) Ev.const rfl rfl rfl rfl (by (repeat (first | exact Upd.here | apply Upd.next))) ?_
      refine WL.store rfl (Ev.tmp rfl) (Ev.tmp rfl) rfl rfl rfl rfl (by (repeat (first | exact Upd.here | apply Upd.next))) ?_
      refine WL.store rfl (Ev.tmp rfl) Ev.const rfl rfl rfl rfl (by (repeat (first | exact Upd.here | apply Upd.next))) ?_
      refine WL.nil (keepF (ts := [2, 3, 4]) rfl (toK (by assumption) ?_))
      (try clear hG ops)
      refine WC.ret (endM3 (h' := .row (.slice none 0 0) 34 3 0 [] :: h) (.inl rfl) (.inl ⟨rfl, rfl⟩) rfl (RV.cell1 Tryd.underlying22 rfl rfl (by (repeat (first | exact List.Mem.head _ | apply List.Mem.tail))) rfl) (RV.cell1 Tryd.underlying3 rfl rfl (by (repeat (first | exact List.Mem.head _ | apply List.Mem.tail))) rfl) (RV.cell1 Tryd.underlying23 rfl rfl (by (repeat (first | exact List.Mem.head _ | apply List.Mem.tail))) rfl) (View.le.refl m) (by (repeat (first | exact List.Sublist.refl _ | refine List.Sublist.cons_cons _ ?_ | apply List.Sublist.cons))) ?_)
      exact RowsO.bad (by unfold rowsP; rw [if_neg (by omega), if_pos hw])
    · replace c18 := of_decide_eq_false c18
      have hw : ¬ wrongP 1 src > 0 := by omega
      have hrows : rowsP src = run (piecesP 0 (lines src)) s0 := by unfold rowsP; rw [if_neg (by omega), if_neg hw]
      have hcount : (lines src).length ≤ src.length + 1 := lines_count src []
      have hplen := pieces_len 0 (lines src)
      have hpok : ∀ p ∈ piecesP 0 (lines src), PcOk p := fun p hp => by
        obtain ⟨h1, ⟨x, hx, h2, h3⟩, h4, h5⟩ := pieces_in hp
        have hx := lines_le hx
        have h6 := txt_len x
        have h7 := ind_le x
        exact ⟨h1, by rw [h2]; omega, by rw [h3]; omega, by omega⟩
      refine WC.skip (keepF (ts := [0, 2, 3, 4]) rfl (toK (by assumption) ?_))
      (repeat (first | refine WC.seqK fun K hK => ?_ | refine WC.block ?_ | refine WC.regionG rfl fun ops hG => ?_))
      refine WL.alloc rfl rfl (Nat.le_of_ble_eq_true rfl) fun b6 => ?_
      refine WL.nil (keepF (ts := [0, 2, 3, 4, 6]) rfl (toK (by assumption) ?_))
      (try clear hG ops)
      (repeat (first | refine WC.seqK fun K hK => ?_ | refine WC.block ?_ | refine WC.regionG rfl fun ops hG => ?_))
      refine WL.alloc rfl rfl (Nat.le_of_ble_eq_true rfl) fun b7 => ?_
      refine WL.nil (keepF (ts := [0, 2, 3, 4, 6, 7]) rfl (toK (by assumption) ?_))
      (try clear hG ops)
      (repeat (first | refine WC.seqK fun K hK => ?_ | refine WC.block ?_ | refine WC.regionG rfl fun ops hG => ?_))
      refine WL.alloc rfl rfl (Nat.le_of_ble_eq_true rfl) fun b8 => ?_
      refine WL.alloc rfl rfl (Nat.le_of_ble_eq_true rfl) fun b9 => ?_
      refine WL.store rfl (Ev.tmp rfl) Ev.const rfl rfl rfl rfl (by (repeat (first | exact Upd.here | apply Upd.next))) ?_
      refine WL.store rfl (Ev.tmp rfl) Ev.const rfl rfl rfl rfl (by (repeat (first | exact Upd.here | apply Upd.next))) ?_
      refine WL.nil (keepF (ts := [0, 2, 3, 4, 6, 7, 8, 9]) rfl (toK (by assumption) ?_))
      (try clear hG ops)
      (repeat (first | refine WC.seqK fun K hK => ?_ | refine WC.block ?_ | refine WC.regionG rfl fun ops hG => ?_))
      refine WC.label (keepF (ts := [0, 2, 3, 4, 6, 7, 8, 9]) rfl (toK (by assumption) ?_))
      (repeat (first | refine WC.seqK fun K hK => ?_ | refine WC.block ?_ | refine WC.regionG rfl fun ops hG => ?_))
      refine WL.po (PO.move (Ev.tmp rfl)) (Nat.le_of_ble_eq_true rfl) ?_
      refine WL.addNil 9 1 ?_; refine WL.addNil 34 3 ?_
      refine WL.callK Ev.func (Evs.cons (Ev.tmp rfl) Evs.nil) (pieces_ct _ _ _) (Nat.le_of_ble_eq_true rfl) ?_
      rintro _ _ ⟨b21, rfl, rfl⟩
      refine WL.nil (keepF (ts := [2, 3, 4, 6, 7, 8, 9, 21]) rfl (toK (by assumption) ?_))
      (try clear hG ops)
      (repeat (first | refine WC.seqK fun K hK => ?_ | refine WC.block ?_))
      refine WC.rangeFunc pcV (piecesP 0 (lines src)) ([.pt b21 (.cells [str src].toArray 9 (0, 0))]) (.row (.slice none 0 0) 34 3 0 [] :: .row (.slice none 0 0) 9 1 0 [] :: .pt b9 (.cells [.int .i64 0].toArray 3 (0, 0)) :: .pt b8 (.cells [.int .i64 (-1)].toArray 3 (0, 0)) :: .pt b7 (.cells (pcL ⟨0, 0, []⟩).toArray 47 (0, 0)) :: .pt b6 (.cells [.slice none 0 0].toArray 38 (0, 0)) :: .pt b4 (.cells [.int .i64 0].toArray 23 (0, 0)) :: .pt b3 (.cells [.int .i64 0].toArray 3 (0, 0)) :: .pt b2 (.cells [.slice none 0 0].toArray 22 (0, 0)) :: h) (fun pre hc => ∃ s al cl ap cp, (∀ post, run (pre ++ post) s0 = run post s) ∧ Inv pre.length s ∧ hc = .row (.slice al s.out.length cl) 34 3 s.out.length (fl encR s.out) :: .row (.slice ap s.parts.length cp) 9 1 s.parts.length (fl encB s.parts) :: .pt b9 (.cells [.int .i64 s.last].toArray 3 (0, 0)) :: .pt b8 (.cells [.int .i64 s.before].toArray 3 (0, 0)) :: .pt b7 (.cells (pcL s.first).toArray 47 (0, 0)) :: .pt b6 (.cells [.slice ap s.parts.length cp].toArray 38 (0, 0)) :: .pt b4 (.cells [.int .i64 0].toArray 23 (0, 0)) :: .pt b3 (.cells [.int .i64 0].toArray 3 (0, 0)) :: .pt b2 (.cells [.slice al s.out.length cl].toArray 22 (0, 0)) :: h) (fun hc => ∃ no e : Nat, run (piecesP 0 (lines src)) s0 = ([], no, e) ∧ hc = .pt b2 (.cells [.slice none 0 0].toArray 22 (0, 0)) :: .row (.slice none 0 0) 34 3 0 [] :: .pt b4 (.cells [.int .i64 e].toArray 23 (0, 0)) :: .pt b3 (.cells [.int .i64 no].toArray 3 (0, 0)) :: h) (Nat.le_of_ble_eq_true rfl) (Ev.tmp rfl) Tryd.call42 ((fun l J Jx h0 hY hJ => iter_ct hg src hs _ l J Jx h0 hY hJ)) (⟨s0, none, 0, none, 0, fun _ => rfl, Inv.start, rfl⟩) rfl (fun l pre x post hc hx hI fr KA hKA => ?_) (fun D hc hI => ?_) (fun D hc hX => ?_)
      · obtain ⟨s, al, cl, ap, cp, hrun, hinv, rfl⟩ := hI
        have hpk := hpok x (by rw [hx]; simp)
        have hpre : pre.length + 1 ≤ (piecesP 0 (lines src)).length := by rw [hx]; simp
        (repeat (first | refine WC.seqK fun K hK => ?_ | refine WC.block ?_ | refine WC.regionG rfl fun ops hG => ?_))
        refine WL.alloc rfl rfl (Nat.le_of_ble_eq_true rfl) fun b10 => ?_
        refine WL.store rfl (Ev.tmp rfl) (Ev.tmp rfl) rfl rfl rfl rfl (by (repeat (first | exact Upd.here | apply Upd.next))) ?_
        refine WL.nil (keepF (ts := [2, 3, 4, 6, 7, 8, 9, 10]) rfl (hKA _ (.pt b10 (.cells (pcL x).toArray 47 (0, 0)) :: .row (.slice al s.out.length cl) 34 3 s.out.length (fl encR s.out) :: .row (.slice ap s.parts.length cp) 9 1 s.parts.length (fl encB s.parts) :: .pt b9 (.cells [.int .i64 s.last].toArray 3 (0, 0)) :: .pt b8 (.cells [.int .i64 s.before].toArray 3 (0, 0)) :: .pt b7 (.cells (pcL s.first).toArray 47 (0, 0)) :: .pt b6 (.cells [.slice ap s.parts.length cp].toArray 38 (0, 0)) :: .pt b4 (.cells [.int .i64 0].toArray 23 (0, 0)) :: .pt b3 (.cells [.int .i64 0].toArray 3 (0, 0)) :: .pt b2 (.cells [.slice al s.out.length cl].toArray 22 (0, 0)) :: h) fun fr2 => ?_))
        (try clear hG ops)
        clear hKA KA
        refine WC.resE (h' := .pt b10 (.cells (pcL x).toArray 47 (0, 0)) :: .row (.slice al s.out.length cl) 34 3 s.out.length (fl encR s.out) :: .row (.slice ap s.parts.length cp) 9 1 s.parts.length (fl encB s.parts) :: .pt b9 (.cells [.int .i64 s.last].toArray 3 (0, 0)) :: .pt b8 (.cells [.int .i64 s.before].toArray 3 (0, 0)) :: .pt b7 (.cells (pcL s.first).toArray 47 (0, 0)) :: .pt b6 (.cells [.slice ap s.parts.length cp].toArray 38 (0, 0)) :: .pt b4 (.cells [.int .i64 0].toArray 23 (0, 0)) :: .pt b3 (.cells [.int .i64 0].toArray 3 (0, 0)) :: .pt b2 (.cells [.slice al s.out.length cl].toArray 22 (0, 0)) :: (h ++ fr2)) rfl ?_
        refine WC.block ?_
        have hcnt := hinv.cnt
        have hbef := hinv.bef
        have hout := hinv.out
        have hfi := hinv.ind
        have hxi := hpk.ind
        have hxl := hpk.len
        have hxne := hpk.ne
        (repeat refine WC.seqK fun K hK => ?_)
        refine WC.cutK (by assumption) [2, 3, 4, 6, 7, 8, 9, 10] rfl (fun F' h' => ∃ f : Pc, (f = (takeS s x).first ∧ ∀ post, run (pre ++ x :: post) s0 = finS (run post) (takeS s x)) ∧ F' = [] ∧ .pt b10 (.cells (pcL x).toArray 47 (0, 0)) :: .row (.slice al s.out.length cl) 34 3 s.out.length (fl encR s.out) :: .row (.slice ap s.parts.length cp) 9 1 s.parts.length (fl encB s.parts) :: .pt b9 (.cells [.int .i64 s.last].toArray 3 (0, 0)) :: .pt b8 (.cells [.int .i64 s.before].toArray 3 (0, 0)) :: .pt b7 (.cells (pcL f).toArray 47 (0, 0)) :: .pt b6 (.cells [.slice ap s.parts.length cp].toArray 38 (0, 0)) :: .pt b4 (.cells [.int .i64 0].toArray 23 (0, 0)) :: .pt b3 (.cells [.int .i64 0].toArray 3 (0, 0)) :: .pt b2 (.cells [.slice al s.out.length cl].toArray 22 (0, 0)) :: (h ++ fr2) = h') ?_ ?_
        · (repeat (first | refine WC.seqK fun K hK => ?_ | refine WC.block ?_ | refine WC.regionG rfl fun ops hG => ?_))
          refine WL.po (PO.load1 Tryd.underlying38 rfl (Ev.tmp rfl) (by (repeat (first | exact List.Mem.head _ | apply List.Mem.tail))) rfl) (Nat.le_of_ble_eq_true rfl) ?_
          refine WL.po (PO.lenSl Tryd.underlying38 (Ev.tmp rfl)) (Nat.le_of_ble_eq_true rfl) ?_
          refine WL.po (PO.bin (Ev.tmp rfl) Ev.const rfl) (Nat.le_of_ble_eq_true rfl) ?_
          refine WL.po (PO.move (Ev.tmp rfl)) (Nat.le_of_ble_eq_true rfl) ?_
          refine WL.poG (GU.t (hG _ _ rfl) rfl) (fun hc => PO.fieldAddr Tryd.underlying47 rfl (Nat.ne_of_beq_eq_false rfl) (Ev.tmp rfl)) (Nat.le_of_ble_eq_true rfl) ?_
          refine WL.poG (GU.t (hG _ _ rfl) rfl) (fun hc => PO.load1 Tryd.underlying3 rfl (Ev.gv rfl hc) (by (repeat (first | exact List.Mem.head _ | apply List.Mem.tail))) rfl) (Nat.le_of_ble_eq_true rfl) ?_
          refine WL.poG (GU.t (hG _ _ rfl) rfl) (fun hc => PO.fieldAddr Tryd.underlying47 rfl (Nat.ne_of_beq_eq_false rfl) (Ev.tmp rfl)) (Nat.le_of_ble_eq_true rfl) ?_
          refine WL.poG (GU.t (hG _ _ rfl) rfl) (fun hc => PO.load1 Tryd.underlying3 rfl (Ev.gv rfl hc) (by (repeat (first | exact List.Mem.head _ | apply List.Mem.tail))) rfl) (Nat.le_of_ble_eq_true rfl) ?_
          refine WL.poG (GU.t (hG _ _ rfl) rfl) (fun hc => PO.bin (Ev.gv rfl hc) (Ev.gv rfl hc) rfl) (Nat.le_of_ble_eq_true rfl) ?_
          refine WL.po (PO.pickAnd rfl rfl) (Nat.le_of_ble_eq_true rfl) ?_
          refine WL.po (PO.assign (Ev.tmp rfl)) (Nat.le_of_ble_eq_true rfl) ?_
          refine WL.nil (keepF (ts := [2, 3, 4, 6, 7, 8, 9, 10, 23]) rfl (toK (by assumption) ?_))
          (try clear hG ops)
          (repeat (first | refine WC.seqK fun K hK => ?_ | refine WC.block ?_ | refine WC.regionG rfl fun ops hG => ?_))
          refine WC.cond (Ev.tmp rfl) (fun c23 => ?_) (fun c23 => ?_)
          · rw [less_eq] at c23
            (repeat (first | refine WC.seqK fun K hK => ?_ | refine WC.block ?_ | refine WC.regionG rfl fun ops hG => ?_))
            refine WC.addNil 34 3 ?_
            refine WC.take (r := .pt b2 _) (by (repeat (first | exact Del.here | apply Del.next))) ?_
            refine WC.drawS [2] (.op 0 (.op 1 (.op 2 .nil))) [3, 4] _ [_] mixed (fun _ _ _ _ _ h => h) [] (by kernel_rfl) ?_
            refine SR.po rfl rfl (PO.fieldAddr Tryd.underlying47 rfl (Nat.ne_of_beq_eq_false rfl) (Ev.tmp rfl)) (Nat.le_of_ble_eq_true rfl) ?_
            refine SR.po rfl rfl (PO.load1 Tryd.underlying3 rfl (Ev.tmp rfl) (by (repeat (first | exact List.Mem.head _ | apply List.Mem.tail))) rfl) (Nat.le_of_ble_eq_true rfl) ?_
            refine SR.store rfl rfl rfl (Ev.tmp rfl) Ev.const rfl rfl rfl rfl (by (repeat (first | exact Upd.here | apply Upd.next))) ?_
            refine SR.nil rfl rfl ?_
            refine WL.store rfl (Ev.tmp rfl) (Ev.tmp rfl) rfl rfl rfl rfl (by (repeat (first | exact Upd.here | apply Upd.next))) ?_
            refine WL.store rfl (Ev.tmp rfl) Ev.const rfl rfl rfl rfl (by (repeat (first | exact Upd.here | apply Upd.next))) ?_
            refine WL.nil (keepF (ts := []) rfl (toK (by assumption) ?_))
            (try clear hG ops)
            refine WC.ret (roundRet (.pt b2 (.cells [.slice none 0 0].toArray 22 (0, 0)) :: .row (.slice none 0 0) 34 3 0 [] :: .pt b4 (.cells [.int .i64 70].toArray 23 (0, 0)) :: .pt b3 (.cells [.int .i64 x.no].toArray 3 (0, 0)) :: h) (by (repeat (first | exact List.Sublist.refl _ | refine List.Sublist.cons_cons _ ?_ | apply List.Sublist.cons))) ?_)
            exact ⟨x.no, 70, by rw [hx, hrun, run_cons, if_pos c23], rfl⟩
          · rw [less_eq] at c23
            (repeat (first | refine WC.seqK fun K hK => ?_ | refine WC.block ?_ | refine WC.regionG rfl fun ops hG => ?_))
            refine WL.po (PO.load1 Tryd.underlying38 rfl (Ev.tmp rfl) (by (repeat (first | exact List.Mem.head _ | apply List.Mem.tail))) rfl) (Nat.le_of_ble_eq_true rfl) ?_
            refine WL.po (PO.lenSl Tryd.underlying38 (Ev.tmp rfl)) (Nat.le_of_ble_eq_true rfl) ?_
            refine WL.po (PO.bin (Ev.tmp rfl) Ev.const rfl) (Nat.le_of_ble_eq_true rfl) ?_
            refine WL.po (PO.assign (Ev.tmp rfl)) (Nat.le_of_ble_eq_true rfl) ?_
            refine WL.nil (keepF (ts := [2, 3, 4, 6, 7, 8, 9, 10, 36]) rfl (toK (by assumption) ?_))
            (try clear hG ops)
            (repeat (first | refine WC.seqK fun K hK => ?_ | refine WC.block ?_ | refine WC.regionG rfl fun ops hG => ?_))
            refine WC.cond (Ev.tmp rfl) (fun c36 => ?_) (fun c36 => ?_)
            · replace c36 := t_eq c36
              have hp0 : s.parts = [] := List.eq_nil_of_length_eq_zero (by omega)
              (repeat (first | refine WC.seqK fun K hK => ?_ | refine WC.block ?_ | refine WC.regionG rfl fun ops hG => ?_))
              refine WL.po (PO.fieldAddr Tryd.underlying47 rfl (Nat.ne_of_beq_eq_false rfl) (Ev.tmp rfl)) (Nat.le_of_ble_eq_true rfl) ?_
              refine WL.po (PO.load1 Tryd.underlying3 rfl (Ev.tmp rfl) (by (repeat (first | exact List.Mem.head _ | apply List.Mem.tail))) rfl) (Nat.le_of_ble_eq_true rfl) ?_
              refine WL.po (PO.rem (Ev.tmp rfl) Ev.const (by decide)) (Nat.le_of_ble_eq_true rfl) ?_
              refine WL.po (PO.bin (Ev.tmp rfl) Ev.const rfl) (Nat.le_of_ble_eq_true rfl) ?_
              refine WL.po (PO.move (Ev.tmp rfl)) (Nat.le_of_ble_eq_true rfl) ?_
              refine WL.poG (GU.f (hG _ _ rfl) rfl) (fun hc => PO.fieldAddr Tryd.underlying47 rfl (Nat.ne_of_beq_eq_false rfl) (Ev.tmp rfl)) (Nat.le_of_ble_eq_true rfl) ?_
              refine WL.poG (GU.f (hG _ _ rfl) rfl) (fun hc => PO.load1 Tryd.underlying3 rfl (Ev.gv rfl hc) (by (repeat (first | exact List.Mem.head _ | apply List.Mem.tail))) rfl) (Nat.le_of_ble_eq_true rfl) ?_
              refine WL.poG (GU.f (hG _ _ rfl) rfl) (fun hc => PO.quo (Ev.gv rfl hc) Ev.const (by decide)) (Nat.le_of_ble_eq_true rfl) ?_
              refine WL.poG (GU.f (hG _ _ rfl) rfl) (fun hc => PO.load1 Tryd.underlying3 rfl (Ev.tmp rfl) (by (repeat (first | exact List.Mem.head _ | apply List.Mem.tail))) rfl) (Nat.le_of_ble_eq_true rfl) ?_
              refine WL.poG (GU.f (hG _ _ rfl) rfl) (fun hc => PO.addI (Ev.gv rfl hc) Ev.const (by first | omega | (simp at hc; omega))) (Nat.le_of_ble_eq_true rfl) ?_
              refine WL.poG (GU.f (hG _ _ rfl) rfl) (fun hc => PO.bin (Ev.gv rfl hc) (Ev.gv rfl hc) rfl) (Nat.le_of_ble_eq_true rfl) ?_
              refine WL.po (PO.pickOr rfl rfl) (Nat.le_of_ble_eq_true rfl) ?_
              refine WL.nil (keepF (ts := [2, 3, 4, 6, 7, 8, 9, 10, 51]) rfl (toK (by assumption) ?_))
              (try clear hG ops)
              (repeat (first | refine WC.seqK fun K hK => ?_ | refine WC.block ?_ | refine WC.regionG rfl fun ops hG => ?_))
              refine WC.cond (Ev.tmp rfl) (fun c51 => ?_) (fun c51 => ?_)
              · rw [odd_eq (by omega)] at c51
                (repeat (first | refine WC.seqK fun K hK => ?_ | refine WC.block ?_ | refine WC.regionG rfl fun ops hG => ?_))
                refine WC.addNil 34 3 ?_
                refine WC.take (r := .pt b2 _) (by (repeat (first | exact Del.here | apply Del.next))) ?_
                refine WC.drawS [2] (.op 0 (.op 1 (.op 2 .nil))) [3, 4] _ [_] mixed (fun _ _ _ _ _ h => h) [] (by kernel_rfl) ?_
                refine SR.po rfl rfl (PO.fieldAddr Tryd.underlying47 rfl (Nat.ne_of_beq_eq_false rfl) (Ev.tmp rfl)) (Nat.le_of_ble_eq_true rfl) ?_
                refine SR.po rfl rfl (PO.load1 Tryd.underlying3 rfl (Ev.tmp rfl) (by (repeat (first | exact List.Mem.head _ | apply List.Mem.tail))) rfl) (Nat.le_of_ble_eq_true rfl) ?_
                refine SR.store rfl rfl rfl (Ev.tmp rfl) Ev.const rfl rfl rfl rfl (by (repeat (first | exact Upd.here | apply Upd.next))) ?_
                refine SR.nil rfl rfl ?_
                refine WL.store rfl (Ev.tmp rfl) (Ev.tmp rfl) rfl rfl rfl rfl (by (repeat (first | exact Upd.here | apply Upd.next))) ?_
                refine WL.store rfl (Ev.tmp rfl) Ev.const rfl rfl rfl rfl (by (repeat (first | exact Upd.here | apply Upd.next))) ?_
                refine WL.nil (keepF (ts := []) rfl (toK (by assumption) ?_))
                (try clear hG ops)
                refine WC.ret (roundRet (.pt b2 (.cells [.slice none 0 0].toArray 22 (0, 0)) :: .row (.slice none 0 0) 34 3 0 [] :: .pt b4 (.cells [.int .i64 70].toArray 23 (0, 0)) :: .pt b3 (.cells [.int .i64 x.no].toArray 3 (0, 0)) :: h) (by (repeat (first | exact List.Sublist.refl _ | refine List.Sublist.cons_cons _ ?_ | apply List.Sublist.cons))) ?_)
                exact ⟨x.no, 70, by rw [hx, hrun, run_first hp0, if_pos c51], rfl⟩
              · rw [odd_eq (by omega)] at c51
                refine WC.skip (keepF (ts := [2, 3, 4, 6, 7, 8, 9, 10]) rfl (toK (by assumption) ?_))
                (repeat (first | refine WC.seqK fun K hK => ?_ | refine WC.block ?_ | refine WC.regionG rfl fun ops hG => ?_))
                refine WL.po (PO.loadA Tryd.underlying47 rfl rfl (Ev.tmp rfl) (by (repeat (first | exact List.Mem.head _ | apply List.Mem.tail))) rfl) (Nat.le_of_ble_eq_true rfl) ?_
                refine WL.store rfl (Ev.tmp rfl) (Ev.tmp rfl) rfl rfl rfl rfl (by (repeat (first | exact Upd.here | apply Upd.next))) ?_
                refine WL.nil (meetI [] (h'' := .pt b10 (.cells (pcL x).toArray 47 (0, 0)) :: .row (.slice al s.out.length cl) 34 3 s.out.length (fl encR s.out) :: .row (.slice ap s.parts.length cp) 9 1 s.parts.length (fl encB s.parts) :: .pt b9 (.cells [.int .i64 s.last].toArray 3 (0, 0)) :: .pt b8 (.cells [.int .i64 s.before].toArray 3 (0, 0)) :: .pt b7 (.cells (pcL x).toArray 47 (0, 0)) :: .pt b6 (.cells [.slice ap s.parts.length cp].toArray 38 (0, 0)) :: .pt b4 (.cells [.int .i64 0].toArray 23 (0, 0)) :: .pt b3 (.cells [.int .i64 0].toArray 3 (0, 0)) :: .pt b2 (.cells [.slice al s.out.length cl].toArray 22 (0, 0)) :: (h ++ fr2)) ?_ (by (repeat (first | exact Sub.nil | refine Sub.cons rfl ?_ | refine Sub.consE rfl (by simp; done) ?_))) (by (repeat (first | exact List.Sublist.refl _ | refine List.Sublist.cons_cons _ ?_ | apply List.Sublist.cons))) ⟨x, ⟨by simp [takeS, hp0], fun post => by rw [hrun, run_first hp0, if_neg (by rw [c51]; decide)]⟩, rfl, rfl⟩)
                (repeat (first | exact Sub.nil | refine Sub.cons rfl ?_ | refine Sub.consE rfl (by simp; done) ?_))
            · replace c36 := f_eq c36
              have hp0 : s.parts ≠ [] := fun e => c36 (by rw [e]; rfl)
              refine WC.skip (meetI [] (h'' := .pt b10 (.cells (pcL x).toArray 47 (0, 0)) :: .row (.slice al s.out.length cl) 34 3 s.out.length (fl encR s.out) :: .row (.slice ap s.parts.length cp) 9 1 s.parts.length (fl encB s.parts) :: .pt b9 (.cells [.int .i64 s.last].toArray 3 (0, 0)) :: .pt b8 (.cells [.int .i64 s.before].toArray 3 (0, 0)) :: .pt b7 (.cells (pcL (s.first)).toArray 47 (0, 0)) :: .pt b6 (.cells [.slice ap s.parts.length cp].toArray 38 (0, 0)) :: .pt b4 (.cells [.int .i64 0].toArray 23 (0, 0)) :: .pt b3 (.cells [.int .i64 0].toArray 3 (0, 0)) :: .pt b2 (.cells [.slice al s.out.length cl].toArray 22 (0, 0)) :: (h ++ fr2)) ?_ (by (repeat (first | exact Sub.nil | refine Sub.cons rfl ?_ | refine Sub.consE rfl (by simp; done) ?_))) (by (repeat (first | exact List.Sublist.refl _ | refine List.Sublist.cons_cons _ ?_ | apply List.Sublist.cons))) ⟨s.first, ⟨by simp [takeS, hp0], fun post => by rw [hrun, run_cons, if_neg (by rw [c23]; decide), if_neg (by simp [stepS, hp0])]⟩, rfl, rfl⟩)
              (repeat (first | exact Sub.nil | refine Sub.cons rfl ?_ | refine Sub.consE rfl (by simp; done) ?_))
        rintro _ _ ⟨f, ⟨hf, hJ⟩, rfl, rfl⟩
        refine WC.frm rfl ?_
        have hpl : pre.length + 1 ≤ src.length + 1 := by omega
        have hinv2 := hinv.take hpk
        have htl := hinv2.txt
        have hfi2 := hinv2.ind
        have hce : cont (textS (takeS s x)) = cont x.text := cont_take s hxne
        rw [← hf] at hfi2
        (repeat (first | refine WC.seqK fun K hK => ?_ | refine WC.block ?_ | refine WC.regionG rfl fun ops hG => ?_))
        refine WC.take (r := .row (.slice ap s.parts.length cp) 9 1 s.parts.length (fl encB s.parts)) (by (repeat (first | exact Del.here | apply Del.next))) ?_
        refine WC.take (r := .pt b6 _) (by (repeat (first | exact Del.here | apply Del.next))) ?_
        refine WC.drawS [0, 3, 4, 7] (.op 1 (.op 2 (.op 5 (.op 6 (.op 0 (.op 3 (.op 4 (.op 7 .nil)))))))) [8] _ [_, _] mixed (fun _ _ _ _ _ h => h) [] (by kernel_rfl) ?_
        refine SR.po rfl rfl (PO.fieldAddr Tryd.underlying47 rfl (Nat.ne_of_beq_eq_false rfl) (Ev.tmp rfl)) (Nat.le_of_ble_eq_true rfl) ?_
        refine SR.po rfl rfl (PO.load1 Tryd.underlying9 rfl (Ev.tmp rfl) (by (repeat (first | exact List.Mem.head _ | apply List.Mem.tail))) rfl) (Nat.le_of_ble_eq_true rfl) ?_
        refine SR.po rfl rfl (PO.fieldAddr Tryd.underlying47 rfl (Nat.ne_of_beq_eq_false rfl) (Ev.tmp rfl)) (Nat.le_of_ble_eq_true rfl) ?_
        refine SR.po rfl rfl (PO.load1 Tryd.underlying3 rfl (Ev.tmp rfl) (by (repeat (first | exact List.Mem.head _ | apply List.Mem.tail))) rfl) (Nat.le_of_ble_eq_true rfl) ?_
        refine SR.poE rfl rfl (fun fr => PO.load1 Tryd.underlying38 rfl (Ev.tmp rfl) (List.mem_append_right _ (by (repeat (first | exact List.Mem.head _ | apply List.Mem.tail)))) rfl) (Nat.le_of_ble_eq_true rfl) ?_
        refine SR.buildSlice rfl rfl EL38 rfl (EvP.cons (Ev.tmp rfl) EvP.nil) rfl rfl (by decide) rfl (Nat.le_of_ble_eq_true rfl) fun b58 => ?_
        refine SR.appendE rfl rfl EL38 (Ev.tmp rfl) (Ev.tmp rfl) (by first | assumption | exact Rd.ofSl (by assumption) | exact Rd.ofPt rfl (by decide) (by (repeat (first | exact List.Mem.head _ | apply List.Mem.tail))) | exact Rd.mono (by assumption) (View.le.refl _) (by (repeat (first | exact List.Sublist.refl _ | refine List.Sublist.cons_cons _ ?_ | apply List.Sublist.cons))) | exact Rd.inRow (by (repeat (first | exact List.Mem.head _ | apply List.Mem.tail))) (by assumption) (by assumption) (by assumption)) (by first | exact one_of rfl | exact fl_ones (fun _ => rfl) _) rfl (fl_snoc (enc := encB) _ (x.text)) (by omega) (by omega) (fun v' => by (repeat (first | exact Upd.here | apply Upd.next))) (Nat.le_of_ble_eq_true rfl) fun a59 c59 => ?_
        refine SR.store rfl rfl rfl (Ev.tmp rfl) (Ev.tmp rfl) rfl rfl rfl rfl (by (repeat (first | exact Upd.here | apply Upd.next))) ?_
        refine SR.nil rfl rfl ?_
        refine WL.store rfl (Ev.tmp rfl) (Ev.tmp rfl) rfl rfl rfl rfl (by (repeat (first | exact Upd.here | apply Upd.next))) ?_
        refine WL.nil (keepF (ts := [2, 3, 4, 6, 7, 8, 10]) rfl (toK (by assumption) ?_))
        (try clear hG ops)
        (repeat (first | refine WC.seqK fun K hK => ?_ | refine WC.block ?_ | refine WC.regionG rfl fun ops hG => ?_))
        refine WL.po (PO.fieldAddr Tryd.underlying47 rfl (Nat.ne_of_beq_eq_false rfl) (Ev.tmp rfl)) (Nat.le_of_ble_eq_true rfl) ?_
        refine WL.po (PO.load1 Tryd.underlying9 rfl (Ev.tmp rfl) (by (repeat (first | exact List.Mem.head _ | apply List.Mem.tail))) rfl) (Nat.le_of_ble_eq_true rfl) ?_
        refine WL.callP Ev.func (Evs.cons (Ev.tmp rfl) Evs.nil) (continues_ct x.text hxne (by omega) _ _) (Nat.le_of_ble_eq_true rfl) ?_
        refine WL.nil (keepF (ts := [2, 3, 4, 6, 7, 8, 64]) rfl (toK (by assumption) ?_))
        (try clear hG ops)
        (repeat (first | refine WC.seqK fun K hK => ?_ | refine WC.block ?_ | refine WC.regionG rfl fun ops hG => ?_))
        refine WC.cond (Ev.tmp rfl) (fun c64 => ?_) (fun c64 => ?_)
        · refine WC.take (r := .pt b2 (.cells [.slice al s.out.length cl].toArray 22 (0, 0))) (by (repeat (first | exact Del.here | apply Del.next))) ?_
          refine WC.take (r := .pt b3 _) (by (repeat (first | exact Del.here | apply Del.next))) ?_
          refine WC.take (r := .pt b4 _) (by (repeat (first | exact Del.here | apply Del.next))) ?_
          refine WC.take (r := .pt b6 _) (by (repeat (first | exact Del.here | apply Del.next))) ?_
          refine WC.take (r := .pt b7 _) (by (repeat (first | exact Del.here | apply Del.next))) ?_
          refine WC.take (r := .pt b8 _) (by (repeat (first | exact Del.here | apply Del.next))) ?_
          refine WC.take (r := .pt b9 _) (by (repeat (first | exact Del.here | apply Del.next))) ?_
          refine WC.take (r := .row (.slice a59 (s.parts.length + 1) c59) 9 1 (s.parts.length + 1) (fl encB (s.parts ++ [x.text]))) (by (repeat (first | exact Del.here | apply Del.next))) ?_
          refine WC.take (r := .row (.slice al s.out.length cl) 34 3 s.out.length (fl encR s.out)) (by (repeat (first | exact Del.here | apply Del.next))) ?_
          have hlen : (pre ++ [x]).length = pre.length + 1 := by simp
          have hpn : (takeS s x).parts.length = s.parts.length + 1 := by simp [takeS]
          have hrun2 : ∀ post, run ((pre ++ [x]) ++ post) s0 = run post (takeS s x) := fun post => by rw [List.append_assoc, List.singleton_append, hJ]; unfold finS; rw [if_pos (by rw [hce]; exact c64)]
          refine WC.exit (roundNext (.row (.slice al s.out.length cl) 34 3 s.out.length (fl encR s.out) :: .row (.slice a59 (s.parts.length + 1) c59) 9 1 (s.parts.length + 1) (fl encB (s.parts ++ [x.text])) :: .pt b9 (.cells [.int .i64 x.no].toArray 3 (0, 0)) :: .pt b8 (.cells [.int .i64 s.before].toArray 3 (0, 0)) :: .pt b7 (.cells (pcL f).toArray 47 (0, 0)) :: .pt b6 (.cells [.slice a59 (s.parts.length + 1) c59].toArray 38 (0, 0)) :: .pt b4 (.cells [.int .i64 0].toArray 23 (0, 0)) :: .pt b3 (.cells [.int .i64 0].toArray 3 (0, 0)) :: .pt b2 (.cells [.slice al s.out.length cl].toArray 22 (0, 0)) :: h) (by (repeat (first | exact List.Sublist.refl _ | refine List.Sublist.cons_cons _ ?_ | apply List.Sublist.cons))) ?_)
          exact ⟨takeS s x, al, cl, a59, c59, hrun2, hlen ▸ hinv2, by rw [hf, hpn]; rfl⟩
        · refine WC.skip (keepF (ts := [2, 3, 4, 6, 7, 8]) rfl (toK (by assumption) ?_))
          (repeat (first | refine WC.seqK fun K hK => ?_ | refine WC.block ?_ | refine WC.regionG rfl fun ops hG => ?_))
          refine WC.know (fun w st => row_some (st.ok (.row (.slice a59 (s.parts.length + 1) c59) 9 1 (s.parts.length + 1) (fl encB (s.parts ++ [x.text]))) (by (repeat (first | exact List.Mem.head _ | apply List.Mem.tail)))) (by omega)) ?_
          rintro ⟨hc59, ga, rfl⟩
          refine WC.knowRow (a := some ⟨ga, 0, none⟩) (k := s.parts.length + 1) (cap := c59) (sz := 1) (e := 9) (ys := fl encB (s.parts ++ [x.text])) (by (repeat (first | exact List.Mem.head _ | apply List.Mem.tail))) fun p59 q59 r59 => ?_
          have hnp : (s.parts ++ [x.text]).length ≤ 140737488355328 := by simp; omega
          have hjl : (Lib.join (s.parts ++ [x.text]) [32]).length ≤ 140737488355328 := by have htl2 : (Lib.join (s.parts ++ [x.text]) [32]).length ≤ _ := htl; omega
          refine WC.drawL [6] (.op 0 (.op 1 (.op 2 (.op 3 (.op 4 (.op 5 (.op 6 (.op 7 .nil)))))))) [9] [(8, 11)] _ [] mixed (fun _ _ _ _ _ h => h) [] (by kernel_rfl) (Fls.cons rfl rfl rfl (Nat.le_of_ble_eq_true rfl) rfl Fls.nil) rfl ?_
          refine SR.po rfl rfl (PO.fieldAddr Tryd.underlying47 rfl (Nat.ne_of_beq_eq_false rfl) (Ev.tmp rfl)) (Nat.le_of_ble_eq_true rfl) ?_
          refine SR.po rfl rfl (PO.load1 Tryd.underlying3 rfl (Ev.tmp rfl) (by (repeat (first | exact List.Mem.head _ | apply List.Mem.tail))) rfl) (Nat.le_of_ble_eq_true rfl) ?_
          refine SR.po rfl rfl (PO.fieldAddr Tryd.underlying47 rfl (Nat.ne_of_beq_eq_false rfl) (Ev.tmp rfl)) (Nat.le_of_ble_eq_true rfl) ?_
          refine SR.po rfl rfl (PO.load1 Tryd.underlying3 rfl (Ev.tmp rfl) (by (repeat (first | exact List.Mem.head _ | apply List.Mem.tail))) rfl) (Nat.le_of_ble_eq_true rfl) ?_
          refine SR.po rfl rfl (PO.quo (Ev.tmp rfl) Ev.const (by decide)) (Nat.le_of_ble_eq_true rfl) ?_
          refine SR.val (v' := .int .i64 ((f.ind / 2 : Nat) : Int)) (congrArg _ (half_eq hfi2)) ?_
          refine SR.po rfl rfl (PO.load1 Tryd.underlying38 rfl (Ev.tmp rfl) (by (repeat (first | exact List.Mem.head _ | apply List.Mem.tail))) rfl) (Nat.le_of_ble_eq_true rfl) ?_
          refine SR.callP rfl rfl Ev.func (Evs.cons (Ev.tmp rfl) (Evs.cons Ev.const Evs.nil)) (fun fr => join_ct _ _ _ (s.parts ++ [x.text]) _ _ (Rd.fr (by first | assumption | exact Rd.ofSl (by assumption) | exact Rd.ofPt rfl (by decide) (by (repeat (first | exact List.Mem.head _ | apply List.Mem.tail))) | exact Rd.mono (by assumption) (View.le.refl _) (by (repeat (first | exact List.Sublist.refl _ | refine List.Sublist.cons_cons _ ?_ | apply List.Sublist.cons))) | exact Rd.inRow (by (repeat (first | exact List.Mem.head _ | apply List.Mem.tail))) (by assumption) (by assumption) (by assumption)) fr) hnp hjl (by simp)) (Nat.le_of_ble_eq_true rfl) ?_
          refine SR.po rfl rfl (PO.build Tryd.underlying34 rfl rfl rfl (EvP.cons (Ev.tmp rfl) (EvP.cons (Ev.tmp rfl) (EvP.cons (Ev.tmp rfl) EvP.nil))) rfl) (Nat.le_of_ble_eq_true rfl) ?_
          refine SR.nilF rfl rfl fun b11 => ?_
          refine WL.store rfl (Ev.tmp rfl) (Ev.tmp rfl) rfl rfl rfl rfl (by (repeat (first | exact Upd.here | apply Upd.next))) ?_
          refine WL.nil (keepF (ts := [2, 3, 4, 6, 8, 11]) rfl (toK (by assumption) ?_))
          (try clear hG ops)
          (repeat (first | refine WC.seqK fun K hK => ?_ | refine WC.block ?_ | refine WC.regionG rfl fun ops hG => ?_))
          have hlong := long_eq' (s := takeS s x) (n := f.ind) (t := Lib.join (s.parts ++ [x.text]) [32]) (l := s.out) (by rw [← hf]) rfl rfl
          refine WL.po (PO.fieldAddr Tryd.underlying34 rfl (Nat.ne_of_beq_eq_false rfl) (Ev.tmp rfl)) (Nat.le_of_ble_eq_true rfl) ?_
          refine WL.po (PO.load1 Tryd.underlying3 rfl (Ev.tmp rfl) (by (repeat (first | exact List.Mem.head _ | apply List.Mem.tail))) rfl) (Nat.le_of_ble_eq_true rfl) ?_
          refine WL.po (PO.bin (Ev.tmp rfl) Ev.const rfl) (Nat.le_of_ble_eq_true rfl) ?_
          refine WL.po (PO.move (Ev.tmp rfl)) (Nat.le_of_ble_eq_true rfl) ?_
          refine WL.poG (GU.f (hG _ _ rfl) rfl) (fun hc => PO.fieldAddr Tryd.underlying34 rfl (Nat.ne_of_beq_eq_false rfl) (Ev.tmp rfl)) (Nat.le_of_ble_eq_true rfl) ?_
          refine WL.poG (GU.f (hG _ _ rfl) rfl) (fun hc => PO.load1 Tryd.underlying9 rfl (Ev.gv rfl hc) (by (repeat (first | exact List.Mem.head _ | apply List.Mem.tail))) rfl) (Nat.le_of_ble_eq_true rfl) ?_
          refine WL.poG (GU.f (hG _ _ rfl) rfl) (fun hc => PO.lenS Tryd.underlying9 (Ev.gv rfl hc)) (Nat.le_of_ble_eq_true rfl) ?_
          refine WL.poG (GU.f (hG _ _ rfl) rfl) (fun hc => PO.bin (Ev.gv rfl hc) Ev.const rfl) (Nat.le_of_ble_eq_true rfl) ?_
          refine WL.po (PO.pickOr rfl rfl) (Nat.le_of_ble_eq_true rfl) ?_
          refine WL.po (PO.move (Ev.tmp rfl)) (Nat.le_of_ble_eq_true rfl) ?_
          refine WL.poG (GU.f (hG _ _ rfl) rfl) (fun hc => PO.load1 Tryd.underlying22 rfl (Ev.tmp rfl) (by (repeat (first | exact List.Mem.head _ | apply List.Mem.tail))) rfl) (Nat.le_of_ble_eq_true rfl) ?_
          refine WL.poG (GU.f (hG _ _ rfl) rfl) (fun hc => PO.lenSl Tryd.underlying22 (Ev.gv rfl hc)) (Nat.le_of_ble_eq_true rfl) ?_
          refine WL.poG (GU.f (hG _ _ rfl) rfl) (fun hc => PO.bin (Ev.gv rfl hc) Ev.const rfl) (Nat.le_of_ble_eq_true rfl) ?_
          refine WL.po (PO.pickOr rfl rfl) (Nat.le_of_ble_eq_true rfl) ?_
          refine WL.nil (keepF (ts := [2, 3, 4, 6, 8, 11, 86]) rfl (toK (by assumption) ?_))
          (try clear hG ops)
          (repeat (first | refine WC.seqK fun K hK => ?_ | refine WC.block ?_ | refine WC.regionG rfl fun ops hG => ?_))
          refine WC.cond (Ev.tmp rfl) (fun c86 => ?_) (fun c86 => ?_)
          · rw [hlong] at c86
            (repeat (first | refine WC.seqK fun K hK => ?_ | refine WC.block ?_ | refine WC.regionG rfl fun ops hG => ?_))
            refine WC.addNil 34 3 ?_
            refine WC.take (r := .pt b2 _) (by (repeat (first | exact Del.here | apply Del.next))) ?_
            refine WC.drawS [2] (.op 0 (.op 1 (.op 2 .nil))) [3, 4] _ [_] mixed (fun _ _ _ _ _ h => h) [] (by kernel_rfl) ?_
            refine SR.po rfl rfl (PO.fieldAddr Tryd.underlying34 rfl (Nat.ne_of_beq_eq_false rfl) (Ev.tmp rfl)) (Nat.le_of_ble_eq_true rfl) ?_
            refine SR.po rfl rfl (PO.load1 Tryd.underlying3 rfl (Ev.tmp rfl) (by (repeat (first | exact List.Mem.head _ | apply List.Mem.tail))) rfl) (Nat.le_of_ble_eq_true rfl) ?_
            refine SR.store rfl rfl rfl (Ev.tmp rfl) Ev.const rfl rfl rfl rfl (by (repeat (first | exact Upd.here | apply Upd.next))) ?_
            refine SR.nil rfl rfl ?_
            refine WL.store rfl (Ev.tmp rfl) (Ev.tmp rfl) rfl rfl rfl rfl (by (repeat (first | exact Upd.here | apply Upd.next))) ?_
            refine WL.store rfl (Ev.tmp rfl) Ev.const rfl rfl rfl rfl (by (repeat (first | exact Upd.here | apply Upd.next))) ?_
            refine WL.nil (keepF (ts := []) rfl (toK (by assumption) ?_))
            (try clear hG ops)
            refine WC.ret (roundRet (.pt b2 (.cells [.slice none 0 0].toArray 22 (0, 0)) :: .row (.slice none 0 0) 34 3 0 [] :: .pt b4 (.cells [.int .i64 3].toArray 23 (0, 0)) :: .pt b3 (.cells [.int .i64 f.no].toArray 3 (0, 0)) :: h) (by (repeat (first | exact List.Sublist.refl _ | refine List.Sublist.cons_cons _ ?_ | apply List.Sublist.cons))) ?_)
            exact ⟨f.no, 3, by rw [hx, hJ]; unfold finS; rw [if_neg (by rw [hce, c64]; decide), if_pos c86, ← hf], rfl⟩
          · rw [hlong] at c86
            have hinv3 := hinv2.close c86 (by simp [takeS])
            have hout3 := hinv3.out
            have hno : ((takeS s x).first.no : Int) = (f.no : Int) := by rw [← hf]
            have hni : (takeS s x).first.ind = f.ind := by rw [← hf]
            refine WC.skip (keepF (ts := [2, 6, 8, 11]) rfl (toK (by assumption) ?_))
            (repeat (first | refine WC.seqK fun K hK => ?_ | refine WC.block ?_ | refine WC.regionG rfl fun ops hG => ?_))
            refine WC.addNil 9 1 ?_
            refine WC.take (r := .row (.slice al s.out.length cl) 34 3 s.out.length (fl encR s.out)) (by (repeat (first | exact Del.here | apply Del.next))) ?_
            refine WC.take (r := .pt b6 _) (by (repeat (first | exact Del.here | apply Del.next))) ?_
            refine WC.take (r := .pt b2 _) (by (repeat (first | exact Del.here | apply Del.next))) ?_
            refine WC.drawS [0, 2, 3, 6, 7] (.op 1 (.op 4 (.op 5 (.op 0 (.op 2 (.op 3 (.op 6 (.op 7 .nil)))))))) [8] _ [_, _, _] mixed (fun _ _ _ _ _ h => h) [] (by kernel_rfl) ?_
            refine SR.po rfl rfl (PO.loadA Tryd.underlying34 rfl rfl (Ev.tmp rfl) (by (repeat (first | exact List.Mem.head _ | apply List.Mem.tail))) rfl) (Nat.le_of_ble_eq_true rfl) ?_
            refine SR.po rfl rfl (PO.fieldAddr Tryd.underlying34 rfl (Nat.ne_of_beq_eq_false rfl) (Ev.tmp rfl)) (Nat.le_of_ble_eq_true rfl) ?_
            refine SR.po rfl rfl (PO.load1 Tryd.underlying3 rfl (Ev.tmp rfl) (by (repeat (first | exact List.Mem.head _ | apply List.Mem.tail))) rfl) (Nat.le_of_ble_eq_true rfl) ?_
            refine SR.poE rfl rfl (fun fr => PO.load1 Tryd.underlying22 rfl (Ev.tmp rfl) (List.mem_append_right _ (by (repeat (first | exact List.Mem.head _ | apply List.Mem.tail)))) rfl) (Nat.le_of_ble_eq_true rfl) ?_
            refine SR.buildSlice rfl rfl EL22 rfl (EvP.cons (Ev.tmp rfl) EvP.nil) rfl rfl (by decide) rfl (Nat.le_of_ble_eq_true rfl) fun b91 => ?_
            refine SR.appendE rfl rfl EL22 (Ev.tmp rfl) (Ev.tmp rfl) (by first | assumption | exact Rd.ofSl (by assumption) | exact Rd.ofPt rfl (by decide) (by (repeat (first | exact List.Mem.head _ | apply List.Mem.tail))) | exact Rd.mono (by assumption) (View.le.refl _) (by (repeat (first | exact List.Sublist.refl _ | refine List.Sublist.cons_cons _ ?_ | apply List.Sublist.cons))) | exact Rd.inRow (by (repeat (first | exact List.Mem.head _ | apply List.Mem.tail))) (by assumption) (by assumption) (by assumption)) (by first | exact one_of rfl | exact fl_ones (fun _ => rfl) _) (close_len (s := takeS s x) rfl) (close_fl' (s := takeS s x) (l := s.out) (no := f.no) (n := f.ind) (t := Lib.join (s.parts ++ [x.text]) [32]) hni rfl rfl hno) (by omega) (by omega) (fun v' => by (repeat (first | exact Upd.here | apply Upd.next))) (Nat.le_of_ble_eq_true rfl) fun a92 c92 => ?_
            refine SR.store rfl rfl rfl (Ev.tmp rfl) (Ev.tmp rfl) rfl rfl rfl rfl (by (repeat (first | exact Upd.here | apply Upd.next))) ?_
            refine SR.store rfl rfl rfl (Ev.tmp rfl) Ev.const rfl rfl rfl rfl (by (repeat (first | exact Upd.here | apply Upd.next))) ?_
            refine SR.nil rfl rfl ?_
            refine WL.store rfl (Ev.tmp rfl) (Ev.tmp rfl) rfl rfl rfl rfl (by (repeat (first | exact Upd.here | apply Upd.next))) ?_
            refine WL.take (r := .pt b2 (.cells [.slice a92 (closeS (takeS s x)).out.length c92].toArray 22 (0, 0))) (by (repeat (first | exact Del.here | apply Del.next))) ?_
            refine WL.take (r := .pt b3 _) (by (repeat (first | exact Del.here | apply Del.next))) ?_
            refine WL.take (r := .pt b4 _) (by (repeat (first | exact Del.here | apply Del.next))) ?_
            refine WL.take (r := .pt b6 _) (by (repeat (first | exact Del.here | apply Del.next))) ?_
            refine WL.take (r := .pt b7 _) (by (repeat (first | exact Del.here | apply Del.next))) ?_
            refine WL.take (r := .pt b8 _) (by (repeat (first | exact Del.here | apply Del.next))) ?_
            refine WL.take (r := .pt b9 _) (by (repeat (first | exact Del.here | apply Del.next))) ?_
            refine WL.take (r := .row (.slice none 0 0) 9 1 0 []) (by (repeat (first | exact Del.here | apply Del.next))) ?_
            refine WL.take (r := .row (.slice a92 (closeS (takeS s x)).out.length c92) 34 3 (closeS (takeS s x)).out.length (fl encR (closeS (takeS s x)).out)) (by (repeat (first | exact Del.here | apply Del.next))) ?_
            have hlen : (pre ++ [x]).length = pre.length + 1 := by simp
            have hrun2 : ∀ post, run ((pre ++ [x]) ++ post) s0 = run post (closeS (takeS s x)) := fun post => by rw [List.append_assoc, List.singleton_append, hJ]; unfold finS; rw [if_neg (by rw [hce, c64]; decide), if_neg (by rw [c86]; decide)]
            have hbb : (closeS (takeS s x)).before = ((f.ind / 2 : Nat) : Int) := by rw [← hni]; rfl
            have hff : (closeS (takeS s x)).first = f := hf.symm
            refine WL.nil (roundNext (.row (.slice a92 (closeS (takeS s x)).out.length c92) 34 3 (closeS (takeS s x)).out.length (fl encR (closeS (takeS s x)).out) :: .row (.slice none 0 0) 9 1 0 [] :: .pt b9 (.cells [.int .i64 x.no].toArray 3 (0, 0)) :: .pt b8 (.cells [.int .i64 ((f.ind / 2 : Nat) : Int)].toArray 3 (0, 0)) :: .pt b7 (.cells (pcL f).toArray 47 (0, 0)) :: .pt b6 (.cells [.slice none 0 0].toArray 38 (0, 0)) :: .pt b4 (.cells [.int .i64 0].toArray 23 (0, 0)) :: .pt b3 (.cells [.int .i64 0].toArray 3 (0, 0)) :: .pt b2 (.cells [.slice a92 (closeS (takeS s x)).out.length c92].toArray 22 (0, 0)) :: h) (by (repeat (first | exact List.Sublist.refl _ | refine List.Sublist.cons_cons _ ?_ | apply List.Sublist.cons))) ?_)
            exact ⟨closeS (takeS s x), a92, c92, none, 0, hrun2, hlen ▸ hinv3, by rw [hbb, hff]; rfl⟩
      · obtain ⟨s, al, cl, ap, cp, hrun, hinv, rfl⟩ := hI
        have hrun := hrun []
        rw [List.append_nil] at hrun
        have hend := hrows.trans hrun
        refine (keepF (ts := [2, 3, 4, 6, 9]) rfl (toK (by assumption) ?_))
        (repeat (first | refine WC.seqK fun K hK => ?_ | refine WC.block ?_ | refine WC.regionG rfl fun ops hG => ?_))
        refine WL.po (PO.load1 Tryd.underlying38 rfl (Ev.tmp rfl) (by (repeat (first | exact List.Mem.head _ | apply List.Mem.tail))) rfl) (Nat.le_of_ble_eq_true rfl) ?_
        refine WL.po (PO.lenSl Tryd.underlying38 (Ev.tmp rfl)) (Nat.le_of_ble_eq_true rfl) ?_
        refine WL.po (PO.bin (Ev.tmp rfl) Ev.const rfl) (Nat.le_of_ble_eq_true rfl) ?_
        refine WL.nil (keepF (ts := [2, 3, 4, 9, 97]) rfl (toK (by assumption) ?_))
        (try clear hG ops)
        (repeat (first | refine WC.seqK fun K hK => ?_ | refine WC.block ?_ | refine WC.regionG rfl fun ops hG => ?_))
        refine WC.cond (Ev.tmp rfl) (fun c97 => ?_) (fun c97 => ?_)
        · replace c97 := of_decide_eq_true c97
          have hp0 : s.parts ≠ [] := fun e => by rw [e] at c97; simp at c97
          rw [run_end hp0] at hend
          (repeat (first | refine WC.seqK fun K hK => ?_ | refine WC.block ?_ | refine WC.regionG rfl fun ops hG => ?_))
          refine WC.addNil 34 3 ?_
          refine WC.take (r := .pt b2 _) (by (repeat (first | exact Del.here | apply Del.next))) ?_
          refine WC.drawS [1] (.op 0 (.op 1 .nil)) [2, 3] _ [_] mixed (fun _ _ _ _ _ h => h) [] (by kernel_rfl) ?_
          refine SR.po rfl rfl (PO.load1 Tryd.underlying3 rfl (Ev.tmp rfl) (by (repeat (first | exact List.Mem.head _ | apply List.Mem.tail))) rfl) (Nat.le_of_ble_eq_true rfl) ?_
          refine SR.store rfl rfl rfl (Ev.tmp rfl) Ev.const rfl rfl rfl rfl (by (repeat (first | exact Upd.here | apply Upd.next))) ?_
          refine SR.nil rfl rfl ?_
          refine WL.store rfl (Ev.tmp rfl) (Ev.tmp rfl) rfl rfl rfl rfl (by (repeat (first | exact Upd.here | apply Upd.next))) ?_
          refine WL.store rfl (Ev.tmp rfl) Ev.const rfl rfl rfl rfl (by (repeat (first | exact Upd.here | apply Upd.next))) ?_
          refine WL.take (r := .pt D _) (by (repeat (first | exact Del.here | apply Del.next))) ?_
          refine WL.nil (keepF (ts := [2, 3, 4]) rfl (toK (by assumption) ?_))
          (try clear hG ops)
          refine WC.ret (endM3 (h' := .row (.slice none 0 0) 34 3 0 [] :: h) (.inl rfl) (.inr ⟨_, _, rfl, rfl, rfl⟩) rfl (RV.cell1 Tryd.underlying22 rfl rfl (by (repeat (first | exact List.Mem.head _ | apply List.Mem.tail))) rfl) (RV.cell1 Tryd.underlying3 rfl rfl (by (repeat (first | exact List.Mem.head _ | apply List.Mem.tail))) rfl) (RV.cell1 Tryd.underlying23 rfl rfl (by (repeat (first | exact List.Mem.head _ | apply List.Mem.tail))) rfl) (View.le.refl m) (by (repeat (first | exact List.Sublist.refl _ | refine List.Sublist.cons_cons _ ?_ | apply List.Sublist.cons))) ?_)
          exact RowsO.bad hend
        · replace c97 := of_decide_eq_false c97
          have hp0 : s.parts = [] := List.eq_nil_of_length_eq_zero (by omega)
          rw [run_done hp0] at hend
          refine WC.skip (keepF (ts := [2, 3, 4]) rfl (toK (by assumption) ?_))
          (repeat (first | refine WC.seqK fun K hK => ?_ | refine WC.block ?_ | refine WC.regionG rfl fun ops hG => ?_))
          refine WL.po (PO.load1 Tryd.underlying22 rfl (Ev.tmp rfl) (by (repeat (first | exact List.Mem.head _ | apply List.Mem.tail))) rfl) (Nat.le_of_ble_eq_true rfl) ?_
          refine WL.store rfl (Ev.tmp rfl) (Ev.tmp rfl) rfl rfl rfl rfl (by (repeat (first | exact Upd.here | apply Upd.next))) ?_
          refine WL.store rfl (Ev.tmp rfl) Ev.const rfl rfl rfl rfl (by (repeat (first | exact Upd.here | apply Upd.next))) ?_
          refine WL.store rfl (Ev.tmp rfl) Ev.const rfl rfl rfl rfl (by (repeat (first | exact Upd.here | apply Upd.next))) ?_
          refine WL.nil (keepF (ts := [2, 3, 4]) rfl (toK (by assumption) ?_))
          (try clear hG ops)
          refine WC.ret (endM3 (h' := .row (.slice al s.out.length cl) 34 3 s.out.length (fl encR s.out) :: h) (.inl rfl) (.inr ⟨_, _, rfl, rfl, rfl⟩) rfl (RV.cell1 Tryd.underlying22 rfl rfl (by (repeat (first | exact List.Mem.head _ | apply List.Mem.tail))) rfl) (RV.cell1 Tryd.underlying3 rfl rfl (by (repeat (first | exact List.Mem.head _ | apply List.Mem.tail))) rfl) (RV.cell1 Tryd.underlying23 rfl rfl (by (repeat (first | exact List.Mem.head _ | apply List.Mem.tail))) rfl) (View.le.refl m) (by (repeat (first | exact List.Sublist.refl _ | refine List.Sublist.cons_cons _ ?_ | apply List.Sublist.cons))) ?_)
          exact RowsO.ok hend
      · obtain ⟨no, e, hr, rfl⟩ := hX
        refine endM3 (h' := .row (.slice none 0 0) 34 3 0 [] :: h) (.inl rfl) (.inr ⟨_, _, rfl, rfl, rfl⟩) rfl (RV.cell1 Tryd.underlying22 rfl rfl (by (repeat (first | exact List.Mem.head _ | apply List.Mem.tail))) rfl) (RV.cell1 Tryd.underlying3 rfl rfl (by (repeat (first | exact List.Mem.head _ | apply List.Mem.tail))) rfl) (RV.cell1 Tryd.underlying23 rfl rfl (by (repeat (first | exact List.Mem.head _ | apply List.Mem.tail))) rfl) (View.le.refl m) (by (repeat (first | exact List.Sublist.refl _ | refine List.Sublist.cons_cons _ ?_ | apply List.Sublist.cons))) ?_
        exact RowsO.bad (hrows.trans hr)
end Go.Proofs.YtmffmpadfpajcaaDoor

/- lex: LexWords, LexMay. -/
import Derived.Test.YtddnoaffkinkkaaDoorLexH
import Derived.Test.YtddnoaffkinkkaaDoorLexR
namespace Go.Proofs.YtddnoaffkinkkaaDoor
open Go.Eng Go.Lx Go.Ty
set_option maxRecDepth 100000
theorem words_law (s : B) (h : List Res) (m : View) (hg : Glob m) (hp : Pow m) (hs : s.length ≤ 140737488355328) : CT Tryd.prog 3 [str s] h m Law := by
  have hs' : s.length ≤ 9223372036854775807 := by omega
  refine CT.body Tryd.call3 Tryd.func3 rfl Tryd.ntmps3 (Nat.le_of_ble_eq_true rfl) rfl ?_
  (repeat (first | refine WC.seqK fun K hK => ?_ | refine WC.block ?_ | refine WC.regionG rfl fun ops hG => ?_))
  refine WL.po (PO.assign Ev.const) (Nat.le_of_ble_eq_true rfl) ?_
  refine WL.nil (keepF (ts := [0]) rfl (toK (by assumption) ?_))
  (try clear hG ops)
  (repeat (first | refine WC.seqK fun K hK => ?_ | refine WC.block ?_ | refine WC.regionG rfl fun ops hG => ?_))
  refine WL.po (PO.move (Ev.tmp rfl)) (Nat.le_of_ble_eq_true rfl) ?_
  refine WL.callP Ev.func (Evs.cons (Ev.tmp rfl) Evs.nil) (name_ct _ _ _ hg (by assumption)) (Nat.le_of_ble_eq_true rfl) ?_
  refine WL.po (PO.move (Ev.tmp rfl)) (Nat.le_of_ble_eq_true rfl) ?_
  refine WL.callP Ev.func (Evs.cons (Ev.tmp rfl) Evs.nil) (nameR_ct _ _ _ (by assumption)) (Nat.le_of_ble_eq_true rfl) ?_
  refine WL.po (PO.eqlB Tryd.underlying4 (Ev.tmp rfl) (Ev.tmp rfl)) (Nat.le_of_ble_eq_true rfl) ?_
  refine WL.po (PO.move (Ev.tmp rfl)) (Nat.le_of_ble_eq_true rfl) ?_
  refine WL.poG (GU.t (hG _ _ rfl) rfl) (fun hc => PO.move (Ev.tmp rfl)) (Nat.le_of_ble_eq_true rfl) ?_
  refine WL.callG (GU.t (hG _ _ rfl) rfl) (fun hc => ⟨Ev.func, (Evs.cons (Ev.gv rfl hc) Evs.nil), key_ct _ _ _ hg (by assumption)⟩) (Nat.le_of_ble_eq_true rfl) ?_
  refine WL.poG (GU.t (hG _ _ rfl) rfl) (fun hc => PO.move (Ev.tmp rfl)) (Nat.le_of_ble_eq_true rfl) ?_
  refine WL.callG (GU.t (hG _ _ rfl) rfl) (fun hc => ⟨Ev.func, (Evs.cons (Ev.gv rfl hc) Evs.nil), keyR_ct _ _ _⟩) (Nat.le_of_ble_eq_true rfl) ?_
  refine WL.poG (GU.t (hG _ _ rfl) rfl) (fun hc => PO.eqlB Tryd.underlying4 (Ev.gv rfl hc) (Ev.gv rfl hc)) (Nat.le_of_ble_eq_true rfl) ?_
  refine WL.po (PO.pickAnd rfl rfl) (Nat.le_of_ble_eq_true rfl) ?_
  refine WL.po (PO.move (Ev.tmp rfl)) (Nat.le_of_ble_eq_true rfl) ?_
  refine WL.callG (GU.t (hG _ _ rfl) rfl) (fun hc => ⟨Ev.func, Evs.nil, awake_ct _ _ hg hp⟩) (Nat.le_of_ble_eq_true rfl) ?_
  refine WL.po (PO.pickAnd rfl rfl) (Nat.le_of_ble_eq_true rfl) ?_
  refine WL.po (PO.assign (Ev.tmp rfl)) (Nat.le_of_ble_eq_true rfl) ?_
  refine WL.nil (keepF (ts := [2]) rfl (toK (by assumption) ?_))
  (try clear hG ops)
  refine WC.ret (end1 (h' := h) (.inl rfl) rfl (RV.tmp rfl) (View.le.refl m) (by (repeat (first | exact List.Sublist.refl _ | refine List.Sublist.cons_cons _ ?_ | apply List.Sublist.cons))) ?_)
  exact congrArg Value.bool (by rw [name_eq, key_eq]; simp)
theorem may_law (t : Tok) (h : List Res) (m : View) (hg : Glob m) (hp : Pow m) (hs : t.text.length ≤ 140737488355328) : CT Tryd.prog 4 [tokV t] h m Law := by
  refine CT.body Tryd.call4 Tryd.func4 rfl Tryd.ntmps4 (Nat.le_of_ble_eq_true rfl) rfl ?_
  (repeat (first | refine WC.seqK fun K hK => ?_ | refine WC.block ?_ | refine WC.regionG rfl fun ops hG => ?_))
  refine WL.box (Ev.tmp rfl) rfl (Nat.le_of_ble_eq_true rfl) fun b1 => ?_
  refine WL.po (PO.assign Ev.const) (Nat.le_of_ble_eq_true rfl) ?_
  refine WL.nil (keepF (ts := [1]) rfl (toK (by assumption) ?_))
  (try clear hG ops)
  (repeat (first | refine WC.seqK fun K hK => ?_ | refine WC.block ?_ | refine WC.regionG rfl fun ops hG => ?_))
  refine WC.drawS [1] [0, 2, 1] [3, 4, 5, 6, 7, 8] _ [] mixed (fun _ _ _ _ _ h => h) [] (by kernel_rfl) ?_
  refine SR.po rfl rfl (PO.loadA Tryd.underlying26 rfl rfl (Ev.tmp rfl) (by (repeat (first | exact List.Mem.head _ | apply List.Mem.tail))) rfl) (Nat.le_of_ble_eq_true rfl) ?_
  refine SR.po rfl rfl (PO.loadA Tryd.underlying26 rfl rfl (Ev.tmp rfl) (by (repeat (first | exact List.Mem.head _ | apply List.Mem.tail))) rfl) (Nat.le_of_ble_eq_true rfl) ?_
  refine SR.callP rfl rfl Ev.func (Evs.cons (Ev.tmp rfl) Evs.nil) (fun fr => lxMay_ct t _ _ hg hs) (Nat.le_of_ble_eq_true rfl) ?_
  refine SR.nil rfl rfl ?_
  refine WL.callP Ev.func (Evs.cons (Ev.tmp rfl) Evs.nil) (rMay_ct t _ _ hs) (Nat.le_of_ble_eq_true rfl) ?_
  refine WL.po (PO.eqlB Tryd.underlying4 (Ev.tmp rfl) (Ev.tmp rfl)) (Nat.le_of_ble_eq_true rfl) ?_
  refine WL.po (PO.move (Ev.tmp rfl)) (Nat.le_of_ble_eq_true rfl) ?_
  refine WL.callG (GU.t rfl rfl) (fun hc => ⟨Ev.func, Evs.nil, awake_ct _ _ hg hp⟩) (Nat.le_of_ble_eq_true rfl) ?_
  refine WL.po (PO.pickAnd rfl rfl) (Nat.le_of_ble_eq_true rfl) ?_
  refine WL.po (PO.assign (Ev.tmp rfl)) (Nat.le_of_ble_eq_true rfl) ?_
  refine WL.nil (keepF (ts := [2]) rfl (toK (by assumption) ?_))
  (try clear hG ops)
  refine WC.ret (end1 (h' := h) (.inl rfl) rfl (RV.tmp rfl) (View.le.refl m) (by (repeat (first | exact List.Sublist.refl _ | refine List.Sublist.cons_cons _ ?_ | apply List.Sublist.cons))) ?_)
  exact congrArg Value.bool (by simp)
end Go.Proofs.YtddnoaffkinkkaaDoor

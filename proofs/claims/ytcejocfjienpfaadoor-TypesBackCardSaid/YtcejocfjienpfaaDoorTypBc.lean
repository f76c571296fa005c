/- types: TypesFront, TypesBack. -/
import Derived.Test.YtcejocfjienpfaaDoorTypK
import Derived.Test.YtcejocfjienpfaaDoorTypBb
namespace Go.Proofs.YtcejocfjienpfaaDoor
open Go.Eng Go.Lx Go.Ty
set_option maxRecDepth 100000
theorem tfront_law (a : Option Addr) (k c : Nat) (l : List Tok) (h : List Res) (m : View) (hg : Glob m) (hs : Rd m h a k c 4 (fl encK l)) (hT : TkOk l) :
    CT Tryd.prog 4 [.slice a k c] h m Law := by
  have hl := hs.lenF encK_len (by decide)
  subst hl
  have hmx := hs.mx
  have hle := hs.le
  obtain ⟨⟨u, n, e⟩, hF⟩ : ∃ F, front l = F := ⟨_, rfl⟩
  have cA : ∀ a' k' c' h', Rd m h' a' k' c' 4 (fl encK l) → CT Tryd.prog 15 [.slice a' k' c'] h' m (Pure1 h' (.tuple #[tyV u, .int .i64 n, .int .i64 e])) := fun a' k' c' h' hs' => by
    have := front_ct a' k' c' l h' m hg hs' hT
    rw [hF] at this
    exact this
  have cB : ∀ h', h.Sublist h' → CT Tryd.prog 16 [.slice a l.length c] h' m (Pure1 h' (.tuple #[tyV u, .int .i64 n, .int .i64 e])) := fun h' hs' => by
    have := frontR_ct a l.length c l h' m (hs.mono (View.le.refl _) hs') hT
    rw [hF] at this
    exact this
  refine CT.body Tryd.call4 Tryd.func4 rfl Tryd.ntmps4 (Nat.le_of_ble_eq_true rfl) rfl ?_
  (repeat (first | refine WC.seqK fun K hK => ?_ | refine WC.block ?_ | refine WC.regionG rfl fun ops hG => ?_))
  refine WL.po (PO.assign Ev.const) (Nat.le_of_ble_eq_true rfl) ?_
  refine WL.nil (keepF (ts := [0]) rfl (toK (by assumption) ?_))
  (try clear hG ops)
  (repeat (first | refine WC.seqK fun K hK => ?_ | refine WC.block ?_ | refine WC.regionG rfl fun ops hG => ?_))
  refine WL.po (PO.move (Ev.tmp rfl)) (Nat.le_of_ble_eq_true rfl) ?_
  refine WL.po (PO.lenSl Tryd.underlying25 (Ev.tmp rfl)) (Nat.le_of_ble_eq_true rfl) ?_
  refine WL.po (PO.bin (Ev.tmp rfl) Ev.const rfl) (Nat.le_of_ble_eq_true rfl) ?_
  refine WL.nil (keepF (ts := [0, 12]) rfl (toK (by assumption) ?_))
  (try clear hG ops)
  (repeat (first | refine WC.seqK fun K hK => ?_ | refine WC.block ?_ | refine WC.regionG rfl fun ops hG => ?_))
  refine WC.cond (Ev.tmp rfl) (fun c12 => ?_) (fun c12 => ?_)
  · replace c12 := of_decide_eq_true c12
    (repeat (first | refine WC.seqK fun K hK => ?_ | refine WC.block ?_ | refine WC.regionG rfl fun ops hG => ?_))
    refine WL.callP Ev.func Evs.nil (head_ct _ _ hg) (Nat.le_of_ble_eq_true rfl) ?_
    refine WL.po (PO.assign (Ev.tmp rfl)) (Nat.le_of_ble_eq_true rfl) ?_
    refine WL.nil (keepF (ts := [2]) rfl (toK (by assumption) ?_))
    (try clear hG ops)
    refine WC.ret (end1 (h' := h) (.inl rfl) rfl (RV.tmp rfl) (View.le.refl m) (by (repeat (first | exact List.Sublist.refl _ | refine List.Sublist.cons_cons _ ?_ | apply List.Sublist.cons))) ?_)
    rfl
  · replace c12 := of_decide_eq_false c12
    refine WC.skip (keepF (ts := [0]) rfl (toK (by assumption) ?_))
    (repeat (first | refine WC.seqK fun K hK => ?_ | refine WC.block ?_ | refine WC.regionG rfl fun ops hG => ?_))
    refine WL.buildSlice0 EL25 (Nat.le_of_ble_eq_true rfl) fun b14 => ?_
    refine WL.po (PO.move (Ev.tmp rfl)) (Nat.le_of_ble_eq_true rfl) ?_
    refine WL.appendE EL25 (Ev.tmp rfl) (Ev.tmp rfl) (by first | assumption | exact Rd.ofSl (by assumption) | exact Rd.ofPt rfl (by decide) (by (repeat (first | exact List.Mem.head _ | apply List.Mem.tail))) | exact Rd.mono (by assumption) (View.le.refl _) (by (repeat (first | exact List.Sublist.refl _ | refine List.Sublist.cons_cons _ ?_ | apply List.Sublist.cons))) | exact Rd.inRow (by (repeat (first | exact List.Mem.head _ | apply List.Mem.tail))) (by assumption) (by assumption) (by assumption)) (by first | exact one_of rfl | exact fl_ones (fun _ => rfl) _) (Nat.zero_add _) (List.nil_append _) (by omega) (by omega) (fun v' => by (repeat (first | exact Upd.here | apply Upd.next))) (Nat.le_of_ble_eq_true rfl) fun a16 c16 => ?_
    refine WL.knowRow (a := a16) (by (repeat (first | exact List.Mem.head _ | apply List.Mem.tail))) fun p16 q16 r16 => ?_
    refine WL.po (PO.assign (Ev.tmp rfl)) (Nat.le_of_ble_eq_true rfl) ?_
    refine WL.nil (keepF (ts := [0, 3]) rfl (toK (by assumption) ?_))
    (try clear hG ops)
    (repeat (first | refine WC.seqK fun K hK => ?_ | refine WC.block ?_ | refine WC.regionG rfl fun ops hG => ?_))
    refine WL.po (PO.move (Ev.tmp rfl)) (Nat.le_of_ble_eq_true rfl) ?_
    refine WL.callP Ev.func (Evs.cons (Ev.tmp rfl) Evs.nil) (cA _ _ _ _ (Rd.inRow (by (repeat (first | exact List.Mem.head _ | apply List.Mem.tail))) r16 p16 q16)) (Nat.le_of_ble_eq_true rfl) ?_
    refine WL.po (PO.move (Ev.tmp rfl)) (Nat.le_of_ble_eq_true rfl) ?_
    refine WL.po (PO.extract (Ev.tmp rfl) rfl) (Nat.le_of_ble_eq_true rfl) ?_
    refine WL.po (PO.extract (Ev.tmp rfl) rfl) (Nat.le_of_ble_eq_true rfl) ?_
    refine WL.po (PO.extract (Ev.tmp rfl) rfl) (Nat.le_of_ble_eq_true rfl) ?_
    refine WL.alloc rfl rfl (Nat.le_of_ble_eq_true rfl) fun b4 => ?_
    refine WL.store rfl (Ev.tmp rfl) (Ev.tmp rfl) rfl rfl rfl rfl (by (repeat (first | exact Upd.here | apply Upd.next))) ?_
    refine WL.po (PO.assign (Ev.tmp rfl)) (Nat.le_of_ble_eq_true rfl) ?_
    refine WL.po (PO.assign (Ev.tmp rfl)) (Nat.le_of_ble_eq_true rfl) ?_
    refine WL.nil (keepF (ts := [0, 3, 4, 5, 6]) rfl (toK (by assumption) ?_))
    (try clear hG ops)
    (repeat (first | refine WC.seqK fun K hK => ?_ | refine WC.block ?_ | refine WC.regionG rfl fun ops hG => ?_))
    refine WL.po (PO.move (Ev.tmp rfl)) (Nat.le_of_ble_eq_true rfl) ?_
    refine WL.callP Ev.func (Evs.cons (Ev.tmp rfl) Evs.nil) (cB _ (by (repeat (first | exact List.Sublist.refl _ | refine List.Sublist.cons_cons _ ?_ | apply List.Sublist.cons)))) (Nat.le_of_ble_eq_true rfl) ?_
    refine WL.po (PO.move (Ev.tmp rfl)) (Nat.le_of_ble_eq_true rfl) ?_
    refine WL.po (PO.extract (Ev.tmp rfl) rfl) (Nat.le_of_ble_eq_true rfl) ?_
    refine WL.po (PO.extract (Ev.tmp rfl) rfl) (Nat.le_of_ble_eq_true rfl) ?_
    refine WL.po (PO.extract (Ev.tmp rfl) rfl) (Nat.le_of_ble_eq_true rfl) ?_
    refine WL.alloc rfl rfl (Nat.le_of_ble_eq_true rfl) fun b7 => ?_
    refine WL.store rfl (Ev.tmp rfl) (Ev.tmp rfl) rfl rfl rfl rfl (by (repeat (first | exact Upd.here | apply Upd.next))) ?_
    refine WL.po (PO.assign (Ev.tmp rfl)) (Nat.le_of_ble_eq_true rfl) ?_
    refine WL.po (PO.assign (Ev.tmp rfl)) (Nat.le_of_ble_eq_true rfl) ?_
    refine WL.nil (keepF (ts := [0, 3, 4, 5, 6, 7, 8, 9]) rfl (toK (by assumption) ?_))
    (try clear hG ops)
    (repeat (first | refine WC.seqK fun K hK => ?_ | refine WC.block ?_ | refine WC.regionG rfl fun ops hG => ?_))
    refine WL.po (PO.loadA Tryd.underlying24 rfl rfl (Ev.tmp rfl) (by (repeat (first | exact List.Mem.head _ | apply List.Mem.tail))) rfl) (Nat.le_of_ble_eq_true rfl) ?_
    refine WL.po (PO.loadA Tryd.underlying24 rfl rfl (Ev.tmp rfl) (by (repeat (first | exact List.Mem.head _ | apply List.Mem.tail))) rfl) (Nat.le_of_ble_eq_true rfl) ?_
    refine WL.po (PO.eqlA Tryd.underlying24 (by kernel_rfl) (by kernel_rfl) (Ev.tmp rfl) (Ev.tmp rfl) rfl) (Nat.le_of_ble_eq_true rfl) ?_
    refine WL.po (PO.move (Ev.tmp rfl)) (Nat.le_of_ble_eq_true rfl) ?_
    refine WL.poG (GU.t (hG _ _ rfl) rfl) (fun hc => PO.move (Ev.tmp rfl)) (Nat.le_of_ble_eq_true rfl) ?_
    refine WL.poG (GU.t (hG _ _ rfl) rfl) (fun hc => PO.move (Ev.tmp rfl)) (Nat.le_of_ble_eq_true rfl) ?_
    refine WL.poG (GU.t (hG _ _ rfl) rfl) (fun hc => PO.bin (Ev.gv rfl hc) (Ev.gv rfl hc) rfl) (Nat.le_of_ble_eq_true rfl) ?_
    refine WL.po (PO.pickAnd rfl rfl) (Nat.le_of_ble_eq_true rfl) ?_
    refine WL.po (PO.move (Ev.tmp rfl)) (Nat.le_of_ble_eq_true rfl) ?_
    refine WL.poG (GU.t (hG _ _ rfl) rfl) (fun hc => PO.move (Ev.tmp rfl)) (Nat.le_of_ble_eq_true rfl) ?_
    refine WL.poG (GU.t (hG _ _ rfl) rfl) (fun hc => PO.move (Ev.tmp rfl)) (Nat.le_of_ble_eq_true rfl) ?_
    refine WL.poG (GU.t (hG _ _ rfl) rfl) (fun hc => PO.bin (Ev.gv rfl hc) (Ev.gv rfl hc) rfl) (Nat.le_of_ble_eq_true rfl) ?_
    refine WL.po (PO.pickAnd rfl rfl) (Nat.le_of_ble_eq_true rfl) ?_
    refine WL.po (PO.move (Ev.tmp rfl)) (Nat.le_of_ble_eq_true rfl) ?_
    refine WL.poG (GU.t (hG _ _ rfl) rfl) (fun hc => PO.move (Ev.tmp rfl)) (Nat.le_of_ble_eq_true rfl) ?_
    refine WL.poG (GU.t (hG _ _ rfl) rfl) (fun hc => PO.move (Ev.tmp rfl)) (Nat.le_of_ble_eq_true rfl) ?_
    refine WL.callG (GU.t (hG _ _ rfl) rfl) (fun hc => ⟨Ev.func, (Evs.cons (Ev.gv rfl hc) (Evs.cons (Ev.gv rfl hc) Evs.nil)), equal13_ct _ _ _ _ _ _ l l _ _ (Rd.inRow (by (repeat (first | exact List.Mem.head _ | apply List.Mem.tail))) r16 p16 q16) (by first | assumption | exact Rd.ofSl (by assumption) | exact Rd.ofPt rfl (by decide) (by (repeat (first | exact List.Mem.head _ | apply List.Mem.tail))) | exact Rd.mono (by assumption) (View.le.refl _) (by (repeat (first | exact List.Sublist.refl _ | refine List.Sublist.cons_cons _ ?_ | apply List.Sublist.cons))) | exact Rd.inRow (by (repeat (first | exact List.Mem.head _ | apply List.Mem.tail))) (by assumption) (by assumption) (by assumption))⟩) (Nat.le_of_ble_eq_true rfl) ?_
    refine WL.po (PO.pickAnd rfl rfl) (Nat.le_of_ble_eq_true rfl) ?_
    refine WL.po (PO.move (Ev.tmp rfl)) (Nat.le_of_ble_eq_true rfl) ?_
    refine WL.callG (GU.t (hG _ _ rfl) rfl) (fun hc => ⟨Ev.func, Evs.nil, head_ct _ _ hg⟩) (Nat.le_of_ble_eq_true rfl) ?_
    refine WL.po (PO.pickAnd rfl rfl) (Nat.le_of_ble_eq_true rfl) ?_
    refine WL.po (PO.assign (Ev.tmp rfl)) (Nat.le_of_ble_eq_true rfl) ?_
    refine WL.nil (keepF (ts := [2]) rfl (toK (by assumption) ?_))
    (try clear hG ops)
    refine WC.ret (end1 (h' := h) (.inl rfl) rfl (RV.tmp rfl) (View.le.refl m) (by (repeat (first | exact List.Sublist.refl _ | refine List.Sublist.cons_cons _ ?_ | apply List.Sublist.cons))) ?_)
    exact congrArg Value.bool (by rw [eqL_self eqK_iff]; simp)
theorem tback_law (t : Ty) (a : Option Addr) (k c : Nat) (l : List Tok) (h : List Res) (m : View) (hg : Glob m) (ht : t.proto.length ≤ 9223372036854775807) (hs : Rd m h a k c 4 (fl encK l)) (hT : TkOk l) :
    CT Tryd.prog 7 [tyV t, .slice a k c] h m Law := by
  have hl := hs.lenF encK_len (by decide)
  subst hl
  have hmx := hs.mx
  have hle := hs.le
  obtain ⟨⟨u, n, e⟩, hF⟩ : ∃ F, front l = F := ⟨_, rfl⟩
  have cA : ∀ h', h.Sublist h' → CT Tryd.prog 15 [.slice a l.length c] h' m (Pure1 h' (.tuple #[tyV u, .int .i64 n, .int .i64 e])) := fun h' hs' => by
    have := front_ct a l.length c l h' m hg (hs.mono (View.le.refl _) hs') hT
    rw [hF] at this
    exact this
  have hor := front_or l hF
  refine CT.body Tryd.call7 Tryd.func7 rfl Tryd.ntmps7 (Nat.le_of_ble_eq_true rfl) rfl ?_
  (repeat (first | refine WC.seqK fun K hK => ?_ | refine WC.block ?_ | refine WC.regionG rfl fun ops hG => ?_))
  refine WL.box (Ev.tmp rfl) rfl (Nat.le_of_ble_eq_true rfl) fun b2 => ?_
  refine WL.po (PO.assign Ev.const) (Nat.le_of_ble_eq_true rfl) ?_
  refine WL.nil (keepF (ts := [1, 2]) rfl (toK (by assumption) ?_))
  (try clear hG ops)
  (repeat (first | refine WC.seqK fun K hK => ?_ | refine WC.block ?_ | refine WC.regionG rfl fun ops hG => ?_))
  refine WL.po (PO.move (Ev.tmp rfl)) (Nat.le_of_ble_eq_true rfl) ?_
  refine WL.po (PO.lenSl Tryd.underlying25 (Ev.tmp rfl)) (Nat.le_of_ble_eq_true rfl) ?_
  refine WL.po (PO.bin (Ev.tmp rfl) Ev.const rfl) (Nat.le_of_ble_eq_true rfl) ?_
  refine WL.nil (keepF (ts := [1, 2, 17]) rfl (toK (by assumption) ?_))
  (try clear hG ops)
  (repeat (first | refine WC.seqK fun K hK => ?_ | refine WC.block ?_ | refine WC.regionG rfl fun ops hG => ?_))
  refine WC.cond (Ev.tmp rfl) (fun c17 => ?_) (fun c17 => ?_)
  · replace c17 := of_decide_eq_true c17
    (repeat (first | refine WC.seqK fun K hK => ?_ | refine WC.block ?_ | refine WC.regionG rfl fun ops hG => ?_))
    refine WL.callP Ev.func Evs.nil (head_ct _ _ hg) (Nat.le_of_ble_eq_true rfl) ?_
    refine WL.po (PO.assign (Ev.tmp rfl)) (Nat.le_of_ble_eq_true rfl) ?_
    refine WL.nil (keepF (ts := [4]) rfl (toK (by assumption) ?_))
    (try clear hG ops)
    refine WC.ret (end1 (h' := h) (.inl rfl) rfl (RV.tmp rfl) (View.le.refl m) (by (repeat (first | exact List.Sublist.refl _ | refine List.Sublist.cons_cons _ ?_ | apply List.Sublist.cons))) ?_)
    rfl
  · replace c17 := of_decide_eq_false c17
    refine WC.skip (keepF (ts := [1, 2]) rfl (toK (by assumption) ?_))
    (repeat (first | refine WC.seqK fun K hK => ?_ | refine WC.block ?_ | refine WC.regionG rfl fun ops hG => ?_))
    refine WL.po (PO.loadA Tryd.underlying24 rfl rfl (Ev.tmp rfl) (by (repeat (first | exact List.Mem.head _ | apply List.Mem.tail))) rfl) (Nat.le_of_ble_eq_true rfl) ?_
    refine WL.callK Ev.func (Evs.cons (Ev.tmp rfl) Evs.nil) (tokens_ct t _ _ hg ht) (Nat.le_of_ble_eq_true rfl) ?_
    rintro _ _ ⟨a21, cp21, rfl, rfl⟩
    refine WL.knowRow (a := a21) (by (repeat (first | exact List.Mem.head _ | apply List.Mem.tail))) fun p21 q21 r21 => ?_
    refine WL.po (PO.move (Ev.tmp rfl)) (Nat.le_of_ble_eq_true rfl) ?_
    refine WL.po (PO.extract (Ev.tmp rfl) rfl) (Nat.le_of_ble_eq_true rfl) ?_
    refine WL.po (PO.extract (Ev.tmp rfl) rfl) (Nat.le_of_ble_eq_true rfl) ?_
    refine WL.po (PO.assign (Ev.tmp rfl)) (Nat.le_of_ble_eq_true rfl) ?_
    refine WL.po (PO.assign (Ev.tmp rfl)) (Nat.le_of_ble_eq_true rfl) ?_
    refine WL.nil (keepF (ts := [1, 2, 5, 6]) rfl (toK (by assumption) ?_))
    (try clear hG ops)
    (repeat (first | refine WC.seqK fun K hK => ?_ | refine WC.block ?_ | refine WC.regionG rfl fun ops hG => ?_))
    refine WL.po (PO.move (Ev.tmp rfl)) (Nat.le_of_ble_eq_true rfl) ?_
    refine WL.po (PO.bin (Ev.tmp rfl) Ev.const rfl) (Nat.le_of_ble_eq_true rfl) ?_
    refine WL.nil (keepF (ts := [1, 2, 5, 25]) rfl (toK (by assumption) ?_))
    (try clear hG ops)
    (repeat refine WC.seqK fun K hK => ?_)
    refine WC.cutK (by assumption) [1] rfl (fun F' h' => ∃ z : Unit, (True) ∧ F' = [] ∧ .pt b2 (.cells (cellT t).toArray 24 (0, 0)) :: h = h') ?_ ?_
    · (repeat (first | refine WC.seqK fun K hK => ?_ | refine WC.block ?_ | refine WC.regionG rfl fun ops hG => ?_))
      refine WC.cond (Ev.tmp rfl) (fun c25 => ?_) (fun c25 => ?_)
      · have hm : may t = true := by
          cases hm : may t with
          | true => rfl
          | false => rw [tokens_no hm] at c25; simp at c25
        have e1 : (tokens t).1 = toks t := by rw [tokens_yes hm]
        have hlen := toks_len t
        rw [e1] at p21 r21
        refine WC.resE (h' := .row (.slice a21 (toks t).length cp21) 53 4 (toks t).length (fl encK (toks t)) :: .pt b2 (.cells (cellT t).toArray 24 (0, 0)) :: h) (by rw [e1]) ?_
        rw [e1]
        have cB : ∀ a' k' c' h', Rd m h' a' k' c' 4 (fl encK (toks t ++ l)) → CT Tryd.prog 15 [.slice a' k' c'] h' m (Pure1 h' (.tuple #[tyV t, .int .i64 (toks t).length, .int .i64 0])) := fun a' k' c' h' hs' => by
          have := front_ct a' k' c' (toks t ++ l) h' m hg hs' (tkOk_app hm ht hT)
          rw [front_back hm ht] at this
          exact this
        (repeat (first | refine WC.seqK fun K hK => ?_ | refine WC.block ?_ | refine WC.regionG rfl fun ops hG => ?_))
        refine WL.po (PO.move (Ev.tmp rfl)) (Nat.le_of_ble_eq_true rfl) ?_
        refine WL.po (PO.lenSl Tryd.underlying25 (Ev.tmp rfl)) (Nat.le_of_ble_eq_true rfl) ?_
        refine WL.po (PO.bin (Ev.tmp rfl) Ev.const rfl) (Nat.le_of_ble_eq_true rfl) ?_
        refine WL.po (PO.move (Ev.tmp rfl)) (Nat.le_of_ble_eq_true rfl) ?_
        refine WL.poG (GU.f (hG _ _ rfl) rfl) (fun hc => PO.move (Ev.tmp rfl)) (Nat.le_of_ble_eq_true rfl) ?_
        refine WL.poG (GU.f (hG _ _ rfl) rfl) (fun hc => PO.lenSl Tryd.underlying25 (Ev.gv rfl hc)) (Nat.le_of_ble_eq_true rfl) ?_
        refine WL.poG (GU.f (hG _ _ rfl) rfl) (fun hc => PO.bin (Ev.gv rfl hc) Ev.const rfl) (Nat.le_of_ble_eq_true rfl) ?_
        refine WL.po (PO.pickOr rfl rfl) (Nat.le_of_ble_eq_true rfl) ?_
        refine WL.nil (keepF (ts := [1, 2, 5, 33]) rfl (toK (by assumption) ?_))
        (try clear hG ops)
        (repeat (first | refine WC.seqK fun K hK => ?_ | refine WC.block ?_ | refine WC.regionG rfl fun ops hG => ?_))
        refine WC.cond (Ev.tmp rfl) (fun c33 => ?_) (fun c33 => ?_)
        · simp at c33; omega
        · refine WC.skip (keepF (ts := [1, 2, 5]) rfl (toK (by assumption) ?_))
          (repeat (first | refine WC.seqK fun K hK => ?_ | refine WC.block ?_ | refine WC.regionG rfl fun ops hG => ?_))
          refine WL.buildSlice0 EL25 (Nat.le_of_ble_eq_true rfl) fun b35 => ?_
          refine WL.po (PO.move (Ev.tmp rfl)) (Nat.le_of_ble_eq_true rfl) ?_
          refine WL.appendE EL25 (Ev.tmp rfl) (Ev.tmp rfl) (by first | assumption | exact Rd.ofSl (by assumption) | exact Rd.ofPt rfl (by decide) (by (repeat (first | exact List.Mem.head _ | apply List.Mem.tail))) | exact Rd.mono (by assumption) (View.le.refl _) (by (repeat (first | exact List.Sublist.refl _ | refine List.Sublist.cons_cons _ ?_ | apply List.Sublist.cons))) | exact Rd.inRow (by (repeat (first | exact List.Mem.head _ | apply List.Mem.tail))) (by assumption) (by assumption) (by assumption)) (by first | exact one_of rfl | exact fl_ones (fun _ => rfl) _) (Nat.zero_add _) (List.nil_append _) (by omega) (by omega) (fun v' => by (repeat (first | exact Upd.here | apply Upd.next))) (Nat.le_of_ble_eq_true rfl) fun a37 c37 => ?_
          refine WL.po (PO.move (Ev.tmp rfl)) (Nat.le_of_ble_eq_true rfl) ?_
          refine WL.appendE EL25 (Ev.tmp rfl) (Ev.tmp rfl) (by first | assumption | exact Rd.ofSl (by assumption) | exact Rd.ofPt rfl (by decide) (by (repeat (first | exact List.Mem.head _ | apply List.Mem.tail))) | exact Rd.mono (by assumption) (View.le.refl _) (by (repeat (first | exact List.Sublist.refl _ | refine List.Sublist.cons_cons _ ?_ | apply List.Sublist.cons))) | exact Rd.inRow (by (repeat (first | exact List.Mem.head _ | apply List.Mem.tail))) (by assumption) (by assumption) (by assumption)) (by first | exact one_of rfl | exact fl_ones (fun _ => rfl) _) rfl ((fl_app (enc := encK) (toks t) l).symm) (by omega) (by omega) (fun v' => by (repeat (first | exact Upd.here | apply Upd.next))) (Nat.le_of_ble_eq_true rfl) fun a39 c39 => ?_
          refine WL.knowRow (a := a39) (by (repeat (first | exact List.Mem.head _ | apply List.Mem.tail))) fun p39 q39 r39 => ?_
          refine WL.callP Ev.func (Evs.cons (Ev.tmp rfl) Evs.nil) (cB _ _ _ _ (Rd.inRow (by (repeat (first | exact List.Mem.head _ | apply List.Mem.tail))) r39 p39 q39)) (Nat.le_of_ble_eq_true rfl) ?_
          refine WL.po (PO.move (Ev.tmp rfl)) (Nat.le_of_ble_eq_true rfl) ?_
          refine WL.po (PO.extract (Ev.tmp rfl) rfl) (Nat.le_of_ble_eq_true rfl) ?_
          refine WL.po (PO.extract (Ev.tmp rfl) rfl) (Nat.le_of_ble_eq_true rfl) ?_
          refine WL.po (PO.extract (Ev.tmp rfl) rfl) (Nat.le_of_ble_eq_true rfl) ?_
          refine WL.alloc rfl rfl (Nat.le_of_ble_eq_true rfl) fun b7 => ?_
          refine WL.store rfl (Ev.tmp rfl) (Ev.tmp rfl) rfl rfl rfl rfl (by (repeat (first | exact Upd.here | apply Upd.next))) ?_
          refine WL.po (PO.assign (Ev.tmp rfl)) (Nat.le_of_ble_eq_true rfl) ?_
          refine WL.po (PO.assign (Ev.tmp rfl)) (Nat.le_of_ble_eq_true rfl) ?_
          refine WL.nil (keepF (ts := [1, 2, 5, 7, 8, 9]) rfl (toK (by assumption) ?_))
          (try clear hG ops)
          (repeat (first | refine WC.seqK fun K hK => ?_ | refine WC.block ?_ | refine WC.regionG rfl fun ops hG => ?_))
          refine WL.po (PO.loadA Tryd.underlying24 rfl rfl (Ev.tmp rfl) (by (repeat (first | exact List.Mem.head _ | apply List.Mem.tail))) rfl) (Nat.le_of_ble_eq_true rfl) ?_
          refine WL.po (PO.loadA Tryd.underlying24 rfl rfl (Ev.tmp rfl) (by (repeat (first | exact List.Mem.head _ | apply List.Mem.tail))) rfl) (Nat.le_of_ble_eq_true rfl) ?_
          refine WL.po (PO.neqA Tryd.underlying24 (by kernel_rfl) (by kernel_rfl) (Ev.tmp rfl) (Ev.tmp rfl) rfl) (Nat.le_of_ble_eq_true rfl) ?_
          refine WL.po (PO.move (Ev.tmp rfl)) (Nat.le_of_ble_eq_true rfl) ?_
          refine WL.poG (GU.f (hG _ _ rfl) rfl) (fun hc => PO.move (Ev.tmp rfl)) (Nat.le_of_ble_eq_true rfl) ?_
          refine WL.poG (GU.f (hG _ _ rfl) rfl) (fun hc => PO.move (Ev.tmp rfl)) (Nat.le_of_ble_eq_true rfl) ?_
          refine WL.poG (GU.f (hG _ _ rfl) rfl) (fun hc => PO.lenSl Tryd.underlying25 (Ev.gv rfl hc)) (Nat.le_of_ble_eq_true rfl) ?_
          refine WL.poG (GU.f (hG _ _ rfl) rfl) (fun hc => PO.bin (Ev.gv rfl hc) (Ev.gv rfl hc) rfl) (Nat.le_of_ble_eq_true rfl) ?_
          refine WL.po (PO.pickOr rfl rfl) (Nat.le_of_ble_eq_true rfl) ?_
          refine WL.po (PO.move (Ev.tmp rfl)) (Nat.le_of_ble_eq_true rfl) ?_
          refine WL.poG (GU.f (hG _ _ rfl) rfl) (fun hc => PO.move (Ev.tmp rfl)) (Nat.le_of_ble_eq_true rfl) ?_
          refine WL.poG (GU.f (hG _ _ rfl) rfl) (fun hc => PO.bin (Ev.gv rfl hc) Ev.const rfl) (Nat.le_of_ble_eq_true rfl) ?_
          refine WL.po (PO.pickOr rfl rfl) (Nat.le_of_ble_eq_true rfl) ?_
          refine WL.nil (keepF (ts := [1, 56]) rfl (toK (by assumption) ?_))
          (try clear hG ops)
          (repeat (first | refine WC.seqK fun K hK => ?_ | refine WC.block ?_ | refine WC.regionG rfl fun ops hG => ?_))
          refine WC.cond (Ev.tmp rfl) (fun c56 => ?_) (fun c56 => ?_)
          · simp at c56
          · refine WC.skip (meetI [] (h'' := .pt b2 (.cells (cellT t).toArray 24 (0, 0)) :: h) ?_ (by (repeat (first | exact Sub.nil | refine Sub.cons rfl ?_ | refine Sub.consE rfl (by simp; done) ?_))) (by (repeat (first | exact List.Sublist.refl _ | refine List.Sublist.cons_cons _ ?_ | apply List.Sublist.cons))) ⟨(), by trivial, rfl, rfl⟩)
            (repeat (first | exact Sub.nil | refine Sub.cons rfl ?_ | refine Sub.consE rfl (by simp; done) ?_))
      · refine WC.skip (meetI [] (h'' := .pt b2 (.cells (cellT t).toArray 24 (0, 0)) :: h) ?_ (by (repeat (first | exact Sub.nil | refine Sub.cons rfl ?_ | refine Sub.consE rfl (by simp; done) ?_))) (by (repeat (first | exact List.Sublist.refl _ | refine List.Sublist.cons_cons _ ?_ | apply List.Sublist.cons))) ⟨(), by trivial, rfl, rfl⟩)
        (repeat (first | exact Sub.nil | refine Sub.cons rfl ?_ | refine Sub.consE rfl (by simp; done) ?_))
    rintro _ _ ⟨z, hJ, rfl, rfl⟩
    refine WC.frm rfl ?_
    (repeat (first | refine WC.seqK fun K hK => ?_ | refine WC.block ?_ | refine WC.regionG rfl fun ops hG => ?_))
    refine WL.po (PO.move (Ev.tmp rfl)) (Nat.le_of_ble_eq_true rfl) ?_
    refine WL.callP Ev.func (Evs.cons (Ev.tmp rfl) Evs.nil) (cA _ (by (repeat (first | exact List.Sublist.refl _ | refine List.Sublist.cons_cons _ ?_ | apply List.Sublist.cons)))) (Nat.le_of_ble_eq_true rfl) ?_
    refine WL.po (PO.move (Ev.tmp rfl)) (Nat.le_of_ble_eq_true rfl) ?_
    refine WL.po (PO.extract (Ev.tmp rfl) rfl) (Nat.le_of_ble_eq_true rfl) ?_
    refine WL.po (PO.extract (Ev.tmp rfl) rfl) (Nat.le_of_ble_eq_true rfl) ?_
    refine WL.po (PO.extract (Ev.tmp rfl) rfl) (Nat.le_of_ble_eq_true rfl) ?_
    refine WL.alloc rfl rfl (Nat.le_of_ble_eq_true rfl) fun b10 => ?_
    refine WL.store rfl (Ev.tmp rfl) (Ev.tmp rfl) rfl rfl rfl rfl (by (repeat (first | exact Upd.here | apply Upd.next))) ?_
    refine WL.po (PO.assign (Ev.tmp rfl)) (Nat.le_of_ble_eq_true rfl) ?_
    refine WL.po (PO.assign (Ev.tmp rfl)) (Nat.le_of_ble_eq_true rfl) ?_
    refine WL.nil (keepF (ts := [1, 10, 11, 12]) rfl (toK (by assumption) ?_))
    (try clear hG ops)
    (repeat (first | refine WC.seqK fun K hK => ?_ | refine WC.block ?_ | refine WC.regionG rfl fun ops hG => ?_))
    refine WL.po (PO.move (Ev.tmp rfl)) (Nat.le_of_ble_eq_true rfl) ?_
    refine WL.po (PO.bin (Ev.tmp rfl) Ev.const rfl) (Nat.le_of_ble_eq_true rfl) ?_
    refine WL.nil (keepF (ts := [1, 10, 11, 64]) rfl (toK (by assumption) ?_))
    (try clear hG ops)
    (repeat (first | refine WC.seqK fun K hK => ?_ | refine WC.block ?_ | refine WC.regionG rfl fun ops hG => ?_))
    refine WC.cond (Ev.tmp rfl) (fun c64 => ?_) (fun c64 => ?_)
    · have h90 : u = zeroT ∧ n = 0 ∧ e = 90 := by
        rcases hor with h1 | h1
        · exact h1
        · rw [h1.2.2.2] at c64; simp at c64
      obtain ⟨rfl, rfl, rfl⟩ := h90
      (repeat (first | refine WC.seqK fun K hK => ?_ | refine WC.block ?_ | refine WC.regionG rfl fun ops hG => ?_))
      refine WL.po (PO.move (Ev.tmp rfl)) (Nat.le_of_ble_eq_true rfl) ?_
      refine WL.po (PO.bin (Ev.tmp rfl) Ev.const rfl) (Nat.le_of_ble_eq_true rfl) ?_
      refine WL.po (PO.move (Ev.tmp rfl)) (Nat.le_of_ble_eq_true rfl) ?_
      refine WL.callG (GU.t (hG _ _ rfl) rfl) (fun hc => ⟨Ev.func, Evs.nil, head_ct _ _ hg⟩) (Nat.le_of_ble_eq_true rfl) ?_
      refine WL.po (PO.pickAnd rfl rfl) (Nat.le_of_ble_eq_true rfl) ?_
      refine WL.po (PO.assign (Ev.tmp rfl)) (Nat.le_of_ble_eq_true rfl) ?_
      refine WL.nil (keepF (ts := [4]) rfl (toK (by assumption) ?_))
      (try clear hG ops)
      refine WC.ret (end1 (h' := h) (.inl rfl) rfl (RV.tmp rfl) (View.le.refl m) (by (repeat (first | exact List.Sublist.refl _ | refine List.Sublist.cons_cons _ ?_ | apply List.Sublist.cons))) ?_)
      exact congrArg Value.bool (by simp)
    · have h0 : may u = true ∧ begAt l 0 (toks u) ∧ n = (toks u).length ∧ e = 0 := by
        rcases hor with h1 | h1
        · rw [h1.2.2] at c64; simp at c64
        · exact h1
      obtain ⟨hm, hb, rfl, rfl⟩ := h0
      have hb' : begF l (toks u) = true := (begF_iff l _ 0).2 hb
      have hle2 := begF_le hb'
      have hu := proto_le hm hb hT
      have ct : ∀ h', CT Tryd.prog 11 [tyV u] h' m (fun v _ h'' => ∃ a c, v = .tuple #[.slice a (toks u).length c, .int .i64 0] ∧ h'' = .row (.slice a (toks u).length c) 53 4 (toks u).length (fl encK (toks u)) :: h') := fun h' => by
        have := tokens_ct u h' m hg hu
        rw [tokens_yes hm] at this
        exact this
      refine WC.skip (keepF (ts := [1, 10, 11]) rfl (toK (by assumption) ?_))
      (repeat (first | refine WC.seqK fun K hK => ?_ | refine WC.block ?_ | refine WC.regionG rfl fun ops hG => ?_))
      refine WL.po (PO.loadA Tryd.underlying24 rfl rfl (Ev.tmp rfl) (by (repeat (first | exact List.Mem.head _ | apply List.Mem.tail))) rfl) (Nat.le_of_ble_eq_true rfl) ?_
      refine WL.callK Ev.func (Evs.cons (Ev.tmp rfl) Evs.nil) (ct _) (Nat.le_of_ble_eq_true rfl) ?_
      rintro _ _ ⟨a72, cp72, rfl, rfl⟩
      refine WL.knowRow (a := a72) (by (repeat (first | exact List.Mem.head _ | apply List.Mem.tail))) fun p72 q72 r72 => ?_
      refine WL.po (PO.move (Ev.tmp rfl)) (Nat.le_of_ble_eq_true rfl) ?_
      refine WL.po (PO.extract (Ev.tmp rfl) rfl) (Nat.le_of_ble_eq_true rfl) ?_
      refine WL.po (PO.extract (Ev.tmp rfl) rfl) (Nat.le_of_ble_eq_true rfl) ?_
      refine WL.po (PO.assign (Ev.tmp rfl)) (Nat.le_of_ble_eq_true rfl) ?_
      refine WL.po (PO.assign (Ev.tmp rfl)) (Nat.le_of_ble_eq_true rfl) ?_
      refine WL.nil (keepF (ts := [1, 5, 6, 10, 11]) rfl (toK (by assumption) ?_))
      (try clear hG ops)
      (repeat (first | refine WC.seqK fun K hK => ?_ | refine WC.block ?_ | refine WC.regionG rfl fun ops hG => ?_))
      refine WL.po (PO.move (Ev.tmp rfl)) (Nat.le_of_ble_eq_true rfl) ?_
      refine WL.po (PO.bin (Ev.tmp rfl) Ev.const rfl) (Nat.le_of_ble_eq_true rfl) ?_
      refine WL.po (PO.move (Ev.tmp rfl)) (Nat.le_of_ble_eq_true rfl) ?_
      refine WL.poG (GU.f (hG _ _ rfl) rfl) (fun hc => PO.move (Ev.tmp rfl)) (Nat.le_of_ble_eq_true rfl) ?_
      refine WL.poG (GU.f (hG _ _ rfl) rfl) (fun hc => PO.move (Ev.tmp rfl)) (Nat.le_of_ble_eq_true rfl) ?_
      refine WL.poG (GU.f (hG _ _ rfl) rfl) (fun hc => PO.lenSl Tryd.underlying25 (Ev.gv rfl hc)) (Nat.le_of_ble_eq_true rfl) ?_
      refine WL.poG (GU.f (hG _ _ rfl) rfl) (fun hc => PO.bin (Ev.gv rfl hc) (Ev.gv rfl hc) rfl) (Nat.le_of_ble_eq_true rfl) ?_
      refine WL.po (PO.pickOr rfl rfl) (Nat.le_of_ble_eq_true rfl) ?_
      refine WL.po (PO.move (Ev.tmp rfl)) (Nat.le_of_ble_eq_true rfl) ?_
      refine WL.poG (GU.f (hG _ _ rfl) rfl) (fun hc => PO.move (Ev.tmp rfl)) (Nat.le_of_ble_eq_true rfl) ?_
      refine WL.poG (GU.f (hG _ _ rfl) rfl) (fun hc => PO.move (Ev.tmp rfl)) (Nat.le_of_ble_eq_true rfl) ?_
      refine WL.poG (GU.f (hG _ _ rfl) rfl) (fun hc => PO.lenSl Tryd.underlying25 (Ev.gv rfl hc)) (Nat.le_of_ble_eq_true rfl) ?_
      refine WL.poG (GU.f (hG _ _ rfl) rfl) (fun hc => PO.bin (Ev.gv rfl hc) (Ev.gv rfl hc) rfl) (Nat.le_of_ble_eq_true rfl) ?_
      refine WL.po (PO.pickOr rfl rfl) (Nat.le_of_ble_eq_true rfl) ?_
      refine WL.po (PO.move (Ev.tmp rfl)) (Nat.le_of_ble_eq_true rfl) ?_
      refine WL.poG (GU.f (hG _ _ rfl) rfl) (fun hc => PO.loadA Tryd.underlying24 rfl rfl (Ev.tmp rfl) (by (repeat (first | exact List.Mem.head _ | apply List.Mem.tail))) rfl) (Nat.le_of_ble_eq_true rfl) ?_
      refine WL.callG (GU.f (hG _ _ rfl) rfl) (fun hc => ⟨Ev.func, (Evs.cons (Ev.gv rfl hc) Evs.nil), may_ct u _ _ hg hu⟩) (Nat.le_of_ble_eq_true rfl) ?_
      refine WL.poG (GU.f (hG _ _ rfl) rfl) (fun hc => PO.not (Ev.gv rfl hc)) (Nat.le_of_ble_eq_true rfl) ?_
      refine WL.po (PO.pickOr rfl rfl) (Nat.le_of_ble_eq_true rfl) ?_
      refine WL.nil (keepF (ts := [1, 5, 11, 93]) rfl (toK (by assumption) ?_))
      (try clear hG ops)
      (repeat (first | refine WC.seqK fun K hK => ?_ | refine WC.block ?_ | refine WC.regionG rfl fun ops hG => ?_))
      refine WC.cond (Ev.tmp rfl) (fun c93 => ?_) (fun c93 => ?_)
      · rw [hm] at c93; simp at c93; omega
      · refine WC.skip (keepF (ts := [1, 5, 11]) rfl (toK (by assumption) ?_))
        (repeat (first | refine WC.seqK fun K hK => ?_ | refine WC.block ?_ | refine WC.regionG rfl fun ops hG => ?_))
        refine WL.po (PO.assign Ev.const) (Nat.le_of_ble_eq_true rfl) ?_
        refine WL.nil (keepF (ts := [1, 5, 11, 13]) rfl (toK (by assumption) ?_))
        (try clear hG ops)
        (repeat (first | refine WC.seqK fun K hK => ?_ | refine WC.block ?_ | refine WC.regionG rfl fun ops hG => ?_))
        refine WC.loopI [1, 5, 11] rfl (fun μ F' h' => ∃ j : Nat, (j ≤ (toks u).length) ∧ (toks u).length - j = μ ∧ F' = [(13, .int .i64 j)] ∧ .row (.slice a72 (toks u).length cp72) 53 4 (toks u).length (fl encK (toks u)) :: .pt b10 (.cells (cellT u).toArray 24 (0, 0)) :: .pt b2 (.cells (cellT t).toArray 24 (0, 0)) :: h = h') ((toks u).length - 0) [(13, .int .i64 0)] (h0 := .row (.slice a72 (toks u).length cp72) 53 4 (toks u).length (fl encK (toks u)) :: .pt b10 (.cells (cellT u).toArray 24 (0, 0)) :: .pt b2 (.cells (cellT t).toArray 24 (0, 0)) :: h) ?_ (by (repeat (first | exact List.Sublist.refl _ | refine List.Sublist.cons_cons _ ?_ | apply List.Sublist.cons))) ⟨0, by omega, rfl, rfl, rfl⟩ ?_
        · (repeat (first | exact Sub.nil | refine Sub.cons rfl ?_ | refine Sub.consE rfl (by simp; done) ?_))
        rintro _ _ _ ⟨j, hJ, rfl, rfl, rfl⟩
        refine WC.frm rfl ?_
        (repeat (first | refine WC.seqK fun K hK => ?_ | refine WC.block ?_ | refine WC.regionG rfl fun ops hG => ?_))
        refine WL.po (PO.move (Ev.tmp rfl)) (Nat.le_of_ble_eq_true rfl) ?_
        refine WL.po (PO.move (Ev.tmp rfl)) (Nat.le_of_ble_eq_true rfl) ?_
        refine WL.po (PO.bin (Ev.tmp rfl) (Ev.tmp rfl) rfl) (Nat.le_of_ble_eq_true rfl) ?_
        refine WL.nil (keepF (ts := [1, 5, 11, 13, 96]) rfl (toK (by assumption) ?_))
        (try clear hG ops)
        (repeat (first | refine WC.seqK fun K hK => ?_ | refine WC.block ?_ | refine WC.regionG rfl fun ops hG => ?_))
        refine WC.cond (Ev.tmp rfl) (fun c96 => ?_) (fun c96 => ?_)
        · replace c96 := of_decide_eq_true c96
          obtain ⟨x, hx⟩ := get_some (l := l) (k := j) (by omega)
          obtain ⟨y, hy⟩ := get_some (l := toks u) (k := j) (by omega)
          have hxy := begF_at hb' hx hy
          refine WC.skip (keepF (ts := [1, 5, 11, 13]) rfl (toK (by assumption) ?_))
          (repeat (first | refine WC.seqK fun K hK => ?_ | refine WC.block ?_ | refine WC.regionG rfl fun ops hG => ?_))
          refine WL.po (PO.move (Ev.tmp rfl)) (Nat.le_of_ble_eq_true rfl) ?_
          refine WL.po (PO.move (Ev.tmp rfl)) (Nat.le_of_ble_eq_true rfl) ?_
          refine WL.po (PO.idx EL25.und EL25.size EL25.posz (Ev.tmp rfl) (Ev.tmp rfl) (by first | assumption | exact Rd.ofSl (by assumption) | exact Rd.ofPt rfl (by decide) (by (repeat (first | exact List.Mem.head _ | apply List.Mem.tail))) | exact Rd.mono (by assumption) (View.le.refl _) (by (repeat (first | exact List.Sublist.refl _ | refine List.Sublist.cons_cons _ ?_ | apply List.Sublist.cons))) | exact Rd.inRow (by (repeat (first | exact List.Mem.head _ | apply List.Mem.tail))) (by assumption) (by assumption) (by assumption)) rfl (by omega)) (Nat.le_of_ble_eq_true rfl) ?_
          refine WL.po (PO.loadFA Tryd.underlying53 rfl rfl encK_len (by first | assumption | exact Rd.ofSl (by assumption) | exact Rd.ofPt rfl (by decide) (by (repeat (first | exact List.Mem.head _ | apply List.Mem.tail))) | exact Rd.mono (by assumption) (View.le.refl _) (by (repeat (first | exact List.Sublist.refl _ | refine List.Sublist.cons_cons _ ?_ | apply List.Sublist.cons))) | exact Rd.inRow (by (repeat (first | exact List.Mem.head _ | apply List.Mem.tail))) (by assumption) (by assumption) (by assumption)) (Ev.tmp rfl) (by assumption) rfl rfl (Nat.succ_pos _)) (Nat.le_of_ble_eq_true rfl) ?_
          refine WL.alloc rfl rfl (Nat.le_of_ble_eq_true rfl) fun b14 => ?_
          refine WL.store rfl (Ev.tmp rfl) (Ev.tmp rfl) rfl rfl rfl rfl (by (repeat (first | exact Upd.here | apply Upd.next))) ?_
          refine WL.nil (keepF (ts := [1, 5, 11, 13, 14]) rfl (toK (by assumption) ?_))
          (try clear hG ops)
          (repeat (first | refine WC.seqK fun K hK => ?_ | refine WC.block ?_ | refine WC.regionG rfl fun ops hG => ?_))
          refine WL.po (PO.fieldAddr Tryd.underlying53 rfl (Nat.ne_of_beq_eq_false rfl) (Ev.tmp rfl)) (Nat.le_of_ble_eq_true rfl) ?_
          refine WL.store rfl (Ev.tmp rfl) Ev.const rfl rfl rfl rfl (by (repeat (first | exact Upd.here | apply Upd.next))) ?_
          refine WL.nil (keepF (ts := [1, 5, 11, 13, 14]) rfl (toK (by assumption) ?_))
          (try clear hG ops)
          (repeat (first | refine WC.seqK fun K hK => ?_ | refine WC.block ?_ | refine WC.regionG rfl fun ops hG => ?_))
          refine WC.drawS [] [0, 1, 2, 3, 4] [5] _ [] mixed (fun _ _ _ _ _ h => h) [] (by kernel_rfl) ?_
          refine SR.po rfl rfl (PO.loadA Tryd.underlying53 rfl rfl (Ev.tmp rfl) (by (repeat (first | exact List.Mem.head _ | apply List.Mem.tail))) rfl) (Nat.le_of_ble_eq_true rfl) ?_
          refine SR.po rfl rfl (PO.move (Ev.tmp rfl)) (Nat.le_of_ble_eq_true rfl) ?_
          refine SR.po rfl rfl (PO.move (Ev.tmp rfl)) (Nat.le_of_ble_eq_true rfl) ?_
          refine SR.po rfl rfl (PO.idx EL25.und EL25.size EL25.posz (Ev.tmp rfl) (Ev.tmp rfl) (by first | assumption | exact Rd.ofSl (by assumption) | exact Rd.ofPt rfl (by decide) (by (repeat (first | exact List.Mem.head _ | apply List.Mem.tail))) | exact Rd.mono (by assumption) (View.le.refl _) (by (repeat (first | exact List.Sublist.refl _ | refine List.Sublist.cons_cons _ ?_ | apply List.Sublist.cons))) | exact Rd.inRow (by (repeat (first | exact List.Mem.head _ | apply List.Mem.tail))) (by assumption) (by assumption) (by assumption)) rfl (by omega)) (Nat.le_of_ble_eq_true rfl) ?_
          refine SR.po rfl rfl (PO.loadFA Tryd.underlying53 rfl rfl encK_len (by first | assumption | exact Rd.ofSl (by assumption) | exact Rd.ofPt rfl (by decide) (by (repeat (first | exact List.Mem.head _ | apply List.Mem.tail))) | exact Rd.mono (by assumption) (View.le.refl _) (by (repeat (first | exact List.Sublist.refl _ | refine List.Sublist.cons_cons _ ?_ | apply List.Sublist.cons))) | exact Rd.inRow (by (repeat (first | exact List.Mem.head _ | apply List.Mem.tail))) (by assumption) (by assumption) (by assumption)) (Ev.tmp rfl) (by assumption) rfl rfl (Nat.succ_pos _)) (Nat.le_of_ble_eq_true rfl) ?_
          refine SR.nil rfl rfl ?_
          refine WL.po (PO.neqA Tryd.underlying53 (by kernel_rfl) (by kernel_rfl) (Ev.tmp rfl) (Ev.tmp rfl) rfl) (Nat.le_of_ble_eq_true rfl) ?_
          refine WL.nil (keepF (ts := [1, 5, 11, 13, 109]) rfl (toK (by assumption) ?_))
          (try clear hG ops)
          (repeat (first | refine WC.seqK fun K hK => ?_ | refine WC.block ?_ | refine WC.regionG rfl fun ops hG => ?_))
          refine WC.cond (Ev.tmp rfl) (fun c109 => ?_) (fun c109 => ?_)
          · have d := eqK_ne (x := strip x) (y := y) c109
            rw [hxy, (eqK_iff y y).2 rfl] at d; cases d
          · refine WC.skip (keepF (ts := [1, 5, 11, 13]) rfl (toK (by assumption) ?_))
            (repeat (first | refine WC.seqK fun K hK => ?_ | refine WC.block ?_ | refine WC.regionG rfl fun ops hG => ?_))
            refine WL.po (PO.move (Ev.tmp rfl)) (Nat.le_of_ble_eq_true rfl) ?_
            refine WL.po (PO.addI (Ev.tmp rfl) Ev.const (by omega)) (Nat.le_of_ble_eq_true rfl) ?_
            refine WL.po (PO.assign (Ev.tmp rfl)) (Nat.le_of_ble_eq_true rfl) ?_
            refine WL.nil (loopBackI ((toks u).length - (j + 1)) [(13, .int .i64 (j + 1))] (h'' := .row (.slice a72 (toks u).length cp72) 53 4 (toks u).length (fl encK (toks u)) :: .pt b10 (.cells (cellT u).toArray 24 (0, 0)) :: .pt b2 (.cells (cellT t).toArray 24 (0, 0)) :: h) (by omega) ?_ (by (repeat (first | exact Sub.nil | refine Sub.cons rfl ?_ | refine Sub.consE rfl (by simp; done) ?_))) (by (repeat (first | exact List.Sublist.refl _ | refine List.Sublist.cons_cons _ ?_ | apply List.Sublist.cons))) ⟨j + 1, by omega, rfl, rfl, rfl⟩)
            (repeat (first | exact Sub.nil | refine Sub.cons rfl ?_ | refine Sub.consE rfl (by simp; done) ?_))
        · replace c96 := of_decide_eq_false c96
          refine WC.exit (keepF (ts := []) rfl (toK (by assumption) ?_))
          (repeat (first | refine WC.seqK fun K hK => ?_ | refine WC.block ?_ | refine WC.regionG rfl fun ops hG => ?_))
          refine WL.callP Ev.func Evs.nil (head_ct _ _ hg) (Nat.le_of_ble_eq_true rfl) ?_
          refine WL.po (PO.assign (Ev.tmp rfl)) (Nat.le_of_ble_eq_true rfl) ?_
          refine WL.nil (keepF (ts := [4]) rfl (toK (by assumption) ?_))
          (try clear hG ops)
          refine WC.ret (end1 (h' := h) (.inl rfl) rfl (RV.tmp rfl) (View.le.refl m) (by (repeat (first | exact List.Sublist.refl _ | refine List.Sublist.cons_cons _ ?_ | apply List.Sublist.cons))) ?_)
          rfl
end Go.Proofs.YtcejocfjienpfaaDoor

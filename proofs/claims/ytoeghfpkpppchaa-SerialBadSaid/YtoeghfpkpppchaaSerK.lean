/- serial: the laws of whole packets. -/
import Derived.Test.YtoeghfpkpppchaaSerH
import Derived.Test.YtoeghfpkpppchaaSerR
namespace Go.Proofs.Ytoeghfpkpppchaa
open Go.Eng Go.Ser

theorem bits_law (b : BitVec 8) (a0 : Option Addr) (N c0 : Nat) (l : List Int) (h : List Res) (m : View) (hs : Rd m h a0 N c0 1 (fl encI l)) : CT Try.prog 6 [u8 b, .slice a0 N c0] h m Law := by
  have hlen := hs.lenF encI_len (by decide)
  refine CT.body Try.call6 Try.func6 rfl Try.ntmps6 (Nat.le_of_ble_eq_true rfl) rfl ?_
  (repeat (first | refine WC.seqK fun K hK => ?_ | refine WC.block ?_ | refine WC.regionG rfl fun ops hG => ?_))
  refine WL.po (PO.assign Ev.const) (Nat.le_of_ble_eq_true rfl) ?_
  refine WL.nil (keepF (ts := [0, 1]) rfl (toK (by assumption) ?_))
  (try clear hG ops)
  (repeat (first | refine WC.seqK fun K hK => ?_ | refine WC.block ?_ | refine WC.regionG rfl fun ops hG => ?_))
  refine WL.po (PO.move (Ev.tmp rfl)) (Nat.le_of_ble_eq_true rfl) ?_
  refine WL.po (PO.lenSl Try.underlying36 (Ev.tmp rfl)) (Nat.le_of_ble_eq_true rfl) ?_
  refine WL.po (PO.bin (Ev.tmp rfl) Ev.const rfl) (Nat.le_of_ble_eq_true rfl) ?_
  refine WL.nil (keepF (ts := [0, 1, 11]) rfl (toK (by assumption) ?_))
  (try clear hG ops)
  (repeat (first | refine WC.seqK fun K hK => ?_ | refine WC.block ?_ | refine WC.regionG rfl fun ops hG => ?_))
  refine WC.cond (Ev.tmp rfl) (fun c11 => ?_) (fun c11 => ?_)
  · replace c11 := of_decide_eq_true c11
    (repeat (first | refine WC.seqK fun K hK => ?_ | refine WC.block ?_ | refine WC.regionG rfl fun ops hG => ?_))
    refine WL.callP Ev.func Evs.nil (awake_ct _ _) (Nat.le_of_ble_eq_true rfl) ?_
    refine WL.po (PO.assign (Ev.tmp rfl)) (Nat.le_of_ble_eq_true rfl) ?_
    refine WL.nil (keepF (ts := [4]) rfl (toK (by assumption) ?_))
    (try clear hG ops)
    refine WC.ret (end1 (h' := h) (.inl rfl) rfl (RV.tmp rfl) (View.le.refl m) (by (repeat (first | exact List.Sublist.refl _ | refine List.Sublist.cons_cons _ ?_ | apply List.Sublist.cons))) ?_)
    rfl
  · replace c11 := of_decide_eq_false c11
    refine WC.skip (keepF (ts := [0, 1]) rfl (toK (by assumption) ?_))
    (repeat (first | refine WC.seqK fun K hK => ?_ | refine WC.block ?_ | refine WC.regionG rfl fun ops hG => ?_))
    refine WL.po (PO.move (Ev.tmp rfl)) (Nat.le_of_ble_eq_true rfl) ?_
    refine WL.callK Ev.func (Evs.cons (Ev.tmp rfl) Evs.nil) (clone_ct _ _ _ _ _ _ (by first | assumption | exact Rd.ofSl (by assumption) | exact Rd.ofPt rfl (by decide) (by (repeat (first | exact List.Mem.head _ | apply List.Mem.tail))) | exact Rd.mono (by assumption) (View.le.refl _) (by (repeat (first | exact List.Sublist.refl _ | refine List.Sublist.cons_cons _ ?_ | apply List.Sublist.cons))) | exact Rd.inRow (by (repeat (first | exact List.Mem.head _ | apply List.Mem.tail))) (by assumption) (by assumption) (by assumption)) (by omega)) (Nat.le_of_ble_eq_true rfl) ?_
    rintro _ _ ⟨a15, c15, k15, e15, rfl, rfl⟩
    refine WL.knowRow (a := a15) (by (repeat (first | exact List.Mem.head _ | apply List.Mem.tail))) fun p15 q15 r15 => ?_
    refine WL.callK Ev.func (Evs.cons (Ev.tmp rfl) Evs.nil) (packets_ct _ _ _ _ _ _ (by first | assumption | exact Rd.ofSl (by assumption) | exact Rd.ofPt rfl (by decide) (by (repeat (first | exact List.Mem.head _ | apply List.Mem.tail))) | exact Rd.mono (by assumption) (View.le.refl _) (by (repeat (first | exact List.Sublist.refl _ | refine List.Sublist.cons_cons _ ?_ | apply List.Sublist.cons))) | exact Rd.inRow (by (repeat (first | exact List.Mem.head _ | apply List.Mem.tail))) (by assumption) (by assumption) (by assumption)) (by omega)) (Nat.le_of_ble_eq_true rfl) ?_
    rintro _ _ ⟨a16, c16, k16, e16, rfl, rfl⟩
    refine WL.knowRow (a := a16) (by (repeat (first | exact List.Mem.head _ | apply List.Mem.tail))) fun p16 q16 r16 => ?_
    refine WL.po (PO.move (Ev.tmp rfl)) (Nat.le_of_ble_eq_true rfl) ?_
    refine WL.po (PO.extract (Ev.tmp rfl) rfl) (Nat.le_of_ble_eq_true rfl) ?_
    refine WL.po (PO.extract (Ev.tmp rfl) rfl) (Nat.le_of_ble_eq_true rfl) ?_
    refine WL.po (PO.assign (Ev.tmp rfl)) (Nat.le_of_ble_eq_true rfl) ?_
    refine WL.po (PO.assign (Ev.tmp rfl)) (Nat.le_of_ble_eq_true rfl) ?_
    refine WL.nil (keepF (ts := [0, 1, 5, 6]) rfl (toK (by assumption) ?_))
    (try clear hG ops)
    (repeat (first | refine WC.seqK fun K hK => ?_ | refine WC.block ?_ | refine WC.regionG rfl fun ops hG => ?_))
    refine WL.po (PO.move (Ev.tmp rfl)) (Nat.le_of_ble_eq_true rfl) ?_
    refine WL.callK Ev.func (Evs.cons (Ev.tmp rfl) Evs.nil) (packetsR_ct _ _ _ _ _ _ (by first | assumption | exact Rd.ofSl (by assumption) | exact Rd.ofPt rfl (by decide) (by (repeat (first | exact List.Mem.head _ | apply List.Mem.tail))) | exact Rd.mono (by assumption) (View.le.refl _) (by (repeat (first | exact List.Sublist.refl _ | refine List.Sublist.cons_cons _ ?_ | apply List.Sublist.cons))) | exact Rd.inRow (by (repeat (first | exact List.Mem.head _ | apply List.Mem.tail))) (by assumption) (by assumption) (by assumption)) (by omega)) (Nat.le_of_ble_eq_true rfl) ?_
    rintro _ _ ⟨a21, c21, k21, e21, rfl, rfl⟩
    refine WL.knowRow (a := a21) (by (repeat (first | exact List.Mem.head _ | apply List.Mem.tail))) fun p21 q21 r21 => ?_
    refine WL.po (PO.move (Ev.tmp rfl)) (Nat.le_of_ble_eq_true rfl) ?_
    refine WL.po (PO.extract (Ev.tmp rfl) rfl) (Nat.le_of_ble_eq_true rfl) ?_
    refine WL.po (PO.extract (Ev.tmp rfl) rfl) (Nat.le_of_ble_eq_true rfl) ?_
    refine WL.po (PO.assign (Ev.tmp rfl)) (Nat.le_of_ble_eq_true rfl) ?_
    refine WL.po (PO.assign (Ev.tmp rfl)) (Nat.le_of_ble_eq_true rfl) ?_
    refine WL.nil (keepF (ts := [0, 5, 6, 7, 8]) rfl (toK (by assumption) ?_))
    (try clear hG ops)
    (repeat (first | refine WC.seqK fun K hK => ?_ | refine WC.block ?_ | refine WC.regionG rfl fun ops hG => ?_))
    refine WL.po (PO.move (Ev.tmp rfl)) (Nat.le_of_ble_eq_true rfl) ?_
    refine WL.callK Ev.func (Evs.cons (Ev.tmp rfl) Evs.nil) (bits_ct b _ _) (Nat.le_of_ble_eq_true rfl) ?_
    rintro _ _ ⟨a25, c25, k25, e25, rfl, rfl⟩
    refine WL.knowRow (a := a25) (by (repeat (first | exact List.Mem.head _ | apply List.Mem.tail))) fun p25 q25 r25 => ?_
    refine WL.po (PO.move (Ev.tmp rfl)) (Nat.le_of_ble_eq_true rfl) ?_
    refine WL.callK Ev.func (Evs.cons (Ev.tmp rfl) Evs.nil) (bitsR_ct b _ _) (Nat.le_of_ble_eq_true rfl) ?_
    rintro _ _ ⟨a27, c27, k27, e27, rfl, rfl⟩
    refine WL.knowRow (a := a27) (by (repeat (first | exact List.Mem.head _ | apply List.Mem.tail))) fun p27 q27 r27 => ?_
    refine WL.callP Ev.func (Evs.cons (Ev.tmp rfl) (Evs.cons (Ev.tmp rfl) Evs.nil)) (equal22_ct _ _ _ _ _ _ (sbits b) (sbits b) _ _ (Rd.inRow (by (repeat (first | exact List.Mem.head _ | apply List.Mem.tail))) r25 p25 q25) (Rd.inRow (by (repeat (first | exact List.Mem.head _ | apply List.Mem.tail))) r27 p27 q27)) (Nat.le_of_ble_eq_true rfl) ?_
    refine WL.val (v' := .bool true) (congrArg Value.bool (eqL_self eqI_iff _)) ?_
    refine WL.po (PO.move (Ev.tmp rfl)) (Nat.le_of_ble_eq_true rfl) ?_
    refine WL.unG (GU.t (hG _ _ rfl) rfl) rfl ?_
    refine WL.po (PO.move (Ev.tmp rfl)) (Nat.le_of_ble_eq_true rfl) ?_
    refine WL.unG (GU.t (hG _ _ rfl) rfl) rfl ?_
    refine WL.po (PO.move (Ev.tmp rfl)) (Nat.le_of_ble_eq_true rfl) ?_
    refine WL.unG (GU.t (hG _ _ rfl) rfl) rfl ?_
    refine WL.callP Ev.func (Evs.cons (Ev.tmp rfl) (Evs.cons (Ev.tmp rfl) Evs.nil)) (equal19_ct _ _ _ _ _ _ (packets l).1 (packets l).1 _ _ (Rd.inRow (by (repeat (first | exact List.Mem.head _ | apply List.Mem.tail))) r16 p16 q16) (Rd.inRow (by (repeat (first | exact List.Mem.head _ | apply List.Mem.tail))) r21 p21 q21)) (Nat.le_of_ble_eq_true rfl) ?_
    refine WL.val (v' := .bool true) (congrArg Value.bool (eqL_self eqH_iff _)) ?_
    refine WL.po (PO.pickAnd rfl rfl) (Nat.le_of_ble_eq_true rfl) ?_
    refine WL.po (PO.move (Ev.tmp rfl)) (Nat.le_of_ble_eq_true rfl) ?_
    refine WL.unG (GU.t (hG _ _ rfl) rfl) rfl ?_
    refine WL.po (PO.move (Ev.tmp rfl)) (Nat.le_of_ble_eq_true rfl) ?_
    refine WL.unG (GU.t (hG _ _ rfl) rfl) rfl ?_
    refine WL.po (PO.move (Ev.tmp rfl)) (Nat.le_of_ble_eq_true rfl) ?_
    refine WL.unG (GU.t (hG _ _ rfl) rfl) rfl ?_
    refine WL.po (PO.bin (Ev.tmp rfl) (Ev.tmp rfl) rfl) (Nat.le_of_ble_eq_true rfl) ?_
    refine WL.val (v' := .bool true) (congrArg Value.bool (beq_self_eq_true _)) ?_
    refine WL.po (PO.pickAnd rfl rfl) (Nat.le_of_ble_eq_true rfl) ?_
    refine WL.po (PO.move (Ev.tmp rfl)) (Nat.le_of_ble_eq_true rfl) ?_
    refine WL.unG (GU.t (hG _ _ rfl) rfl) rfl ?_
    refine WL.callP Ev.func Evs.nil (awake_ct _ _) (Nat.le_of_ble_eq_true rfl) ?_
    refine WL.po (PO.pickAnd rfl rfl) (Nat.le_of_ble_eq_true rfl) ?_
    refine WL.po (PO.assign (Ev.tmp rfl)) (Nat.le_of_ble_eq_true rfl) ?_
    refine WL.nil (keepF (ts := [4]) rfl (toK (by assumption) ?_))
    (try clear hG ops)
    refine WC.ret (end1 (h' := h) (.inl rfl) rfl (RV.tmp rfl) (View.le.refl m) (by (repeat (first | exact List.Sublist.refl _ | refine List.Sublist.cons_cons _ ?_ | apply List.Sublist.cons))) ?_)
    rfl
theorem bad_law (b x : BitVec 8) (h : List Res) (m : View) : CT Try.prog 7 [u8 b, u8 x] h m Law := by
  refine CT.body Try.call7 Try.func7 rfl Try.ntmps7 (Nat.le_of_ble_eq_true rfl) rfl ?_
  (repeat (first | refine WC.seqK fun K hK => ?_ | refine WC.block ?_ | refine WC.regionG rfl fun ops hG => ?_))
  refine WL.po (PO.assign Ev.const) (Nat.le_of_ble_eq_true rfl) ?_
  refine WL.nil (keepF (ts := [0, 1]) rfl (toK (by assumption) ?_))
  (try clear hG ops)
  (repeat (first | refine WC.seqK fun K hK => ?_ | refine WC.block ?_ | refine WC.regionG rfl fun ops hG => ?_))
  refine WL.po (PO.move (Ev.tmp rfl)) (Nat.le_of_ble_eq_true rfl) ?_
  refine WL.callK Ev.func (Evs.cons (Ev.tmp rfl) Evs.nil) (bits_ct b _ _) (Nat.le_of_ble_eq_true rfl) ?_
  rintro _ _ ⟨a14, c14, k14, e14, rfl, rfl⟩
  refine WL.knowRow (a := a14) (by (repeat (first | exact List.Mem.head _ | apply List.Mem.tail))) fun p14 q14 r14 => ?_
  rw [bits_len] at e14
  refine WL.po (PO.assign (Ev.tmp rfl)) (Nat.le_of_ble_eq_true rfl) ?_
  refine WL.nil (keepF (ts := [1, 5]) rfl (toK (by assumption) ?_))
  (try clear hG ops)
  (repeat (first | refine WC.seqK fun K hK => ?_ | refine WC.block ?_ | refine WC.regionG rfl fun ops hG => ?_))
  refine WL.po (PO.move (Ev.tmp rfl)) (Nat.le_of_ble_eq_true rfl) ?_
  refine WL.po (PO.lenSl Try.underlying36 (Ev.tmp rfl)) (Nat.le_of_ble_eq_true rfl) ?_
  refine WL.po (PO.bin (Ev.tmp rfl) Ev.const rfl) (Nat.le_of_ble_eq_true rfl) ?_
  refine WL.nil (keepF (ts := [1, 5, 17]) rfl (toK (by assumption) ?_))
  (try clear hG ops)
  (repeat (first | refine WC.seqK fun K hK => ?_ | refine WC.block ?_ | refine WC.regionG rfl fun ops hG => ?_))
  refine WC.cond (Ev.tmp rfl) (fun c17 => ?_) (fun c17 => ?_)
  · replace c17 := t_ne c17
    omega
  · replace c17 := f_ne c17
    refine WC.skip (keepF (ts := [1, 5]) rfl (toK (by assumption) ?_))
    (repeat (first | refine WC.seqK fun K hK => ?_ | refine WC.block ?_ | refine WC.regionG rfl fun ops hG => ?_))
    refine WL.po (PO.move (Ev.tmp rfl)) (Nat.le_of_ble_eq_true rfl) ?_
    refine WL.po (PO.idx EL36.und EL36.size EL36.posz (Ev.tmp rfl) Ev.const (by first | assumption | exact Rd.ofSl (by assumption) | exact Rd.ofPt rfl (by decide) (by (repeat (first | exact List.Mem.head _ | apply List.Mem.tail))) | exact Rd.mono (by assumption) (View.le.refl _) (by (repeat (first | exact List.Sublist.refl _ | refine List.Sublist.cons_cons _ ?_ | apply List.Sublist.cons))) | exact Rd.inRow (by (repeat (first | exact List.Mem.head _ | apply List.Mem.tail))) (by assumption) (by assumption) (by assumption)) rfl (q := 10) (by omega)) (Nat.le_of_ble_eq_true rfl) ?_
    refine WL.storeR (o := 10 * 1) (xs := fl encI (sbits b)) (a := a14) (l := k14) (cap := c14) (sz := 1) (e := 67) rfl (Ev.tmp rfl) Ev.const rfl rfl (by rw [r14]; omega) (by (repeat (first | exact Upd.here | apply Upd.next))) ?_
    refine WL.rowE (xs := (fl encI (sbits b)).set (10 * 1) (.int .i64 1)) (xs' := fl encI (badB b)) rfl rfl (fl_set _ _ _) (by (repeat (first | exact Upd.here | apply Upd.next))) ?_
    have r14 : (fl encI (badB b)).length = k14 * 1 := by rw [fl_len encI_len, badB, List.length_set, bits_len]; omega
    refine WL.nil (keepF (ts := [1, 5]) rfl (toK (by assumption) ?_))
    (try clear hG ops)
    (repeat (first | refine WC.seqK fun K hK => ?_ | refine WC.block ?_ | refine WC.regionG rfl fun ops hG => ?_))
    refine WL.po (PO.build Try.underlying24 rfl rfl rfl EvP.nil rfl) (Nat.le_of_ble_eq_true rfl) ?_
    refine WL.alloc rfl rfl (Nat.le_of_ble_eq_true rfl) fun b6 => ?_
    refine WL.store rfl (Ev.tmp rfl) (Ev.tmp rfl) rfl rfl rfl rfl (by (repeat (first | exact Upd.here | apply Upd.next))) ?_
    refine WL.nil (keepF (ts := [1, 5, 6]) rfl (toK (by assumption) ?_))
    (try clear hG ops)
    (repeat (first | refine WC.seqK fun K hK => ?_ | refine WC.block ?_ | refine WC.regionG rfl fun ops hG => ?_))
    refine WL.addNil 29 2 ?_
    refine WL.po (PO.assign Ev.const) (Nat.le_of_ble_eq_true rfl) ?_
    refine WL.nil (keepF (ts := [1, 5, 6, 7]) rfl (toK (by assumption) ?_))
    (try clear hG ops)
    (repeat (first | refine WC.seqK fun K hK => ?_ | refine WC.block ?_ | refine WC.regionG rfl fun ops hG => ?_))
    refine WL.po (PO.move (Ev.tmp rfl)) (Nat.le_of_ble_eq_true rfl) ?_
    refine WL.callK Ev.func (Evs.cons (Ev.tmp rfl) Evs.nil) (clone_ct _ _ _ (badB b) _ _ (Rd.inRow (by (repeat (first | exact List.Mem.head _ | apply List.Mem.tail))) r14 p14 q14) (by omega)) (Nat.le_of_ble_eq_true rfl) ?_
    rintro _ _ ⟨a22, c22, k22, e22, rfl, rfl⟩
    refine WL.knowRow (a := a22) (by (repeat (first | exact List.Mem.head _ | apply List.Mem.tail))) fun p22 q22 r22 => ?_
    rw [badB, List.length_set, bits_len] at e22
    refine WL.po (PO.move (Ev.tmp rfl)) (Nat.le_of_ble_eq_true rfl) ?_
    refine WL.callK Ev.func (Evs.cons (Ev.tmp rfl) Evs.nil) (bits_ct x _ _) (Nat.le_of_ble_eq_true rfl) ?_
    rintro _ _ ⟨a24, c24, k24, e24, rfl, rfl⟩
    refine WL.knowRow (a := a24) (by (repeat (first | exact List.Mem.head _ | apply List.Mem.tail))) fun p24 q24 r24 => ?_
    rw [bits_len] at e24
    refine WL.appendE EL36 (Ev.tmp rfl) (Ev.tmp rfl) (by first | assumption | exact Rd.ofSl (by assumption) | exact Rd.ofPt rfl (by decide) (by (repeat (first | exact List.Mem.head _ | apply List.Mem.tail))) | exact Rd.mono (by assumption) (View.le.refl _) (by (repeat (first | exact List.Sublist.refl _ | refine List.Sublist.cons_cons _ ?_ | apply List.Sublist.cons))) | exact Rd.inRow (by (repeat (first | exact List.Mem.head _ | apply List.Mem.tail))) (by assumption) (by assumption) (by assumption)) (by first | exact one_of rfl | exact fl_ones (fun _ => rfl) _) (show k22 + k24 = 22 by omega) (fl_app (badB b) (sbits x)).symm (by omega) (by omega) (fun v' => by (repeat (first | exact Upd.here | apply Upd.next))) (Nat.le_of_ble_eq_true rfl) fun a25 c25 => ?_
    refine WL.knowRow (a := a25) (by (repeat (first | exact List.Mem.head _ | apply List.Mem.tail))) fun p25 q25 r25 => ?_
    refine WL.po (PO.lenSl Try.underlying36 (Ev.tmp rfl)) (Nat.le_of_ble_eq_true rfl) ?_
    refine WL.po (PO.move Ev.const) (Nat.le_of_ble_eq_true rfl) ?_
    refine WL.nil (keepF (ts := [1, 5, 6, 7, 25, 26, 27]) rfl (toK (by assumption) ?_))
    (try clear hG ops)
    (repeat (first | refine WC.seqK fun K hK => ?_ | refine WC.block ?_ | refine WC.regionG rfl fun ops hG => ?_))
    refine WC.loopI [1, 5, 6, 25, 26] rfl (fun μ F' h' => ∃ k : Nat, ∃ s : Ser, ∃ l : List Heard, ∃ a : Option Addr, ∃ c : Nat, (k ≤ 22 ∧ I64 s ∧ hearL zeroS [] (badB b ++ sbits x) = hearL s l ((badB b ++ sbits x).drop k) ∧ l.length ≤ k) ∧ 22 - k = μ ∧ F' = [(7, .slice a l.length c), (27, .int .i64 k)] ∧ .row (.slice a25 22 c25) 3 1 22 (fl encI (badB b ++ sbits x)) :: .row (.slice a l.length c) 29 2 l.length (fl encH l) :: .pt b6 (.cells (cellS s).toArray 24 (0, 0)) :: .row (.slice a14 k14 c14) 67 1 k14 (fl encI (badB b)) :: h = h') (22 - 0) [(7, .slice none ([]).length 0), (27, .int .i64 0)] (h0 := .row (.slice a25 22 c25) 3 1 22 (fl encI (badB b ++ sbits x)) :: .row (.slice none ([]).length 0) 29 2 ([]).length (fl encH ([])) :: .pt b6 (.cells (cellS zeroS).toArray 24 (0, 0)) :: .row (.slice a14 k14 c14) 67 1 k14 (fl encI (badB b)) :: h) ?_ (by (repeat (first | exact List.Sublist.refl _ | refine List.Sublist.cons_cons _ ?_ | apply List.Sublist.cons))) ⟨0, zeroS, [], none, 0, ⟨by omega, zero_I64, rfl, by simp⟩, rfl, rfl, rfl⟩ ?_
    · (repeat (first | exact Sub.nil | refine Sub.cons rfl ?_ | refine Sub.consE rfl (by simp; done) ?_))
    rintro _ _ _ ⟨k, s, l, a, c, ⟨hk, hI, hJ, hl⟩, rfl, rfl, rfl⟩
    refine WC.frm rfl ?_
    (repeat (first | refine WC.seqK fun K hK => ?_ | refine WC.block ?_ | refine WC.regionG rfl fun ops hG => ?_))
    refine WL.po (PO.bin (Ev.tmp rfl) (Ev.tmp rfl) rfl) (Nat.le_of_ble_eq_true rfl) ?_
    refine WL.nil (keepF (ts := [1, 5, 6, 7, 25, 26, 27, 28]) rfl (toK (by assumption) ?_))
    (try clear hG ops)
    (repeat (first | refine WC.seqK fun K hK => ?_ | refine WC.block ?_ | refine WC.regionG rfl fun ops hG => ?_))
    refine WC.cond (Ev.tmp rfl) (fun c28 => ?_) (fun c28 => ?_)
    · replace c28 := of_decide_eq_true c28
      obtain ⟨y, hy⟩ := get_some (l := badB b ++ sbits x) (k := k) (by rw [List.length_append, badB, List.length_set, bits_len, bits_len]; omega)
      rw [hear_drop hy] at hJ
      refine WC.skip (keepF (ts := [1, 5, 6, 7, 25, 26, 27]) rfl (toK (by assumption) ?_))
      (repeat (first | refine WC.seqK fun K hK => ?_ | refine WC.block ?_ | refine WC.regionG rfl fun ops hG => ?_))
      refine WL.po (PO.idx EL36.und EL36.size EL36.posz (Ev.tmp rfl) (Ev.tmp rfl) (by first | assumption | exact Rd.ofSl (by assumption) | exact Rd.ofPt rfl (by decide) (by (repeat (first | exact List.Mem.head _ | apply List.Mem.tail))) | exact Rd.mono (by assumption) (View.le.refl _) (by (repeat (first | exact List.Sublist.refl _ | refine List.Sublist.cons_cons _ ?_ | apply List.Sublist.cons))) | exact Rd.inRow (by (repeat (first | exact List.Mem.head _ | apply List.Mem.tail))) (by assumption) (by assumption) (by assumption)) rfl (by omega)) (Nat.le_of_ble_eq_true rfl) ?_
      refine WL.po (PO.loadF1 Try.underlying3 rfl encI_len (by first | assumption | exact Rd.ofSl (by assumption) | exact Rd.ofPt rfl (by decide) (by (repeat (first | exact List.Mem.head _ | apply List.Mem.tail))) | exact Rd.mono (by assumption) (View.le.refl _) (by (repeat (first | exact List.Sublist.refl _ | refine List.Sublist.cons_cons _ ?_ | apply List.Sublist.cons))) | exact Rd.inRow (by (repeat (first | exact List.Mem.head _ | apply List.Mem.tail))) (by assumption) (by assumption) (by assumption)) (Ev.tmp rfl) (by assumption) rfl) (Nat.le_of_ble_eq_true rfl) ?_
      refine WL.po (PO.assign (Ev.tmp rfl)) (Nat.le_of_ble_eq_true rfl) ?_
      refine WL.nil (keepF (ts := [1, 5, 6, 7, 9, 25, 26, 27]) rfl (toK (by assumption) ?_))
      (try clear hG ops)
      (repeat (first | refine WC.seqK fun K hK => ?_ | refine WC.block ?_ | refine WC.regionG rfl fun ops hG => ?_))
      refine WL.alloc rfl rfl (Nat.le_of_ble_eq_true rfl) fun b10 => ?_
      refine WL.nil (keepF (ts := [1, 5, 6, 7, 9, 10, 25, 26, 27]) rfl (toK (by assumption) ?_))
      (try clear hG ops)
      (repeat (first | refine WC.seqK fun K hK => ?_ | refine WC.block ?_ | refine WC.regionG rfl fun ops hG => ?_))
      refine WL.po (PO.loadA Try.underlying24 rfl rfl (Ev.tmp rfl) (by (repeat (first | exact List.Mem.head _ | apply List.Mem.tail))) rfl) (Nat.le_of_ble_eq_true rfl) ?_
      refine WL.po (PO.move (Ev.tmp rfl)) (Nat.le_of_ble_eq_true rfl) ?_
      refine WL.callP Ev.func (Evs.cons (Ev.tmp rfl) (Evs.cons (Ev.tmp rfl) Evs.nil)) (rx_ct s hI _ _ _) (Nat.le_of_ble_eq_true rfl) ?_
      refine WL.po (PO.move (Ev.tmp rfl)) (Nat.le_of_ble_eq_true rfl) ?_
      refine WL.po (PO.extract (Ev.tmp rfl) rfl) (Nat.le_of_ble_eq_true rfl) ?_
      refine WL.po (PO.extract (Ev.tmp rfl) rfl) (Nat.le_of_ble_eq_true rfl) ?_
      refine WL.store rfl (Ev.tmp rfl) (Ev.tmp rfl) rfl rfl rfl rfl (by (repeat (first | exact Upd.here | apply Upd.next))) ?_
      refine WL.store rfl (Ev.tmp rfl) (Ev.tmp rfl) rfl rfl rfl rfl (by (repeat (first | exact Upd.here | apply Upd.next))) ?_
      refine WL.nil (keepF (ts := [1, 5, 6, 7, 10, 25, 26, 27]) rfl (toK (by assumption) ?_))
      (try clear hG ops)
      (repeat (first | refine WC.seqK fun K hK => ?_ | refine WC.block ?_ | refine WC.regionG rfl fun ops hG => ?_))
      refine WL.po (PO.fieldAddr Try.underlying29 rfl (Nat.ne_of_beq_eq_false rfl) (Ev.tmp rfl)) (Nat.le_of_ble_eq_true rfl) ?_
      refine WL.po (PO.load1 Try.underlying27 rfl (Ev.tmp rfl) (by (repeat (first | exact List.Mem.head _ | apply List.Mem.tail))) rfl) (Nat.le_of_ble_eq_true rfl) ?_
      refine WL.po (PO.bin (Ev.tmp rfl) Ev.const rfl) (Nat.le_of_ble_eq_true rfl) ?_
      refine WL.nil (keepF (ts := [1, 5, 6, 7, 10, 25, 26, 27, 39]) rfl (toK (by assumption) ?_))
      (try clear hG ops)
      (repeat (first | refine WC.seqK fun K hK => ?_ | refine WC.block ?_ | refine WC.regionG rfl fun ops hG => ?_))
      refine WC.cond (Ev.tmp rfl) (fun c39 => ?_) (fun c39 => ?_)
      · have d39 : ((rx s y).2.kind != 0#8) = true := by rw [bne, ← beq8]; exact c39
        rw [if_pos d39] at hJ
        (repeat (first | refine WC.seqK fun K hK => ?_ | refine WC.block ?_ | refine WC.regionG rfl fun ops hG => ?_))
        refine WL.po (PO.move (Ev.tmp rfl)) (Nat.le_of_ble_eq_true rfl) ?_
        refine WL.po (PO.loadA Try.underlying29 rfl rfl (Ev.tmp rfl) (by (repeat (first | exact List.Mem.head _ | apply List.Mem.tail))) rfl) (Nat.le_of_ble_eq_true rfl) ?_
        refine WL.buildSlice EL37 rfl (EvP.cons (Ev.tmp rfl) EvP.nil) rfl rfl (by decide) rfl (Nat.le_of_ble_eq_true rfl) fun b42 => ?_
        refine WL.appendE EL37 (Ev.tmp rfl) (Ev.tmp rfl) (by first | assumption | exact Rd.ofSl (by assumption) | exact Rd.ofPt rfl (by decide) (by (repeat (first | exact List.Mem.head _ | apply List.Mem.tail))) | exact Rd.mono (by assumption) (View.le.refl _) (by (repeat (first | exact List.Sublist.refl _ | refine List.Sublist.cons_cons _ ?_ | apply List.Sublist.cons))) | exact Rd.inRow (by (repeat (first | exact List.Mem.head _ | apply List.Mem.tail))) (by assumption) (by assumption) (by assumption)) (by first | exact one_of rfl | exact fl_ones (fun _ => rfl) _) (show l.length + 1 = (l ++ [(rx s y).2]).length by simp) (fl_snoc (enc := encH) _ ((rx s y).2)) (by simp; omega) (by simp; omega) (fun v' => by (repeat (first | exact Upd.here | apply Upd.next))) (Nat.le_of_ble_eq_true rfl) fun a43 c43 => ?_
        refine WL.po (PO.assign (Ev.tmp rfl)) (Nat.le_of_ble_eq_true rfl) ?_
        refine WL.nil (keepF (ts := [1, 5, 6, 7, 25, 26, 27]) rfl (toK (by assumption) ?_))
        (try clear hG ops)
        (repeat (first | refine WC.seqK fun K hK => ?_ | refine WC.block ?_ | refine WC.regionG rfl fun ops hG => ?_))
        refine WL.po (PO.addI (Ev.tmp rfl) Ev.const (by omega)) (Nat.le_of_ble_eq_true rfl) ?_
        refine WL.po (PO.move (Ev.tmp rfl)) (Nat.le_of_ble_eq_true rfl) ?_
        refine WL.nil (loopBackI (22 - (k + 1)) [(7, .slice a43 (l ++ [(rx s y).2]).length c43), (27, .int .i64 (k + 1))] (h'' := .row (.slice a25 22 c25) 3 1 22 (fl encI (badB b ++ sbits x)) :: .row (.slice a43 (l ++ [(rx s y).2]).length c43) 29 2 (l ++ [(rx s y).2]).length (fl encH (l ++ [(rx s y).2])) :: .pt b6 (.cells (cellS ((rx s y).1)).toArray 24 (0, 0)) :: .row (.slice a14 k14 c14) 67 1 k14 (fl encI (badB b)) :: h) (by omega) ?_ (by (repeat (first | exact Sub.nil | refine Sub.cons rfl ?_ | refine Sub.consE rfl (by simp; done) ?_))) (by (repeat (first | exact List.Sublist.refl _ | refine List.Sublist.cons_cons _ ?_ | apply List.Sublist.cons))) ⟨k + 1, (rx s y).1, l ++ [(rx s y).2], a43, c43, ⟨by omega, rx_I64 hI y, hJ, by simp; omega⟩, rfl, rfl, rfl⟩)
        (repeat (first | exact Sub.nil | refine Sub.cons rfl ?_ | refine Sub.consE rfl (by simp; done) ?_))
      · have d39 : ((rx s y).2.kind != 0#8) = false := by rw [bne, ← beq8]; exact c39
        rw [if_neg (by rw [d39]; decide)] at hJ
        refine WC.skip (keepF (ts := [1, 5, 6, 7, 25, 26, 27]) rfl (toK (by assumption) ?_))
        (repeat (first | refine WC.seqK fun K hK => ?_ | refine WC.block ?_ | refine WC.regionG rfl fun ops hG => ?_))
        refine WL.po (PO.addI (Ev.tmp rfl) Ev.const (by omega)) (Nat.le_of_ble_eq_true rfl) ?_
        refine WL.po (PO.move (Ev.tmp rfl)) (Nat.le_of_ble_eq_true rfl) ?_
        refine WL.nil (loopBackI (22 - (k + 1)) [(7, .slice a l.length c), (27, .int .i64 (k + 1))] (h'' := .row (.slice a25 22 c25) 3 1 22 (fl encI (badB b ++ sbits x)) :: .row (.slice a l.length c) 29 2 l.length (fl encH l) :: .pt b6 (.cells (cellS ((rx s y).1)).toArray 24 (0, 0)) :: .row (.slice a14 k14 c14) 67 1 k14 (fl encI (badB b)) :: h) (by omega) ?_ (by (repeat (first | exact Sub.nil | refine Sub.cons rfl ?_ | refine Sub.consE rfl (by simp; done) ?_))) (by (repeat (first | exact List.Sublist.refl _ | refine List.Sublist.cons_cons _ ?_ | apply List.Sublist.cons))) ⟨k + 1, (rx s y).1, l, a, c, ⟨by omega, rx_I64 hI y, hJ, by omega⟩, rfl, rfl, rfl⟩)
        (repeat (first | exact Sub.nil | refine Sub.cons rfl ?_ | refine Sub.consE rfl (by simp; done) ?_))
    · replace c28 := of_decide_eq_false c28
      have e22 : k = 22 := by omega
      subst e22
      rw [List.drop_eq_nil_of_le (by rw [List.length_append, badB, List.length_set, bits_len, bits_len]; omega), hear_bad, hearL] at hJ
      obtain ⟨rfl, rfl⟩ : zeroS = s ∧ [⟨3#8, 0#8⟩, ⟨1#8, x⟩] = l := ⟨congrArg Prod.fst hJ, congrArg Prod.snd hJ⟩
      refine WC.exit (keepF (ts := [1, 5, 6, 7]) rfl (toK (by assumption) ?_))
      (repeat (first | refine WC.seqK fun K hK => ?_ | refine WC.block ?_ | refine WC.regionG rfl fun ops hG => ?_))
      refine WL.po (PO.move (Ev.tmp rfl)) (Nat.le_of_ble_eq_true rfl) ?_
      refine WL.callK Ev.func (Evs.cons (Ev.tmp rfl) Evs.nil) (packets_ct _ _ _ (badB b) _ _ (Rd.inRow (by (repeat (first | exact List.Mem.head _ | apply List.Mem.tail))) r14 p14 q14) (by omega)) (Nat.le_of_ble_eq_true rfl) ?_
      rintro _ _ ⟨a47, c47, k47, e47, rfl, rfl⟩
      refine WL.knowRow (a := a47) (by (repeat (first | exact List.Mem.head _ | apply List.Mem.tail))) fun p47 q47 r47 => ?_
      refine WL.po (PO.move (Ev.tmp rfl)) (Nat.le_of_ble_eq_true rfl) ?_
      refine WL.po (PO.extract (Ev.tmp rfl) rfl) (Nat.le_of_ble_eq_true rfl) ?_
      refine WL.po (PO.extract (Ev.tmp rfl) rfl) (Nat.le_of_ble_eq_true rfl) ?_
      refine WL.po (PO.assign (Ev.tmp rfl)) (Nat.le_of_ble_eq_true rfl) ?_
      refine WL.po (PO.assign (Ev.tmp rfl)) (Nat.le_of_ble_eq_true rfl) ?_
      refine WL.nil (keepF (ts := [1, 6, 7, 12]) rfl (toK (by assumption) ?_))
      (try clear hG ops)
      (repeat (first | refine WC.seqK fun K hK => ?_ | refine WC.block ?_ | refine WC.regionG rfl fun ops hG => ?_))
      refine WL.knowRow (a := a) (by (repeat (first | exact List.Mem.head _ | apply List.Mem.tail))) fun p q r => ?_
      refine WL.po (PO.move (Ev.tmp rfl)) (Nat.le_of_ble_eq_true rfl) ?_
      refine WL.po (PO.build Try.underlying29 rfl rfl rfl (EvP.cons Ev.const EvP.nil) rfl) (Nat.le_of_ble_eq_true rfl) ?_
      refine WL.po (PO.move (Ev.tmp rfl)) (Nat.le_of_ble_eq_true rfl) ?_
      refine WL.po (PO.build Try.underlying29 rfl rfl rfl (EvP.cons Ev.const (EvP.cons (Ev.tmp rfl) EvP.nil)) rfl) (Nat.le_of_ble_eq_true rfl) ?_
      refine WL.buildSlice EL37 rfl (EvP.cons (Ev.tmp rfl) (EvP.cons (Ev.tmp rfl) EvP.nil)) rfl rfl (by decide) rfl (Nat.le_of_ble_eq_true rfl) fun b54 => ?_
      refine WL.callP Ev.func (Evs.cons (Ev.tmp rfl) (Evs.cons (Ev.tmp rfl) Evs.nil)) (equal19_ct _ _ _ _ _ _ [⟨3#8, 0#8⟩, ⟨1#8, x⟩] [⟨3#8, 0#8⟩, ⟨1#8, x⟩] _ _ (Rd.inRow (by (repeat (first | exact List.Mem.head _ | apply List.Mem.tail))) r p q) (Rd.ofPt rfl (by decide) (by (repeat (first | exact List.Mem.head _ | apply List.Mem.tail))))) (Nat.le_of_ble_eq_true rfl) ?_
      refine WL.val (v' := .bool true) (congrArg Value.bool (eqL_self eqH_iff _)) ?_
      refine WL.po (PO.move (Ev.tmp rfl)) (Nat.le_of_ble_eq_true rfl) ?_
      refine WL.unG (GU.t (hG _ _ rfl) rfl) rfl ?_
      refine WL.po (PO.loadA Try.underlying24 rfl rfl (Ev.tmp rfl) (by (repeat (first | exact List.Mem.head _ | apply List.Mem.tail))) rfl) (Nat.le_of_ble_eq_true rfl) ?_
      refine WL.unG (GU.t (hG _ _ rfl) rfl) rfl ?_
      refine WL.po (PO.build Try.underlying24 rfl rfl rfl EvP.nil rfl) (Nat.le_of_ble_eq_true rfl) ?_
      refine WL.unG (GU.t (hG _ _ rfl) rfl) rfl ?_
      refine WL.po (PO.eqlA Try.underlying24 (by kernel_rfl) (by kernel_rfl) (Ev.tmp rfl) (Ev.tmp rfl) rfl) (Nat.le_of_ble_eq_true rfl) ?_
      refine WL.val (v' := .bool true) (congrArg Value.bool (by decide +kernel)) ?_
      refine WL.po (PO.pickAnd rfl rfl) (Nat.le_of_ble_eq_true rfl) ?_
      refine WL.po (PO.move (Ev.tmp rfl)) (Nat.le_of_ble_eq_true rfl) ?_
      refine WL.unG (GU.t (hG _ _ rfl) rfl) rfl ?_
      refine WL.po (PO.move (Ev.tmp rfl)) (Nat.le_of_ble_eq_true rfl) ?_
      refine WL.unG (GU.t (hG _ _ rfl) rfl) rfl ?_
      refine WL.po (PO.bin (Ev.tmp rfl) Ev.const rfl) (Nat.le_of_ble_eq_true rfl) ?_
      refine WL.val (v' := .bool true) (congrArg Value.bool (by rw [packets_bad]; rfl)) ?_
      refine WL.po (PO.pickAnd rfl rfl) (Nat.le_of_ble_eq_true rfl) ?_
      refine WL.po (PO.move (Ev.tmp rfl)) (Nat.le_of_ble_eq_true rfl) ?_
      refine WL.unG (GU.t (hG _ _ rfl) rfl) rfl ?_
      refine WL.callP Ev.func Evs.nil (awake_ct _ _) (Nat.le_of_ble_eq_true rfl) ?_
      refine WL.po (PO.pickAnd rfl rfl) (Nat.le_of_ble_eq_true rfl) ?_
      refine WL.po (PO.assign (Ev.tmp rfl)) (Nat.le_of_ble_eq_true rfl) ?_
      refine WL.nil (keepF (ts := [4]) rfl (toK (by assumption) ?_))
      (try clear hG ops)
      refine WC.ret (end1 (h' := h) (.inl rfl) rfl (RV.tmp rfl) (View.le.refl m) (by (repeat (first | exact List.Sublist.refl _ | refine List.Sublist.cons_cons _ ?_ | apply List.Sublist.cons))) ?_)
      rfl
end Go.Proofs.Ytoeghfpkpppchaa

/- The law Differs. -/
import Derived.Test.YtdfobghpbbohdaaObjG
namespace Go.Proofs.Ytdfobghpbbohdaa
open Go.Eng Go.Obj

theorem put_inj {code code' : List UInt8} {e a b e' a' b' : Int} (h : mayB code.length e a b = true) (h' : mayB code'.length e' a' b' = true) :
    (putB code e a b == putB code' e' a' b') = ((code == code') && (e == e') && (a == a') && (b == b')) := by
  obtain ⟨-, q2, q3, q4, q5, -, -⟩ := back_enc h
  obtain ⟨-, r2, r3, r4, r5, -, -⟩ := back_enc h'
  rw [Bool.eq_iff_iff]
  simp only [Bool.and_eq_true, beq_iff_eq]
  constructor
  · intro hb
    rw [hb] at q2 q3 q4 q5
    exact ⟨⟨⟨q2.symm.trans r2, q3.symm.trans r3⟩, q4.symm.trans r4⟩, q5.symm.trans r5⟩
  · rintro ⟨⟨⟨rfl, rfl⟩, rfl⟩, rfl⟩
    rfl
theorem bad_e {n : Nat} {e a b v : Int} (h : mayB n e a b = true) : (decide (v < 0) || decide (v ≥ n)) = !mayB n v a b := by
  have := mayB_spec h
  rw [Bool.eq_iff_iff]
  simp only [mayB, Bool.or_eq_true, decide_eq_true_eq, Bool.not_eq_true', Bool.and_eq_false_iff, decide_eq_false_iff_not]
  omega
theorem bad_a {n : Nat} {e a b v : Int} (h : mayB n e a b = true) : (decide (v < 0) || decide (v > 16384)) = !mayB n e v b := by
  have := mayB_spec h
  rw [Bool.eq_iff_iff]
  simp only [mayB, Bool.or_eq_true, decide_eq_true_eq, Bool.not_eq_true', Bool.and_eq_false_iff, decide_eq_false_iff_not]
  omega
theorem bad_b {n : Nat} {e a b v : Int} (h : mayB n e a b = true) : (decide (v < 0) || decide (v > 16384)) = !mayB n e a v := by
  have := mayB_spec h
  rw [Bool.eq_iff_iff]
  simp only [mayB, Bool.or_eq_true, decide_eq_true_eq, Bool.not_eq_true', Bool.and_eq_false_iff, decide_eq_false_iff_not]
  omega

theorem differs_law (s : Option Addr) (c : Nat) (code : List UInt8) (e a b : Int) (s' : Option Addr) (c' : Nat) (code' : List UInt8) (e' a' b' : Int) (fl v : Int) (h : List Res) (m : View) (h1 : Rd m h s code.length c 1 (bv code)) (h2 : Rd m h s' code'.length c' 1 (bv code')) :
    CT Try.prog 9 [obV s code.length c e a b, obV s' code'.length c' e' a' b', .int .u8 fl, .int .i64 v] h m Law := by
  refine CT.body Try.call9 Try.func9 rfl Try.ntmps9 (Nat.le_of_ble_eq_true rfl) rfl ?_
  (repeat (first | refine WC.seqK fun K hK => ?_ | refine WC.block ?_ | refine WC.regionG rfl fun ops hG => ?_))
  refine WL.box (Ev.tmp rfl) rfl (Nat.le_of_ble_eq_true rfl) fun b4 => ?_
  refine WL.box (Ev.tmp rfl) rfl (Nat.le_of_ble_eq_true rfl) fun b5 => ?_
  refine WL.po (PO.assign Ev.const) (Nat.le_of_ble_eq_true rfl) ?_
  refine WL.nil (keepF (ts := [0, 1, 2, 3, 4, 5, 8, 9, 10, 11, 12, 13, 29, 37, 39, 48, 61]) rfl (toK (by assumption) ?_)); (try clear hG ops)
  (repeat (first | refine WC.seqK fun K hK => ?_ | refine WC.block ?_ | refine WC.regionG rfl fun ops hG => ?_))
  refine WL.po (PO.loadA Try.underlying24 rfl rfl (Ev.tmp rfl) (by (repeat (first | exact List.Mem.head _ | apply List.Mem.tail))) rfl) (Nat.le_of_ble_eq_true rfl) ?_
  refine WL.call Ev.func (Evs.cons (Ev.tmp rfl) Evs.nil) (PutR.out (put_ct s c code e a b _ _ (h1.mono (View.le.refl m) (by (repeat (first | exact List.Sublist.refl _ | refine List.Sublist.cons_cons _ ?_ | apply List.Sublist.cons)))))) (Nat.le_of_ble_eq_true rfl) ?_
  rintro _ m1 _ hm1 ⟨a1, c1, rfl, rfl⟩
  refine WL.po (PO.move (Ev.tmp rfl)) (Nat.le_of_ble_eq_true rfl) ?_
  refine WL.po (PO.extract (Ev.tmp rfl) rfl) (Nat.le_of_ble_eq_true rfl) ?_
  refine WL.po (PO.extract (Ev.tmp rfl) rfl) (Nat.le_of_ble_eq_true rfl) ?_
  refine WL.po (PO.assign (Ev.tmp rfl)) (Nat.le_of_ble_eq_true rfl) ?_
  refine WL.po (PO.assign (Ev.tmp rfl)) (Nat.le_of_ble_eq_true rfl) ?_
  refine WL.nil (keepF (ts := [0, 1, 2, 3, 4, 5, 8, 9, 10, 11, 12, 13, 29, 37, 39, 48, 61]) rfl (toK (by assumption) ?_)); (try clear hG ops)
  (repeat (first | refine WC.seqK fun K hK => ?_ | refine WC.block ?_ | refine WC.regionG rfl fun ops hG => ?_))
  refine WL.po (PO.loadA Try.underlying24 rfl rfl (Ev.tmp rfl) (by (repeat (first | exact List.Mem.head _ | apply List.Mem.tail))) rfl) (Nat.le_of_ble_eq_true rfl) ?_
  refine WL.call Ev.func (Evs.cons (Ev.tmp rfl) Evs.nil) (PutR.out (put_ct s' c' code' e' a' b' _ _ (h2.mono hm1 (by (repeat (first | exact List.Sublist.refl _ | refine List.Sublist.cons_cons _ ?_ | apply List.Sublist.cons)))))) (Nat.le_of_ble_eq_true rfl) ?_
  rintro _ m2 _ hm2 ⟨a2, c2, rfl, rfl⟩
  have hm12 := hm1.trans hm2
  refine WL.po (PO.move (Ev.tmp rfl)) (Nat.le_of_ble_eq_true rfl) ?_
  refine WL.po (PO.extract (Ev.tmp rfl) rfl) (Nat.le_of_ble_eq_true rfl) ?_
  refine WL.po (PO.extract (Ev.tmp rfl) rfl) (Nat.le_of_ble_eq_true rfl) ?_
  refine WL.po (PO.assign (Ev.tmp rfl)) (Nat.le_of_ble_eq_true rfl) ?_
  refine WL.po (PO.assign (Ev.tmp rfl)) (Nat.le_of_ble_eq_true rfl) ?_
  refine WL.nil (keepF (ts := [0, 1, 2, 3, 4, 5, 8, 9, 10, 11, 12, 13, 29, 37, 39, 48, 61]) rfl (toK (by assumption) ?_)); (try clear hG ops)
  (repeat (first | refine WC.seqK fun K hK => ?_ | refine WC.block ?_ | refine WC.regionG rfl fun ops hG => ?_))
  refine WL.po (PO.move (Ev.tmp rfl)) (Nat.le_of_ble_eq_true rfl) ?_
  refine WL.po (PO.bin (Ev.tmp rfl) Ev.const rfl) (Nat.le_of_ble_eq_true rfl) ?_
  refine WL.po (PO.move (Ev.tmp rfl)) (Nat.le_of_ble_eq_true rfl) ?_
  refine WL.poF (hG _ _ rfl) rfl (fun hc => PO.move (Ev.tmp rfl)) (Nat.le_of_ble_eq_true rfl) ?_
  refine WL.poF (hG _ _ rfl) rfl (fun hc => PO.bin (Ev.gv rfl hc) Ev.const rfl) (Nat.le_of_ble_eq_true rfl) ?_
  refine WL.po (PO.pickOr rfl rfl) (Nat.le_of_ble_eq_true rfl) ?_
  refine WL.nil (keepF (ts := [0, 1, 2, 3, 4, 5, 8, 9, 10, 11, 12, 13, 29, 37, 39, 48, 61]) rfl (toK (by assumption) ?_)); (try clear hG ops)
  (repeat (first | refine WC.seqK fun K hK => ?_ | refine WC.block ?_ | refine WC.regionG rfl fun ops hG => ?_))
  refine WC.cond (Ev.tmp rfl) (fun hc => ?_) (fun hc => ?_)
  · (repeat (first | refine WC.seqK fun K hK => ?_ | refine WC.block ?_ | refine WC.regionG rfl fun ops hG => ?_))
    refine WL.call1 Ev.func Evs.nil (awake_ct _ _) (Nat.le_of_ble_eq_true rfl) fun m3 hm3 => ?_
    refine WL.po (PO.assign (Ev.tmp rfl)) (Nat.le_of_ble_eq_true rfl) ?_
    refine WL.nil (keepF (ts := [0, 1, 2, 3, 4, 5, 8, 9, 10, 11, 12, 13, 29, 37, 39, 48, 61]) rfl (toK (by assumption) ?_)); (try clear hG ops)
    exact WC.ret (end1 (h' := h) (.inl rfl) rfl (RV.tmp rfl) (hm12.trans hm3) (by (repeat (first | exact List.Sublist.refl _ | refine List.Sublist.cons_cons _ ?_ | apply List.Sublist.cons))) rfl)
  · have hp1 : mayB code.length e a b = true := by
      rw [← putE_eq]; simp only [Bool.or_eq_false_iff] at hc; simpa using hc.1
    have hp2 : mayB code'.length e' a' b' = true := by
      rw [← putE_eq]; simp only [Bool.or_eq_false_iff] at hc; simpa using hc.2
    refine WC.skip (keepF (ts := [0, 1, 2, 3, 4, 5, 8, 9, 10, 11, 12, 13, 29, 37, 39, 48, 61]) rfl (toK (by assumption) ?_))
    (repeat (first | refine WC.seqK fun K hK => ?_ | refine WC.block ?_ | refine WC.regionG rfl fun ops hG => ?_))
    refine WC.knowRow (a := a1) (by (repeat (first | exact List.Mem.head _ | apply List.Mem.tail))) fun hk1 hk2 hk3 => ?_
    refine WC.knowRow (a := a2) (by (repeat (first | exact List.Mem.head _ | apply List.Mem.tail))) fun hk4 hk5 hk6 => ?_
    refine WC.drawS [2, 5] [0, 1, 3, 4, 2, 5] [6] (_ :: _) [] mixed (by kernel_rfl) ?_
    refine SR.po rfl rfl (PO.move (Ev.tmp rfl)) (Nat.le_of_ble_eq_true rfl) ?_
    refine SR.po rfl rfl (PO.move (Ev.tmp rfl)) (Nat.le_of_ble_eq_true rfl) ?_
    refine SR.po rfl rfl (PO.loadA Try.underlying24 rfl rfl (Ev.tmp rfl) (by (repeat (first | exact List.Mem.head _ | apply List.Mem.tail))) rfl) (Nat.le_of_ble_eq_true rfl) ?_
    refine SR.po rfl rfl (PO.loadA Try.underlying24 rfl rfl (Ev.tmp rfl) (by (repeat (first | exact List.Mem.head _ | apply List.Mem.tail))) rfl) (Nat.le_of_ble_eq_true rfl) ?_
    refine SR.call1 rfl rfl Ev.func (Evs.cons (Ev.tmp rfl) (Evs.cons (Ev.tmp rfl) Evs.nil)) (fun fr => (equal_ct _ _ _ _ _ _ _ _ _ _ (Rd.fr (Rd.ofRow hk3 hk1 hk2 (by (repeat (first | exact List.Mem.head _ | apply List.Mem.tail)))) fr) (Rd.fr (Rd.ofRow hk6 hk4 hk5 (by (repeat (first | exact List.Mem.head _ | apply List.Mem.tail)))) fr)).val (congrArg Value.bool (put_inj hp1 hp2))) (Nat.le_of_ble_eq_true rfl) fun m3 hm3 => ?_
    refine SR.call1 rfl rfl Ev.func (Evs.cons (Ev.tmp rfl) (Evs.cons (Ev.tmp rfl) Evs.nil)) (fun fr => same_ct _ _ _ _ _ _ _ _ _ _ _ _ _ _ _ _ (Rd.fr (h1.mono (hm12.trans hm3) (by (repeat (first | exact List.Sublist.refl _ | refine List.Sublist.cons_cons _ ?_ | apply List.Sublist.cons)))) fr) (Rd.fr (h2.mono (hm12.trans hm3) (by (repeat (first | exact List.Sublist.refl _ | refine List.Sublist.cons_cons _ ?_ | apply List.Sublist.cons)))) fr)) (Nat.le_of_ble_eq_true rfl) fun m4 hm4 => ?_
    refine SR.nil rfl rfl ?_
    refine WL.po (PO.neqB Try.underlying4 (Ev.tmp rfl) (Ev.tmp rfl)) (Nat.le_of_ble_eq_true rfl) ?_
    refine WL.nil (keepF (ts := [0, 1, 2, 3, 4, 5, 8, 9, 10, 11, 12, 13, 29, 37, 39, 48, 61]) rfl (toK (by assumption) ?_)); (try clear hG ops)
    (repeat (first | refine WC.seqK fun K hK => ?_ | refine WC.block ?_ | refine WC.regionG rfl fun ops hG => ?_))
    refine WC.cond (Ev.tmp rfl) (fun hc => absurd hc (by simp)) (fun _ => ?_)
    refine WC.skip (keepF (ts := [0, 1, 2, 3, 4, 5, 8, 9, 10, 11, 12, 13, 29, 37, 39, 48, 61]) rfl (toK (by assumption) ?_))
    have hm14 := hm12.trans (hm3.trans hm4)
    (repeat (first | refine WC.seqK fun K hK => ?_ | refine WC.block ?_ | refine WC.regionG rfl fun ops hG => ?_))
    refine WL.po (PO.assign Ev.const) (Nat.le_of_ble_eq_true rfl) ?_
    refine WL.nil (keepF (ts := [0, 1, 2, 3, 4, 5, 8, 9, 10, 11, 12, 13, 29, 37, 39, 48, 61]) rfl (toK (by assumption) ?_)); (try clear hG ops)
    refine WC.seqK fun K0 hK0 => ?_
    (repeat (first | refine WC.seqK fun K hK => ?_ | refine WC.block ?_ | refine WC.regionG rfl fun ops hG => ?_))
    refine WL.po (PO.move (Ev.tmp rfl)) (Nat.le_of_ble_eq_true rfl) ?_
    refine WL.po (PO.rem (Ev.tmp rfl) Ev.const (by decide)) (Nat.le_of_ble_eq_true rfl) ?_
    refine WL.nil (keepF (ts := [0, 1, 2, 3, 4, 5, 8, 9, 10, 11, 12, 13, 29, 37, 39, 48, 61]) rfl (toK (by assumption) ?_)); (try clear hG ops)
    have hrest : ∀ ee aa bb, ∀ f w, Fr 95 [(4, .pointer (some ⟨b4, 0, none⟩)), (13, .bool (!mayB code.length ee aa bb))] f → St m4 (.pt b4 (.cells [.slice s code.length c, .int .i64 ee, .int .i64 aa, .int .i64 bb].toArray 24 (0, 0)) :: h) w → K0 f w := by
      intro ee aa bb
      refine hK0 _ _ _ ?_
      (repeat (first | refine WC.seqK fun K hK => ?_ | refine WC.block ?_ | refine WC.regionG rfl fun ops hG => ?_))
      refine WL.po (PO.loadA Try.underlying24 rfl rfl (Ev.tmp rfl) (by (repeat (first | exact List.Mem.head _ | apply List.Mem.tail))) rfl) (Nat.le_of_ble_eq_true rfl) ?_
      refine WL.call Ev.func (Evs.cons (Ev.tmp rfl) Evs.nil) (PutR.out (put_ct s c code ee aa bb _ _ (h1.mono hm14 (by (repeat (first | exact List.Sublist.refl _ | refine List.Sublist.cons_cons _ ?_ | apply List.Sublist.cons)))))) (Nat.le_of_ble_eq_true rfl) ?_
      rintro _ m5 _ hm5 ⟨a5, c5, rfl, rfl⟩
      refine WL.po (PO.move (Ev.tmp rfl)) (Nat.le_of_ble_eq_true rfl) ?_
      refine WL.po (PO.extract (Ev.tmp rfl) rfl) (Nat.le_of_ble_eq_true rfl) ?_
      refine WL.po (PO.extract (Ev.tmp rfl) rfl) (Nat.le_of_ble_eq_true rfl) ?_
      refine WL.po (PO.assign (Ev.tmp rfl)) (Nat.le_of_ble_eq_true rfl) ?_
      refine WL.nil (keepF (ts := [0, 1, 2, 3, 4, 5, 8, 9, 10, 11, 12, 13, 29, 37, 39, 48, 61]) rfl (toK (by assumption) ?_)); (try clear hG ops)
      (repeat (first | refine WC.seqK fun K hK => ?_ | refine WC.block ?_ | refine WC.regionG rfl fun ops hG => ?_))
      refine WL.po (PO.move (Ev.tmp rfl)) (Nat.le_of_ble_eq_true rfl) ?_
      refine WL.po (PO.bin (Ev.tmp rfl) Ev.const rfl) (Nat.le_of_ble_eq_true rfl) ?_
      refine WL.po (PO.move (Ev.tmp rfl)) (Nat.le_of_ble_eq_true rfl) ?_
      refine WL.po (PO.eqlB Try.underlying4 (Ev.tmp rfl) (Ev.tmp rfl)) (Nat.le_of_ble_eq_true rfl) ?_
      refine WL.po (PO.move (Ev.tmp rfl)) (Nat.le_of_ble_eq_true rfl) ?_
      refine WL.poT (hG _ _ rfl) rfl (fun hc => PO.move (Ev.tmp rfl)) (Nat.le_of_ble_eq_true rfl) ?_
      refine WL.poT (hG _ _ rfl) rfl (fun hc => PO.bin (Ev.gv rfl hc) Ev.const rfl) (Nat.le_of_ble_eq_true rfl) ?_
      refine WL.poT (hG _ _ rfl) rfl (fun hc => PO.move (Ev.tmp rfl)) (Nat.le_of_ble_eq_true rfl) ?_
      refine WL.poT (hG _ _ rfl) rfl (fun hc => PO.neqB Try.underlying4 (Ev.gv rfl hc) (Ev.gv rfl hc)) (Nat.le_of_ble_eq_true rfl) ?_
      refine WL.po (PO.pickAnd rfl rfl) (Nat.le_of_ble_eq_true rfl) ?_
      refine WL.po (PO.move (Ev.tmp rfl)) (Nat.le_of_ble_eq_true rfl) ?_
      refine WL.poT (hG _ _ rfl) rfl (fun hc => PO.loadA Try.underlying24 rfl rfl (Ev.tmp rfl) (by (repeat (first | exact List.Mem.head _ | apply List.Mem.tail))) rfl) (Nat.le_of_ble_eq_true rfl) ?_
      refine WL.callT (v := .bool (mayB code.length ee aa bb)) (hG _ _ rfl) rfl (fun hc => ⟨Ev.func, Evs.cons (Ev.gv rfl hc) Evs.nil, may_ct _ _ _ _ _ _ _ _⟩) (Nat.le_of_ble_eq_true rfl) fun m6 hm6 => ?_
      refine WL.poT (hG _ _ rfl) rfl (fun hc => PO.move (Ev.tmp rfl)) (Nat.le_of_ble_eq_true rfl) ?_
      refine WL.poT (hG _ _ rfl) rfl (fun hc => PO.neqB Try.underlying4 (Ev.gv rfl hc) (Ev.gv rfl hc)) (Nat.le_of_ble_eq_true rfl) ?_
      refine WL.po (PO.pickAnd rfl rfl) (Nat.le_of_ble_eq_true rfl) ?_
      refine WL.po (PO.move (Ev.tmp rfl)) (Nat.le_of_ble_eq_true rfl) ?_
      refine WL.callT (v := .bool true) (hG _ _ rfl) rfl (fun hc => ⟨Ev.func, Evs.nil, awake_ct _ _⟩) (Nat.le_of_ble_eq_true rfl) fun m7 hm7 => ?_
      refine WL.po (PO.pickAnd rfl rfl) (Nat.le_of_ble_eq_true rfl) ?_
      refine WL.po (PO.assign (Ev.tmp rfl)) (Nat.le_of_ble_eq_true rfl) ?_
      refine WL.nil (keepF (ts := [0, 1, 2, 3, 4, 5, 8, 9, 10, 11, 12, 13, 29, 37, 39, 48, 61]) rfl (toK (by assumption) ?_)); (try clear hG ops)
      refine WC.ret (end1 (h' := h) (.inl rfl) rfl (RV.tmp rfl) (hm14.trans (hm5.trans (hm6.trans hm7))) (by (repeat (first | exact List.Sublist.refl _ | refine List.Sublist.cons_cons _ ?_ | apply List.Sublist.cons))) ?_)
      unfold Law putE
      cases mayB code.length ee aa bb <;> rfl
    refine WC.block ?_
    (repeat (first | refine WC.seqK fun K hK => ?_ | refine WC.block ?_ | refine WC.regionG rfl fun ops hG => ?_))
    refine WL.po (PO.bin (Ev.tmp rfl) Ev.const rfl) (Nat.le_of_ble_eq_true rfl) ?_
    refine WL.po (PO.assign (Ev.tmp rfl)) (Nat.le_of_ble_eq_true rfl) ?_
    refine WL.nil (keepF (ts := [0, 1, 2, 3, 4, 5, 8, 9, 10, 11, 12, 13, 29, 37, 39, 48, 61]) rfl (toK (by assumption) ?_)); (try clear hG ops)
    refine WC.cond (Ev.tmp rfl) (fun _ => ?_) (fun _ => ?_)
    · (repeat (first | refine WC.seqK fun K hK => ?_ | refine WC.block ?_ | refine WC.regionG rfl fun ops hG => ?_))
      refine WL.po (PO.move (Ev.tmp rfl)) (Nat.le_of_ble_eq_true rfl) ?_
      refine WL.po (PO.move (Ev.tmp rfl)) (Nat.le_of_ble_eq_true rfl) ?_
      refine WL.po (PO.bin (Ev.tmp rfl) Ev.const rfl) (Nat.le_of_ble_eq_true rfl) ?_
      refine WL.po (PO.move (Ev.tmp rfl)) (Nat.le_of_ble_eq_true rfl) ?_
      refine WL.poF (hG _ _ rfl) rfl (fun hc => PO.move (Ev.tmp rfl)) (Nat.le_of_ble_eq_true rfl) ?_
      refine WL.poF (hG _ _ rfl) rfl (fun hc => PO.fieldAddr Try.underlying24 rfl (Nat.ne_of_beq_eq_false rfl) (Ev.tmp rfl)) (Nat.le_of_ble_eq_true rfl) ?_
      refine WL.poF (hG _ _ rfl) rfl (fun hc => PO.load1 Try.underlying22 rfl (Ev.gv rfl hc) (by (repeat (first | exact List.Mem.head _ | apply List.Mem.tail))) rfl) (Nat.le_of_ble_eq_true rfl) ?_
      refine WL.poF (hG _ _ rfl) rfl (fun hc => PO.lenSl Try.underlying22 (Ev.gv rfl hc)) (Nat.le_of_ble_eq_true rfl) ?_
      refine WL.poF (hG _ _ rfl) rfl (fun hc => PO.bin (Ev.gv rfl hc) (Ev.gv rfl hc) rfl) (Nat.le_of_ble_eq_true rfl) ?_
      refine WL.po (PO.eq (PO.pickOr rfl rfl) (congrArg Value.bool (bad_e hp1))) (Nat.le_of_ble_eq_true rfl) ?_
      refine WL.po (PO.fieldAddr Try.underlying24 rfl (Nat.ne_of_beq_eq_false rfl) (Ev.tmp rfl)) (Nat.le_of_ble_eq_true rfl) ?_
      refine WL.store rfl (Ev.tmp rfl) (Ev.tmp rfl) rfl rfl rfl rfl (by (repeat (first | exact Upd.here | apply Upd.next))) ?_
      refine WL.po (PO.assign (Ev.tmp rfl)) (Nat.le_of_ble_eq_true rfl) ?_
      refine WL.nil (keepF (ts := [4, 13]) rfl (dropE (h' := .pt b4 _ :: h) (by (repeat (first | exact List.Sublist.refl _ | refine List.Sublist.cons_cons _ ?_ | apply List.Sublist.cons))) (hrest v a b)))
    · (repeat (first | refine WC.seqK fun K hK => ?_ | refine WC.block ?_ | refine WC.regionG rfl fun ops hG => ?_))
      refine WL.po (PO.bin (Ev.tmp rfl) Ev.const rfl) (Nat.le_of_ble_eq_true rfl) ?_
      refine WL.po (PO.assign (Ev.tmp rfl)) (Nat.le_of_ble_eq_true rfl) ?_
      refine WL.nil (keepF (ts := [0, 1, 2, 3, 4, 5, 8, 9, 10, 11, 12, 13, 29, 37, 39, 48, 61]) rfl (toK (by assumption) ?_)); (try clear hG ops)
      refine WC.cond (Ev.tmp rfl) (fun _ => ?_) (fun _ => ?_)
      · (repeat (first | refine WC.seqK fun K hK => ?_ | refine WC.block ?_ | refine WC.regionG rfl fun ops hG => ?_))
        refine WL.po (PO.move (Ev.tmp rfl)) (Nat.le_of_ble_eq_true rfl) ?_
        refine WL.po (PO.move (Ev.tmp rfl)) (Nat.le_of_ble_eq_true rfl) ?_
        refine WL.po (PO.bin (Ev.tmp rfl) Ev.const rfl) (Nat.le_of_ble_eq_true rfl) ?_
        refine WL.po (PO.move (Ev.tmp rfl)) (Nat.le_of_ble_eq_true rfl) ?_
        refine WL.poF (hG _ _ rfl) rfl (fun hc => PO.move (Ev.tmp rfl)) (Nat.le_of_ble_eq_true rfl) ?_
        refine WL.poF (hG _ _ rfl) rfl (fun hc => PO.bin (Ev.gv rfl hc) Ev.const rfl) (Nat.le_of_ble_eq_true rfl) ?_
        refine WL.po (PO.eq (PO.pickOr rfl rfl) (congrArg Value.bool (bad_a hp1))) (Nat.le_of_ble_eq_true rfl) ?_
        refine WL.po (PO.fieldAddr Try.underlying24 rfl (Nat.ne_of_beq_eq_false rfl) (Ev.tmp rfl)) (Nat.le_of_ble_eq_true rfl) ?_
        refine WL.store rfl (Ev.tmp rfl) (Ev.tmp rfl) rfl rfl rfl rfl (by (repeat (first | exact Upd.here | apply Upd.next))) ?_
        refine WL.po (PO.assign (Ev.tmp rfl)) (Nat.le_of_ble_eq_true rfl) ?_
        refine WL.nil (keepF (ts := [4, 13]) rfl (dropE (h' := .pt b4 _ :: h) (by (repeat (first | exact List.Sublist.refl _ | refine List.Sublist.cons_cons _ ?_ | apply List.Sublist.cons))) (hrest e v b)))
      · (repeat (first | refine WC.seqK fun K hK => ?_ | refine WC.block ?_ | refine WC.regionG rfl fun ops hG => ?_))
        refine WL.po (PO.move (Ev.tmp rfl)) (Nat.le_of_ble_eq_true rfl) ?_
        refine WL.po (PO.move (Ev.tmp rfl)) (Nat.le_of_ble_eq_true rfl) ?_
        refine WL.po (PO.bin (Ev.tmp rfl) Ev.const rfl) (Nat.le_of_ble_eq_true rfl) ?_
        refine WL.po (PO.move (Ev.tmp rfl)) (Nat.le_of_ble_eq_true rfl) ?_
        refine WL.poF (hG _ _ rfl) rfl (fun hc => PO.move (Ev.tmp rfl)) (Nat.le_of_ble_eq_true rfl) ?_
        refine WL.poF (hG _ _ rfl) rfl (fun hc => PO.bin (Ev.gv rfl hc) Ev.const rfl) (Nat.le_of_ble_eq_true rfl) ?_
        refine WL.po (PO.eq (PO.pickOr rfl rfl) (congrArg Value.bool (bad_b hp1))) (Nat.le_of_ble_eq_true rfl) ?_
        refine WL.po (PO.fieldAddr Try.underlying24 rfl (Nat.ne_of_beq_eq_false rfl) (Ev.tmp rfl)) (Nat.le_of_ble_eq_true rfl) ?_
        refine WL.store rfl (Ev.tmp rfl) (Ev.tmp rfl) rfl rfl rfl rfl (by (repeat (first | exact Upd.here | apply Upd.next))) ?_
        refine WL.po (PO.assign (Ev.tmp rfl)) (Nat.le_of_ble_eq_true rfl) ?_
        refine WL.nil (keepF (ts := [4, 13]) rfl (dropE (h' := .pt b4 _ :: h) (by (repeat (first | exact List.Sublist.refl _ | refine List.Sublist.cons_cons _ ?_ | apply List.Sublist.cons))) (hrest e a v)))
end Go.Proofs.Ytdfobghpbbohdaa

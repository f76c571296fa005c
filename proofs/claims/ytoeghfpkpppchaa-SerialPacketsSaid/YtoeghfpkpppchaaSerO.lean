/- serial: sequences of packets, and cuts. -/
import Derived.Test.YtoeghfpkpppchaaSerH
import Derived.Test.YtoeghfpkpppchaaSerT
import Derived.Test.YtoeghfpkpppchaaEng10
namespace Go.Proofs.Ytoeghfpkpppchaa
open Go.Eng Go.Ser

theorem rem_nat (a b : Nat) : (IntKind.i64.wrap (a : Int)).tmod ((b : Int) + 1) = ((a % (b + 1) : Nat) : Int) ∨ 9223372036854775807 < a := by
  by_cases h : 9223372036854775807 < a
  · exact .inr h
  · left
    have e : IntKind.i64.wrap (a : Int) = a := by rw [IntKind.wrap_i64]; omega
    have e2 : ((b : Int) + 1) = ((b + 1 : Nat) : Int) := by omega
    rw [e, e2, Int.tmod_eq_emod_of_nonneg (by omega)]; omega
theorem packets_law (a0 : Option Addr) (N c0 : Nat) (l : List Stp) (cut : BitVec 16) (h : List Res) (m : View) (hs : Rd m h a0 N c0 2 (fl encS l)) : CT Try.prog 5 [.slice a0 N c0, u16 cut] h m Law := by
  have hlen := hs.lenF encS_len (by decide)
  refine CT.body Try.call5 Try.func5 rfl Try.ntmps5 (Nat.le_of_ble_eq_true rfl) rfl ?_
  (repeat (first | refine WC.seqK fun K hK => ?_ | refine WC.block ?_ | refine WC.regionG rfl fun ops hG => ?_))
  refine WL.po (PO.assign Ev.const) (Nat.le_of_ble_eq_true rfl) ?_
  refine WL.nil (keepF (ts := [0, 1]) rfl (toK (by assumption) ?_))
  (try clear hG ops)
  (repeat (first | refine WC.seqK fun K hK => ?_ | refine WC.block ?_ | refine WC.regionG rfl fun ops hG => ?_))
  refine WL.po (PO.move (Ev.tmp rfl)) (Nat.le_of_ble_eq_true rfl) ?_
  refine WL.po (PO.lenSl Try.underlying35 (Ev.tmp rfl)) (Nat.le_of_ble_eq_true rfl) ?_
  refine WL.po (PO.bin (Ev.tmp rfl) Ev.const rfl) (Nat.le_of_ble_eq_true rfl) ?_
  refine WL.nil (keepF (ts := [0, 1, 17]) rfl (toK (by assumption) ?_))
  (try clear hG ops)
  (repeat (first | refine WC.seqK fun K hK => ?_ | refine WC.block ?_ | refine WC.regionG rfl fun ops hG => ?_))
  refine WC.cond (Ev.tmp rfl) (fun c17 => ?_) (fun c17 => ?_)
  · replace c17 := of_decide_eq_true c17
    (repeat (first | refine WC.seqK fun K hK => ?_ | refine WC.block ?_ | refine WC.regionG rfl fun ops hG => ?_))
    refine WL.callP Ev.func Evs.nil (awake_ct _ _) (Nat.le_of_ble_eq_true rfl) ?_
    refine WL.po (PO.assign (Ev.tmp rfl)) (Nat.le_of_ble_eq_true rfl) ?_
    refine WL.nil (keepF (ts := [4]) rfl (toK (by assumption) ?_))
    (try clear hG ops)
    refine WC.ret (end1 (h' := h) (.inl rfl) rfl (RV.tmp rfl) (View.le.refl m) (by (repeat (first | exact List.Sublist.refl _ | refine List.Sublist.cons_cons _ ?_ | apply List.Sublist.cons))) ?_)
    rfl
  · replace c17 := of_decide_eq_false c17
    refine WC.skip (keepF (ts := [0, 1]) rfl (toK (by assumption) ?_))
    (repeat (first | refine WC.seqK fun K hK => ?_ | refine WC.block ?_ | refine WC.regionG rfl fun ops hG => ?_))
    refine WL.addNil 3 1 ?_
    refine WL.po (PO.assign Ev.const) (Nat.le_of_ble_eq_true rfl) ?_
    refine WL.nil (keepF (ts := [0, 1, 5]) rfl (toK (by assumption) ?_))
    (try clear hG ops)
    (repeat (first | refine WC.seqK fun K hK => ?_ | refine WC.block ?_ | refine WC.regionG rfl fun ops hG => ?_))
    refine WL.addNil 29 2 ?_
    refine WL.po (PO.assign Ev.const) (Nat.le_of_ble_eq_true rfl) ?_
    refine WL.nil (keepF (ts := [0, 1, 5, 6]) rfl (toK (by assumption) ?_))
    (try clear hG ops)
    (repeat (first | refine WC.seqK fun K hK => ?_ | refine WC.block ?_ | refine WC.regionG rfl fun ops hG => ?_))
    refine WL.makeMap (Nat.le_of_ble_eq_true rfl) fun b19 => ?_
    refine WL.mapSet (.inr rfl) Try.underlying38 Try.underlying3 MapI.nil (Ev.tmp rfl) Ev.const Ev.const (fun _ _ => by (repeat (first | exact Upd.here | apply Upd.next))) fun es0 ck0 hM0 => ?_
    refine WL.po (PO.move (Ev.tmp rfl)) (Nat.le_of_ble_eq_true rfl) ?_
    refine WL.po (PO.assign (Ev.tmp rfl)) (Nat.le_of_ble_eq_true rfl) ?_
    refine WL.nil (keepF (ts := [0, 1, 5, 6, 7]) rfl (toK (by assumption) ?_))
    (try clear hG ops)
    (repeat (first | refine WC.seqK fun K hK => ?_ | refine WC.block ?_ | refine WC.regionG rfl fun ops hG => ?_))
    refine WL.po (PO.move (Ev.tmp rfl)) (Nat.le_of_ble_eq_true rfl) ?_
    refine WL.po (PO.lenSl Try.underlying35 (Ev.tmp rfl)) (Nat.le_of_ble_eq_true rfl) ?_
    refine WL.po (PO.move Ev.const) (Nat.le_of_ble_eq_true rfl) ?_
    refine WL.nil (keepF (ts := [1, 5, 6, 7, 21, 22, 23]) rfl (toK (by assumption) ?_))
    (try clear hG ops)
    (repeat (first | refine WC.seqK fun K hK => ?_ | refine WC.block ?_ | refine WC.regionG rfl fun ops hG => ?_))
    refine WC.loopI [1, 7, 21, 22] rfl (fun μ F' h' => ∃ j : Nat, ∃ a : Option Addr, ∃ c : Nat, ∃ a2 : Option Addr, ∃ c2 : Nat, ∃ es : Array MapEntry, ∃ ck : Nat, (j ≤ N ∧ MapI es (ksOf l j)) ∧ N - j = μ ∧ F' = [(5, .slice a (bitsOf (l.take j)).length c), (6, .slice a2 (heardOf (l.take j)).length c2), (23, .int .i64 j)] ∧ .pt b19 (.map es ck) :: .row (.slice a2 (heardOf (l.take j)).length c2) 29 2 (heardOf (l.take j)).length (fl encH (heardOf (l.take j))) :: .row (.slice a (bitsOf (l.take j)).length c) 3 1 (bitsOf (l.take j)).length (fl encI (bitsOf (l.take j))) :: h = h') (N - 0) [(5, .slice none (bitsOf (l.take 0)).length 0), (6, .slice none (heardOf (l.take 0)).length 0), (23, .int .i64 0)] (h0 := .pt b19 (.map es0 ck0) :: .row (.slice none (heardOf (l.take 0)).length 0) 29 2 (heardOf (l.take 0)).length (fl encH (heardOf (l.take 0))) :: .row (.slice none (bitsOf (l.take 0)).length 0) 3 1 (bitsOf (l.take 0)).length (fl encI (bitsOf (l.take 0))) :: h) ?_ (by (repeat (first | exact List.Sublist.refl _ | refine List.Sublist.cons_cons _ ?_ | apply List.Sublist.cons))) ⟨0, none, 0, none, 0, es0, ck0, ⟨by omega, hM0⟩, rfl, rfl, rfl⟩ ?_
    · (repeat (first | exact Sub.nil | refine Sub.cons rfl ?_ | refine Sub.consE rfl (by simp; done) ?_))
    rintro _ _ _ ⟨j, a, c, a2, c2, es, ck, ⟨hj, hM⟩, rfl, rfl, rfl⟩
    refine WC.frm rfl ?_
    (repeat (first | refine WC.seqK fun K hK => ?_ | refine WC.block ?_ | refine WC.regionG rfl fun ops hG => ?_))
    refine WL.po (PO.bin (Ev.tmp rfl) (Ev.tmp rfl) rfl) (Nat.le_of_ble_eq_true rfl) ?_
    refine WL.nil (keepF (ts := [1, 5, 6, 7, 21, 22, 23, 24]) rfl (toK (by assumption) ?_))
    (try clear hG ops)
    (repeat (first | refine WC.seqK fun K hK => ?_ | refine WC.block ?_ | refine WC.regionG rfl fun ops hG => ?_))
    refine WC.cond (Ev.tmp rfl) (fun c24 => ?_) (fun c24 => ?_)
    · replace c24 := of_decide_eq_true c24
      obtain ⟨x, hx⟩ := get_some (l := l) (k := j) (by omega)
      obtain ⟨g1, g2⟩ := bits_bd l j (by omega)
      have g3 := bits_succ hx
      have g4 := heard_succ hx
      obtain ⟨g5, g6⟩ := bits_bd l (j + 1) (by omega)
      refine WC.skip (keepF (ts := [1, 5, 6, 7, 21, 22, 23]) rfl (toK (by assumption) ?_))
      (repeat (first | refine WC.seqK fun K hK => ?_ | refine WC.block ?_ | refine WC.regionG rfl fun ops hG => ?_))
      refine WL.po (PO.idx EL35.und EL35.size EL35.posz (Ev.tmp rfl) (Ev.tmp rfl) (by first | assumption | exact Rd.ofSl (by assumption) | exact Rd.ofPt rfl (by decide) (by (repeat (first | exact List.Mem.head _ | apply List.Mem.tail))) | exact Rd.mono (by assumption) (View.le.refl _) (by (repeat (first | exact List.Sublist.refl _ | refine List.Sublist.cons_cons _ ?_ | apply List.Sublist.cons))) | exact Rd.inRow (by (repeat (first | exact List.Mem.head _ | apply List.Mem.tail))) (by assumption) (by assumption) (by assumption)) rfl (by omega)) (Nat.le_of_ble_eq_true rfl) ?_
      refine WL.po (PO.loadFA Try.underlying40 rfl rfl encS_len (by first | assumption | exact Rd.ofSl (by assumption) | exact Rd.ofPt rfl (by decide) (by (repeat (first | exact List.Mem.head _ | apply List.Mem.tail))) | exact Rd.mono (by assumption) (View.le.refl _) (by (repeat (first | exact List.Sublist.refl _ | refine List.Sublist.cons_cons _ ?_ | apply List.Sublist.cons))) | exact Rd.inRow (by (repeat (first | exact List.Mem.head _ | apply List.Mem.tail))) (by assumption) (by assumption) (by assumption)) (Ev.tmp rfl) (by assumption) rfl rfl (Nat.succ_pos _)) (Nat.le_of_ble_eq_true rfl) ?_
      refine WL.alloc rfl rfl (Nat.le_of_ble_eq_true rfl) fun b9 => ?_
      refine WL.store rfl (Ev.tmp rfl) (Ev.tmp rfl) rfl rfl rfl rfl (by (repeat (first | exact Upd.here | apply Upd.next))) ?_
      refine WL.nil (keepF (ts := [1, 5, 6, 7, 9, 21, 22, 23]) rfl (toK (by assumption) ?_))
      (try clear hG ops)
      (repeat (first | refine WC.seqK fun K hK => ?_ | refine WC.block ?_ | refine WC.regionG rfl fun ops hG => ?_))
      refine WL.po (PO.fieldAddr Try.underlying40 rfl (Nat.ne_of_beq_eq_false rfl) (Ev.tmp rfl)) (Nat.le_of_ble_eq_true rfl) ?_
      refine WL.po (PO.load1 Try.underlying5 rfl (Ev.tmp rfl) (by (repeat (first | exact List.Mem.head _ | apply List.Mem.tail))) rfl) (Nat.le_of_ble_eq_true rfl) ?_
      refine WL.nil (keepF (ts := [1, 5, 6, 7, 9, 21, 22, 23, 28]) rfl (toK (by assumption) ?_))
      (try clear hG ops)
      (repeat (first | refine WC.seqK fun K hK => ?_ | refine WC.block ?_ | refine WC.regionG rfl fun ops hG => ?_))
      refine WL.po (PO.bin (Ev.tmp rfl) Ev.const rfl) (Nat.le_of_ble_eq_true rfl) ?_
      refine WL.po (PO.assign (Ev.tmp rfl)) (Nat.le_of_ble_eq_true rfl) ?_
      refine WL.nil (keepF (ts := [1, 5, 6, 7, 9, 21, 22, 23, 28, 32]) rfl (toK (by assumption) ?_))
      (try clear hG ops)
      (repeat (first | refine WC.seqK fun K hK => ?_ | refine WC.block ?_ | refine WC.regionG rfl fun ops hG => ?_))
      refine WC.cond (Ev.tmp rfl) (fun c32 => ?_) (fun c32 => ?_)
      · have d32 : (x.what == 0#8) = true := by rw [← beq8]; exact c32
        rw [itemB, if_pos d32] at g3
        rw [itemH, if_pos d32] at g4
        (repeat (first | refine WC.seqK fun K hK => ?_ | refine WC.block ?_ | refine WC.regionG rfl fun ops hG => ?_))
        refine WL.po (PO.move (Ev.tmp rfl)) (Nat.le_of_ble_eq_true rfl) ?_
        refine WL.po (PO.fieldAddr Try.underlying40 rfl (Nat.ne_of_beq_eq_false rfl) (Ev.tmp rfl)) (Nat.le_of_ble_eq_true rfl) ?_
        refine WL.po (PO.load1 Try.underlying5 rfl (Ev.tmp rfl) (by (repeat (first | exact List.Mem.head _ | apply List.Mem.tail))) rfl) (Nat.le_of_ble_eq_true rfl) ?_
        refine WL.callK Ev.func (Evs.cons (Ev.tmp rfl) Evs.nil) (bits_ct x.by_ _ _) (Nat.le_of_ble_eq_true rfl) ?_
        rintro _ _ ⟨a37, c37, k37, e37, rfl, rfl⟩
        refine WL.knowRow (a := a37) (by (repeat (first | exact List.Mem.head _ | apply List.Mem.tail))) fun p37 q37 r37 => ?_
        rw [bits_len] at e37
        refine WL.appendE EL36 (Ev.tmp rfl) (Ev.tmp rfl) (Rd.inRow (by (repeat (first | exact List.Mem.head _ | apply List.Mem.tail))) r37 p37 q37) (by first | exact one_of rfl | exact fl_ones (fun _ => rfl) _) (show (bitsOf (l.take j)).length + k37 = (bitsOf (l.take (j + 1))).length by rw [g3, List.length_append, bits_len]; omega) (show fl encI (bitsOf (l.take j)) ++ _ = fl encI (bitsOf (l.take (j + 1))) from by rw [g3]; exact (fl_app _ _).symm) (by omega) (by omega) (fun v' => by (repeat (first | exact Upd.here | apply Upd.next))) (Nat.le_of_ble_eq_true rfl) fun a38 c38 => ?_
        refine WL.po (PO.assign (Ev.tmp rfl)) (Nat.le_of_ble_eq_true rfl) ?_
        refine WL.nil (keepF (ts := [1, 5, 6, 7, 9, 21, 22, 23]) rfl (toK (by assumption) ?_))
        (try clear hG ops)
        (repeat (first | refine WC.seqK fun K hK => ?_ | refine WC.block ?_ | refine WC.regionG rfl fun ops hG => ?_))
        refine WL.po (PO.move (Ev.tmp rfl)) (Nat.le_of_ble_eq_true rfl) ?_
        refine WL.po (PO.fieldAddr Try.underlying40 rfl (Nat.ne_of_beq_eq_false rfl) (Ev.tmp rfl)) (Nat.le_of_ble_eq_true rfl) ?_
        refine WL.po (PO.load1 Try.underlying5 rfl (Ev.tmp rfl) (by (repeat (first | exact List.Mem.head _ | apply List.Mem.tail))) rfl) (Nat.le_of_ble_eq_true rfl) ?_
        refine WL.po (PO.build Try.underlying29 rfl rfl rfl (EvP.cons Ev.const (EvP.cons (Ev.tmp rfl) EvP.nil)) rfl) (Nat.le_of_ble_eq_true rfl) ?_
        refine WL.buildSlice EL37 rfl (EvP.cons (Ev.tmp rfl) EvP.nil) rfl rfl (by decide) rfl (Nat.le_of_ble_eq_true rfl) fun b43 => ?_
        refine WL.appendE EL37 (Ev.tmp rfl) (Ev.tmp rfl) (by first | assumption | exact Rd.ofSl (by assumption) | exact Rd.ofPt rfl (by decide) (by (repeat (first | exact List.Mem.head _ | apply List.Mem.tail))) | exact Rd.mono (by assumption) (View.le.refl _) (by (repeat (first | exact List.Sublist.refl _ | refine List.Sublist.cons_cons _ ?_ | apply List.Sublist.cons))) | exact Rd.inRow (by (repeat (first | exact List.Mem.head _ | apply List.Mem.tail))) (by assumption) (by assumption) (by assumption)) (by first | exact one_of rfl | exact fl_ones (fun _ => rfl) _) (show (heardOf (l.take j)).length + 1 = (heardOf (l.take (j + 1))).length by rw [g4, List.length_append]; rfl) (show fl encH (heardOf (l.take j)) ++ _ = fl encH (heardOf (l.take (j + 1))) from by rw [g4]; exact fl_snoc (enc := encH) _ ⟨1#8, x.by_⟩) (by omega) (by omega) (fun v' => by (repeat (first | exact Upd.here | apply Upd.next))) (Nat.le_of_ble_eq_true rfl) fun a44 c44 => ?_
        refine WL.po (PO.assign (Ev.tmp rfl)) (Nat.le_of_ble_eq_true rfl) ?_
        refine WL.nil (keepF (ts := [1, 5, 6, 7, 21, 22, 23]) rfl (toK (by assumption) ?_))
        (try clear hG ops)
        (repeat (first | refine WC.seqK fun K hK => ?_ | refine WC.block ?_ | refine WC.regionG rfl fun ops hG => ?_))
        refine WL.po (PO.move (Ev.tmp rfl)) (Nat.le_of_ble_eq_true rfl) ?_
        refine WL.po (PO.move (Ev.tmp rfl)) (Nat.le_of_ble_eq_true rfl) ?_
        refine WL.po (PO.lenSl Try.underlying36 (Ev.tmp rfl)) (Nat.le_of_ble_eq_true rfl) ?_
        refine WL.mapSet (.inl rfl) Try.underlying38 Try.underlying3 hM (Ev.tmp rfl) (Ev.tmp rfl) Ev.const (fun _ _ => by (repeat (first | exact Upd.here | apply Upd.next))) fun es1 ck1 hM1 => ?_
        refine WL.nil (keepF (ts := [1, 5, 6, 7, 21, 22, 23]) rfl (toK (by assumption) ?_))
        (try clear hG ops)
        (repeat (first | refine WC.seqK fun K hK => ?_ | refine WC.block ?_ | refine WC.regionG rfl fun ops hG => ?_))
        refine WL.po (PO.addI (Ev.tmp rfl) Ev.const (by omega)) (Nat.le_of_ble_eq_true rfl) ?_
        refine WL.po (PO.move (Ev.tmp rfl)) (Nat.le_of_ble_eq_true rfl) ?_
        refine WL.nil (loopBackI (N - (j + 1)) [(5, .slice a38 (bitsOf (l.take (j + 1))).length c38), (6, .slice a44 (heardOf (l.take (j + 1))).length c44), (23, .int .i64 (j + 1))] (h'' := .pt b19 (.map es1 ck1) :: .row (.slice a44 (heardOf (l.take (j + 1))).length c44) 29 2 (heardOf (l.take (j + 1))).length (fl encH (heardOf (l.take (j + 1)))) :: .row (.slice a38 (bitsOf (l.take (j + 1))).length c38) 3 1 (bitsOf (l.take (j + 1))).length (fl encI (bitsOf (l.take (j + 1)))) :: h) (by omega) ?_ (by (repeat (first | exact Sub.nil | refine Sub.cons rfl ?_ | refine Sub.consE rfl (by simp; done) ?_))) (by (repeat (first | exact List.Sublist.refl _ | refine List.Sublist.cons_cons _ ?_ | apply List.Sublist.cons))) ⟨j + 1, a38, c38, a44, c44, es1, ck1, ⟨by omega, hM1⟩, rfl, rfl, rfl⟩)
        (repeat (first | exact Sub.nil | refine Sub.cons rfl ?_ | refine Sub.consE rfl (by simp; done) ?_))
      · have d32 : (x.what == 0#8) = false := by rw [← beq8]; exact c32
        rw [itemB, if_neg (by rw [d32]; decide)] at g3
        rw [itemH, if_neg (by rw [d32]; decide)] at g4
        (repeat (first | refine WC.seqK fun K hK => ?_ | refine WC.block ?_ | refine WC.regionG rfl fun ops hG => ?_))
        refine WL.po (PO.bin (Ev.tmp rfl) Ev.const rfl) (Nat.le_of_ble_eq_true rfl) ?_
        refine WL.po (PO.assign (Ev.tmp rfl)) (Nat.le_of_ble_eq_true rfl) ?_
        refine WL.nil (keepF (ts := [1, 5, 6, 7, 21, 22, 23, 45]) rfl (toK (by assumption) ?_))
        (try clear hG ops)
        (repeat (first | refine WC.seqK fun K hK => ?_ | refine WC.block ?_ | refine WC.regionG rfl fun ops hG => ?_))
        refine WC.cond (Ev.tmp rfl) (fun c45 => ?_) (fun c45 => ?_)
        · have d45 : (x.what == 1#8) = true := by rw [← beq8]; exact c45
          rw [if_pos d45] at g3 g4
          (repeat (first | refine WC.seqK fun K hK => ?_ | refine WC.block ?_ | refine WC.regionG rfl fun ops hG => ?_))
          refine WL.po (PO.move (Ev.tmp rfl)) (Nat.le_of_ble_eq_true rfl) ?_
          refine WL.buildSlice EL36 rfl (EvP.cons Ev.const (EvP.cons Ev.const EvP.nil)) rfl rfl (by decide) rfl (Nat.le_of_ble_eq_true rfl) fun b48 => ?_
          refine WL.appendE EL36 (Ev.tmp rfl) (Ev.tmp rfl) (by first | assumption | exact Rd.ofSl (by assumption) | exact Rd.ofPt rfl (by decide) (by (repeat (first | exact List.Mem.head _ | apply List.Mem.tail))) | exact Rd.mono (by assumption) (View.le.refl _) (by (repeat (first | exact List.Sublist.refl _ | refine List.Sublist.cons_cons _ ?_ | apply List.Sublist.cons))) | exact Rd.inRow (by (repeat (first | exact List.Mem.head _ | apply List.Mem.tail))) (by assumption) (by assumption) (by assumption)) (by first | exact one_of rfl | exact fl_ones (fun _ => rfl) _) (show (bitsOf (l.take j)).length + 2 = (bitsOf (l.take (j + 1))).length by rw [g3, List.length_append]; rfl) (show fl encI (bitsOf (l.take j)) ++ _ = fl encI (bitsOf (l.take (j + 1))) from by rw [g3]; exact (fl_app (enc := encI) _ [1, 0]).symm) (by omega) (by omega) (fun v' => by (repeat (first | exact Upd.here | apply Upd.next))) (Nat.le_of_ble_eq_true rfl) fun a49 c49 => ?_
          refine WL.po (PO.assign (Ev.tmp rfl)) (Nat.le_of_ble_eq_true rfl) ?_
          refine WL.nil (keepF (ts := [1, 5, 6, 7, 21, 22, 23]) rfl (toK (by assumption) ?_))
          (try clear hG ops)
          (repeat (first | refine WC.seqK fun K hK => ?_ | refine WC.block ?_ | refine WC.regionG rfl fun ops hG => ?_))
          refine WL.po (PO.move (Ev.tmp rfl)) (Nat.le_of_ble_eq_true rfl) ?_
          refine WL.po (PO.build Try.underlying29 rfl rfl rfl (EvP.cons Ev.const EvP.nil) rfl) (Nat.le_of_ble_eq_true rfl) ?_
          refine WL.buildSlice EL37 rfl (EvP.cons (Ev.tmp rfl) EvP.nil) rfl rfl (by decide) rfl (Nat.le_of_ble_eq_true rfl) fun b52 => ?_
          refine WL.appendE EL37 (Ev.tmp rfl) (Ev.tmp rfl) (by first | assumption | exact Rd.ofSl (by assumption) | exact Rd.ofPt rfl (by decide) (by (repeat (first | exact List.Mem.head _ | apply List.Mem.tail))) | exact Rd.mono (by assumption) (View.le.refl _) (by (repeat (first | exact List.Sublist.refl _ | refine List.Sublist.cons_cons _ ?_ | apply List.Sublist.cons))) | exact Rd.inRow (by (repeat (first | exact List.Mem.head _ | apply List.Mem.tail))) (by assumption) (by assumption) (by assumption)) (by first | exact one_of rfl | exact fl_ones (fun _ => rfl) _) (show (heardOf (l.take j)).length + 1 = (heardOf (l.take (j + 1))).length by rw [g4, List.length_append]; rfl) (show fl encH (heardOf (l.take j)) ++ _ = fl encH (heardOf (l.take (j + 1))) from by rw [g4]; exact fl_snoc (enc := encH) _ ⟨2#8, 0#8⟩) (by omega) (by omega) (fun v' => by (repeat (first | exact Upd.here | apply Upd.next))) (Nat.le_of_ble_eq_true rfl) fun a53 c53 => ?_
          refine WL.po (PO.assign (Ev.tmp rfl)) (Nat.le_of_ble_eq_true rfl) ?_
          refine WL.nil (keepF (ts := [1, 5, 6, 7, 21, 22, 23]) rfl (toK (by assumption) ?_))
          (try clear hG ops)
          (repeat (first | refine WC.seqK fun K hK => ?_ | refine WC.block ?_ | refine WC.regionG rfl fun ops hG => ?_))
          refine WL.po (PO.move (Ev.tmp rfl)) (Nat.le_of_ble_eq_true rfl) ?_
          refine WL.po (PO.move (Ev.tmp rfl)) (Nat.le_of_ble_eq_true rfl) ?_
          refine WL.po (PO.lenSl Try.underlying36 (Ev.tmp rfl)) (Nat.le_of_ble_eq_true rfl) ?_
          refine WL.mapSet (.inl rfl) Try.underlying38 Try.underlying3 hM (Ev.tmp rfl) (Ev.tmp rfl) Ev.const (fun _ _ => by (repeat (first | exact Upd.here | apply Upd.next))) fun es1 ck1 hM1 => ?_
          refine WL.nil (keepF (ts := [1, 5, 6, 7, 21, 22, 23]) rfl (toK (by assumption) ?_))
          (try clear hG ops)
          (repeat (first | refine WC.seqK fun K hK => ?_ | refine WC.block ?_ | refine WC.regionG rfl fun ops hG => ?_))
          refine WL.po (PO.addI (Ev.tmp rfl) Ev.const (by omega)) (Nat.le_of_ble_eq_true rfl) ?_
          refine WL.po (PO.move (Ev.tmp rfl)) (Nat.le_of_ble_eq_true rfl) ?_
          refine WL.nil (loopBackI (N - (j + 1)) [(5, .slice a49 (bitsOf (l.take (j + 1))).length c49), (6, .slice a53 (heardOf (l.take (j + 1))).length c53), (23, .int .i64 (j + 1))] (h'' := .pt b19 (.map es1 ck1) :: .row (.slice a53 (heardOf (l.take (j + 1))).length c53) 29 2 (heardOf (l.take (j + 1))).length (fl encH (heardOf (l.take (j + 1)))) :: .row (.slice a49 (bitsOf (l.take (j + 1))).length c49) 3 1 (bitsOf (l.take (j + 1))).length (fl encI (bitsOf (l.take (j + 1)))) :: h) (by omega) ?_ (by (repeat (first | exact Sub.nil | refine Sub.cons rfl ?_ | refine Sub.consE rfl (by simp; done) ?_))) (by (repeat (first | exact List.Sublist.refl _ | refine List.Sublist.cons_cons _ ?_ | apply List.Sublist.cons))) ⟨j + 1, a49, c49, a53, c53, es1, ck1, ⟨by omega, hM1⟩, rfl, rfl, rfl⟩)
          (repeat (first | exact Sub.nil | refine Sub.cons rfl ?_ | refine Sub.consE rfl (by simp; done) ?_))
        · have d45 : (x.what == 1#8) = false := by rw [← beq8]; exact c45
          rw [if_neg (by rw [d45]; decide)] at g3 g4
          rw [List.append_nil] at g4
          (repeat (first | refine WC.seqK fun K hK => ?_ | refine WC.block ?_ | refine WC.regionG rfl fun ops hG => ?_))
          refine WL.po (PO.move (Ev.tmp rfl)) (Nat.le_of_ble_eq_true rfl) ?_
          refine WL.buildSlice EL36 rfl (EvP.cons Ev.const EvP.nil) rfl rfl (by decide) rfl (Nat.le_of_ble_eq_true rfl) fun b30 => ?_
          refine WL.appendE EL36 (Ev.tmp rfl) (Ev.tmp rfl) (by first | assumption | exact Rd.ofSl (by assumption) | exact Rd.ofPt rfl (by decide) (by (repeat (first | exact List.Mem.head _ | apply List.Mem.tail))) | exact Rd.mono (by assumption) (View.le.refl _) (by (repeat (first | exact List.Sublist.refl _ | refine List.Sublist.cons_cons _ ?_ | apply List.Sublist.cons))) | exact Rd.inRow (by (repeat (first | exact List.Mem.head _ | apply List.Mem.tail))) (by assumption) (by assumption) (by assumption)) (by first | exact one_of rfl | exact fl_ones (fun _ => rfl) _) (show (bitsOf (l.take j)).length + 1 = (bitsOf (l.take (j + 1))).length by rw [g3, List.length_append]; rfl) (show fl encI (bitsOf (l.take j)) ++ _ = fl encI (bitsOf (l.take (j + 1))) from by rw [g3]; exact fl_snoc _ _) (by omega) (by omega) (fun v' => by (repeat (first | exact Upd.here | apply Upd.next))) (Nat.le_of_ble_eq_true rfl) fun a31 c31 => ?_
          refine WL.po (PO.assign (Ev.tmp rfl)) (Nat.le_of_ble_eq_true rfl) ?_
          refine WL.nil (keepF (ts := [1, 5, 6, 7, 21, 22, 23]) rfl (toK (by assumption) ?_))
          (try clear hG ops)
          (repeat (first | refine WC.seqK fun K hK => ?_ | refine WC.block ?_ | refine WC.regionG rfl fun ops hG => ?_))
          refine WL.po (PO.move (Ev.tmp rfl)) (Nat.le_of_ble_eq_true rfl) ?_
          refine WL.po (PO.move (Ev.tmp rfl)) (Nat.le_of_ble_eq_true rfl) ?_
          refine WL.po (PO.lenSl Try.underlying36 (Ev.tmp rfl)) (Nat.le_of_ble_eq_true rfl) ?_
          refine WL.mapSet (.inl rfl) Try.underlying38 Try.underlying3 hM (Ev.tmp rfl) (Ev.tmp rfl) Ev.const (fun _ _ => by (repeat (first | exact Upd.here | apply Upd.next))) fun es1 ck1 hM1 => ?_
          refine WL.nil (keepF (ts := [1, 5, 6, 7, 21, 22, 23]) rfl (toK (by assumption) ?_))
          (try clear hG ops)
          (repeat (first | refine WC.seqK fun K hK => ?_ | refine WC.block ?_ | refine WC.regionG rfl fun ops hG => ?_))
          have g7 : (heardOf (l.take j)) = (heardOf (l.take (j + 1))) := g4.symm
          refine WL.rowE (v' := .slice a2 (heardOf (l.take (j + 1))).length c2) (k' := (heardOf (l.take (j + 1))).length) (xs' := fl encH (heardOf (l.take (j + 1)))) (v := .slice a2 (heardOf (l.take j)).length c2) (k := (heardOf (l.take j)).length) (xs := fl encH (heardOf (l.take j))) (by rw [g7]) (by rw [g7]) (by rw [g7]) (by (repeat (first | exact Upd.here | apply Upd.next))) ?_
          refine WL.po (PO.addI (Ev.tmp rfl) Ev.const (by omega)) (Nat.le_of_ble_eq_true rfl) ?_
          refine WL.po (PO.move (Ev.tmp rfl)) (Nat.le_of_ble_eq_true rfl) ?_
          refine WL.nil (loopBackI (N - (j + 1)) [(5, .slice a31 (bitsOf (l.take (j + 1))).length c31), (6, .slice a2 (heardOf (l.take (j + 1))).length c2), (23, .int .i64 (j + 1))] (h'' := .pt b19 (.map es1 ck1) :: .row (.slice a2 (heardOf (l.take (j + 1))).length c2) 29 2 (heardOf (l.take (j + 1))).length (fl encH (heardOf (l.take (j + 1)))) :: .row (.slice a31 (bitsOf (l.take (j + 1))).length c31) 3 1 (bitsOf (l.take (j + 1))).length (fl encI (bitsOf (l.take (j + 1)))) :: h) (by omega) ?_ (by (repeat (first | exact Sub.nil | refine Sub.cons rfl ?_ | refine Sub.consE rfl (by simp; done) ?_))) (by (repeat (first | exact List.Sublist.refl _ | refine List.Sublist.cons_cons _ ?_ | apply List.Sublist.cons))) ⟨j + 1, a31, c31, a2, c2, es1, ck1, ⟨by omega, hM1⟩, rfl, rfl, rfl⟩)
          refine Sub.cons rfl (Sub.consE rfl (by rw [g4]) ?_)
          (repeat (first | exact Sub.nil | refine Sub.cons rfl ?_ | refine Sub.consE rfl (by simp; done) ?_))
    · replace c24 := of_decide_eq_false c24
      have e : j = N := by omega
      subst e
      obtain ⟨g1, g2⟩ := bits_bd l l.length (Nat.le_refl _)
      subst hlen
      rw [List.take_length] at *
      refine WC.exit (keepF (ts := [1, 5, 6, 7]) rfl (toK (by assumption) ?_))
      (repeat (first | refine WC.seqK fun K hK => ?_ | refine WC.block ?_ | refine WC.regionG rfl fun ops hG => ?_))
      refine WL.knowRow (a := a) (by (repeat (first | exact List.Mem.head _ | apply List.Mem.tail))) fun p5 q5 r5 => ?_
      refine WL.knowRow (a := a2) (by (repeat (first | exact List.Mem.head _ | apply List.Mem.tail))) fun p6 q6 r6 => ?_
      refine WL.po (PO.move (Ev.tmp rfl)) (Nat.le_of_ble_eq_true rfl) ?_
      refine WL.callK Ev.func (Evs.cons (Ev.tmp rfl) Evs.nil) (packets_ct _ _ _ (bitsOf l) _ _ (Rd.inRow (by (repeat (first | exact List.Mem.head _ | apply List.Mem.tail))) r5 p5 q5) (by omega)) (Nat.le_of_ble_eq_true rfl) ?_
      rintro _ _ ⟨a60, c60, k60, e60, rfl, rfl⟩
      refine WL.knowRow (a := a60) (by (repeat (first | exact List.Mem.head _ | apply List.Mem.tail))) fun p60 q60 r60 => ?_
      refine WL.po (PO.move (Ev.tmp rfl)) (Nat.le_of_ble_eq_true rfl) ?_
      refine WL.po (PO.extract (Ev.tmp rfl) rfl) (Nat.le_of_ble_eq_true rfl) ?_
      refine WL.po (PO.extract (Ev.tmp rfl) rfl) (Nat.le_of_ble_eq_true rfl) ?_
      refine WL.po (PO.assign (Ev.tmp rfl)) (Nat.le_of_ble_eq_true rfl) ?_
      refine WL.po (PO.assign (Ev.tmp rfl)) (Nat.le_of_ble_eq_true rfl) ?_
      refine WL.nil (keepF (ts := [1, 5, 6, 7, 10, 11]) rfl (toK (by assumption) ?_))
      (try clear hG ops)
      (repeat (first | refine WC.seqK fun K hK => ?_ | refine WC.block ?_ | refine WC.regionG rfl fun ops hG => ?_))
      refine WL.po (PO.move (Ev.tmp rfl)) (Nat.le_of_ble_eq_true rfl) ?_
      refine WL.po (PO.bin (Ev.tmp rfl) Ev.const rfl) (Nat.le_of_ble_eq_true rfl) ?_
      refine WL.po (PO.move (Ev.tmp rfl)) (Nat.le_of_ble_eq_true rfl) ?_
      refine WL.poG (GU.f (hG _ _ rfl) rfl) (fun hc => PO.move (Ev.tmp rfl)) (Nat.le_of_ble_eq_true rfl) ?_
      refine WL.poG (GU.f (hG _ _ rfl) rfl) (fun hc => PO.move (Ev.tmp rfl)) (Nat.le_of_ble_eq_true rfl) ?_
      refine WL.callG (GU.f (hG _ _ rfl) rfl) (fun hc => ⟨Ev.func, (Evs.cons (Ev.gv rfl hc) (Evs.cons (Ev.gv rfl hc) Evs.nil)), equal19_ct _ _ _ _ _ _ (packets (bitsOf l)).1 (heardOf l) _ _ (Rd.inRow (by (repeat (first | exact List.Mem.head _ | apply List.Mem.tail))) r60 p60 q60) (Rd.inRow (by (repeat (first | exact List.Mem.head _ | apply List.Mem.tail))) r6 p6 q6)⟩) (Nat.le_of_ble_eq_true rfl) ?_
      refine WL.poG (GU.f (hG _ _ rfl) rfl) (fun hc => PO.not (Ev.gv rfl hc)) (Nat.le_of_ble_eq_true rfl) ?_
      refine WL.po (PO.pickOr rfl rfl) (Nat.le_of_ble_eq_true rfl) ?_
      refine WL.nil (keepF (ts := [1, 5, 6, 7, 70]) rfl (toK (by assumption) ?_))
      (try clear hG ops)
      (repeat (first | refine WC.seqK fun K hK => ?_ | refine WC.block ?_ | refine WC.regionG rfl fun ops hG => ?_))
      refine WC.cond (Ev.tmp rfl) (fun c70 => ?_) (fun c70 => ?_)
      · exfalso
        rw [whole_packets, eqL_self eqH_iff] at c70
        simp at c70
      · refine WC.skip (keepF (ts := [1, 5, 6, 7]) rfl (toK (by assumption) ?_))
        (repeat (first | refine WC.seqK fun K hK => ?_ | refine WC.block ?_ | refine WC.regionG rfl fun ops hG => ?_))
        refine WL.po (PO.move (Ev.tmp rfl)) (Nat.le_of_ble_eq_true rfl) ?_
        refine WL.po (PO.conv Try.underlying22 Try.underlying3 (Ev.tmp rfl)) (Nat.le_of_ble_eq_true rfl) ?_
        refine WL.po (PO.move (Ev.tmp rfl)) (Nat.le_of_ble_eq_true rfl) ?_
        refine WL.po (PO.lenSl Try.underlying36 (Ev.tmp rfl)) (Nat.le_of_ble_eq_true rfl) ?_
        refine WL.po (PO.addI (Ev.tmp rfl) Ev.const (by omega)) (Nat.le_of_ble_eq_true rfl) ?_
        refine WL.po (PO.rem (Ev.tmp rfl) (Ev.tmp rfl) (by omega)) (Nat.le_of_ble_eq_true rfl) ?_
        refine WL.val (v' := .int .i64 ((cut.toNat % ((bitsOf l).length + 1) : Nat) : Int)) (congrArg (Value.int .i64) ((rem_nat cut.toNat (bitsOf l).length).resolve_right (by have := cut.isLt; omega))) ?_
        refine WL.po (PO.assign (Ev.tmp rfl)) (Nat.le_of_ble_eq_true rfl) ?_
        refine WL.nil (keepF (ts := [5, 6, 7, 12]) rfl (toK (by assumption) ?_))
        (try clear hG ops)
        (repeat (first | refine WC.seqK fun K hK => ?_ | refine WC.block ?_ | refine WC.regionG rfl fun ops hG => ?_))
        have hn : cut.toNat % ((bitsOf l).length + 1) ≤ (bitsOf l).length := by have := Nat.mod_lt cut.toNat (show 0 < (bitsOf l).length + 1 by omega); omega
        generalize cut.toNat % ((bitsOf l).length + 1) = n at *
        refine WL.po (PO.move (Ev.tmp rfl)) (Nat.le_of_ble_eq_true rfl) ?_
        refine WL.po (PO.move (Ev.tmp rfl)) (Nat.le_of_ble_eq_true rfl) ?_
        refine WL.po (PO.sliceH EL36.und EL36.size (Ev.tmp rfl) (Ev.tmp rfl) rfl (by omega)) (Nat.le_of_ble_eq_true rfl) ?_
        refine WL.callK Ev.func (Evs.cons (Ev.tmp rfl) Evs.nil) (packets_ct _ _ _ ((bitsOf l).take n) _ _ (Rd.takeF encI_len (l := bitsOf l) (Rd.inRow (by (repeat (first | exact List.Mem.head _ | apply List.Mem.tail))) r5 p5 q5) (by omega)) (by omega)) (Nat.le_of_ble_eq_true rfl) ?_
        rintro _ _ ⟨a81, c81, k81, e81, rfl, rfl⟩
        refine WL.knowRow (a := a81) (by (repeat (first | exact List.Mem.head _ | apply List.Mem.tail))) fun p81 q81 r81 => ?_
        refine WL.po (PO.move (Ev.tmp rfl)) (Nat.le_of_ble_eq_true rfl) ?_
        refine WL.po (PO.extract (Ev.tmp rfl) rfl) (Nat.le_of_ble_eq_true rfl) ?_
        refine WL.po (PO.extract (Ev.tmp rfl) rfl) (Nat.le_of_ble_eq_true rfl) ?_
        refine WL.po (PO.assign (Ev.tmp rfl)) (Nat.le_of_ble_eq_true rfl) ?_
        refine WL.po (PO.assign (Ev.tmp rfl)) (Nat.le_of_ble_eq_true rfl) ?_
        refine WL.nil (keepF (ts := [6, 7, 12, 13, 14]) rfl (toK (by assumption) ?_))
        (try clear hG ops)
        (repeat (first | refine WC.seqK fun K hK => ?_ | refine WC.block ?_ | refine WC.regionG rfl fun ops hG => ?_))
        refine WL.po (PO.move (Ev.tmp rfl)) (Nat.le_of_ble_eq_true rfl) ?_
        refine WL.po (PO.move (Ev.tmp rfl)) (Nat.le_of_ble_eq_true rfl) ?_
        refine WL.po (PO.mapGet Try.underlying38 Try.underlying3 rfl hM (Ev.tmp rfl) (Ev.tmp rfl) (by (repeat (first | exact List.Mem.head _ | apply List.Mem.tail)))) (Nat.le_of_ble_eq_true rfl) ?_
        refine WL.po (PO.not (Ev.tmp rfl)) (Nat.le_of_ble_eq_true rfl) ?_
        refine WL.nil (keepF (ts := [6, 13, 14, 87]) rfl (toK (by assumption) ?_))
        (try clear hG ops)
        (repeat (first | refine WC.seqK fun K hK => ?_ | refine WC.block ?_ | refine WC.regionG rfl fun ops hG => ?_))
        refine WC.cond (Ev.tmp rfl) (fun c87 => ?_) (fun c87 => ?_)
        · have hno : ¬ ((n : Nat) : Int) ∈ ksOf l l.length := by simpa using c87
          have hp := cut_out hn hno
          rw [hp] at e81
          dsimp only at e81
          (repeat (first | refine WC.seqK fun K hK => ?_ | refine WC.block ?_ | refine WC.regionG rfl fun ops hG => ?_))
          refine WL.po (PO.move (Ev.tmp rfl)) (Nat.le_of_ble_eq_true rfl) ?_
          refine WL.po (PO.bin (Ev.tmp rfl) Ev.const rfl) (Nat.le_of_ble_eq_true rfl) ?_
          refine WL.val (v' := .bool true) (congrArg Value.bool (by rw [hp]; rfl)) ?_
          refine WL.po (PO.move (Ev.tmp rfl)) (Nat.le_of_ble_eq_true rfl) ?_
          refine WL.unG (GU.t (hG _ _ rfl) rfl) rfl ?_
          refine WL.po (PO.move (Ev.tmp rfl)) (Nat.le_of_ble_eq_true rfl) ?_
          refine WL.unG (GU.t (hG _ _ rfl) rfl) rfl ?_
          refine WL.po (PO.lenSl Try.underlying37 (Ev.tmp rfl)) (Nat.le_of_ble_eq_true rfl) ?_
          refine WL.unG (GU.t (hG _ _ rfl) rfl) rfl ?_
          refine WL.po (PO.bin (Ev.tmp rfl) Ev.const rfl) (Nat.le_of_ble_eq_true rfl) ?_
          refine WL.val (v' := .bool true) (congrArg Value.bool (by rw [e81]; rfl)) ?_
          refine WL.po (PO.pickAnd rfl rfl) (Nat.le_of_ble_eq_true rfl) ?_
          refine WL.po (PO.move (Ev.tmp rfl)) (Nat.le_of_ble_eq_true rfl) ?_
          refine WL.unG (GU.t (hG _ _ rfl) rfl) rfl ?_
          refine WL.callP Ev.func Evs.nil (awake_ct _ _) (Nat.le_of_ble_eq_true rfl) ?_
          refine WL.po (PO.pickAnd rfl rfl) (Nat.le_of_ble_eq_true rfl) ?_
          refine WL.po (PO.assign (Ev.tmp rfl)) (Nat.le_of_ble_eq_true rfl) ?_
          refine WL.nil (keepF (ts := [4]) rfl (toK (by assumption) ?_))
          (try clear hG ops)
          refine WC.ret (end1 (h' := h) (.inl rfl) rfl (RV.tmp rfl) (View.le.refl m) (by (repeat (first | exact List.Sublist.refl _ | refine List.Sublist.cons_cons _ ?_ | apply List.Sublist.cons))) ?_)
          rfl
        · have hyes : ((n : Nat) : Int) ∈ ksOf l l.length := by simpa using c87
          obtain ⟨i, hp⟩ := cut_in hn hyes
          obtain ⟨t1, t2⟩ := heard_take l i
          have e81' := e81
          rw [hp] at e81'
          dsimp only at e81'
          refine WC.skip (keepF (ts := [6, 13, 14]) rfl (toK (by assumption) ?_))
          (repeat (first | refine WC.seqK fun K hK => ?_ | refine WC.block ?_ | refine WC.regionG rfl fun ops hG => ?_))
          refine WL.po (PO.move (Ev.tmp rfl)) (Nat.le_of_ble_eq_true rfl) ?_
          refine WL.po (PO.bin (Ev.tmp rfl) Ev.const rfl) (Nat.le_of_ble_eq_true rfl) ?_
          refine WL.val (v' := .bool true) (congrArg Value.bool (by rw [hp]; rfl)) ?_
          refine WL.po (PO.move (Ev.tmp rfl)) (Nat.le_of_ble_eq_true rfl) ?_
          refine WL.unG (GU.t (hG _ _ rfl) rfl) rfl ?_
          refine WL.po (PO.move (Ev.tmp rfl)) (Nat.le_of_ble_eq_true rfl) ?_
          refine WL.unG (GU.t (hG _ _ rfl) rfl) rfl ?_
          refine WL.po (PO.lenSl Try.underlying37 (Ev.tmp rfl)) (Nat.le_of_ble_eq_true rfl) ?_
          refine WL.unG (GU.t (hG _ _ rfl) rfl) rfl ?_
          refine WL.po (PO.move (Ev.tmp rfl)) (Nat.le_of_ble_eq_true rfl) ?_
          refine WL.unG (GU.t (hG _ _ rfl) rfl) rfl ?_
          refine WL.po (PO.lenSl Try.underlying37 (Ev.tmp rfl)) (Nat.le_of_ble_eq_true rfl) ?_
          refine WL.unG (GU.t (hG _ _ rfl) rfl) rfl ?_
          refine WL.po (PO.bin (Ev.tmp rfl) (Ev.tmp rfl) rfl) (Nat.le_of_ble_eq_true rfl) ?_
          refine WL.val (v' := .bool true) (congrArg Value.bool (by simp; omega)) ?_
          refine WL.po (PO.pickAnd rfl rfl) (Nat.le_of_ble_eq_true rfl) ?_
          refine WL.po (PO.move (Ev.tmp rfl)) (Nat.le_of_ble_eq_true rfl) ?_
          refine WL.unG (GU.t (hG _ _ rfl) rfl) rfl ?_
          refine WL.po (PO.move (Ev.tmp rfl)) (Nat.le_of_ble_eq_true rfl) ?_
          refine WL.unG (GU.t (hG _ _ rfl) rfl) rfl ?_
          refine WL.po (PO.move (Ev.tmp rfl)) (Nat.le_of_ble_eq_true rfl) ?_
          refine WL.unG (GU.t (hG _ _ rfl) rfl) rfl ?_
          refine WL.po (PO.move (Ev.tmp rfl)) (Nat.le_of_ble_eq_true rfl) ?_
          refine WL.unG (GU.t (hG _ _ rfl) rfl) rfl ?_
          refine WL.po (PO.lenSl Try.underlying37 (Ev.tmp rfl)) (Nat.le_of_ble_eq_true rfl) ?_
          refine WL.unG (GU.t (hG _ _ rfl) rfl) rfl ?_
          refine WL.po (PO.sliceH EL37.und EL37.size (Ev.tmp rfl) (Ev.tmp rfl) rfl (by omega)) (Nat.le_of_ble_eq_true rfl) ?_
          refine WL.unG (GU.t (hG _ _ rfl) rfl) rfl ?_
          refine WL.callP Ev.func (Evs.cons (Ev.tmp rfl) (Evs.cons (Ev.tmp rfl) Evs.nil)) (equal19_ct _ _ _ _ _ _ (packets ((bitsOf l).take n)).1 ((heardOf l).take k81) _ _ (Rd.inRow (by (repeat (first | exact List.Mem.head _ | apply List.Mem.tail))) r81 p81 q81) (Rd.takeF encH_len (l := heardOf l) (Rd.inRow (by (repeat (first | exact List.Mem.head _ | apply List.Mem.tail))) r6 p6 q6) (by omega))) (Nat.le_of_ble_eq_true rfl) ?_
          refine WL.val (v' := .bool true) (congrArg Value.bool (by rw [hp, e81', t2]; exact eqL_self eqH_iff _)) ?_
          refine WL.po (PO.pickAnd rfl rfl) (Nat.le_of_ble_eq_true rfl) ?_
          refine WL.po (PO.move (Ev.tmp rfl)) (Nat.le_of_ble_eq_true rfl) ?_
          refine WL.unG (GU.t (hG _ _ rfl) rfl) rfl ?_
          refine WL.callP Ev.func Evs.nil (awake_ct _ _) (Nat.le_of_ble_eq_true rfl) ?_
          refine WL.po (PO.pickAnd rfl rfl) (Nat.le_of_ble_eq_true rfl) ?_
          refine WL.po (PO.assign (Ev.tmp rfl)) (Nat.le_of_ble_eq_true rfl) ?_
          refine WL.nil (keepF (ts := [4]) rfl (toK (by assumption) ?_))
          (try clear hG ops)
          refine WC.ret (end1 (h' := h) (.inl rfl) rfl (RV.tmp rfl) (View.le.refl m) (by (repeat (first | exact List.Sublist.refl _ | refine List.Sublist.cons_cons _ ?_ | apply List.Sublist.cons))) ?_)
          rfl
end Go.Proofs.Ytoeghfpkpppchaa

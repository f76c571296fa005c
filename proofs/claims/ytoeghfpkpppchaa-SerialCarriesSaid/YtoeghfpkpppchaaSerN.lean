/- serial: what one link end sends, the other one receives. -/
import Derived.Test.YtoeghfpkpppchaaSerH
import Derived.Test.YtoeghfpkpppchaaSerS
namespace Go.Proofs.Ytoeghfpkpppchaa
open Go.Eng Go.Ser

theorem carries_law (a0 : Option Addr) (N c0 : Nat) (l : List Stp) (h : List Res) (m : View) (hs : Rd m h a0 N c0 2 (fl encS l)) : CT Try.prog 9 [.slice a0 N c0] h m Law := by
  have hlen := hs.lenF encS_len (by decide)
  refine CT.body Try.call9 Try.func9 rfl Try.ntmps9 (Nat.le_of_ble_eq_true rfl) rfl ?_
  (repeat (first | refine WC.seqK fun K hK => ?_ | refine WC.block ?_ | refine WC.regionG rfl fun ops hG => ?_))
  refine WL.po (PO.assign Ev.const) (Nat.le_of_ble_eq_true rfl) ?_
  refine WL.nil (keepF (ts := [0]) rfl (toK (by assumption) ?_))
  (try clear hG ops)
  (repeat (first | refine WC.seqK fun K hK => ?_ | refine WC.block ?_ | refine WC.regionG rfl fun ops hG => ?_))
  refine WL.po (PO.move (Ev.tmp rfl)) (Nat.le_of_ble_eq_true rfl) ?_
  refine WL.po (PO.lenSl Try.underlying35 (Ev.tmp rfl)) (Nat.le_of_ble_eq_true rfl) ?_
  refine WL.po (PO.bin (Ev.tmp rfl) Ev.const rfl) (Nat.le_of_ble_eq_true rfl) ?_
  refine WL.nil (keepF (ts := [0, 8]) rfl (toK (by assumption) ?_))
  (try clear hG ops)
  (repeat (first | refine WC.seqK fun K hK => ?_ | refine WC.block ?_ | refine WC.regionG rfl fun ops hG => ?_))
  refine WC.cond (Ev.tmp rfl) (fun c8 => ?_) (fun c8 => ?_)
  · replace c8 := of_decide_eq_true c8
    (repeat (first | refine WC.seqK fun K hK => ?_ | refine WC.block ?_ | refine WC.regionG rfl fun ops hG => ?_))
    refine WL.callP Ev.func Evs.nil (awake_ct _ _) (Nat.le_of_ble_eq_true rfl) ?_
    refine WL.po (PO.assign (Ev.tmp rfl)) (Nat.le_of_ble_eq_true rfl) ?_
    refine WL.nil (keepF (ts := [2]) rfl (toK (by assumption) ?_))
    (try clear hG ops)
    refine WC.ret (end1 (h' := h) (.inl rfl) rfl (RV.tmp rfl) (View.le.refl m) (by (repeat (first | exact List.Sublist.refl _ | refine List.Sublist.cons_cons _ ?_ | apply List.Sublist.cons))) ?_)
    rfl
  · replace c8 := of_decide_eq_false c8
    refine WC.skip (keepF (ts := [0]) rfl (toK (by assumption) ?_))
    (repeat (first | refine WC.seqK fun K hK => ?_ | refine WC.block ?_ | refine WC.regionG rfl fun ops hG => ?_))
    refine WL.po (PO.build Try.underlying58 rfl rfl rfl EvP.nil rfl) (Nat.le_of_ble_eq_true rfl) ?_
    refine WL.box (Ev.tmp rfl) rfl (Nat.le_of_ble_eq_true rfl) fun b11 => ?_
    refine WL.po (PO.assign (Ev.tmp rfl)) (Nat.le_of_ble_eq_true rfl) ?_
    refine WL.addNil 5 1 (WL.addNil 5 1 ?_)
    refine WL.take (r := .pt b11 _) (by (repeat (first | exact Del.here | apply Del.next))) ?_
    refine WL.nil (keepF (ts := [0, 3]) rfl (toK (by assumption) ?_))
    (try clear hG ops)
    (repeat (first | refine WC.seqK fun K hK => ?_ | refine WC.block ?_ | refine WC.regionG rfl fun ops hG => ?_))
    refine WL.po (PO.move (Ev.tmp rfl)) (Nat.le_of_ble_eq_true rfl) ?_
    refine WL.po (PO.lenSl Try.underlying35 (Ev.tmp rfl)) (Nat.le_of_ble_eq_true rfl) ?_
    refine WL.po (PO.move Ev.const) (Nat.le_of_ble_eq_true rfl) ?_
    refine WL.nil (keepF (ts := [3, 12, 13, 14]) rfl (toK (by assumption) ?_))
    (try clear hG ops)
    (repeat (first | refine WC.seqK fun K hK => ?_ | refine WC.block ?_ | refine WC.regionG rfl fun ops hG => ?_))
    refine WC.loopI [3, 12, 13] rfl (fun μ F' h' => ∃ k : Nat, ∃ ga : Option Addr, ∃ gc : Nat, ∃ ha : Option Addr, ∃ hc : Nat, ∃ p : Pair, (k ≤ N ∧ Inv p ∧ p.gave.length ≤ k ∧ p.acks ≤ k) ∧ N - k = μ ∧ F' = [(14, .int .i64 k)] ∧ PR b11 ga gc ha hc p h = h') (N - 0) [(14, .int .i64 0)] (h0 := PR b11 none 0 none 0 zeroP h) ?_ (by (repeat (first | exact List.Sublist.refl _ | refine List.Sublist.cons_cons _ ?_ | apply List.Sublist.cons))) ⟨0, none, 0, none, 0, zeroP, ⟨by omega, zero_inv, by decide, by decide⟩, rfl, rfl, rfl⟩ ?_
    · (repeat (first | exact Sub.nil | refine Sub.cons rfl ?_ | refine Sub.consE rfl (by simp; done) ?_))
    rintro _ _ _ ⟨k, ga, gc, ha, hc, p, ⟨hk, hI, hg, hac⟩, rfl, rfl, rfl⟩
    refine WC.frm rfl ?_
    (repeat (first | refine WC.seqK fun K hK => ?_ | refine WC.block ?_ | refine WC.regionG rfl fun ops hG => ?_))
    refine WL.po (PO.bin (Ev.tmp rfl) (Ev.tmp rfl) rfl) (Nat.le_of_ble_eq_true rfl) ?_
    refine WL.nil (keepF (ts := [3, 12, 13, 14, 15]) rfl (toK (by assumption) ?_))
    (try clear hG ops)
    (repeat (first | refine WC.seqK fun K hK => ?_ | refine WC.block ?_ | refine WC.regionG rfl fun ops hG => ?_))
    refine WC.cond (Ev.tmp rfl) (fun c15 => ?_) (fun c15 => ?_)
    · replace c15 := of_decide_eq_true c15
      obtain ⟨x, hx⟩ := get_some (l := l) (k := k) (by omega)
      have hb := hI.len
      refine WC.skip (keepF (ts := [3, 12, 13, 14]) rfl (toK (by assumption) ?_))
      (repeat (first | refine WC.seqK fun K hK => ?_ | refine WC.block ?_ | refine WC.regionG rfl fun ops hG => ?_))
      refine WL.po (PO.idx EL35.und EL35.size EL35.posz (Ev.tmp rfl) (Ev.tmp rfl) (by first | assumption | exact Rd.ofSl (by assumption) | exact Rd.ofPt rfl (by decide) (by (repeat (first | exact List.Mem.head _ | apply List.Mem.tail))) | exact Rd.mono (by assumption) (View.le.refl _) (by (repeat (first | exact List.Sublist.refl _ | refine List.Sublist.cons_cons _ ?_ | apply List.Sublist.cons))) | exact Rd.inRow (by (repeat (first | exact List.Mem.head _ | apply List.Mem.tail))) (by assumption) (by assumption) (by assumption)) rfl (by omega)) (Nat.le_of_ble_eq_true rfl) ?_
      refine WL.po (PO.loadFA Try.underlying40 rfl rfl encS_len (by first | assumption | exact Rd.ofSl (by assumption) | exact Rd.ofPt rfl (by decide) (by (repeat (first | exact List.Mem.head _ | apply List.Mem.tail))) | exact Rd.mono (by assumption) (View.le.refl _) (by (repeat (first | exact List.Sublist.refl _ | refine List.Sublist.cons_cons _ ?_ | apply List.Sublist.cons))) | exact Rd.inRow (by (repeat (first | exact List.Mem.head _ | apply List.Mem.tail))) (by assumption) (by assumption) (by assumption)) (Ev.tmp rfl) (by assumption) rfl rfl (Nat.succ_pos _)) (Nat.le_of_ble_eq_true rfl) ?_
      refine WL.alloc rfl rfl (Nat.le_of_ble_eq_true rfl) fun b5 => ?_
      refine WL.store rfl (Ev.tmp rfl) (Ev.tmp rfl) rfl rfl rfl rfl (by (repeat (first | exact Upd.here | apply Upd.next))) ?_
      refine WL.nil (keepF (ts := [3, 5, 12, 13, 14]) rfl (toK (by assumption) ?_))
      (try clear hG ops)
      (repeat (first | refine WC.seqK fun K hK => ?_ | refine WC.block ?_ | refine WC.regionG rfl fun ops hG => ?_))
      refine WL.po (PO.fieldAddr Try.underlying40 rfl (Nat.ne_of_beq_eq_false rfl) (Ev.tmp rfl)) (Nat.le_of_ble_eq_true rfl) ?_
      refine WL.po (PO.load1 Try.underlying5 rfl (Ev.tmp rfl) (by (repeat (first | exact List.Mem.head _ | apply List.Mem.tail))) rfl) (Nat.le_of_ble_eq_true rfl) ?_
      refine WL.po (PO.bin (Ev.tmp rfl) Ev.const rfl) (Nat.le_of_ble_eq_true rfl) ?_
      refine WL.nil (keepF (ts := [3, 5, 12, 13, 14, 20]) rfl (toK (by assumption) ?_))
      (try clear hG ops)
      (repeat (first | refine WC.seqK fun K hK => ?_ | refine WC.block ?_ | refine WC.regionG rfl fun ops hG => ?_))
      refine WC.cond (Ev.tmp rfl) (fun c20 => ?_) (fun c20 => ?_)
      · replace c20 := of_decide_eq_true c20
        (repeat (first | refine WC.seqK fun K hK => ?_ | refine WC.block ?_ | refine WC.regionG rfl fun ops hG => ?_))
        refine WL.po (PO.move (Ev.tmp rfl)) (Nat.le_of_ble_eq_true rfl) ?_
        refine WL.drop (h' := PR b11 ga gc ha hc p h) (by (repeat (first | exact List.Sublist.refl _ | refine List.Sublist.cons_cons _ ?_ | apply List.Sublist.cons))) ?_
        refine WL.callK Ev.func (Evs.cons (Ev.tmp rfl) Evs.nil) (carry_ct p b11 ga gc ha hc _ _ hI.ia hI.pb.1 ⟨by omega, hI.g0, by omega⟩) (Nat.le_of_ble_eq_true rfl) ?_
        rintro _ _ ⟨ha', hc', rfl⟩
        refine WL.nil (keepF (ts := [3, 12, 13, 14]) rfl (toK (by assumption) ?_))
        (try clear hG ops)
        (repeat (first | refine WC.seqK fun K hK => ?_ | refine WC.block ?_ | refine WC.regionG rfl fun ops hG => ?_))
        refine WL.po (PO.move (Ev.tmp rfl)) (Nat.le_of_ble_eq_true rfl) ?_
        refine WL.po (PO.nilCheck (Ev.tmp rfl)) (Nat.le_of_ble_eq_true rfl) ?_
        refine WL.po (PO.fieldAddr Try.underlying58 rfl (Nat.ne_of_beq_eq_false rfl) (Ev.tmp rfl)) (Nat.le_of_ble_eq_true rfl) ?_
        refine WL.po (PO.load1 Try.underlying4 rfl (Ev.tmp rfl) (by (repeat (first | exact List.Mem.head _ | apply List.Mem.tail))) rfl) (Nat.le_of_ble_eq_true rfl) ?_
        refine WL.nil (keepF (ts := [3, 12, 13, 14, 29]) rfl (toK (by assumption) ?_))
        (try clear hG ops)
        (repeat (first | refine WC.seqK fun K hK => ?_ | refine WC.block ?_ | refine WC.regionG rfl fun ops hG => ?_))
        refine WC.cond (Ev.tmp rfl) (fun c29 => ?_) (fun c29 => ?_)
        · exact absurd ((carry_inv hI).1.ok.symm.trans c29) (by decide)
        · refine WC.skip (keepF (ts := [3, 12, 13, 14]) rfl (toK (by assumption) ?_))
          (repeat (first | refine WC.seqK fun K hK => ?_ | refine WC.block ?_ | refine WC.regionG rfl fun ops hG => ?_))
          refine WL.po (PO.addI (Ev.tmp rfl) Ev.const (by omega)) (Nat.le_of_ble_eq_true rfl) ?_
          refine WL.po (PO.move (Ev.tmp rfl)) (Nat.le_of_ble_eq_true rfl) ?_
          refine WL.nil (loopBackI (N - (k + 1)) [(14, .int .i64 (k + 1))] (h'' := PR b11 ga gc ha' hc' (carry p) h) (by omega) ?_ (by (repeat (first | exact Sub.nil | refine Sub.cons rfl ?_ | refine Sub.consE rfl (by simp; done) ?_))) (by (repeat (first | exact List.Sublist.refl _ | refine List.Sublist.cons_cons _ ?_ | apply List.Sublist.cons))) ⟨k + 1, ga, gc, ha', hc', carry p, ⟨by omega, (carry_inv hI).1, by rw [(carry_inv hI).2.2.1]; omega, by rw [(carry_inv hI).2.2.2]; omega⟩, rfl, rfl, rfl⟩)
          (repeat (first | exact Sub.nil | refine Sub.cons rfl ?_ | refine Sub.consE rfl (by simp; done) ?_))
      · replace c20 := of_decide_eq_false c20
        have hI' : Inv (if x.what == 0#8 then giveD p x.by_ else giveA p) ∧ (if x.what == 0#8 then giveD p x.by_ else giveA p).gave.length ≤ k + 1 ∧ (if x.what == 0#8 then giveD p x.by_ else giveA p).acks ≤ k + 1 := by
          split
          · obtain ⟨q1, q2, q3⟩ := giveD_inv hI x.by_
            exact ⟨q1, by omega, by omega⟩
          · obtain ⟨q1, q2, q3⟩ := giveA_inv hI
            exact ⟨q1, by rw [q2]; omega, by omega⟩
        (repeat (first | refine WC.seqK fun K hK => ?_ | refine WC.block ?_ | refine WC.regionG rfl fun ops hG => ?_))
        refine WL.po (PO.move (Ev.tmp rfl)) (Nat.le_of_ble_eq_true rfl) ?_
        refine WL.po (PO.loadA Try.underlying40 rfl rfl (Ev.tmp rfl) (by (repeat (first | exact List.Mem.head _ | apply List.Mem.tail))) rfl) (Nat.le_of_ble_eq_true rfl) ?_
        refine WL.drop (h' := PR b11 ga gc ha hc p h) (by (repeat (first | exact List.Sublist.refl _ | refine List.Sublist.cons_cons _ ?_ | apply List.Sublist.cons))) ?_
        refine WL.callK Ev.func (Evs.cons (Ev.tmp rfl) (Evs.cons (Ev.tmp rfl) Evs.nil)) (give_ct p x.what x.by_ b11 ga gc ha hc _ _ hI.ia ⟨by omega, Int.le_trans hI.g0 hb.2, by omega⟩) (Nat.le_of_ble_eq_true rfl) ?_
        rintro _ _ ⟨ga', gc', rfl⟩
        generalize hq : (if x.what == 0#8 then giveD p x.by_ else giveA p) = q at *
        refine WL.nil (keepF (ts := [3, 12, 13, 14]) rfl (toK (by assumption) ?_))
        (try clear hG ops)
        (repeat (first | refine WC.seqK fun K hK => ?_ | refine WC.block ?_ | refine WC.regionG rfl fun ops hG => ?_))
        refine WL.po (PO.move (Ev.tmp rfl)) (Nat.le_of_ble_eq_true rfl) ?_
        refine WL.po (PO.nilCheck (Ev.tmp rfl)) (Nat.le_of_ble_eq_true rfl) ?_
        refine WL.po (PO.fieldAddr Try.underlying58 rfl (Nat.ne_of_beq_eq_false rfl) (Ev.tmp rfl)) (Nat.le_of_ble_eq_true rfl) ?_
        refine WL.po (PO.load1 Try.underlying4 rfl (Ev.tmp rfl) (by (repeat (first | exact List.Mem.head _ | apply List.Mem.tail))) rfl) (Nat.le_of_ble_eq_true rfl) ?_
        refine WL.nil (keepF (ts := [3, 12, 13, 14, 29]) rfl (toK (by assumption) ?_))
        (try clear hG ops)
        (repeat (first | refine WC.seqK fun K hK => ?_ | refine WC.block ?_ | refine WC.regionG rfl fun ops hG => ?_))
        refine WC.cond (Ev.tmp rfl) (fun c29 => ?_) (fun c29 => ?_)
        · exact absurd (hI'.1.ok.symm.trans c29) (by decide)
        · refine WC.skip (keepF (ts := [3, 12, 13, 14]) rfl (toK (by assumption) ?_))
          (repeat (first | refine WC.seqK fun K hK => ?_ | refine WC.block ?_ | refine WC.regionG rfl fun ops hG => ?_))
          refine WL.po (PO.addI (Ev.tmp rfl) Ev.const (by omega)) (Nat.le_of_ble_eq_true rfl) ?_
          refine WL.po (PO.move (Ev.tmp rfl)) (Nat.le_of_ble_eq_true rfl) ?_
          refine WL.nil (loopBackI (N - (k + 1)) [(14, .int .i64 (k + 1))] (h'' := PR b11 ga' gc' ha hc q h) (by omega) ?_ (by (repeat (first | exact Sub.nil | refine Sub.cons rfl ?_ | refine Sub.consE rfl (by simp; done) ?_))) (by (repeat (first | exact List.Sublist.refl _ | refine List.Sublist.cons_cons _ ?_ | apply List.Sublist.cons))) ⟨k + 1, ga', gc', ha, hc, q, ⟨by omega, hI'.1, hI'.2.1, by have := hI'.2.2; omega⟩, rfl, rfl, rfl⟩)
          (repeat (first | exact Sub.nil | refine Sub.cons rfl ?_ | refine Sub.consE rfl (by simp; done) ?_))
    · replace c15 := of_decide_eq_false c15
      have hpa := hI.ma
      have hpr := hI.ra
      refine WC.exit (keepF (ts := [3]) rfl (toK (by assumption) ?_))
      (repeat (first | refine WC.seqK fun K hK => ?_ | refine WC.block ?_ | refine WC.regionG rfl fun ops hG => ?_))
      refine WL.po (PO.move Ev.const) (Nat.le_of_ble_eq_true rfl) ?_
      refine WL.nil (keepF (ts := [3, 31]) rfl (toK (by assumption) ?_))
      (try clear hG ops)
      (repeat (first | refine WC.seqK fun K hK => ?_ | refine WC.block ?_ | refine WC.regionG rfl fun ops hG => ?_))
      refine WC.loopI [3] rfl (fun μ F' h' => ∃ j : Nat, ∃ ha' : Option Addr, ∃ hc' : Nat, ∃ q : Pair, (j ≤ 23 ∧ Inv q ∧ q.gave = p.gave ∧ q.acks = p.acks ∧ q.a = (run j p.a).1) ∧ 23 - j = μ ∧ F' = [(31, .int .i64 j)] ∧ PR b11 ga gc ha' hc' q h = h') (23 - 0) [(31, .int .i64 0)] (h0 := PR b11 ga gc ha hc p h) ?_ (by (repeat (first | exact List.Sublist.refl _ | refine List.Sublist.cons_cons _ ?_ | apply List.Sublist.cons))) ⟨0, ha, hc, p, ⟨by omega, hI, rfl, rfl, rfl⟩, rfl, rfl, rfl⟩ ?_
      · (repeat (first | exact Sub.nil | refine Sub.cons rfl ?_ | refine Sub.consE rfl (by simp; done) ?_))
      rintro _ _ _ ⟨j, ha', hc', q, ⟨hj, hQ, e1, e2, e3⟩, rfl, rfl, rfl⟩
      refine WC.frm rfl ?_
      (repeat (first | refine WC.seqK fun K hK => ?_ | refine WC.block ?_ | refine WC.regionG rfl fun ops hG => ?_))
      refine WL.po (PO.bin (Ev.tmp rfl) Ev.const rfl) (Nat.le_of_ble_eq_true rfl) ?_
      refine WL.nil (keepF (ts := [3, 31, 32]) rfl (toK (by assumption) ?_))
      (try clear hG ops)
      (repeat (first | refine WC.seqK fun K hK => ?_ | refine WC.block ?_ | refine WC.regionG rfl fun ops hG => ?_))
      refine WC.cond (Ev.tmp rfl) (fun c32 => ?_) (fun c32 => ?_)
      · replace c32 := of_decide_eq_true c32
        have hb := hQ.len
        rw [e1, e2] at hb
        refine WC.skip (keepF (ts := [3, 31]) rfl (toK (by assumption) ?_))
        (repeat (first | refine WC.seqK fun K hK => ?_ | refine WC.block ?_ | refine WC.regionG rfl fun ops hG => ?_))
        refine WL.po (PO.move (Ev.tmp rfl)) (Nat.le_of_ble_eq_true rfl) ?_
        refine WL.callK Ev.func (Evs.cons (Ev.tmp rfl) Evs.nil) (carry_ct q b11 ga gc ha' hc' _ _ hQ.ia hQ.pb.1 ⟨by omega, hQ.g0, by omega⟩) (Nat.le_of_ble_eq_true rfl) ?_
        rintro _ _ ⟨hx, hy, rfl⟩
        refine WL.nil (keepF (ts := [3, 31]) rfl (toK (by assumption) ?_))
        (try clear hG ops)
        (repeat (first | refine WC.seqK fun K hK => ?_ | refine WC.block ?_ | refine WC.regionG rfl fun ops hG => ?_))
        refine WL.po (PO.addI (Ev.tmp rfl) Ev.const (by omega)) (Nat.le_of_ble_eq_true rfl) ?_
        refine WL.po (PO.move (Ev.tmp rfl)) (Nat.le_of_ble_eq_true rfl) ?_
        refine WL.nil (loopBackI (23 - (j + 1)) [(31, .int .i64 (j + 1))] (h'' := PR b11 ga gc hx hy (carry q) h) (by omega) ?_ (by (repeat (first | exact Sub.nil | refine Sub.cons rfl ?_ | refine Sub.consE rfl (by simp; done) ?_))) (by (repeat (first | exact List.Sublist.refl _ | refine List.Sublist.cons_cons _ ?_ | apply List.Sublist.cons))) ⟨j + 1, hx, hy, carry q, ⟨by omega, (carry_inv hQ).1, by rw [(carry_inv hQ).2.2.1, e1], by rw [(carry_inv hQ).2.2.2, e2], by rw [(carry_inv hQ).2.1, e3, run_snoc]⟩, rfl, rfl, rfl⟩)
        (repeat (first | exact Sub.nil | refine Sub.cons rfl ?_ | refine Sub.consE rfl (by simp; done) ?_))
      · replace c32 := of_decide_eq_false c32
        have e23 : j = 23 := by omega
        subst e23
        obtain ⟨f1, f2, f3, f4⟩ := rest_inv hQ p.a hpa hpr e3
        refine WC.knowRow (a := ga) (by (repeat (first | exact List.Mem.head _ | apply List.Mem.tail))) fun p1 q1 r1 => ?_
        refine WC.knowRow (a := ha') (by (repeat (first | exact List.Mem.head _ | apply List.Mem.tail))) fun p2 q2 r2 => ?_
        refine WC.exit (keepF (ts := [3]) rfl (toK (by assumption) ?_))
        (repeat (first | refine WC.seqK fun K hK => ?_ | refine WC.block ?_ | refine WC.regionG rfl fun ops hG => ?_))
        refine WC.drawS [14] [0, 1, 2, 3, 4, 5, 6, 7, 8, 9, 10, 11, 12, 13, 14, 15, 16, 17, 18, 19, 20, 21, 22, 23, 24, 25, 26, 27, 28, 29, 30, 31, 32, 33, 34, 35, 36, 37, 38, 39, 40] [41, 42, 43, 44, 45, 46] _ [] mixed (fun _ _ _ _ _ h => h) [] (by kernel_rfl) ?_
        refine SR.po rfl rfl (PO.move (Ev.tmp rfl)) (Nat.le_of_ble_eq_true rfl) ?_
        refine SR.po rfl rfl (PO.nilCheck (Ev.tmp rfl)) (Nat.le_of_ble_eq_true rfl) ?_
        refine SR.po rfl rfl (PO.fieldAddr Try.underlying58 rfl (Nat.ne_of_beq_eq_false rfl) (Ev.tmp rfl)) (Nat.le_of_ble_eq_true rfl) ?_
        refine SR.po rfl rfl (PO.load1 Try.underlying4 rfl (Ev.tmp rfl) (by (repeat (first | exact List.Mem.head _ | apply List.Mem.tail))) rfl) (Nat.le_of_ble_eq_true rfl) ?_
        refine SR.po rfl rfl (PO.not (Ev.tmp rfl)) (Nat.le_of_ble_eq_true rfl) ?_
        refine SR.po rfl rfl (PO.move (Ev.tmp rfl)) (Nat.le_of_ble_eq_true rfl) ?_
        refine SR.poG rfl rfl (GU.t rfl rfl) (fun hc => PO.move (Ev.tmp rfl)) (Nat.le_of_ble_eq_true rfl) ?_
        refine SR.poG rfl rfl (GU.t rfl rfl) (fun hc => PO.nilCheck (Ev.gv rfl hc)) (Nat.le_of_ble_eq_true rfl) ?_
        refine SR.poG rfl rfl (GU.t rfl rfl) (fun hc => PO.fieldAddr Try.underlying58 rfl (Nat.ne_of_beq_eq_false rfl) (Ev.gv rfl hc)) (Nat.le_of_ble_eq_true rfl) ?_
        refine SR.poG rfl rfl (GU.t rfl rfl) (fun hc => PO.load1 Try.underlying56 rfl (Ev.gv rfl hc) (by (repeat (first | exact List.Mem.head _ | apply List.Mem.tail))) rfl) (Nat.le_of_ble_eq_true rfl) ?_
        refine SR.poG rfl rfl (GU.t rfl rfl) (fun hc => PO.move (Ev.tmp rfl)) (Nat.le_of_ble_eq_true rfl) ?_
        refine SR.poG rfl rfl (GU.t rfl rfl) (fun hc => PO.nilCheck (Ev.gv rfl hc)) (Nat.le_of_ble_eq_true rfl) ?_
        refine SR.poG rfl rfl (GU.t rfl rfl) (fun hc => PO.fieldAddr Try.underlying58 rfl (Nat.ne_of_beq_eq_false rfl) (Ev.gv rfl hc)) (Nat.le_of_ble_eq_true rfl) ?_
        refine SR.poG rfl rfl (GU.t rfl rfl) (fun hc => PO.load1 Try.underlying56 rfl (Ev.gv rfl hc) (by (repeat (first | exact List.Mem.head _ | apply List.Mem.tail))) rfl) (Nat.le_of_ble_eq_true rfl) ?_
        refine SR.callG rfl rfl (GU.t rfl rfl) (fun hc => ⟨Ev.func, (Evs.cons (Ev.gv rfl hc) (Evs.cons (Ev.gv rfl hc) Evs.nil)), fun fr => equal31_ct _ _ _ _ _ _ q.heard q.gave _ _ (Rd.fr (Rd.inRow (by (repeat (first | exact List.Mem.head _ | apply List.Mem.tail))) r2 p2 q2) fr) (Rd.fr (Rd.inRow (by (repeat (first | exact List.Mem.head _ | apply List.Mem.tail))) r1 p1 q1) fr)⟩) (Nat.le_of_ble_eq_true rfl) ?_
        refine SR.po rfl rfl (PO.pickAnd rfl rfl) (Nat.le_of_ble_eq_true rfl) ?_
        refine SR.po rfl rfl (PO.move (Ev.tmp rfl)) (Nat.le_of_ble_eq_true rfl) ?_
        refine SR.poG rfl rfl (GU.t rfl rfl) (fun hc => PO.move (Ev.tmp rfl)) (Nat.le_of_ble_eq_true rfl) ?_
        refine SR.poG rfl rfl (GU.t rfl rfl) (fun hc => PO.nilCheck (Ev.gv rfl hc)) (Nat.le_of_ble_eq_true rfl) ?_
        refine SR.poG rfl rfl (GU.t rfl rfl) (fun hc => PO.fieldAddr Try.underlying58 rfl (Nat.ne_of_beq_eq_false rfl) (Ev.gv rfl hc)) (Nat.le_of_ble_eq_true rfl) ?_
        refine SR.poG rfl rfl (GU.t rfl rfl) (fun hc => PO.load1 Try.underlying3 rfl (Ev.gv rfl hc) (by (repeat (first | exact List.Mem.head _ | apply List.Mem.tail))) rfl) (Nat.le_of_ble_eq_true rfl) ?_
        refine SR.poG rfl rfl (GU.t rfl rfl) (fun hc => PO.move (Ev.tmp rfl)) (Nat.le_of_ble_eq_true rfl) ?_
        refine SR.poG rfl rfl (GU.t rfl rfl) (fun hc => PO.nilCheck (Ev.gv rfl hc)) (Nat.le_of_ble_eq_true rfl) ?_
        refine SR.poG rfl rfl (GU.t rfl rfl) (fun hc => PO.fieldAddr Try.underlying58 rfl (Nat.ne_of_beq_eq_false rfl) (Ev.gv rfl hc)) (Nat.le_of_ble_eq_true rfl) ?_
        refine SR.poG rfl rfl (GU.t rfl rfl) (fun hc => PO.load1 Try.underlying3 rfl (Ev.gv rfl hc) (by (repeat (first | exact List.Mem.head _ | apply List.Mem.tail))) rfl) (Nat.le_of_ble_eq_true rfl) ?_
        refine SR.poG rfl rfl (GU.t rfl rfl) (fun hc => PO.bin (Ev.gv rfl hc) (Ev.gv rfl hc) rfl) (Nat.le_of_ble_eq_true rfl) ?_
        refine SR.po rfl rfl (PO.pickAnd rfl rfl) (Nat.le_of_ble_eq_true rfl) ?_
        refine SR.po rfl rfl (PO.move (Ev.tmp rfl)) (Nat.le_of_ble_eq_true rfl) ?_
        refine SR.poG rfl rfl (GU.t rfl rfl) (fun hc => PO.move (Ev.tmp rfl)) (Nat.le_of_ble_eq_true rfl) ?_
        refine SR.poG rfl rfl (GU.t rfl rfl) (fun hc => PO.nilCheck (Ev.gv rfl hc)) (Nat.le_of_ble_eq_true rfl) ?_
        refine SR.poG rfl rfl (GU.t rfl rfl) (fun hc => PO.fieldAddr Try.underlying58 rfl (Nat.ne_of_beq_eq_false rfl) (Ev.gv rfl hc)) (Nat.le_of_ble_eq_true rfl) ?_
        refine SR.poG rfl rfl (GU.t rfl rfl) (fun hc => PO.loadA Try.underlying24 rfl rfl (Ev.gv rfl hc) (by (repeat (first | exact List.Mem.head _ | apply List.Mem.tail))) rfl) (Nat.le_of_ble_eq_true rfl) ?_
        refine SR.poG rfl rfl (GU.t rfl rfl) (fun hc => PO.build Try.underlying24 rfl rfl rfl EvP.nil rfl) (Nat.le_of_ble_eq_true rfl) ?_
        refine SR.poG rfl rfl (GU.t rfl rfl) (fun hc => PO.eqlA Try.underlying24 (by kernel_rfl) (by kernel_rfl) (Ev.gv rfl hc) (Ev.gv rfl hc) rfl) (Nat.le_of_ble_eq_true rfl) ?_
        refine SR.po rfl rfl (PO.pickAnd rfl rfl) (Nat.le_of_ble_eq_true rfl) ?_
        refine SR.po rfl rfl (PO.move (Ev.tmp rfl)) (Nat.le_of_ble_eq_true rfl) ?_
        refine SR.poG rfl rfl (GU.t rfl rfl) (fun hc => PO.move (Ev.tmp rfl)) (Nat.le_of_ble_eq_true rfl) ?_
        refine SR.poG rfl rfl (GU.t rfl rfl) (fun hc => PO.nilCheck (Ev.gv rfl hc)) (Nat.le_of_ble_eq_true rfl) ?_
        refine SR.poG rfl rfl (GU.t rfl rfl) (fun hc => PO.fieldAddr Try.underlying58 rfl (Nat.ne_of_beq_eq_false rfl) (Ev.gv rfl hc)) (Nat.le_of_ble_eq_true rfl) ?_
        refine SR.poG rfl rfl (GU.t rfl rfl) (fun hc => PO.loadA Try.underlying24 rfl rfl (Ev.gv rfl hc) (by (repeat (first | exact List.Mem.head _ | apply List.Mem.tail))) rfl) (Nat.le_of_ble_eq_true rfl) ?_
        refine SR.poG rfl rfl (GU.t rfl rfl) (fun hc => PO.build Try.underlying24 rfl rfl rfl EvP.nil rfl) (Nat.le_of_ble_eq_true rfl) ?_
        refine SR.nil rfl rfl ?_
        refine WL.poG (GU.t rfl rfl) (fun hc => PO.eqlA Try.underlying24 (by kernel_rfl) (by kernel_rfl) (Ev.gv rfl hc) (Ev.gv rfl hc) rfl) (Nat.le_of_ble_eq_true rfl) ?_
        refine WL.po (PO.pickAnd rfl rfl) (Nat.le_of_ble_eq_true rfl) ?_
        refine WL.po (PO.move (Ev.tmp rfl)) (Nat.le_of_ble_eq_true rfl) ?_
        refine WL.callG (GU.t rfl rfl) (fun hc => ⟨Ev.func, Evs.nil, awake_ct _ _⟩) (Nat.le_of_ble_eq_true rfl) ?_
        refine WL.po (PO.pickAnd rfl rfl) (Nat.le_of_ble_eq_true rfl) ?_
        refine WL.po (PO.assign (Ev.tmp rfl)) (Nat.le_of_ble_eq_true rfl) ?_
        refine WL.nil (keepF (ts := [2]) rfl (toK (by assumption) ?_))
        (try clear hG ops)
        refine WC.ret (end1 (h' := h) (.inl rfl) rfl (RV.tmp rfl) (View.le.refl m) (by (repeat (first | exact List.Sublist.refl _ | refine List.Sublist.cons_cons _ ?_ | apply List.Sublist.cons))) ?_)
        exact congrArg Value.bool (by rw [f1, f2, f3, f4, hQ.ok, eqL_self eqB_iff, beq_self_eq_true]; rfl)
end Go.Proofs.Ytoeghfpkpppchaa

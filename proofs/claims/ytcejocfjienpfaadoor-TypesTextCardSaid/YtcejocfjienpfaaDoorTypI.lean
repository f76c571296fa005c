/- types: Front, walked. -/
import Derived.Test.YtcejocfjienpfaaDoorTypH
namespace Go.Proofs.YtcejocfjienpfaaDoor
open Go.Eng Go.Lx Go.Ty
set_option maxRecDepth 100000
theorem front_ct (a : Option Addr) (k c : Nat) (l : List Tok) (h : List Res) (m : View) (hg : Glob m) (hs : Rd m h a k c 4 (fl encK l)) (hT : TkOk l) :
    CT Tryd.prog 15 [.slice a k c] h m (Pure1 h (.tuple #[tyV (front l).1, .int .i64 (front l).2.1, .int .i64 (front l).2.2])) := by
  have hl := hs.lenF encK_len (by decide)
  subst hl
  have hmx := hs.mx
  have hle := hs.le
  refine CT.body Tryd.call15 Tryd.func15 rfl Tryd.ntmps15 (Nat.le_of_ble_eq_true rfl) rfl ?_
  (repeat (first | refine WC.seqK fun K hK => ?_ | refine WC.block ?_ | refine WC.regionG rfl fun ops hG => ?_))
  refine WL.box (Ev.tmp rfl) rfl (Nat.le_of_ble_eq_true rfl) fun b1 => ?_
  refine WL.alloc rfl rfl (Nat.le_of_ble_eq_true rfl) fun b2 => ?_
  refine WL.alloc rfl rfl (Nat.le_of_ble_eq_true rfl) fun b3 => ?_
  refine WL.po (PO.assign Ev.const) (Nat.le_of_ble_eq_true rfl) ?_
  refine WL.nil (keepF (ts := [1, 2, 3]) rfl (toK (by assumption) ?_))
  (try clear hG ops)
  (repeat (first | refine WC.seqK fun K hK => ?_ | refine WC.block ?_ | refine WC.regionG rfl fun ops hG => ?_))
  refine WL.po (PO.makeFunc Evs.nil (Evs.cons (Ev.tmp rfl) (Evs.cons (Ev.tmp rfl) Evs.nil))) (Nat.le_of_ble_eq_true rfl) ?_
  refine WL.alloc rfl rfl (Nat.le_of_ble_eq_true rfl) fun b5 => ?_
  refine WL.store rfl (Ev.tmp rfl) (Ev.tmp rfl) rfl rfl rfl rfl (by (repeat (first | exact Upd.here | apply Upd.next))) ?_
  refine WL.nil (keepF (ts := [1, 2, 3, 5]) rfl (toK (by assumption) ?_))
  (try clear hG ops)
  (repeat (first | refine WC.seqK fun K hK => ?_ | refine WC.block ?_ | refine WC.regionG rfl fun ops hG => ?_))
  refine WL.po (PO.makeFunc Evs.nil (Evs.cons (Ev.tmp rfl) Evs.nil)) (Nat.le_of_ble_eq_true rfl) ?_
  refine WL.po (PO.assign (Ev.tmp rfl)) (Nat.le_of_ble_eq_true rfl) ?_
  refine WL.nil (keepF (ts := [1, 2, 3, 5, 6]) rfl (toK (by assumption) ?_))
  (try clear hG ops)
  (repeat (first | refine WC.seqK fun K hK => ?_ | refine WC.block ?_ | refine WC.regionG rfl fun ops hG => ?_))
  refine WL.po (PO.assign Ev.const) (Nat.le_of_ble_eq_true rfl) ?_
  refine WL.nil (keepF (ts := [1, 2, 3, 5, 6, 7]) rfl (toK (by assumption) ?_))
  (try clear hG ops)
  (repeat (first | refine WC.seqK fun K hK => ?_ | refine WC.block ?_ | refine WC.regionG rfl fun ops hG => ?_))
  refine WL.resE (h' := FL b1 b2 b3 b5 a l.length c zeroT 0 ++ h) rfl ?_
  refine WL.po (PO.load1 Tryd.underlying68 rfl (Ev.tmp rfl) (by (repeat (first | exact List.Mem.head _ | apply List.Mem.tail))) rfl) (Nat.le_of_ble_eq_true rfl) ?_
  refine WL.callK (Ev.tmp rfl) (Evs.cons Ev.const (Evs.cons Ev.const Evs.nil)) (next_ct b1 b2 b3 b5 a _ c l zeroT 0 5 lb h _ hs (by omega)) (Nat.le_of_ble_eq_true rfl) ?_
  rintro _ _ ⟨rfl, rfl⟩
  refine WL.nil (keepF (ts := [1, 2, 3, 5, 6, 7, 11]) rfl (toK (by assumption) ?_))
  (try clear hG ops)
  (repeat refine WC.seqK fun K hK => ?_)
  refine WC.cutK (by assumption) [1, 2, 3, 5, 6] rfl (fun F' h' => ∃ ok : Bool, ∃ d : Int, ∃ n : Nat, (pre l = (ok, d, n) ∧ n ≤ l.length) ∧ F' = [(7, .bool ok)] ∧ FL b1 b2 b3 b5 a l.length c ⟨0, d, 0, []⟩ n ++ h = h') ?_ ?_
  · (repeat (first | refine WC.seqK fun K hK => ?_ | refine WC.block ?_ | refine WC.regionG rfl fun ops hG => ?_))
    refine WC.cond (Ev.tmp rfl) (fun c11 => ?_) (fun c11 => ?_)
    · have hl0 := next_lt c11
      refine WC.resE (h' := FL b1 b2 b3 b5 a l.length c zeroT 1 ++ h) (by rw [c11]; rfl) ?_
      (repeat (first | refine WC.seqK fun K hK => ?_ | refine WC.block ?_ | refine WC.regionG rfl fun ops hG => ?_))
      refine WL.po (PO.load1 Tryd.underlying68 rfl (Ev.tmp rfl) (by (repeat (first | exact List.Mem.head _ | apply List.Mem.tail))) rfl) (Nat.le_of_ble_eq_true rfl) ?_
      refine WL.callK (Ev.tmp rfl) (Evs.cons Ev.const (Evs.cons Ev.const Evs.nil)) (next_ct b1 b2 b3 b5 a _ c l zeroT 1 3 [] h _ hs (by omega)) (Nat.le_of_ble_eq_true rfl) ?_
      rintro _ _ ⟨rfl, rfl⟩
      refine WL.po (PO.assign (Ev.tmp rfl)) (Nat.le_of_ble_eq_true rfl) ?_
      refine WL.nil (keepF (ts := [1, 2, 3, 5, 6, 7]) rfl (toK (by assumption) ?_))
      (try clear hG ops)
      (repeat (first | refine WC.seqK fun K hK => ?_ | refine WC.block ?_ | refine WC.regionG rfl fun ops hG => ?_))
      refine WL.po (PO.move (Ev.tmp rfl)) (Nat.le_of_ble_eq_true rfl) ?_
      refine WL.nil (keepF (ts := [1, 2, 3, 5, 6, 7, 14]) rfl (toK (by assumption) ?_))
      (try clear hG ops)
      (repeat (first | refine WC.seqK fun K hK => ?_ | refine WC.block ?_ | refine WC.regionG rfl fun ops hG => ?_))
      refine WC.cond (Ev.tmp rfl) (fun c14 => ?_) (fun c14 => ?_)
      · have hl1 := next_lt c14
        have h1 := tokAt_get hl1
        have hw := (hT _ (List.mem_of_getElem? h1)).1
        refine WC.resE (h' := FL b1 b2 b3 b5 a l.length c zeroT 2 ++ h) (by rw [c14]; rfl) ?_
        (repeat (first | refine WC.seqK fun K hK => ?_ | refine WC.block ?_ | refine WC.regionG rfl fun ops hG => ?_))
        refine WL.po (PO.load1 Tryd.underlying25 rfl (Ev.tmp rfl) (by (repeat (first | exact List.Mem.head _ | apply List.Mem.tail))) rfl) (Nat.le_of_ble_eq_true rfl) ?_
        refine WL.po (PO.load1 Tryd.underlying3 rfl (Ev.tmp rfl) (by (repeat (first | exact List.Mem.head _ | apply List.Mem.tail))) rfl) (Nat.le_of_ble_eq_true rfl) ?_
        refine WL.po (PO.subI (Ev.tmp rfl) Ev.const (by omega)) (Nat.le_of_ble_eq_true rfl) ?_
        refine WL.po (PO.idx EL25.und EL25.size EL25.posz (Ev.tmp rfl) (Ev.tmp rfl) (by first | assumption | exact Rd.ofSl (by assumption) | exact Rd.ofPt rfl (by decide) (by (repeat (first | exact List.Mem.head _ | apply List.Mem.tail))) | exact Rd.mono (by assumption) (View.le.refl _) (by (repeat (first | exact List.Sublist.refl _ | refine List.Sublist.cons_cons _ ?_ | apply List.Sublist.cons))) | exact Rd.inRow (by (repeat (first | exact List.Mem.head _ | apply List.Mem.tail))) (by assumption) (by assumption) (by assumption)) (q := 1) (by omega) (by omega)) (Nat.le_of_ble_eq_true rfl) ?_
        refine WL.po (PO.fieldF Tryd.underlying53 rfl (Nat.ne_of_beq_eq_false rfl) encK_len (Nat.succ_pos _) (by first | assumption | exact Rd.ofSl (by assumption) | exact Rd.ofPt rfl (by decide) (by (repeat (first | exact List.Mem.head _ | apply List.Mem.tail))) | exact Rd.mono (by assumption) (View.le.refl _) (by (repeat (first | exact List.Sublist.refl _ | refine List.Sublist.cons_cons _ ?_ | apply List.Sublist.cons))) | exact Rd.inRow (by (repeat (first | exact List.Mem.head _ | apply List.Mem.tail))) (by assumption) (by assumption) (by assumption)) (by assumption) (Ev.tmp rfl)) (Nat.le_of_ble_eq_true rfl) ?_
        refine WL.po (PO.loadFf Tryd.underlying21 rfl encK_len (by first | assumption | exact Rd.ofSl (by assumption) | exact Rd.ofPt rfl (by decide) (by (repeat (first | exact List.Mem.head _ | apply List.Mem.tail))) | exact Rd.mono (by assumption) (View.le.refl _) (by (repeat (first | exact List.Sublist.refl _ | refine List.Sublist.cons_cons _ ?_ | apply List.Sublist.cons))) | exact Rd.inRow (by (repeat (first | exact List.Mem.head _ | apply List.Mem.tail))) (by assumption) (by assumption) (by assumption)) (Ev.tmp rfl) (by assumption) rfl) (Nat.le_of_ble_eq_true rfl) ?_
        refine WL.po (PO.conv Tryd.underlying21 Tryd.underlying3 (Ev.tmp rfl)) (Nat.le_of_ble_eq_true rfl) ?_
        refine WL.val (v' := .int .i64 (tokAt l 1).n) (congrArg (Value.int .i64) (wrapN hw)) ?_
        refine WL.po (PO.fieldAddr Tryd.underlying24 rfl (Nat.ne_of_beq_eq_false rfl) (Ev.tmp rfl)) (Nat.le_of_ble_eq_true rfl) ?_
        refine WL.store rfl (Ev.tmp rfl) (Ev.tmp rfl) rfl rfl rfl rfl (by (repeat (first | exact Upd.here | apply Upd.next))) ?_
        refine WL.resE (h' := FL b1 b2 b3 b5 a l.length c ⟨0, (tokAt l 1).n, 0, []⟩ 2 ++ h) rfl ?_
        refine WL.nil (keepF (ts := [1, 2, 3, 5, 6]) rfl (toK (by assumption) ?_))
        (try clear hG ops)
        (repeat (first | refine WC.seqK fun K hK => ?_ | refine WC.block ?_ | refine WC.regionG rfl fun ops hG => ?_))
        refine WL.po (PO.fieldAddr Tryd.underlying24 rfl (Nat.ne_of_beq_eq_false rfl) (Ev.tmp rfl)) (Nat.le_of_ble_eq_true rfl) ?_
        refine WL.po (PO.load1 Tryd.underlying3 rfl (Ev.tmp rfl) (by (repeat (first | exact List.Mem.head _ | apply List.Mem.tail))) rfl) (Nat.le_of_ble_eq_true rfl) ?_
        refine WL.po (PO.bin (Ev.tmp rfl) Ev.const rfl) (Nat.le_of_ble_eq_true rfl) ?_
        refine WL.po (PO.move (Ev.tmp rfl)) (Nat.le_of_ble_eq_true rfl) ?_
        refine WL.poG (GU.t (hG _ _ rfl) rfl) (fun hc => PO.load1 Tryd.underlying68 rfl (Ev.tmp rfl) (by (repeat (first | exact List.Mem.head _ | apply List.Mem.tail))) rfl) (Nat.le_of_ble_eq_true rfl) ?_
        refine WL.callGK (GU.t (hG _ _ rfl) rfl) (fun hc => ⟨(Ev.gv rfl hc), (Evs.cons Ev.const (Evs.cons Ev.const Evs.nil)), CT.outE (h2 := FL b1 b2 b3 b5 a l.length c ⟨0, (tokAt l 1).n, 0, []⟩ (nx (decide ((tokAt l 1).n > 0) && next l 2 5 rb) 2) ++ h) (by rw [hc, Bool.true_and]) (next_ct b1 b2 b3 b5 a _ c l ⟨0, (tokAt l 1).n, 0, []⟩ 2 5 rb h _ hs (by omega))⟩) (fun hc => (by rw [hc]; rfl)) (Nat.le_of_ble_eq_true rfl) ?_
        refine WL.po (PO.pickAnd rfl rfl) (Nat.le_of_ble_eq_true rfl) ?_
        refine WL.po (PO.assign (Ev.tmp rfl)) (Nat.le_of_ble_eq_true rfl) ?_
        refine WL.nil (meetI [(7, .bool ((decide ((tokAt l 1).n > 0) && next l 2 5 rb)))] (h'' := FL b1 b2 b3 b5 a l.length c ⟨0, ((tokAt l 1).n), 0, []⟩ (nx (decide ((tokAt l 1).n > 0) && next l 2 5 rb) 2) ++ h) ?_ (by (repeat (first | exact Sub.nil | refine Sub.cons rfl ?_ | refine Sub.consE rfl (by simp; done) ?_))) (by (repeat (first | exact List.Sublist.refl _ | refine List.Sublist.cons_cons _ ?_ | apply List.Sublist.cons))) ⟨(decide ((tokAt l 1).n > 0) && next l 2 5 rb), (tokAt l 1).n, nx (decide ((tokAt l 1).n > 0) && next l 2 5 rb) 2, ⟨pre_TT c11 c14, nx_le (fun e => next_lt (by simp at e; exact e.2)) (by omega)⟩, rfl, rfl⟩)
        (repeat (first | exact Sub.nil | refine Sub.cons rfl ?_ | refine Sub.consE rfl (by simp; done) ?_))
      · refine WC.resE (h' := FL b1 b2 b3 b5 a l.length c zeroT 1 ++ h) (by rw [c14]; rfl) ?_
        refine WC.skip (meetI [(7, .bool false)] (h'' := FL b1 b2 b3 b5 a l.length c ⟨0, 0, 0, []⟩ 1 ++ h) ?_ (by (repeat (first | exact Sub.nil | refine Sub.cons rfl ?_ | refine Sub.consE rfl (by simp; done) ?_))) (by (repeat (first | exact List.Sublist.refl _ | refine List.Sublist.cons_cons _ ?_ | apply List.Sublist.cons))) ⟨false, 0, 1, ⟨pre_TF c11 c14, by omega⟩, rfl, rfl⟩)
        refine Sub.consE rfl (congrArg Value.bool c14) ?_
        (repeat (first | exact Sub.nil | refine Sub.cons rfl ?_ | refine Sub.consE rfl (by simp; done) ?_))
    · refine WC.resE (h' := FL b1 b2 b3 b5 a l.length c zeroT 0 ++ h) (by rw [c11]; rfl) ?_
      refine WC.skip (meetI [(7, .bool true)] (h'' := FL b1 b2 b3 b5 a l.length c ⟨0, 0, 0, []⟩ 0 ++ h) ?_ (by (repeat (first | exact Sub.nil | refine Sub.cons rfl ?_ | refine Sub.consE rfl (by simp; done) ?_))) (by (repeat (first | exact List.Sublist.refl _ | refine List.Sublist.cons_cons _ ?_ | apply List.Sublist.cons))) ⟨true, 0, 0, ⟨pre_F c11, by omega⟩, rfl, rfl⟩)
      (repeat (first | exact Sub.nil | refine Sub.cons rfl ?_ | refine Sub.consE rfl (by simp; done) ?_))
  rintro _ _ ⟨ok, d, n, ⟨hP, hn⟩, rfl, rfl⟩
  refine WC.frm rfl ?_
  (repeat refine WC.seqK fun K hK => ?_)
  refine WC.cutK (by assumption) [2, 3] rfl (fun F' h' => ∃ okB : Bool, ∃ t : Ty, ∃ nB : Nat, (mid l = (okB, t, nB) ∧ t.proto.length ≤ 9223372036854775807) ∧ F' = [(7, .bool okB)] ∧ FL b1 b2 b3 b5 a l.length c t nB ++ h = h') ?_ ?_
  · (repeat (first | refine WC.seqK fun K hK => ?_ | refine WC.block ?_ | refine WC.regionG rfl fun ops hG => ?_))
    refine WL.po (PO.move (Ev.tmp rfl)) (Nat.le_of_ble_eq_true rfl) ?_
    refine WL.po (PO.not (Ev.tmp rfl)) (Nat.le_of_ble_eq_true rfl) ?_
    refine WL.po (PO.move (Ev.tmp rfl)) (Nat.le_of_ble_eq_true rfl) ?_
    refine WL.poG (GU.f (hG _ _ rfl) rfl) (fun hc => PO.move (Ev.tmp rfl)) (Nat.le_of_ble_eq_true rfl) ?_
    refine WL.poG (GU.f (hG _ _ rfl) rfl) (fun hc => PO.fieldAddr Tryd.underlying24 rfl (Nat.ne_of_beq_eq_false rfl) (Ev.tmp rfl)) (Nat.le_of_ble_eq_true rfl) ?_
    refine WL.callGK (GU.f (hG _ _ rfl) rfl) (fun hc => ⟨(Ev.gv rfl hc), (Evs.cons (Ev.gv rfl hc) Evs.nil), CT.outE (h2 := FL b1 b2 b3 b5 a l.length c (setKind ⟨0, d, 0, []⟩ (if ok then named l n else none)) (nx (ok && nmB l n) n) ++ h) (by revert hc; cases ok; exact fun hc => absurd hc (by decide); exact fun _ => rfl) (named0_ct b1 b2 b3 b5 a _ c l ⟨0, d, 0, []⟩ n h _ hg hs hn)⟩) (fun hc => (by revert hc; cases ok; exact fun _ => rfl; exact fun hc => absurd hc (by decide))) (Nat.le_of_ble_eq_true rfl) ?_
    refine WL.po (PO.pickOr rfl rfl) (Nat.le_of_ble_eq_true rfl) ?_
    refine WL.po (PO.assign (Ev.tmp rfl)) (Nat.le_of_ble_eq_true rfl) ?_
    refine WL.nil (keepF (ts := [1, 2, 3, 5, 6, 7, 30]) rfl (toK (by assumption) ?_))
    (try clear hG ops)
    (repeat (first | refine WC.seqK fun K hK => ?_ | refine WC.block ?_ | refine WC.regionG rfl fun ops hG => ?_))
    refine WC.cond (Ev.tmp rfl) (fun c30 => ?_) (fun c30 => ?_)
    · refine WC.skip (meetI [(7, .bool ok)] (h'' := FL b1 b2 b3 b5 a l.length c (setKind ⟨0, d, 0, []⟩ (if ok then named l n else none)) (nx (ok && nmB l n) n) ++ h) ?_ (by (repeat (first | exact Sub.nil | refine Sub.cons rfl ?_ | refine Sub.consE rfl (by simp; done) ?_))) (by (repeat (first | exact List.Sublist.refl _ | refine List.Sublist.cons_cons _ ?_ | apply List.Sublist.cons))) ⟨ok, setKind ⟨0, d, 0, []⟩ (if ok then named l n else none), nx (ok && nmB l n) n, ⟨mid_T30 hP c30, by cases ok; exact Nat.zero_le _; cases named l n; exact Nat.zero_le _; exact Nat.zero_le _⟩, rfl, rfl⟩)
      (repeat (first | exact Sub.nil | refine Sub.cons rfl ?_ | refine Sub.consE rfl (by simp; done) ?_))
    · obtain ⟨rfl, hnm⟩ : ok = true ∧ nmB l n = false := by revert c30; cases ok <;> simp
      have hN := named_none hnm
      refine WC.resE (h' := FL b1 b2 b3 b5 a l.length c ⟨0, d, 0, []⟩ n ++ h) (by rw [hN, hnm]; rfl) ?_
      (repeat (first | refine WC.seqK fun K hK => ?_ | refine WC.block ?_ | refine WC.regionG rfl fun ops hG => ?_))
      refine WL.po (PO.load1 Tryd.underlying68 rfl (Ev.tmp rfl) (by (repeat (first | exact List.Mem.head _ | apply List.Mem.tail))) rfl) (Nat.le_of_ble_eq_true rfl) ?_
      refine WL.callK (Ev.tmp rfl) (Evs.cons Ev.const (Evs.cons Ev.const Evs.nil)) (next_ct b1 b2 b3 b5 a _ c l ⟨0, d, 0, []⟩ n 2 cCHAN h _ hs hn) (Nat.le_of_ble_eq_true rfl) ?_
      rintro _ _ ⟨rfl, rfl⟩
      refine WL.po (PO.assign (Ev.tmp rfl)) (Nat.le_of_ble_eq_true rfl) ?_
      refine WL.nil (keepF (ts := [1, 2, 3, 5, 6, 7, 38]) rfl (toK (by assumption) ?_))
      (try clear hG ops)
      (repeat (first | refine WC.seqK fun K hK => ?_ | refine WC.block ?_ | refine WC.regionG rfl fun ops hG => ?_))
      refine WC.cond (Ev.tmp rfl) (fun c38 => ?_) (fun c38 => ?_)
      · have hln := next_lt c38
        refine WC.resE (h' := FL b1 b2 b3 b5 a l.length c ⟨0, d, 0, []⟩ (n + 1) ++ h) (by rw [c38]; rfl) ?_
        (repeat (first | refine WC.seqK fun K hK => ?_ | refine WC.block ?_ | refine WC.regionG rfl fun ops hG => ?_))
        refine WL.po (PO.fieldAddr Tryd.underlying24 rfl (Nat.ne_of_beq_eq_false rfl) (Ev.tmp rfl)) (Nat.le_of_ble_eq_true rfl) ?_
        refine WL.store rfl (Ev.tmp rfl) Ev.const rfl rfl rfl rfl (by (repeat (first | exact Upd.here | apply Upd.next))) ?_
        refine WL.resE (h' := FL b1 b2 b3 b5 a l.length c ⟨4, d, 0, []⟩ (n + 1) ++ h) rfl ?_
        refine WL.nil (keepF (ts := [1, 2, 3, 5, 6]) rfl (toK (by assumption) ?_))
        (try clear hG ops)
        (repeat (first | refine WC.seqK fun K hK => ?_ | refine WC.block ?_ | refine WC.regionG rfl fun ops hG => ?_))
        refine WL.po (PO.load1 Tryd.underlying68 rfl (Ev.tmp rfl) (by (repeat (first | exact List.Mem.head _ | apply List.Mem.tail))) rfl) (Nat.le_of_ble_eq_true rfl) ?_
        refine WL.callK (Ev.tmp rfl) (Evs.cons Ev.const (Evs.cons Ev.const Evs.nil)) (next_ct b1 b2 b3 b5 a _ c l ⟨4, d, 0, []⟩ (n + 1) 2 cOF h _ hs (by omega)) (Nat.le_of_ble_eq_true rfl) ?_
        rintro _ _ ⟨rfl, rfl⟩
        refine WL.po (PO.assign (Ev.tmp rfl)) (Nat.le_of_ble_eq_true rfl) ?_
        refine WL.nil (keepF (ts := [1, 2, 3, 5, 6, 7]) rfl (toK (by assumption) ?_))
        (try clear hG ops)
        (repeat (first | refine WC.seqK fun K hK => ?_ | refine WC.block ?_ | refine WC.regionG rfl fun ops hG => ?_))
        have hNle : nx (next l (n + 1) 2 cOF) (n + 1) ≤ l.length := nx_le (fun e => next_lt e) (by omega)
        generalize ho : next l (n + 1) 2 cOF = o at *
        generalize hNN : nx o (n + 1) = N at *
        have hN2le : nx (o && nmB l N) N ≤ l.length := nx_le (fun e => nmB_lt (by simp at e; exact e.2)) hNle
        refine WC.take (r := .pt b2 (.cells (cellT ⟨4, d, 0, []⟩).toArray 24 (0, 0))) (by (repeat (first | exact Del.here | apply Del.next))) ?_
        refine WC.take (r := .pt b3 (.cells [Value.int .i64 N].toArray 3 (0, 0))) (by (repeat (first | exact Del.here | apply Del.next))) ?_
        refine WC.drawS [4, 8, 16] [0, 1, 2, 3, 4, 5, 6, 7, 9, 10, 8, 11, 12, 13, 14, 15, 16, 17, 18, 19] [20, 21] _ [.pt b3 (.cells [Value.int .i64 N].toArray 3 (0, 0)), .pt b2 (.cells (cellT ⟨4, d, 0, []⟩).toArray 24 (0, 0))] mixed (fun _ _ _ _ _ h => h) [] (by kernel_rfl) ?_
        refine SR.po rfl rfl (PO.move (Ev.tmp rfl)) (Nat.le_of_ble_eq_true rfl) ?_
        refine SR.po rfl rfl (PO.move (Ev.tmp rfl)) (Nat.le_of_ble_eq_true rfl) ?_
        refine SR.poG rfl rfl (GU.t rfl rfl) (fun hc => PO.move (Ev.tmp rfl)) (Nat.le_of_ble_eq_true rfl) ?_
        refine SR.poG rfl rfl (GU.t rfl rfl) (fun hc => PO.fieldAddr Tryd.underlying24 rfl (Nat.ne_of_beq_eq_false rfl) (Ev.tmp rfl)) (Nat.le_of_ble_eq_true rfl) ?_
        refine SR.callGK rfl rfl (GU.t rfl rfl) (fun hc => ⟨(Ev.gv rfl hc), (Evs.cons (Ev.gv rfl hc) Evs.nil), fun fr => CT.perm (perm_four _ _ _ _) (CT.outE (h2 := FL b1 b2 b3 b5 a l.length c (setItem ⟨4, d, 0, []⟩ (if o then named l N else none)) (nx (o && nmB l N) N) ++ (fr ++ h)) (by rw [hc]; rfl) (named2_ct b1 b2 b3 b5 a _ c l ⟨4, d, 0, []⟩ N (fr ++ h) _ hg (hs.mono (View.le.refl _) (List.sublist_append_right _ _)) hNle)) (perm_four _ _ _ _).symm⟩) (fun hc => (by rw [hc]; rfl)) (Nat.le_of_ble_eq_true rfl) ?_
        generalize hN2 : nx (o && nmB l N) N = N2 at *
        generalize hT2 : setItem ⟨4, d, 0, []⟩ (if o then named l N else none) = T2
        have hq : N2 < l.length → l[N2]? = some (tokAt l N2) := tokAt_get
        refine SR.poG rfl rfl (GU.t rfl rfl) (fun hc => PO.not (Ev.gv rfl hc)) (Nat.le_of_ble_eq_true rfl) ?_
        refine SR.po rfl rfl (PO.pickAnd rfl rfl) (Nat.le_of_ble_eq_true rfl) ?_
        refine SR.po rfl rfl (PO.move (Ev.tmp rfl)) (Nat.le_of_ble_eq_true rfl) ?_
        refine SR.poG rfl rfl (GU.t rfl rfl) (fun hc => PO.load1 Tryd.underlying25 rfl (Ev.tmp rfl) (by (repeat (first | exact List.Mem.head _ | apply List.Mem.tail))) rfl) (Nat.le_of_ble_eq_true rfl) ?_
        refine SR.poG rfl rfl (GU.t rfl rfl) (fun hc => PO.lenSl Tryd.underlying25 (Ev.gv rfl hc)) (Nat.le_of_ble_eq_true rfl) ?_
        refine SR.poEG rfl rfl (GU.t rfl rfl) (fun hc fr => PO.load1 Tryd.underlying3 rfl (Ev.tmp rfl) (List.mem_append_right _ (by (repeat (first | exact List.Mem.head _ | apply List.Mem.tail)))) rfl) (Nat.le_of_ble_eq_true rfl) ?_
        refine SR.poG rfl rfl (GU.t rfl rfl) (fun hc => PO.bin (Ev.gv rfl hc) (Ev.gv rfl hc) rfl) (Nat.le_of_ble_eq_true rfl) ?_
        refine SR.po rfl rfl (PO.pickAnd rfl rfl) (Nat.le_of_ble_eq_true rfl) ?_
        refine SR.po rfl rfl (PO.move (Ev.tmp rfl)) (Nat.le_of_ble_eq_true rfl) ?_
        refine SR.poG rfl rfl (GU.t rfl rfl) (fun hc => PO.load1 Tryd.underlying68 rfl (Ev.tmp rfl) (by (repeat (first | exact List.Mem.head _ | apply List.Mem.tail))) rfl) (Nat.le_of_ble_eq_true rfl) ?_
        refine SR.poG rfl rfl (GU.t rfl rfl) (fun hc => PO.load1 Tryd.underlying25 rfl (Ev.tmp rfl) (by (repeat (first | exact List.Mem.head _ | apply List.Mem.tail))) rfl) (Nat.le_of_ble_eq_true rfl) ?_
        refine SR.poEG rfl rfl (GU.t rfl rfl) (fun hc fr => PO.load1 Tryd.underlying3 rfl (Ev.tmp rfl) (List.mem_append_right _ (by (repeat (first | exact List.Mem.head _ | apply List.Mem.tail)))) rfl) (Nat.le_of_ble_eq_true rfl) ?_
        refine SR.poG rfl rfl (GU.t rfl rfl) (fun hc => PO.idx EL25.und EL25.size EL25.posz (Ev.gv rfl hc) (Ev.gv rfl hc) (by first | assumption | exact Rd.ofSl (by assumption) | exact Rd.ofPt rfl (by decide) (by (repeat (first | exact List.Mem.head _ | apply List.Mem.tail))) | exact Rd.mono (by assumption) (View.le.refl _) (by (repeat (first | exact List.Sublist.refl _ | refine List.Sublist.cons_cons _ ?_ | apply List.Sublist.cons))) | exact Rd.inRow (by (repeat (first | exact List.Mem.head _ | apply List.Mem.tail))) (by assumption) (by assumption) (by assumption)) rfl (by simp at hc; omega)) (Nat.le_of_ble_eq_true rfl) ?_
        refine SR.poG rfl rfl (GU.t rfl rfl) (fun hc => PO.fieldF Tryd.underlying53 rfl (Nat.ne_of_beq_eq_false rfl) encK_len (Nat.succ_pos _) (by first | assumption | exact Rd.ofSl (by assumption) | exact Rd.ofPt rfl (by decide) (by (repeat (first | exact List.Mem.head _ | apply List.Mem.tail))) | exact Rd.mono (by assumption) (View.le.refl _) (by (repeat (first | exact List.Sublist.refl _ | refine List.Sublist.cons_cons _ ?_ | apply List.Sublist.cons))) | exact Rd.inRow (by (repeat (first | exact List.Mem.head _ | apply List.Mem.tail))) (by assumption) (by assumption) (by assumption)) (hq (by simp at hc; omega)) (Ev.gv rfl hc)) (Nat.le_of_ble_eq_true rfl) ?_
        refine SR.poG rfl rfl (GU.t rfl rfl) (fun hc => PO.loadFf Tryd.underlying9 rfl encK_len (by first | assumption | exact Rd.ofSl (by assumption) | exact Rd.ofPt rfl (by decide) (by (repeat (first | exact List.Mem.head _ | apply List.Mem.tail))) | exact Rd.mono (by assumption) (View.le.refl _) (by (repeat (first | exact List.Sublist.refl _ | refine List.Sublist.cons_cons _ ?_ | apply List.Sublist.cons))) | exact Rd.inRow (by (repeat (first | exact List.Mem.head _ | apply List.Mem.tail))) (by assumption) (by assumption) (by assumption)) (Ev.gv rfl hc) (hq (by simp at hc; omega)) rfl) (Nat.le_of_ble_eq_true rfl) ?_
        refine SR.nil rfl rfl ?_
        refine WL.take (r := .pt b5 (.cells [Value.func (.func 38) [].toArray [Value.pointer (some ⟨b3, 0, none⟩), .pointer (some ⟨b1, 0, none⟩)].toArray].toArray 68 (0, 0))) (by (repeat (first | exact Del.here | apply Del.next))) ?_
        refine WL.callGK (GU.t rfl rfl) (fun hc => ⟨(Ev.gv rfl hc), (Evs.cons Ev.const (Evs.cons (Ev.gv rfl hc) Evs.nil)), CT.outE (h2 := FL b1 b2 b3 b5 a l.length c T2 (nx ((o && !nmB l N) && decide ((N2 : Int) < l.length) && next l N2 1 (tokAt l N2).text) N2) ++ h) (by rw [hc, Bool.true_and]) (next_ct b1 b2 b3 b5 a _ c l T2 N2 1 (tokAt l N2).text h _ hs hN2le)⟩) (fun hc => (by rw [hc]; rfl)) (Nat.le_of_ble_eq_true rfl) ?_
        refine WL.po (PO.pickAnd rfl rfl) (Nat.le_of_ble_eq_true rfl) ?_
        refine WL.nil (keepF (ts := [1, 2, 3, 7, 65]) rfl (toK (by assumption) ?_))
        (try clear hG ops)
        (repeat (first | refine WC.seqK fun K hK => ?_ | refine WC.block ?_ | refine WC.regionG rfl fun ops hG => ?_))
        refine WC.cond (Ev.tmp rfl) (fun c65 => ?_) (fun c65 => ?_)
        · have d65 : ((o && !nmB l N) && decide ((N2 : Int) < l.length) && next l N2 1 (tokAt l N2).text) = true := c65
          have hM := mid_65 hP hN c38 ho hNN hN2 hT2 d65
          have hlt : N2 < l.length := by simp at d65; omega
          have h2 := tokAt_get hlt
          refine WC.resE (h' := FL b1 b2 b3 b5 a l.length c T2 (N2 + 1) ++ h) (by rw [d65]; rfl) ?_
          (repeat (first | refine WC.seqK fun K hK => ?_ | refine WC.block ?_ | refine WC.regionG rfl fun ops hG => ?_))
          refine WL.po (PO.load1 Tryd.underlying25 rfl (Ev.tmp rfl) (by (repeat (first | exact List.Mem.head _ | apply List.Mem.tail))) rfl) (Nat.le_of_ble_eq_true rfl) ?_
          refine WL.po (PO.load1 Tryd.underlying3 rfl (Ev.tmp rfl) (by (repeat (first | exact List.Mem.head _ | apply List.Mem.tail))) rfl) (Nat.le_of_ble_eq_true rfl) ?_
          refine WL.po (PO.subI (Ev.tmp rfl) Ev.const (by omega)) (Nat.le_of_ble_eq_true rfl) ?_
          refine WL.po (PO.idx EL25.und EL25.size EL25.posz (Ev.tmp rfl) (Ev.tmp rfl) (by first | assumption | exact Rd.ofSl (by assumption) | exact Rd.ofPt rfl (by decide) (by (repeat (first | exact List.Mem.head _ | apply List.Mem.tail))) | exact Rd.mono (by assumption) (View.le.refl _) (by (repeat (first | exact List.Sublist.refl _ | refine List.Sublist.cons_cons _ ?_ | apply List.Sublist.cons))) | exact Rd.inRow (by (repeat (first | exact List.Mem.head _ | apply List.Mem.tail))) (by assumption) (by assumption) (by assumption)) (q := N2) (by omega) (by omega)) (Nat.le_of_ble_eq_true rfl) ?_
          refine WL.po (PO.fieldF Tryd.underlying53 rfl (Nat.ne_of_beq_eq_false rfl) encK_len (Nat.succ_pos _) (by first | assumption | exact Rd.ofSl (by assumption) | exact Rd.ofPt rfl (by decide) (by (repeat (first | exact List.Mem.head _ | apply List.Mem.tail))) | exact Rd.mono (by assumption) (View.le.refl _) (by (repeat (first | exact List.Sublist.refl _ | refine List.Sublist.cons_cons _ ?_ | apply List.Sublist.cons))) | exact Rd.inRow (by (repeat (first | exact List.Mem.head _ | apply List.Mem.tail))) (by assumption) (by assumption) (by assumption)) (by assumption) (Ev.tmp rfl)) (Nat.le_of_ble_eq_true rfl) ?_
          refine WL.po (PO.loadFf Tryd.underlying9 rfl encK_len (by first | assumption | exact Rd.ofSl (by assumption) | exact Rd.ofPt rfl (by decide) (by (repeat (first | exact List.Mem.head _ | apply List.Mem.tail))) | exact Rd.mono (by assumption) (View.le.refl _) (by (repeat (first | exact List.Sublist.refl _ | refine List.Sublist.cons_cons _ ?_ | apply List.Sublist.cons))) | exact Rd.inRow (by (repeat (first | exact List.Mem.head _ | apply List.Mem.tail))) (by assumption) (by assumption) (by assumption)) (Ev.tmp rfl) (by assumption) rfl) (Nat.le_of_ble_eq_true rfl) ?_
          refine WL.po (PO.fieldAddr Tryd.underlying24 rfl (Nat.ne_of_beq_eq_false rfl) (Ev.tmp rfl)) (Nat.le_of_ble_eq_true rfl) ?_
          refine WL.store rfl (Ev.tmp rfl) (Ev.tmp rfl) rfl rfl rfl rfl (by (repeat (first | exact Upd.here | apply Upd.next))) ?_
          refine WL.resE (h' := FL b1 b2 b3 b5 a l.length c { T2 with proto := (tokAt l N2).text } (N2 + 1) ++ h) rfl ?_
          refine WL.nil (meetI [(7, .bool o)] (h'' := FL b1 b2 b3 b5 a l.length c ({ T2 with proto := (tokAt l N2).text }) (N2 + 1) ++ h) ?_ (by (repeat (first | exact Sub.nil | refine Sub.cons rfl ?_ | refine Sub.consE rfl (by simp; done) ?_))) (by (repeat (first | exact List.Sublist.refl _ | refine List.Sublist.cons_cons _ ?_ | apply List.Sublist.cons))) ⟨o, { T2 with proto := (tokAt l N2).text }, N2 + 1, ⟨hM, (hT _ (List.mem_of_getElem? h2)).2⟩, rfl, rfl⟩)
          (repeat (first | exact Sub.nil | refine Sub.cons rfl ?_ | refine Sub.consE rfl (by simp; done) ?_))
        · have d65 : ((o && !nmB l N) && decide ((N2 : Int) < l.length) && next l N2 1 (tokAt l N2).text) = false := c65
          have hM := mid_65 hP hN c38 ho hNN hN2 hT2 d65
          refine WC.resE (h' := FL b1 b2 b3 b5 a l.length c T2 N2 ++ h) (by rw [d65]; rfl) ?_
          refine WC.skip (meetI [(7, .bool o)] (h'' := FL b1 b2 b3 b5 a l.length c T2 N2 ++ h) ?_ (by (repeat (first | exact Sub.nil | refine Sub.cons rfl ?_ | refine Sub.consE rfl (by simp; done) ?_))) (by (repeat (first | exact List.Sublist.refl _ | refine List.Sublist.cons_cons _ ?_ | apply List.Sublist.cons))) ⟨o, T2, N2, ⟨hM, by rw [← hT2]; cases o; exact Nat.zero_le _; cases named l N; exact Nat.zero_le _; exact Nat.zero_le _⟩, rfl, rfl⟩)
          (repeat (first | exact Sub.nil | refine Sub.cons rfl ?_ | refine Sub.consE rfl (by simp; done) ?_))
      · refine WC.resE (h' := FL b1 b2 b3 b5 a l.length c ⟨0, d, 0, []⟩ n ++ h) (by rw [c38]; rfl) ?_
        (repeat (first | refine WC.seqK fun K hK => ?_ | refine WC.block ?_ | refine WC.regionG rfl fun ops hG => ?_))
        refine WL.po (PO.load1 Tryd.underlying68 rfl (Ev.tmp rfl) (by (repeat (first | exact List.Mem.head _ | apply List.Mem.tail))) rfl) (Nat.le_of_ble_eq_true rfl) ?_
        refine WL.callK (Ev.tmp rfl) (Evs.cons Ev.const (Evs.cons Ev.const Evs.nil)) (next_ct b1 b2 b3 b5 a _ c l ⟨0, d, 0, []⟩ n 2 cTIMER h _ hs hn) (Nat.le_of_ble_eq_true rfl) ?_
        rintro _ _ ⟨rfl, rfl⟩
        refine WL.po (PO.assign (Ev.tmp rfl)) (Nat.le_of_ble_eq_true rfl) ?_
        refine WL.nil (keepF (ts := [2, 3, 7, 73]) rfl (toK (by assumption) ?_))
        (try clear hG ops)
        (repeat (first | refine WC.seqK fun K hK => ?_ | refine WC.block ?_ | refine WC.regionG rfl fun ops hG => ?_))
        refine WC.cond (Ev.tmp rfl) (fun c73 => ?_) (fun c73 => ?_)
        · refine WC.resE (h' := FL b1 b2 b3 b5 a l.length c ⟨0, d, 0, []⟩ (n + 1) ++ h) (by rw [c73]; rfl) ?_
          (repeat (first | refine WC.seqK fun K hK => ?_ | refine WC.block ?_ | refine WC.regionG rfl fun ops hG => ?_))
          refine WL.po (PO.fieldAddr Tryd.underlying24 rfl (Nat.ne_of_beq_eq_false rfl) (Ev.tmp rfl)) (Nat.le_of_ble_eq_true rfl) ?_
          refine WL.store rfl (Ev.tmp rfl) Ev.const rfl rfl rfl rfl (by (repeat (first | exact Upd.here | apply Upd.next))) ?_
          refine WL.resE (h' := FL b1 b2 b3 b5 a l.length c ⟨5, d, 0, []⟩ (n + 1) ++ h) rfl ?_
          refine WL.nil (meetI [(7, .bool true)] (h'' := FL b1 b2 b3 b5 a l.length c (⟨5, d, 0, []⟩) (n + 1) ++ h) ?_ (by (repeat (first | exact Sub.nil | refine Sub.cons rfl ?_ | refine Sub.consE rfl (by simp; done) ?_))) (by (repeat (first | exact List.Sublist.refl _ | refine List.Sublist.cons_cons _ ?_ | apply List.Sublist.cons))) ⟨true, ⟨5, d, 0, []⟩, n + 1, ⟨mid_T73 hP hN c38 c73, Nat.zero_le _⟩, rfl, rfl⟩)
          (repeat (first | exact Sub.nil | refine Sub.cons rfl ?_ | refine Sub.consE rfl (by simp; done) ?_))
        · refine WC.resE (h' := FL b1 b2 b3 b5 a l.length c ⟨0, d, 0, []⟩ n ++ h) (by rw [c73]; rfl) ?_
          refine WC.skip (meetI [(7, .bool true)] (h'' := FL b1 b2 b3 b5 a l.length c (⟨0, d, 0, []⟩) n ++ h) ?_ (by (repeat (first | exact Sub.nil | refine Sub.cons rfl ?_ | refine Sub.consE rfl (by simp; done) ?_))) (by (repeat (first | exact List.Sublist.refl _ | refine List.Sublist.cons_cons _ ?_ | apply List.Sublist.cons))) ⟨true, ⟨0, d, 0, []⟩, n, ⟨mid_F73 hP hN c38 c73, Nat.zero_le _⟩, rfl, rfl⟩)
          (repeat (first | exact Sub.nil | refine Sub.cons rfl ?_ | refine Sub.consE rfl (by simp; done) ?_))
  rintro _ _ ⟨okB, t, nB, ⟨hM, hpl⟩, rfl, rfl⟩
  refine WC.frm rfl ?_
  (repeat (first | refine WC.seqK fun K hK => ?_ | refine WC.block ?_ | refine WC.regionG rfl fun ops hG => ?_))
  refine WL.po (PO.move (Ev.tmp rfl)) (Nat.le_of_ble_eq_true rfl) ?_
  refine WL.po (PO.not (Ev.tmp rfl)) (Nat.le_of_ble_eq_true rfl) ?_
  refine WL.po (PO.move (Ev.tmp rfl)) (Nat.le_of_ble_eq_true rfl) ?_
  refine WL.poG (GU.f (hG _ _ rfl) rfl) (fun hc => PO.loadA Tryd.underlying24 rfl rfl (Ev.tmp rfl) (by (repeat (first | exact List.Mem.head _ | apply List.Mem.tail))) rfl) (Nat.le_of_ble_eq_true rfl) ?_
  refine WL.callG (GU.f (hG _ _ rfl) rfl) (fun hc => ⟨Ev.func, (Evs.cons (Ev.gv rfl hc) Evs.nil), may_ct t _ _ hg hpl⟩) (Nat.le_of_ble_eq_true rfl) ?_
  refine WL.poG (GU.f (hG _ _ rfl) rfl) (fun hc => PO.not (Ev.gv rfl hc)) (Nat.le_of_ble_eq_true rfl) ?_
  refine WL.po (PO.pickOr rfl rfl) (Nat.le_of_ble_eq_true rfl) ?_
  refine WL.nil (keepF (ts := [2, 3, 83]) rfl (toK (by assumption) ?_))
  (try clear hG ops)
  (repeat (first | refine WC.seqK fun K hK => ?_ | refine WC.block ?_ | refine WC.regionG rfl fun ops hG => ?_))
  refine WC.cond (Ev.tmp rfl) (fun c83 => ?_) (fun c83 => ?_)
  · have hF := front_no hM c83
    (repeat (first | refine WC.seqK fun K hK => ?_ | refine WC.block ?_ | refine WC.regionG rfl fun ops hG => ?_))
    refine WL.po (PO.build Tryd.underlying24 rfl rfl rfl EvP.nil rfl) (Nat.le_of_ble_eq_true rfl) ?_
    refine WL.store rfl (Ev.tmp rfl) (Ev.tmp rfl) rfl rfl rfl rfl (by (repeat (first | exact Upd.here | apply Upd.next))) ?_
    refine WL.store rfl (Ev.tmp rfl) Ev.const rfl rfl rfl rfl (by (repeat (first | exact Upd.here | apply Upd.next))) ?_
    refine WL.po (PO.assign Ev.const) (Nat.le_of_ble_eq_true rfl) ?_
    refine WL.nil (keepF (ts := [2, 3, 4]) rfl (toK (by assumption) ?_))
    (try clear hG ops)
    refine WC.ret (end3 (h' := h) (.inl rfl) rfl (RV.cellA Tryd.underlying24 rfl rfl rfl (by (repeat (first | exact List.Mem.head _ | apply List.Mem.tail))) rfl) (RV.cell1 Tryd.underlying3 rfl rfl (by (repeat (first | exact List.Mem.head _ | apply List.Mem.tail))) rfl) (RV.tmp rfl) (View.le.refl m) (by (repeat (first | exact List.Sublist.refl _ | refine List.Sublist.cons_cons _ ?_ | apply List.Sublist.cons))) ?_)
    exact ⟨by rw [hF]; rfl, rfl⟩
  · have hF := front_yes hM c83
    refine WC.skip (keepF (ts := [2, 3]) rfl (toK (by assumption) ?_))
    (repeat (first | refine WC.seqK fun K hK => ?_ | refine WC.block ?_ | refine WC.regionG rfl fun ops hG => ?_))
    refine WC.take (r := .pt b2 (.cells (cellT t).toArray 24 (0, 0))) (by (repeat (first | exact Del.here | apply Del.next))) ?_
    refine WC.drawS [0, 2] [1, 0, 2] [3, 4] _ [.pt b2 (.cells (cellT t).toArray 24 (0, 0))] mixed (fun _ _ _ _ _ h => h) [] (by kernel_rfl) ?_
    refine SR.po rfl rfl (PO.load1 Tryd.underlying3 rfl (Ev.tmp rfl) (by (repeat (first | exact List.Mem.head _ | apply List.Mem.tail))) rfl) (Nat.le_of_ble_eq_true rfl) ?_
    refine SR.poE rfl rfl (fun fr => PO.loadA Tryd.underlying24 rfl rfl (Ev.tmp rfl) (List.mem_append_right _ (by (repeat (first | exact List.Mem.head _ | apply List.Mem.tail)))) rfl) (Nat.le_of_ble_eq_true rfl) ?_
    refine SR.store rfl rfl rfl (Ev.tmp rfl) (Ev.tmp rfl) rfl rfl rfl rfl (by (repeat (first | exact Upd.here | apply Upd.next))) ?_
    refine SR.nil rfl rfl ?_
    refine WL.store rfl (Ev.tmp rfl) (Ev.tmp rfl) rfl rfl rfl rfl (by (repeat (first | exact Upd.here | apply Upd.next))) ?_
    refine WL.po (PO.assign Ev.const) (Nat.le_of_ble_eq_true rfl) ?_
    refine WL.nil (keepF (ts := [2, 3, 4]) rfl (toK (by assumption) ?_))
    (try clear hG ops)
    refine WC.ret (end3 (h' := h) (.inl rfl) rfl (RV.cellA Tryd.underlying24 rfl rfl rfl (by (repeat (first | exact List.Mem.head _ | apply List.Mem.tail))) rfl) (RV.cell1 Tryd.underlying3 rfl rfl (by (repeat (first | exact List.Mem.head _ | apply List.Mem.tail))) rfl) (RV.tmp rfl) (View.le.refl m) (by (repeat (first | exact List.Sublist.refl _ | refine List.Sublist.cons_cons _ ?_ | apply List.Sublist.cons))) ?_)
    exact ⟨by rw [hF]; rfl, rfl⟩
end Go.Proofs.YtcejocfjienpfaaDoor

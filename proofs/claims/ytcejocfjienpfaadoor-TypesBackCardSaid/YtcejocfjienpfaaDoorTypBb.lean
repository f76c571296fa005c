/- types: the reference's Front, walked. -/
import Derived.Test.YtcejocfjienpfaaDoorTypU
import Derived.Test.YtcejocfjienpfaaDoorTypBa
namespace Go.Proofs.YtcejocfjienpfaaDoor
open Go.Eng Go.Lx Go.Ty
set_option maxRecDepth 100000
theorem begins_ct (s1 : Option Addr) (n1 c1 : Nat) (s2 : Option Addr) (n2 c2 : Nat) (l w : List Tok) (h : List Res) (m : View) (h1 : Rd m h s1 n1 c1 4 (fl encK l)) (h2 : Rd m h s2 n2 c2 4 (fl encK w)) :
    CT Tryd.prog 40 [.slice s1 n1 c1, .slice s2 n2 c2] h m (Pure1 h (.bool (begF l w))) := by
  have hl1 := h1.lenF encK_len (by decide)
  have hl2 := h2.lenF encK_len (by decide)
  subst hl1 hl2
  have hmx1 := h1.mx
  have hle1 := h1.le
  have hmx2 := h2.mx
  have hle2 := h2.le
  refine CT.body Tryd.call40 Tryd.func40 rfl Tryd.ntmps40 (Nat.le_of_ble_eq_true rfl) rfl ?_
  (repeat (first | refine WC.seqK fun K hK => ?_ | refine WC.block ?_ | refine WC.regionG rfl fun ops hG => ?_))
  refine WL.po (PO.assign Ev.const) (Nat.le_of_ble_eq_true rfl) ?_
  refine WL.nil (keepF (ts := [0, 1]) rfl (toK (by assumption) ?_))
  (try clear hG ops)
  (repeat (first | refine WC.seqK fun K hK => ?_ | refine WC.block ?_ | refine WC.regionG rfl fun ops hG => ?_))
  refine WL.po (PO.move (Ev.tmp rfl)) (Nat.le_of_ble_eq_true rfl) ?_
  refine WL.po (PO.lenSl Tryd.underlying25 (Ev.tmp rfl)) (Nat.le_of_ble_eq_true rfl) ?_
  refine WL.po (PO.move (Ev.tmp rfl)) (Nat.le_of_ble_eq_true rfl) ?_
  refine WL.po (PO.lenSl Tryd.underlying25 (Ev.tmp rfl)) (Nat.le_of_ble_eq_true rfl) ?_
  refine WL.po (PO.bin (Ev.tmp rfl) (Ev.tmp rfl) rfl) (Nat.le_of_ble_eq_true rfl) ?_
  refine WL.nil (keepF (ts := [0, 1, 11]) rfl (toK (by assumption) ?_))
  (try clear hG ops)
  (repeat (first | refine WC.seqK fun K hK => ?_ | refine WC.block ?_ | refine WC.regionG rfl fun ops hG => ?_))
  refine WC.cond (Ev.tmp rfl) (fun c11 => ?_) (fun c11 => ?_)
  · replace c11 := of_decide_eq_true c11
    (repeat (first | refine WC.seqK fun K hK => ?_ | refine WC.block ?_ | refine WC.regionG rfl fun ops hG => ?_))
    refine WL.po (PO.assign Ev.const) (Nat.le_of_ble_eq_true rfl) ?_
    refine WL.nil (keepF (ts := [4]) rfl (toK (by assumption) ?_))
    (try clear hG ops)
    refine WC.ret (end1 (h' := h) (.inl rfl) rfl (RV.tmp rfl) (View.le.refl m) (by (repeat (first | exact List.Sublist.refl _ | refine List.Sublist.cons_cons _ ?_ | apply List.Sublist.cons))) ?_)
    exact ⟨by rw [begF_short (by omega)], rfl⟩
  · replace c11 := of_decide_eq_false c11
    refine WC.skip (keepF (ts := [0, 1]) rfl (toK (by assumption) ?_))
    (repeat (first | refine WC.seqK fun K hK => ?_ | refine WC.block ?_ | refine WC.regionG rfl fun ops hG => ?_))
    refine WL.po (PO.assign Ev.const) (Nat.le_of_ble_eq_true rfl) ?_
    refine WL.nil (keepF (ts := [0, 1, 5]) rfl (toK (by assumption) ?_))
    (try clear hG ops)
    (repeat (first | refine WC.seqK fun K hK => ?_ | refine WC.block ?_ | refine WC.regionG rfl fun ops hG => ?_))
    refine WC.loopI [0, 1] rfl (fun μ F' h' => ∃ j : Nat, (j ≤ w.length ∧ begF l w = begF (l.drop j) (w.drop j)) ∧ w.length - j = μ ∧ F' = [(5, .int .i64 j)] ∧ h = h') (w.length - 0) [(5, .int .i64 0)] (h0 := h) ?_ (by (repeat (first | exact List.Sublist.refl _ | refine List.Sublist.cons_cons _ ?_ | apply List.Sublist.cons))) ⟨0, ⟨by omega, rfl⟩, rfl, rfl, rfl⟩ ?_
    · (repeat (first | exact Sub.nil | refine Sub.cons rfl ?_ | refine Sub.consE rfl (by simp; done) ?_))
    rintro _ _ _ ⟨j, ⟨hk, hJ⟩, rfl, rfl, rfl⟩
    refine WC.frm rfl ?_
    (repeat (first | refine WC.seqK fun K hK => ?_ | refine WC.block ?_ | refine WC.regionG rfl fun ops hG => ?_))
    refine WL.po (PO.move (Ev.tmp rfl)) (Nat.le_of_ble_eq_true rfl) ?_
    refine WL.po (PO.move (Ev.tmp rfl)) (Nat.le_of_ble_eq_true rfl) ?_
    refine WL.po (PO.lenSl Tryd.underlying25 (Ev.tmp rfl)) (Nat.le_of_ble_eq_true rfl) ?_
    refine WL.po (PO.bin (Ev.tmp rfl) (Ev.tmp rfl) rfl) (Nat.le_of_ble_eq_true rfl) ?_
    refine WL.nil (keepF (ts := [0, 1, 5, 15]) rfl (toK (by assumption) ?_))
    (try clear hG ops)
    (repeat (first | refine WC.seqK fun K hK => ?_ | refine WC.block ?_ | refine WC.regionG rfl fun ops hG => ?_))
    refine WC.cond (Ev.tmp rfl) (fun c15 => ?_) (fun c15 => ?_)
    · replace c15 := of_decide_eq_true c15
      obtain ⟨x, hx⟩ := get_some (l := l) (k := j) (by omega)
      obtain ⟨y, hy⟩ := get_some (l := w) (k := j) (by omega)
      rw [begF_drop hx hy] at hJ
      refine WC.skip (keepF (ts := [0, 1, 5]) rfl (toK (by assumption) ?_))
      (repeat (first | refine WC.seqK fun K hK => ?_ | refine WC.block ?_ | refine WC.regionG rfl fun ops hG => ?_))
      refine WL.po (PO.move (Ev.tmp rfl)) (Nat.le_of_ble_eq_true rfl) ?_
      refine WL.po (PO.move (Ev.tmp rfl)) (Nat.le_of_ble_eq_true rfl) ?_
      refine WL.po (PO.idx EL25.und EL25.size EL25.posz (Ev.tmp rfl) (Ev.tmp rfl) (by first | assumption | exact Rd.ofSl (by assumption) | exact Rd.ofPt rfl (by decide) (by (repeat (first | exact List.Mem.head _ | apply List.Mem.tail))) | exact Rd.mono (by assumption) (View.le.refl _) (by (repeat (first | exact List.Sublist.refl _ | refine List.Sublist.cons_cons _ ?_ | apply List.Sublist.cons))) | exact Rd.inRow (by (repeat (first | exact List.Mem.head _ | apply List.Mem.tail))) (by assumption) (by assumption) (by assumption)) rfl (by omega)) (Nat.le_of_ble_eq_true rfl) ?_
      refine WL.po (PO.loadFA Tryd.underlying53 rfl rfl encK_len (by first | assumption | exact Rd.ofSl (by assumption) | exact Rd.ofPt rfl (by decide) (by (repeat (first | exact List.Mem.head _ | apply List.Mem.tail))) | exact Rd.mono (by assumption) (View.le.refl _) (by (repeat (first | exact List.Sublist.refl _ | refine List.Sublist.cons_cons _ ?_ | apply List.Sublist.cons))) | exact Rd.inRow (by (repeat (first | exact List.Mem.head _ | apply List.Mem.tail))) (by assumption) (by assumption) (by assumption)) (Ev.tmp rfl) (by assumption) rfl rfl (Nat.succ_pos _)) (Nat.le_of_ble_eq_true rfl) ?_
      refine WL.alloc rfl rfl (Nat.le_of_ble_eq_true rfl) fun b6 => ?_
      refine WL.store rfl (Ev.tmp rfl) (Ev.tmp rfl) rfl rfl rfl rfl (by (repeat (first | exact Upd.here | apply Upd.next))) ?_
      refine WL.nil (keepF (ts := [0, 1, 5, 6]) rfl (toK (by assumption) ?_))
      (try clear hG ops)
      (repeat (first | refine WC.seqK fun K hK => ?_ | refine WC.block ?_ | refine WC.regionG rfl fun ops hG => ?_))
      refine WL.po (PO.fieldAddr Tryd.underlying53 rfl (Nat.ne_of_beq_eq_false rfl) (Ev.tmp rfl)) (Nat.le_of_ble_eq_true rfl) ?_
      refine WL.store rfl (Ev.tmp rfl) Ev.const rfl rfl rfl rfl (by (repeat (first | exact Upd.here | apply Upd.next))) ?_
      refine WL.nil (keepF (ts := [0, 1, 5, 6]) rfl (toK (by assumption) ?_))
      (try clear hG ops)
      (repeat (first | refine WC.seqK fun K hK => ?_ | refine WC.block ?_ | refine WC.regionG rfl fun ops hG => ?_))
      refine WC.drawS [] [0, 1, 2, 3, 4] [5] _ [] mixed (fun _ _ _ _ _ h => h) [] (by kernel_rfl) ?_
      refine SR.po rfl rfl (PO.loadA Tryd.underlying53 rfl rfl (Ev.tmp rfl) (by (repeat (first | exact List.Mem.head _ | apply List.Mem.tail))) rfl) (Nat.le_of_ble_eq_true rfl) ?_
      refine SR.po rfl rfl (PO.move (Ev.tmp rfl)) (Nat.le_of_ble_eq_true rfl) ?_
      refine SR.po rfl rfl (PO.move (Ev.tmp rfl)) (Nat.le_of_ble_eq_true rfl) ?_
      refine SR.po rfl rfl (PO.idx EL25.und EL25.size EL25.posz (Ev.tmp rfl) (Ev.tmp rfl) (by first | assumption | exact Rd.ofSl (by assumption) | exact Rd.ofPt rfl (by decide) (by (repeat (first | exact List.Mem.head _ | apply List.Mem.tail))) | exact Rd.mono (by assumption) (View.le.refl _) (by (repeat (first | exact List.Sublist.refl _ | refine List.Sublist.cons_cons _ ?_ | apply List.Sublist.cons))) | exact Rd.inRow (by (repeat (first | exact List.Mem.head _ | apply List.Mem.tail))) (by assumption) (by assumption) (by assumption)) rfl (by omega)) (Nat.le_of_ble_eq_true rfl) ?_
      refine SR.po rfl rfl (PO.loadFA Tryd.underlying53 rfl rfl encK_len (by first | assumption | exact Rd.ofSl (by assumption) | exact Rd.ofPt rfl (by decide) (by (repeat (first | exact List.Mem.head _ | apply List.Mem.tail))) | exact Rd.mono (by assumption) (View.le.refl _) (by (repeat (first | exact List.Sublist.refl _ | refine List.Sublist.cons_cons _ ?_ | apply List.Sublist.cons))) | exact Rd.inRow (by (repeat (first | exact List.Mem.head _ | apply List.Mem.tail))) (by assumption) (by assumption) (by assumption)) (Ev.tmp rfl) (by assumption) rfl rfl (Nat.succ_pos _)) (Nat.le_of_ble_eq_true rfl) ?_
      refine SR.nil rfl rfl ?_
      refine WL.po (PO.neqA Tryd.underlying53 (by kernel_rfl) (by kernel_rfl) (Ev.tmp rfl) (Ev.tmp rfl) rfl) (Nat.le_of_ble_eq_true rfl) ?_
      refine WL.nil (keepF (ts := [0, 1, 5, 28]) rfl (toK (by assumption) ?_))
      (try clear hG ops)
      (repeat (first | refine WC.seqK fun K hK => ?_ | refine WC.block ?_ | refine WC.regionG rfl fun ops hG => ?_))
      refine WC.cond (Ev.tmp rfl) (fun c28 => ?_) (fun c28 => ?_)
      · have d28 : eqK (strip x) y = false := eqK_ne c28
        rw [d28] at hJ
        (repeat (first | refine WC.seqK fun K hK => ?_ | refine WC.block ?_ | refine WC.regionG rfl fun ops hG => ?_))
        refine WL.po (PO.assign Ev.const) (Nat.le_of_ble_eq_true rfl) ?_
        refine WL.nil (keepF (ts := [4]) rfl (toK (by assumption) ?_))
        (try clear hG ops)
        refine WC.ret (end1 (h' := h) (.inl rfl) rfl (RV.tmp rfl) (View.le.refl m) (by (repeat (first | exact List.Sublist.refl _ | refine List.Sublist.cons_cons _ ?_ | apply List.Sublist.cons))) ?_)
        exact ⟨by rw [hJ]; rfl, rfl⟩
      · have d28 : eqK (strip x) y = true := eqK_eq c28
        rw [d28] at hJ
        refine WC.skip (keepF (ts := [0, 1, 5]) rfl (toK (by assumption) ?_))
        (repeat (first | refine WC.seqK fun K hK => ?_ | refine WC.block ?_ | refine WC.regionG rfl fun ops hG => ?_))
        refine WL.po (PO.move (Ev.tmp rfl)) (Nat.le_of_ble_eq_true rfl) ?_
        refine WL.po (PO.addI (Ev.tmp rfl) Ev.const (by omega)) (Nat.le_of_ble_eq_true rfl) ?_
        refine WL.po (PO.assign (Ev.tmp rfl)) (Nat.le_of_ble_eq_true rfl) ?_
        refine WL.nil (loopBackI (w.length - (j + 1)) [(5, .int .i64 (j + 1))] (h'' := h) (by omega) ?_ (by (repeat (first | exact Sub.nil | refine Sub.cons rfl ?_ | refine Sub.consE rfl (by simp; done) ?_))) (by (repeat (first | exact List.Sublist.refl _ | refine List.Sublist.cons_cons _ ?_ | apply List.Sublist.cons))) ⟨j + 1, ⟨by omega, by simpa using hJ⟩, rfl, rfl, rfl⟩)
        (repeat (first | exact Sub.nil | refine Sub.cons rfl ?_ | refine Sub.consE rfl (by simp; done) ?_))
    · replace c15 := of_decide_eq_false c15
      rw [begF_end l (by omega)] at hJ
      refine WC.exit (keepF (ts := []) rfl (toK (by assumption) ?_))
      (repeat (first | refine WC.seqK fun K hK => ?_ | refine WC.block ?_ | refine WC.regionG rfl fun ops hG => ?_))
      refine WL.po (PO.assign Ev.const) (Nat.le_of_ble_eq_true rfl) ?_
      refine WL.nil (keepF (ts := [4]) rfl (toK (by assumption) ?_))
      (try clear hG ops)
      refine WC.ret (end1 (h' := h) (.inl rfl) rfl (RV.tmp rfl) (View.le.refl m) (by (repeat (first | exact List.Sublist.refl _ | refine List.Sublist.cons_cons _ ?_ | apply List.Sublist.cons))) ?_)
      exact ⟨by rw [hJ], rfl⟩
theorem u8_step {n : Nat} (h : n < 255) : IntKind.u8.wrap ((n : Int) + 1) = (n : Int) + 1 := by
  unfold IntKind.wrap
  simp [IntKind.bits, IntKind.signed]
  omega
theorem frontR_ct (a : Option Addr) (k c : Nat) (l : List Tok) (h : List Res) (m : View) (hs : Rd m h a k c 4 (fl encK l)) (hT : TkOk l) :
    CT Tryd.prog 16 [.slice a k c] h m (Pure1 h (.tuple #[tyV (front l).1, .int .i64 (front l).2.1, .int .i64 (front l).2.2])) := by
  have hl := hs.lenF encK_len (by decide)
  subst hl
  have hmx := hs.mx
  have hle := hs.le
  have hq : ∀ n : Nat, n < l.length → l[n]? = some (tokAt l n) := fun n => tokAt_get
  refine CT.body Tryd.call16 Tryd.func16 rfl Tryd.ntmps16 (Nat.le_of_ble_eq_true rfl) rfl ?_
  (repeat (first | refine WC.seqK fun K hK => ?_ | refine WC.block ?_ | refine WC.regionG rfl fun ops hG => ?_))
  refine WL.alloc rfl rfl (Nat.le_of_ble_eq_true rfl) fun b2 => ?_
  refine WL.po (PO.assign Ev.const) (Nat.le_of_ble_eq_true rfl) ?_
  refine WL.po (PO.assign Ev.const) (Nat.le_of_ble_eq_true rfl) ?_
  refine WL.nil (keepF (ts := [0, 2]) rfl (toK (by assumption) ?_))
  (try clear hG ops)
  (repeat (first | refine WC.seqK fun K hK => ?_ | refine WC.block ?_ | refine WC.regionG rfl fun ops hG => ?_))
  refine WL.po (PO.assign Ev.const) (Nat.le_of_ble_eq_true rfl) ?_
  refine WL.nil (keepF (ts := [0, 2, 5]) rfl (toK (by assumption) ?_))
  (try clear hG ops)
  (repeat (first | refine WC.seqK fun K hK => ?_ | refine WC.block ?_ | refine WC.regionG rfl fun ops hG => ?_))
  refine WL.po (PO.move (Ev.tmp rfl)) (Nat.le_of_ble_eq_true rfl) ?_
  refine WL.po (PO.lenSl Tryd.underlying25 (Ev.tmp rfl)) (Nat.le_of_ble_eq_true rfl) ?_
  refine WL.po (PO.bin (Ev.tmp rfl) Ev.const rfl) (Nat.le_of_ble_eq_true rfl) ?_
  refine WL.po (PO.move (Ev.tmp rfl)) (Nat.le_of_ble_eq_true rfl) ?_
  refine WL.poG (GU.t (hG _ _ rfl) rfl) (fun hc => PO.move (Ev.tmp rfl)) (Nat.le_of_ble_eq_true rfl) ?_
  refine WL.poG (GU.t (hG _ _ rfl) rfl) (fun hc => PO.idx EL25.und EL25.size EL25.posz (Ev.gv rfl hc) Ev.const (by first | assumption | exact Rd.ofSl (by assumption) | exact Rd.ofPt rfl (by decide) (by (repeat (first | exact List.Mem.head _ | apply List.Mem.tail))) | exact Rd.mono (by assumption) (View.le.refl _) (by (repeat (first | exact List.Sublist.refl _ | refine List.Sublist.cons_cons _ ?_ | apply List.Sublist.cons))) | exact Rd.inRow (by (repeat (first | exact List.Mem.head _ | apply List.Mem.tail))) (by assumption) (by assumption) (by assumption)) rfl (q := 0) (by simp at hc; omega)) (Nat.le_of_ble_eq_true rfl) ?_
  refine WL.poG (GU.t (hG _ _ rfl) rfl) (fun hc => PO.fieldF Tryd.underlying53 rfl (Nat.ne_of_beq_eq_false rfl) encK_len (Nat.succ_pos _) (by first | assumption | exact Rd.ofSl (by assumption) | exact Rd.ofPt rfl (by decide) (by (repeat (first | exact List.Mem.head _ | apply List.Mem.tail))) | exact Rd.mono (by assumption) (View.le.refl _) (by (repeat (first | exact List.Sublist.refl _ | refine List.Sublist.cons_cons _ ?_ | apply List.Sublist.cons))) | exact Rd.inRow (by (repeat (first | exact List.Mem.head _ | apply List.Mem.tail))) (by assumption) (by assumption) (by assumption)) (hq 0 (by simp at hc; omega)) (Ev.gv rfl hc)) (Nat.le_of_ble_eq_true rfl) ?_
  refine WL.poG (GU.t (hG _ _ rfl) rfl) (fun hc => PO.loadFf Tryd.underlying9 rfl encK_len (by first | assumption | exact Rd.ofSl (by assumption) | exact Rd.ofPt rfl (by decide) (by (repeat (first | exact List.Mem.head _ | apply List.Mem.tail))) | exact Rd.mono (by assumption) (View.le.refl _) (by (repeat (first | exact List.Sublist.refl _ | refine List.Sublist.cons_cons _ ?_ | apply List.Sublist.cons))) | exact Rd.inRow (by (repeat (first | exact List.Mem.head _ | apply List.Mem.tail))) (by assumption) (by assumption) (by assumption)) (Ev.gv rfl hc) (hq _ (by simp at hc; omega)) rfl) (Nat.le_of_ble_eq_true rfl) ?_
  refine WL.poG (GU.t (hG _ _ rfl) rfl) (fun hc => PO.eqlS (Ev.gv rfl hc) Ev.const) (Nat.le_of_ble_eq_true rfl) ?_
  refine WL.po (PO.pickAnd rfl rfl) (Nat.le_of_ble_eq_true rfl) ?_
  refine WL.po (PO.move (Ev.tmp rfl)) (Nat.le_of_ble_eq_true rfl) ?_
  refine WL.poG (GU.t (hG _ _ rfl) rfl) (fun hc => PO.move (Ev.tmp rfl)) (Nat.le_of_ble_eq_true rfl) ?_
  refine WL.poG (GU.t (hG _ _ rfl) rfl) (fun hc => PO.idx EL25.und EL25.size EL25.posz (Ev.gv rfl hc) Ev.const (by first | assumption | exact Rd.ofSl (by assumption) | exact Rd.ofPt rfl (by decide) (by (repeat (first | exact List.Mem.head _ | apply List.Mem.tail))) | exact Rd.mono (by assumption) (View.le.refl _) (by (repeat (first | exact List.Sublist.refl _ | refine List.Sublist.cons_cons _ ?_ | apply List.Sublist.cons))) | exact Rd.inRow (by (repeat (first | exact List.Mem.head _ | apply List.Mem.tail))) (by assumption) (by assumption) (by assumption)) rfl (q := 1) (by simp at hc; omega)) (Nat.le_of_ble_eq_true rfl) ?_
  refine WL.poG (GU.t (hG _ _ rfl) rfl) (fun hc => PO.fieldF Tryd.underlying53 rfl (Nat.ne_of_beq_eq_false rfl) encK_len (Nat.succ_pos _) (by first | assumption | exact Rd.ofSl (by assumption) | exact Rd.ofPt rfl (by decide) (by (repeat (first | exact List.Mem.head _ | apply List.Mem.tail))) | exact Rd.mono (by assumption) (View.le.refl _) (by (repeat (first | exact List.Sublist.refl _ | refine List.Sublist.cons_cons _ ?_ | apply List.Sublist.cons))) | exact Rd.inRow (by (repeat (first | exact List.Mem.head _ | apply List.Mem.tail))) (by assumption) (by assumption) (by assumption)) (hq 1 (by simp at hc; omega)) (Ev.gv rfl hc)) (Nat.le_of_ble_eq_true rfl) ?_
  refine WL.poG (GU.t (hG _ _ rfl) rfl) (fun hc => PO.loadFf Tryd.underlying21 rfl encK_len (by first | assumption | exact Rd.ofSl (by assumption) | exact Rd.ofPt rfl (by decide) (by (repeat (first | exact List.Mem.head _ | apply List.Mem.tail))) | exact Rd.mono (by assumption) (View.le.refl _) (by (repeat (first | exact List.Sublist.refl _ | refine List.Sublist.cons_cons _ ?_ | apply List.Sublist.cons))) | exact Rd.inRow (by (repeat (first | exact List.Mem.head _ | apply List.Mem.tail))) (by assumption) (by assumption) (by assumption)) (Ev.gv rfl hc) (hq _ (by simp at hc; omega)) rfl) (Nat.le_of_ble_eq_true rfl) ?_
  refine WL.poG (GU.t (hG _ _ rfl) rfl) (fun hc => PO.bin (Ev.gv rfl hc) Ev.const rfl) (Nat.le_of_ble_eq_true rfl) ?_
  refine WL.po (PO.pickAnd rfl rfl) (Nat.le_of_ble_eq_true rfl) ?_
  refine WL.po (PO.move (Ev.tmp rfl)) (Nat.le_of_ble_eq_true rfl) ?_
  refine WL.poG (GU.t (hG _ _ rfl) rfl) (fun hc => PO.move (Ev.tmp rfl)) (Nat.le_of_ble_eq_true rfl) ?_
  refine WL.poG (GU.t (hG _ _ rfl) rfl) (fun hc => PO.idx EL25.und EL25.size EL25.posz (Ev.gv rfl hc) Ev.const (by first | assumption | exact Rd.ofSl (by assumption) | exact Rd.ofPt rfl (by decide) (by (repeat (first | exact List.Mem.head _ | apply List.Mem.tail))) | exact Rd.mono (by assumption) (View.le.refl _) (by (repeat (first | exact List.Sublist.refl _ | refine List.Sublist.cons_cons _ ?_ | apply List.Sublist.cons))) | exact Rd.inRow (by (repeat (first | exact List.Mem.head _ | apply List.Mem.tail))) (by assumption) (by assumption) (by assumption)) rfl (q := 1) (by simp at hc; omega)) (Nat.le_of_ble_eq_true rfl) ?_
  refine WL.poG (GU.t (hG _ _ rfl) rfl) (fun hc => PO.fieldF Tryd.underlying53 rfl (Nat.ne_of_beq_eq_false rfl) encK_len (Nat.succ_pos _) (by first | assumption | exact Rd.ofSl (by assumption) | exact Rd.ofPt rfl (by decide) (by (repeat (first | exact List.Mem.head _ | apply List.Mem.tail))) | exact Rd.mono (by assumption) (View.le.refl _) (by (repeat (first | exact List.Sublist.refl _ | refine List.Sublist.cons_cons _ ?_ | apply List.Sublist.cons))) | exact Rd.inRow (by (repeat (first | exact List.Mem.head _ | apply List.Mem.tail))) (by assumption) (by assumption) (by assumption)) (hq 1 (by simp at hc; omega)) (Ev.gv rfl hc)) (Nat.le_of_ble_eq_true rfl) ?_
  refine WL.poG (GU.t (hG _ _ rfl) rfl) (fun hc => PO.loadFf Tryd.underlying21 rfl encK_len (by first | assumption | exact Rd.ofSl (by assumption) | exact Rd.ofPt rfl (by decide) (by (repeat (first | exact List.Mem.head _ | apply List.Mem.tail))) | exact Rd.mono (by assumption) (View.le.refl _) (by (repeat (first | exact List.Sublist.refl _ | refine List.Sublist.cons_cons _ ?_ | apply List.Sublist.cons))) | exact Rd.inRow (by (repeat (first | exact List.Mem.head _ | apply List.Mem.tail))) (by assumption) (by assumption) (by assumption)) (Ev.gv rfl hc) (hq _ (by simp at hc; omega)) rfl) (Nat.le_of_ble_eq_true rfl) ?_
  refine WL.poG (GU.t (hG _ _ rfl) rfl) (fun hc => PO.bin (Ev.gv rfl hc) Ev.const rfl) (Nat.le_of_ble_eq_true rfl) ?_
  refine WL.po (PO.pickAnd rfl rfl) (Nat.le_of_ble_eq_true rfl) ?_
  refine WL.nil (keepF (ts := [0, 2, 5, 35]) rfl (toK (by assumption) ?_))
  (try clear hG ops)
  (repeat refine WC.seqK fun K hK => ?_)
  refine WC.cutK (by assumption) [0, 2] rfl (fun F' h' => ∃ d : Int, (dimL l = d) ∧ F' = [(5, .int .i64 d)] ∧ .pt b2 (.cells (cellT zeroT).toArray 24 (0, 0)) :: h = h') ?_ ?_
  · (repeat (first | refine WC.seqK fun K hK => ?_ | refine WC.block ?_ | refine WC.regionG rfl fun ops hG => ?_))
    refine WC.cond (Ev.tmp rfl) (fun c35 => ?_) (fun c35 => ?_)
    · have d35 : dimC l = true := c35
      have hl1 : 1 < l.length := by unfold dimC at d35; simp at d35; omega
      have h1 := hq 1 hl1
      have hw := (hT _ (List.mem_of_getElem? h1)).1
      have hD : dimL l = (tokAt l 1).n := by unfold dimL; rw [d35]; rfl
      (repeat (first | refine WC.seqK fun K hK => ?_ | refine WC.block ?_ | refine WC.regionG rfl fun ops hG => ?_))
      refine WL.po (PO.move (Ev.tmp rfl)) (Nat.le_of_ble_eq_true rfl) ?_
      refine WL.po (PO.idx EL25.und EL25.size EL25.posz (Ev.tmp rfl) Ev.const (by first | assumption | exact Rd.ofSl (by assumption) | exact Rd.ofPt rfl (by decide) (by (repeat (first | exact List.Mem.head _ | apply List.Mem.tail))) | exact Rd.mono (by assumption) (View.le.refl _) (by (repeat (first | exact List.Sublist.refl _ | refine List.Sublist.cons_cons _ ?_ | apply List.Sublist.cons))) | exact Rd.inRow (by (repeat (first | exact List.Mem.head _ | apply List.Mem.tail))) (by assumption) (by assumption) (by assumption)) rfl (q := 1) (by omega)) (Nat.le_of_ble_eq_true rfl) ?_
      refine WL.po (PO.fieldF Tryd.underlying53 rfl (Nat.ne_of_beq_eq_false rfl) encK_len (Nat.succ_pos _) (by first | assumption | exact Rd.ofSl (by assumption) | exact Rd.ofPt rfl (by decide) (by (repeat (first | exact List.Mem.head _ | apply List.Mem.tail))) | exact Rd.mono (by assumption) (View.le.refl _) (by (repeat (first | exact List.Sublist.refl _ | refine List.Sublist.cons_cons _ ?_ | apply List.Sublist.cons))) | exact Rd.inRow (by (repeat (first | exact List.Mem.head _ | apply List.Mem.tail))) (by assumption) (by assumption) (by assumption)) (by assumption) (Ev.tmp rfl)) (Nat.le_of_ble_eq_true rfl) ?_
      refine WL.po (PO.loadFf Tryd.underlying21 rfl encK_len (by first | assumption | exact Rd.ofSl (by assumption) | exact Rd.ofPt rfl (by decide) (by (repeat (first | exact List.Mem.head _ | apply List.Mem.tail))) | exact Rd.mono (by assumption) (View.le.refl _) (by (repeat (first | exact List.Sublist.refl _ | refine List.Sublist.cons_cons _ ?_ | apply List.Sublist.cons))) | exact Rd.inRow (by (repeat (first | exact List.Mem.head _ | apply List.Mem.tail))) (by assumption) (by assumption) (by assumption)) (Ev.tmp rfl) (by assumption) rfl) (Nat.le_of_ble_eq_true rfl) ?_
      refine WL.po (PO.conv Tryd.underlying21 Tryd.underlying3 (Ev.tmp rfl)) (Nat.le_of_ble_eq_true rfl) ?_
      refine WL.val (v' := .int .i64 (tokAt l 1).n) (congrArg (Value.int .i64) (wrapN hw)) ?_
      refine WL.po (PO.assign (Ev.tmp rfl)) (Nat.le_of_ble_eq_true rfl) ?_
      refine WL.nil (meetI [(5, .int .i64 ((tokAt l 1).n))] (h'' := .pt b2 (.cells (cellT zeroT).toArray 24 (0, 0)) :: h) ?_ (by (repeat (first | exact Sub.nil | refine Sub.cons rfl ?_ | refine Sub.consE rfl (by simp; done) ?_))) (by (repeat (first | exact List.Sublist.refl _ | refine List.Sublist.cons_cons _ ?_ | apply List.Sublist.cons))) ⟨(tokAt l 1).n, hD, rfl, rfl⟩)
      (repeat (first | exact Sub.nil | refine Sub.cons rfl ?_ | refine Sub.consE rfl (by simp; done) ?_))
    · have d35 : dimC l = false := c35
      have hD : dimL l = 0 := by unfold dimL; rw [d35]; rfl
      refine WC.skip (meetI [(5, .int .i64 0)] (h'' := .pt b2 (.cells (cellT zeroT).toArray 24 (0, 0)) :: h) ?_ (by (repeat (first | exact Sub.nil | refine Sub.cons rfl ?_ | refine Sub.consE rfl (by simp; done) ?_))) (by (repeat (first | exact List.Sublist.refl _ | refine List.Sublist.cons_cons _ ?_ | apply List.Sublist.cons))) ⟨0, hD, rfl, rfl⟩)
      (repeat (first | exact Sub.nil | refine Sub.cons rfl ?_ | refine Sub.consE rfl (by simp; done) ?_))
  rintro _ _ ⟨d, hd, rfl, rfl⟩
  refine WC.frm rfl ?_
  (repeat (first | refine WC.seqK fun K hK => ?_ | refine WC.block ?_ | refine WC.regionG rfl fun ops hG => ?_))
  refine WL.po (PO.assign Ev.const) (Nat.le_of_ble_eq_true rfl) ?_
  refine WL.nil (keepF (ts := [0, 2, 5, 6]) rfl (toK (by assumption) ?_))
  (try clear hG ops)
  (repeat (first | refine WC.seqK fun K hK => ?_ | refine WC.block ?_ | refine WC.regionG rfl fun ops hG => ?_))
  refine WC.loopI [0, 2, 5] rfl (fun μ F' h' => ∃ x : Nat, ((1 ≤ x ∧ x ≤ 6) ∧ ∀ (p q r : Nat), 1 ≤ p → p < x → q < 4 → r ≤ l.length → r < 7 → good l (cand l p q r) = false) ∧ 6 - x = μ ∧ F' = [(6, .int .u8 x)] ∧ .pt b2 (.cells (cellT zeroT).toArray 24 (0, 0)) :: h = h') (6 - 1) [(6, .int .u8 1)] (h0 := .pt b2 (.cells (cellT zeroT).toArray 24 (0, 0)) :: h) ?_ (by (repeat (first | exact List.Sublist.refl _ | refine List.Sublist.cons_cons _ ?_ | apply List.Sublist.cons))) ⟨1, ⟨by omega, fun p q r h1 h2 => by omega⟩, rfl, rfl, rfl⟩ ?_
  · (repeat (first | exact Sub.nil | refine Sub.cons rfl ?_ | refine Sub.consE rfl (by simp; done) ?_))
  rintro _ _ _ ⟨x, ⟨hx, hA⟩, rfl, rfl, rfl⟩
  refine WC.frm rfl ?_
  (repeat (first | refine WC.seqK fun K hK => ?_ | refine WC.block ?_ | refine WC.regionG rfl fun ops hG => ?_))
  refine WL.po (PO.move (Ev.tmp rfl)) (Nat.le_of_ble_eq_true rfl) ?_
  refine WL.po (PO.bin (Ev.tmp rfl) Ev.const rfl) (Nat.le_of_ble_eq_true rfl) ?_
  refine WL.nil (keepF (ts := [0, 2, 5, 6, 42]) rfl (toK (by assumption) ?_))
  (try clear hG ops)
  (repeat (first | refine WC.seqK fun K hK => ?_ | refine WC.block ?_ | refine WC.regionG rfl fun ops hG => ?_))
  refine WC.cond (Ev.tmp rfl) (fun c42 => ?_) (fun c42 => ?_)
  · replace c42 := of_decide_eq_true c42
    refine WC.skip (keepF (ts := [0, 2, 5, 6]) rfl (toK (by assumption) ?_))
    (repeat (first | refine WC.seqK fun K hK => ?_ | refine WC.block ?_ | refine WC.regionG rfl fun ops hG => ?_))
    refine WL.po (PO.assign Ev.const) (Nat.le_of_ble_eq_true rfl) ?_
    refine WL.nil (keepF (ts := [0, 2, 5, 6, 7]) rfl (toK (by assumption) ?_))
    (try clear hG ops)
    (repeat (first | refine WC.seqK fun K hK => ?_ | refine WC.block ?_ | refine WC.regionG rfl fun ops hG => ?_))
    refine WC.loopI [0, 2, 5, 6] rfl (fun μ F' h' => ∃ y : Nat, (y ≤ 4 ∧ ∀ (q r : Nat), q < y → r ≤ l.length → r < 7 → good l (cand l x q r) = false) ∧ 4 - y = μ ∧ F' = [(7, .int .u8 y)] ∧ .pt b2 (.cells (cellT zeroT).toArray 24 (0, 0)) :: h = h') (4 - 0) [(7, .int .u8 0)] (h0 := .pt b2 (.cells (cellT zeroT).toArray 24 (0, 0)) :: h) ?_ (by (repeat (first | exact List.Sublist.refl _ | refine List.Sublist.cons_cons _ ?_ | apply List.Sublist.cons))) ⟨0, ⟨by omega, fun q r h1 => by omega⟩, rfl, rfl, rfl⟩ ?_
    · (repeat (first | exact Sub.nil | refine Sub.cons rfl ?_ | refine Sub.consE rfl (by simp; done) ?_))
    rintro _ _ _ ⟨y, ⟨hy, hB⟩, rfl, rfl, rfl⟩
    refine WC.frm rfl ?_
    (repeat (first | refine WC.seqK fun K hK => ?_ | refine WC.block ?_ | refine WC.regionG rfl fun ops hG => ?_))
    refine WL.po (PO.move (Ev.tmp rfl)) (Nat.le_of_ble_eq_true rfl) ?_
    refine WL.po (PO.bin (Ev.tmp rfl) Ev.const rfl) (Nat.le_of_ble_eq_true rfl) ?_
    refine WL.nil (keepF (ts := [0, 2, 5, 6, 7, 46]) rfl (toK (by assumption) ?_))
    (try clear hG ops)
    (repeat (first | refine WC.seqK fun K hK => ?_ | refine WC.block ?_ | refine WC.regionG rfl fun ops hG => ?_))
    refine WC.cond (Ev.tmp rfl) (fun c46 => ?_) (fun c46 => ?_)
    · replace c46 := of_decide_eq_true c46
      refine WC.skip (keepF (ts := [0, 2, 5, 6, 7]) rfl (toK (by assumption) ?_))
      (repeat (first | refine WC.seqK fun K hK => ?_ | refine WC.block ?_ | refine WC.regionG rfl fun ops hG => ?_))
      refine WL.po (PO.assign Ev.const) (Nat.le_of_ble_eq_true rfl) ?_
      refine WL.nil (keepF (ts := [0, 2, 5, 6, 7, 8]) rfl (toK (by assumption) ?_))
      (try clear hG ops)
      (repeat (first | refine WC.seqK fun K hK => ?_ | refine WC.block ?_ | refine WC.regionG rfl fun ops hG => ?_))
      refine WC.loopI [0, 2, 5, 6, 7] rfl (fun μ F' h' => ∃ i : Nat, (i ≤ 7 ∧ ∀ (r : Nat), r < i → r ≤ l.length → good l (cand l x y r) = false) ∧ 7 - i = μ ∧ F' = [(8, .int .i64 i)] ∧ .pt b2 (.cells (cellT zeroT).toArray 24 (0, 0)) :: h = h') (7 - 0) [(8, .int .i64 0)] (h0 := .pt b2 (.cells (cellT zeroT).toArray 24 (0, 0)) :: h) ?_ (by (repeat (first | exact List.Sublist.refl _ | refine List.Sublist.cons_cons _ ?_ | apply List.Sublist.cons))) ⟨0, ⟨by omega, fun r h1 => by omega⟩, rfl, rfl, rfl⟩ ?_
      · (repeat (first | exact Sub.nil | refine Sub.cons rfl ?_ | refine Sub.consE rfl (by simp; done) ?_))
      rintro _ _ _ ⟨i, ⟨hi, hC⟩, rfl, rfl, rfl⟩
      refine WC.frm rfl ?_
      (repeat (first | refine WC.seqK fun K hK => ?_ | refine WC.block ?_ | refine WC.regionG rfl fun ops hG => ?_))
      refine WL.po (PO.move (Ev.tmp rfl)) (Nat.le_of_ble_eq_true rfl) ?_
      refine WL.po (PO.move (Ev.tmp rfl)) (Nat.le_of_ble_eq_true rfl) ?_
      refine WL.po (PO.lenSl Tryd.underlying25 (Ev.tmp rfl)) (Nat.le_of_ble_eq_true rfl) ?_
      refine WL.po (PO.bin (Ev.tmp rfl) (Ev.tmp rfl) rfl) (Nat.le_of_ble_eq_true rfl) ?_
      refine WL.po (PO.move (Ev.tmp rfl)) (Nat.le_of_ble_eq_true rfl) ?_
      refine WL.poG (GU.t (hG _ _ rfl) rfl) (fun hc => PO.move (Ev.tmp rfl)) (Nat.le_of_ble_eq_true rfl) ?_
      refine WL.poG (GU.t (hG _ _ rfl) rfl) (fun hc => PO.bin (Ev.gv rfl hc) Ev.const rfl) (Nat.le_of_ble_eq_true rfl) ?_
      refine WL.po (PO.pickAnd rfl rfl) (Nat.le_of_ble_eq_true rfl) ?_
      refine WL.nil (keepF (ts := [0, 2, 5, 6, 7, 8, 56]) rfl (toK (by assumption) ?_))
      (try clear hG ops)
      (repeat (first | refine WC.seqK fun K hK => ?_ | refine WC.block ?_ | refine WC.regionG rfl fun ops hG => ?_))
      refine WC.cond (Ev.tmp rfl) (fun c56 => ?_) (fun c56 => ?_)
      · have hil : i ≤ l.length ∧ i < 7 := by simp at c56; omega
        refine WC.skip (keepF (ts := [0, 2, 5, 6, 7, 8]) rfl (toK (by assumption) ?_))
        (repeat (first | refine WC.seqK fun K hK => ?_ | refine WC.block ?_ | refine WC.regionG rfl fun ops hG => ?_))
        refine WL.po (PO.move (Ev.tmp rfl)) (Nat.le_of_ble_eq_true rfl) ?_
        refine WL.po (PO.move (Ev.tmp rfl)) (Nat.le_of_ble_eq_true rfl) ?_
        refine WL.po (PO.move (Ev.tmp rfl)) (Nat.le_of_ble_eq_true rfl) ?_
        refine WL.po (PO.build Tryd.underlying24 rfl rfl rfl (EvP.cons (Ev.tmp rfl) (EvP.cons (Ev.tmp rfl) (EvP.cons (Ev.tmp rfl) EvP.nil))) rfl) (Nat.le_of_ble_eq_true rfl) ?_
        refine WL.alloc rfl rfl (Nat.le_of_ble_eq_true rfl) fun b9 => ?_
        refine WL.store rfl (Ev.tmp rfl) (Ev.tmp rfl) rfl rfl rfl rfl (by (repeat (first | exact Upd.here | apply Upd.next))) ?_
        refine WL.nil (keepF (ts := [0, 2, 5, 6, 7, 8, 9]) rfl (toK (by assumption) ?_))
        (try clear hG ops)
        (repeat (first | refine WC.seqK fun K hK => ?_ | refine WC.block ?_ | refine WC.regionG rfl fun ops hG => ?_))
        refine WL.po (PO.move (Ev.tmp rfl)) (Nat.le_of_ble_eq_true rfl) ?_
        refine WL.po (PO.move (Ev.tmp rfl)) (Nat.le_of_ble_eq_true rfl) ?_
        refine WL.po (PO.lenSl Tryd.underlying25 (Ev.tmp rfl)) (Nat.le_of_ble_eq_true rfl) ?_
        refine WL.po (PO.bin (Ev.tmp rfl) (Ev.tmp rfl) rfl) (Nat.le_of_ble_eq_true rfl) ?_
        refine WL.po (PO.move (Ev.tmp rfl)) (Nat.le_of_ble_eq_true rfl) ?_
        refine WL.poG (GU.t (hG _ _ rfl) rfl) (fun hc => PO.move (Ev.tmp rfl)) (Nat.le_of_ble_eq_true rfl) ?_
        refine WL.poG (GU.t (hG _ _ rfl) rfl) (fun hc => PO.move (Ev.tmp rfl)) (Nat.le_of_ble_eq_true rfl) ?_
        refine WL.poG (GU.t (hG _ _ rfl) rfl) (fun hc => PO.idx EL25.und EL25.size EL25.posz (Ev.gv rfl hc) (Ev.gv rfl hc) (by first | assumption | exact Rd.ofSl (by assumption) | exact Rd.ofPt rfl (by decide) (by (repeat (first | exact List.Mem.head _ | apply List.Mem.tail))) | exact Rd.mono (by assumption) (View.le.refl _) (by (repeat (first | exact List.Sublist.refl _ | refine List.Sublist.cons_cons _ ?_ | apply List.Sublist.cons))) | exact Rd.inRow (by (repeat (first | exact List.Mem.head _ | apply List.Mem.tail))) (by assumption) (by assumption) (by assumption)) rfl (by simp at hc; omega)) (Nat.le_of_ble_eq_true rfl) ?_
        refine WL.poG (GU.t (hG _ _ rfl) rfl) (fun hc => PO.fieldF Tryd.underlying53 rfl (Nat.ne_of_beq_eq_false rfl) encK_len (Nat.succ_pos _) (by first | assumption | exact Rd.ofSl (by assumption) | exact Rd.ofPt rfl (by decide) (by (repeat (first | exact List.Mem.head _ | apply List.Mem.tail))) | exact Rd.mono (by assumption) (View.le.refl _) (by (repeat (first | exact List.Sublist.refl _ | refine List.Sublist.cons_cons _ ?_ | apply List.Sublist.cons))) | exact Rd.inRow (by (repeat (first | exact List.Mem.head _ | apply List.Mem.tail))) (by assumption) (by assumption) (by assumption)) (hq _ (by simp at hc; omega)) (Ev.gv rfl hc)) (Nat.le_of_ble_eq_true rfl) ?_
        refine WL.poG (GU.t (hG _ _ rfl) rfl) (fun hc => PO.loadFf Tryd.underlying51 rfl encK_len (by first | assumption | exact Rd.ofSl (by assumption) | exact Rd.ofPt rfl (by decide) (by (repeat (first | exact List.Mem.head _ | apply List.Mem.tail))) | exact Rd.mono (by assumption) (View.le.refl _) (by (repeat (first | exact List.Sublist.refl _ | refine List.Sublist.cons_cons _ ?_ | apply List.Sublist.cons))) | exact Rd.inRow (by (repeat (first | exact List.Mem.head _ | apply List.Mem.tail))) (by assumption) (by assumption) (by assumption)) (Ev.gv rfl hc) (hq _ (by simp at hc; omega)) rfl) (Nat.le_of_ble_eq_true rfl) ?_
        refine WL.poG (GU.t (hG _ _ rfl) rfl) (fun hc => PO.bin (Ev.gv rfl hc) Ev.const rfl) (Nat.le_of_ble_eq_true rfl) ?_
        refine WL.po (PO.pickAnd rfl rfl) (Nat.le_of_ble_eq_true rfl) ?_
        refine WL.nil (keepF (ts := [0, 2, 5, 6, 7, 8, 9, 74]) rfl (toK (by assumption) ?_))
        (try clear hG ops)
        (repeat refine WC.seqK fun K hK => ?_)
        refine WC.cutK (by assumption) [0, 2, 5, 6, 7, 8, 9] rfl (fun F' h' => ∃ s : B, (protoAt l i = s ∧ s.length ≤ 9223372036854775807) ∧ F' = [] ∧ .pt b9 (.cells (cellT ⟨x, d, y, s⟩).toArray 24 (0, 0)) :: .pt b2 (.cells (cellT zeroT).toArray 24 (0, 0)) :: h = h') ?_ ?_
        · (repeat (first | refine WC.seqK fun K hK => ?_ | refine WC.block ?_ | refine WC.regionG rfl fun ops hG => ?_))
          refine WC.cond (Ev.tmp rfl) (fun c74 => ?_) (fun c74 => ?_)
          · have d74 : protoC l i = true := c74
            have hli : i < l.length := by unfold protoC at d74; simp at d74; omega
            have hi1 := hq i hli
            have hw := (hT _ (List.mem_of_getElem? hi1)).2
            have hP : protoAt l i = (tokAt l i).text := by unfold protoAt; rw [d74]; rfl
            (repeat (first | refine WC.seqK fun K hK => ?_ | refine WC.block ?_ | refine WC.regionG rfl fun ops hG => ?_))
            refine WL.po (PO.move (Ev.tmp rfl)) (Nat.le_of_ble_eq_true rfl) ?_
            refine WL.po (PO.move (Ev.tmp rfl)) (Nat.le_of_ble_eq_true rfl) ?_
            refine WL.po (PO.idx EL25.und EL25.size EL25.posz (Ev.tmp rfl) (Ev.tmp rfl) (by first | assumption | exact Rd.ofSl (by assumption) | exact Rd.ofPt rfl (by decide) (by (repeat (first | exact List.Mem.head _ | apply List.Mem.tail))) | exact Rd.mono (by assumption) (View.le.refl _) (by (repeat (first | exact List.Sublist.refl _ | refine List.Sublist.cons_cons _ ?_ | apply List.Sublist.cons))) | exact Rd.inRow (by (repeat (first | exact List.Mem.head _ | apply List.Mem.tail))) (by assumption) (by assumption) (by assumption)) rfl (by omega)) (Nat.le_of_ble_eq_true rfl) ?_
            refine WL.po (PO.fieldF Tryd.underlying53 rfl (Nat.ne_of_beq_eq_false rfl) encK_len (Nat.succ_pos _) (by first | assumption | exact Rd.ofSl (by assumption) | exact Rd.ofPt rfl (by decide) (by (repeat (first | exact List.Mem.head _ | apply List.Mem.tail))) | exact Rd.mono (by assumption) (View.le.refl _) (by (repeat (first | exact List.Sublist.refl _ | refine List.Sublist.cons_cons _ ?_ | apply List.Sublist.cons))) | exact Rd.inRow (by (repeat (first | exact List.Mem.head _ | apply List.Mem.tail))) (by assumption) (by assumption) (by assumption)) (by assumption) (Ev.tmp rfl)) (Nat.le_of_ble_eq_true rfl) ?_
            refine WL.po (PO.loadFf Tryd.underlying9 rfl encK_len (by first | assumption | exact Rd.ofSl (by assumption) | exact Rd.ofPt rfl (by decide) (by (repeat (first | exact List.Mem.head _ | apply List.Mem.tail))) | exact Rd.mono (by assumption) (View.le.refl _) (by (repeat (first | exact List.Sublist.refl _ | refine List.Sublist.cons_cons _ ?_ | apply List.Sublist.cons))) | exact Rd.inRow (by (repeat (first | exact List.Mem.head _ | apply List.Mem.tail))) (by assumption) (by assumption) (by assumption)) (Ev.tmp rfl) (by assumption) rfl) (Nat.le_of_ble_eq_true rfl) ?_
            refine WL.po (PO.fieldAddr Tryd.underlying24 rfl (Nat.ne_of_beq_eq_false rfl) (Ev.tmp rfl)) (Nat.le_of_ble_eq_true rfl) ?_
            refine WL.store rfl (Ev.tmp rfl) (Ev.tmp rfl) rfl rfl rfl rfl (by (repeat (first | exact Upd.here | apply Upd.next))) ?_
            refine WL.nil (meetI [] (h'' := .pt b9 (.cells (cellT ⟨x, d, y, ((tokAt l i).text)⟩).toArray 24 (0, 0)) :: .pt b2 (.cells (cellT zeroT).toArray 24 (0, 0)) :: h) ?_ (by (repeat (first | exact Sub.nil | refine Sub.cons rfl ?_ | refine Sub.consE rfl (by simp; done) ?_))) (by (repeat (first | exact List.Sublist.refl _ | refine List.Sublist.cons_cons _ ?_ | apply List.Sublist.cons))) ⟨(tokAt l i).text, ⟨hP, hw⟩, rfl, rfl⟩)
            (repeat (first | exact Sub.nil | refine Sub.cons rfl ?_ | refine Sub.consE rfl (by simp; done) ?_))
          · have d74 : protoC l i = false := c74
            have hP : protoAt l i = [] := by unfold protoAt; rw [d74]; rfl
            refine WC.skip (meetI [] (h'' := .pt b9 (.cells (cellT ⟨x, d, y, ([])⟩).toArray 24 (0, 0)) :: .pt b2 (.cells (cellT zeroT).toArray 24 (0, 0)) :: h) ?_ (by (repeat (first | exact Sub.nil | refine Sub.cons rfl ?_ | refine Sub.consE rfl (by simp; done) ?_))) (by (repeat (first | exact List.Sublist.refl _ | refine List.Sublist.cons_cons _ ?_ | apply List.Sublist.cons))) ⟨[], ⟨hP, by decide⟩, rfl, rfl⟩)
            (repeat (first | exact Sub.nil | refine Sub.cons rfl ?_ | refine Sub.consE rfl (by simp; done) ?_))
        rintro _ _ ⟨s, ⟨hs1, hsl⟩, rfl, rfl⟩
        refine WC.frm rfl ?_
        (repeat (first | refine WC.seqK fun K hK => ?_ | refine WC.block ?_ | refine WC.regionG rfl fun ops hG => ?_))
        refine WL.po (PO.loadA Tryd.underlying24 rfl rfl (Ev.tmp rfl) (by (repeat (first | exact List.Mem.head _ | apply List.Mem.tail))) rfl) (Nat.le_of_ble_eq_true rfl) ?_
        refine WL.callK Ev.func (Evs.cons (Ev.tmp rfl) Evs.nil) (tokensR_ct ⟨x, d, y, s⟩ _ _ hsl) (Nat.le_of_ble_eq_true rfl) ?_
        rintro _ _ ⟨a83, c83, rfl, rfl⟩
        refine WL.knowRow (a := a83) (by (repeat (first | exact List.Mem.head _ | apply List.Mem.tail))) fun p83 q83 r83 => ?_
        refine WL.po (PO.move (Ev.tmp rfl)) (Nat.le_of_ble_eq_true rfl) ?_
        refine WL.po (PO.extract (Ev.tmp rfl) rfl) (Nat.le_of_ble_eq_true rfl) ?_
        refine WL.po (PO.extract (Ev.tmp rfl) rfl) (Nat.le_of_ble_eq_true rfl) ?_
        refine WL.po (PO.assign (Ev.tmp rfl)) (Nat.le_of_ble_eq_true rfl) ?_
        refine WL.po (PO.assign (Ev.tmp rfl)) (Nat.le_of_ble_eq_true rfl) ?_
        refine WL.nil (keepF (ts := [0, 2, 5, 6, 7, 8, 9, 10, 11]) rfl (toK (by assumption) ?_))
        (try clear hG ops)
        (repeat (first | refine WC.seqK fun K hK => ?_ | refine WC.block ?_ | refine WC.regionG rfl fun ops hG => ?_))
        refine WL.po (PO.move (Ev.tmp rfl)) (Nat.le_of_ble_eq_true rfl) ?_
        refine WL.po (PO.bin (Ev.tmp rfl) Ev.const rfl) (Nat.le_of_ble_eq_true rfl) ?_
        refine WL.po (PO.move (Ev.tmp rfl)) (Nat.le_of_ble_eq_true rfl) ?_
        refine WL.poG (GU.t (hG _ _ rfl) rfl) (fun hc => PO.move (Ev.tmp rfl)) (Nat.le_of_ble_eq_true rfl) ?_
        refine WL.poG (GU.t (hG _ _ rfl) rfl) (fun hc => PO.move (Ev.tmp rfl)) (Nat.le_of_ble_eq_true rfl) ?_
        refine WL.callG (GU.t (hG _ _ rfl) rfl) (fun hc => ⟨Ev.func, (Evs.cons (Ev.gv rfl hc) (Evs.cons (Ev.gv rfl hc) Evs.nil)), begins_ct _ _ _ _ _ _ l (tokens ⟨x, d, y, s⟩).1 _ _ (by first | assumption | exact Rd.ofSl (by assumption) | exact Rd.ofPt rfl (by decide) (by (repeat (first | exact List.Mem.head _ | apply List.Mem.tail))) | exact Rd.mono (by assumption) (View.le.refl _) (by (repeat (first | exact List.Sublist.refl _ | refine List.Sublist.cons_cons _ ?_ | apply List.Sublist.cons))) | exact Rd.inRow (by (repeat (first | exact List.Mem.head _ | apply List.Mem.tail))) (by assumption) (by assumption) (by assumption)) (Rd.inRow (by (repeat (first | exact List.Mem.head _ | apply List.Mem.tail))) r83 p83 q83)⟩) (Nat.le_of_ble_eq_true rfl) ?_
        refine WL.po (PO.pickAnd rfl rfl) (Nat.le_of_ble_eq_true rfl) ?_
        refine WL.nil (keepF (ts := [0, 2, 5, 6, 7, 8, 9, 10, 92]) rfl (toK (by assumption) ?_))
        (try clear hG ops)
        (repeat (first | refine WC.seqK fun K hK => ?_ | refine WC.block ?_ | refine WC.regionG rfl fun ops hG => ?_))
        refine WC.cond (Ev.tmp rfl) (fun c92 => ?_) (fun c92 => ?_)
        · rw [good_tokens] at c92
          have hF := good_front c92
          have hm : may ⟨x, d, y, s⟩ = true := by unfold good at c92; simp at c92; exact c92.1
          (repeat (first | refine WC.seqK fun K hK => ?_ | refine WC.block ?_ | refine WC.regionG rfl fun ops hG => ?_))
          refine WL.po (PO.loadA Tryd.underlying24 rfl rfl (Ev.tmp rfl) (by (repeat (first | exact List.Mem.head _ | apply List.Mem.tail))) rfl) (Nat.le_of_ble_eq_true rfl) ?_
          refine WL.po (PO.move (Ev.tmp rfl)) (Nat.le_of_ble_eq_true rfl) ?_
          refine WL.po (PO.lenSl Tryd.underlying25 (Ev.tmp rfl)) (Nat.le_of_ble_eq_true rfl) ?_
          refine WL.store rfl (Ev.tmp rfl) (Ev.tmp rfl) rfl rfl rfl rfl (by (repeat (first | exact Upd.here | apply Upd.next))) ?_
          refine WL.po (PO.assign (Ev.tmp rfl)) (Nat.le_of_ble_eq_true rfl) ?_
          refine WL.po (PO.assign Ev.const) (Nat.le_of_ble_eq_true rfl) ?_
          refine WL.nil (keepF (ts := [2, 3, 4]) rfl (toK (by assumption) ?_))
          (try clear hG ops)
          refine WC.ret (end3 (h' := h) (.inl rfl) rfl (RV.cellA Tryd.underlying24 rfl rfl rfl (by (repeat (first | exact List.Mem.head _ | apply List.Mem.tail))) rfl) (RV.tmp rfl) (RV.tmp rfl) (View.le.refl m) (by (repeat (first | exact List.Sublist.refl _ | refine List.Sublist.cons_cons _ ?_ | apply List.Sublist.cons))) ?_)
          exact ⟨by rw [hF, tokens_yes hm]; rfl, rfl⟩
        · rw [good_tokens] at c92
          have hG : good l (cand l x y i) = false := by unfold cand; rw [hd, hs1]; exact c92
          have hC2 : ∀ (r : Nat), r < i + 1 → r ≤ l.length → good l (cand l x y r) = false := fun r h1 h2 => (Nat.lt_succ_iff_lt_or_eq.1 h1).elim (fun e => hC r e h2) (fun e => e ▸ hG)
          refine WC.skip (keepF (ts := [0, 2, 5, 6, 7, 8]) rfl (toK (by assumption) ?_))
          (repeat (first | refine WC.seqK fun K hK => ?_ | refine WC.block ?_ | refine WC.regionG rfl fun ops hG => ?_))
          refine WL.po (PO.move (Ev.tmp rfl)) (Nat.le_of_ble_eq_true rfl) ?_
          refine WL.po (PO.addI (Ev.tmp rfl) Ev.const (by omega)) (Nat.le_of_ble_eq_true rfl) ?_
          refine WL.po (PO.assign (Ev.tmp rfl)) (Nat.le_of_ble_eq_true rfl) ?_
          refine WL.nil (loopBackI (7 - (i + 1)) [(8, .int .i64 (i + 1))] (h'' := .pt b2 (.cells (cellT zeroT).toArray 24 (0, 0)) :: h) (by omega) ?_ (by (repeat (first | exact Sub.nil | refine Sub.cons rfl ?_ | refine Sub.consE rfl (by simp; done) ?_))) (by (repeat (first | exact List.Sublist.refl _ | refine List.Sublist.cons_cons _ ?_ | apply List.Sublist.cons))) ⟨i + 1, ⟨by omega, hC2⟩, rfl, rfl, rfl⟩)
          (repeat (first | exact Sub.nil | refine Sub.cons rfl ?_ | refine Sub.consE rfl (by simp; done) ?_))
      · have hC' : ∀ r : Nat, r ≤ l.length → r < 7 → good l (cand l x y r) = false := fun r h1 h2 => hC r (by simp at c56; omega) h1
        have hB2 : ∀ (q r : Nat), q < y + 1 → r ≤ l.length → r < 7 → good l (cand l x q r) = false := fun q r h1 h2 h3 => (Nat.lt_succ_iff_lt_or_eq.1 h1).elim (fun e => hB q r e h2 h3) (fun e => e ▸ hC' r h2 h3)
        refine WC.exit (keepF (ts := [0, 2, 5, 6, 7]) rfl (toK (by assumption) ?_))
        (repeat (first | refine WC.seqK fun K hK => ?_ | refine WC.block ?_ | refine WC.regionG rfl fun ops hG => ?_))
        refine WL.po (PO.move (Ev.tmp rfl)) (Nat.le_of_ble_eq_true rfl) ?_
        refine WL.po (PO.bin (Ev.tmp rfl) Ev.const rfl) (Nat.le_of_ble_eq_true rfl) ?_
        refine WL.val (v' := .int .u8 ((y : Int) + 1)) (congrArg (Value.int .u8) (u8_step (by omega))) ?_
        refine WL.po (PO.assign (Ev.tmp rfl)) (Nat.le_of_ble_eq_true rfl) ?_
        refine WL.nil (loopBackI (4 - (y + 1)) [(7, .int .u8 (y + 1))] (h'' := .pt b2 (.cells (cellT zeroT).toArray 24 (0, 0)) :: h) (by omega) ?_ (by (repeat (first | exact Sub.nil | refine Sub.cons rfl ?_ | refine Sub.consE rfl (by simp; done) ?_))) (by (repeat (first | exact List.Sublist.refl _ | refine List.Sublist.cons_cons _ ?_ | apply List.Sublist.cons))) ⟨y + 1, ⟨by omega, hB2⟩, rfl, rfl, rfl⟩)
        (repeat (first | exact Sub.nil | refine Sub.cons rfl ?_ | refine Sub.consE rfl (by simp; done) ?_))
    · replace c46 := of_decide_eq_false c46
      have hA2 : ∀ (p q r : Nat), 1 ≤ p → p < x + 1 → q < 4 → r ≤ l.length → r < 7 → good l (cand l p q r) = false := fun p q r h0 h1 h2 h3 h4 => (Nat.lt_succ_iff_lt_or_eq.1 h1).elim (fun e => hA p q r h0 e h2 h3 h4) (fun e => e ▸ hB q r (by omega) h3 h4)
      refine WC.exit (keepF (ts := [0, 2, 5, 6]) rfl (toK (by assumption) ?_))
      (repeat (first | refine WC.seqK fun K hK => ?_ | refine WC.block ?_ | refine WC.regionG rfl fun ops hG => ?_))
      refine WL.po (PO.move (Ev.tmp rfl)) (Nat.le_of_ble_eq_true rfl) ?_
      refine WL.po (PO.bin (Ev.tmp rfl) Ev.const rfl) (Nat.le_of_ble_eq_true rfl) ?_
      refine WL.val (v' := .int .u8 ((x : Int) + 1)) (congrArg (Value.int .u8) (u8_step (by omega))) ?_
      refine WL.po (PO.assign (Ev.tmp rfl)) (Nat.le_of_ble_eq_true rfl) ?_
      refine WL.nil (loopBackI (6 - (x + 1)) [(6, .int .u8 (x + 1))] (h'' := .pt b2 (.cells (cellT zeroT).toArray 24 (0, 0)) :: h) (by omega) ?_ (by (repeat (first | exact Sub.nil | refine Sub.cons rfl ?_ | refine Sub.consE rfl (by simp; done) ?_))) (by (repeat (first | exact List.Sublist.refl _ | refine List.Sublist.cons_cons _ ?_ | apply List.Sublist.cons))) ⟨x + 1, ⟨by omega, hA2⟩, rfl, rfl, rfl⟩)
      (repeat (first | exact Sub.nil | refine Sub.cons rfl ?_ | refine Sub.consE rfl (by simp; done) ?_))
  · replace c42 := of_decide_eq_false c42
    have hF := front_none fun k it i h0 h1 h2 h3 h4 => hA k it i h0 (by omega) h2 h3 h4
    refine WC.exit (keepF (ts := [2]) rfl (toK (by assumption) ?_))
    (repeat (first | refine WC.seqK fun K hK => ?_ | refine WC.block ?_ | refine WC.regionG rfl fun ops hG => ?_))
    refine WL.po (PO.build Tryd.underlying24 rfl rfl rfl EvP.nil rfl) (Nat.le_of_ble_eq_true rfl) ?_
    refine WL.store rfl (Ev.tmp rfl) (Ev.tmp rfl) rfl rfl rfl rfl (by (repeat (first | exact Upd.here | apply Upd.next))) ?_
    refine WL.po (PO.assign Ev.const) (Nat.le_of_ble_eq_true rfl) ?_
    refine WL.po (PO.assign Ev.const) (Nat.le_of_ble_eq_true rfl) ?_
    refine WL.nil (keepF (ts := [2, 3, 4]) rfl (toK (by assumption) ?_))
    (try clear hG ops)
    refine WC.ret (end3 (h' := h) (.inl rfl) rfl (RV.cellA Tryd.underlying24 rfl rfl rfl (by (repeat (first | exact List.Mem.head _ | apply List.Mem.tail))) rfl) (RV.tmp rfl) (RV.tmp rfl) (View.le.refl m) (by (repeat (first | exact List.Sublist.refl _ | refine List.Sublist.cons_cons _ ?_ | apply List.Sublist.cons))) ?_)
    exact ⟨by rw [hF]; rfl, rfl⟩
end Go.Proofs.YtcejocfjienpfaaDoor

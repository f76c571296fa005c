/- layout: May and Source, walked. -/
import Derived.Test.YtmffmpadfpajcaaDoorLayG
import Derived.Test.YtmffmpadfpajcaaDoorLayS
namespace Go.Proofs.YtmffmpadfpajcaaDoor
open Go.Eng Go.Ly Go
set_option maxRecDepth 100000
theorem trim_ct (s : B) (h : List Res) (m : View) (hs : s.length ≤ 9223372036854775807) : CT Tryd.prog 48 [str s, str [32]] h m (Pure1 h (str (Lib.trimB s 32))) :=
  ⟨Tryd.call48, fun w st => Calls.mono (Tryd.strings_Trim_one ⟨s.toArray⟩ 32 (by decide) w hs) (by
    rintro e w' ⟨rfl, hw⟩
    rcases hw with rfl | rfl
    · exact ⟨_, m, h, rfl, View.le.refl m, st, rfl, rfl⟩
    · exact ⟨_, m, h, rfl, View.le.refl m, st.drew, rfl, rfl⟩)⟩
theorem repeat_ct (s : B) (n : Nat) (h : List Res) (m : View) (hn : s.length * n ≤ 140737488355328) (h2 : n ≤ 9223372036854775807) : CT Tryd.prog 16 [str s, .int .i64 n] h m (Pure1 h (str (Lib.repeatL s n))) :=
  ⟨Tryd.call16, fun w st => Calls.mono (Tryd.strings_Repeat ⟨s.toArray⟩ n w h2 hn) (by
    rintro e w' ⟨rfl, hb⟩
    exact ⟨_, m, h, rfl, View.le.refl m, st.wider hb.os hb.output hb.tape hb.block, rfl, rfl⟩)⟩
theorem valid_ct {m : View} (hg : Glob m) (s : B) (hs : s.length < 4294967281) (h : List Res) : CT Tryd.prog 32 [str s] h m (Pure1 h (.bool (validP s))) := by
  have hs' : s.length ≤ 140737488355328 := by omega
  have hs2 : s.length ≤ 9223372036854775807 := by omega
  have hd : ∀ k, k < s.length → s[k]? = some (s.getD k 0) := fun k hi => by rw [List.getD_eq_getElem?_getD, List.getElem?_eq_getElem hi]; rfl
  refine CT.body Tryd.call32 Tryd.func32 rfl Tryd.ntmps32 (Nat.le_of_ble_eq_true rfl) rfl ?_
  (repeat (first | refine WC.seqK fun K hK => ?_ | refine WC.block ?_ | refine WC.regionG rfl fun ops hG => ?_))
  refine WL.po (PO.assign Ev.const) (Nat.le_of_ble_eq_true rfl) ?_
  refine WL.nil (keepF (ts := [0]) rfl (toK (by assumption) ?_))
  (try clear hG ops)
  (repeat (first | refine WC.seqK fun K hK => ?_ | refine WC.block ?_ | refine WC.regionG rfl fun ops hG => ?_))
  refine WL.po (PO.move (Ev.tmp rfl)) (Nat.le_of_ble_eq_true rfl) ?_
  refine WL.po (PO.eqlS (Ev.tmp rfl) Ev.const) (Nat.le_of_ble_eq_true rfl) ?_
  refine WL.po (PO.move (Ev.tmp rfl)) (Nat.le_of_ble_eq_true rfl) ?_
  refine WL.poG (GU.f (hG _ _ rfl) rfl) (fun hc => PO.move (Ev.tmp rfl)) (Nat.le_of_ble_eq_true rfl) ?_
  refine WL.poG (GU.f (hG _ _ rfl) rfl) (fun hc => PO.lenS Tryd.underlying9 (Ev.gv rfl hc)) (Nat.le_of_ble_eq_true rfl) ?_
  refine WL.poG (GU.f (hG _ _ rfl) rfl) (fun hc => PO.bin (Ev.gv rfl hc) Ev.const rfl) (Nat.le_of_ble_eq_true rfl) ?_
  refine WL.po (PO.pickOr rfl rfl) (Nat.le_of_ble_eq_true rfl) ?_
  refine WL.po (PO.move (Ev.tmp rfl)) (Nat.le_of_ble_eq_true rfl) ?_
  refine WL.poG (GU.f (hG _ _ rfl) rfl) (fun hc => PO.move (Ev.tmp rfl)) (Nat.le_of_ble_eq_true rfl) ?_
  refine WL.callG (GU.f (hG _ _ rfl) rfl) (fun hc => ⟨Ev.func, (Evs.cons (Ev.gv rfl hc) (Evs.cons Ev.const Evs.nil)), trim_ct s _ _ hs2⟩) (Nat.le_of_ble_eq_true rfl) ?_
  refine WL.poG (GU.f (hG _ _ rfl) rfl) (fun hc => PO.move (Ev.tmp rfl)) (Nat.le_of_ble_eq_true rfl) ?_
  refine WL.poG (GU.f (hG _ _ rfl) rfl) (fun hc => PO.neqS (Ev.gv rfl hc) (Ev.gv rfl hc)) (Nat.le_of_ble_eq_true rfl) ?_
  refine WL.po (PO.pickOr rfl rfl) (Nat.le_of_ble_eq_true rfl) ?_
  refine WL.po (PO.move (Ev.tmp rfl)) (Nat.le_of_ble_eq_true rfl) ?_
  refine WL.poG (GU.f (hG _ _ rfl) rfl) (fun hc => PO.move (Ev.tmp rfl)) (Nat.le_of_ble_eq_true rfl) ?_
  refine WL.callG (GU.f (hG _ _ rfl) rfl) (fun hc => ⟨Ev.func, (Evs.cons (Ev.gv rfl hc) (Evs.cons Ev.const Evs.nil)), contains_ct hg s [45, 45] (by omega) _⟩) (Nat.le_of_ble_eq_true rfl) ?_
  refine WL.po (PO.pickOr rfl rfl) (Nat.le_of_ble_eq_true rfl) ?_
  refine WL.po (PO.move (Ev.tmp rfl)) (Nat.le_of_ble_eq_true rfl) ?_
  refine WL.poG (GU.f (hG _ _ rfl) rfl) (fun hc => PO.move (Ev.tmp rfl)) (Nat.le_of_ble_eq_true rfl) ?_
  refine WL.callG (GU.f (hG _ _ rfl) rfl) (fun hc => ⟨Ev.func, (Evs.cons (Ev.gv rfl hc) Evs.nil), continues_ct s (by intro e; subst e; simp at hc) hs2 _ _⟩) (Nat.le_of_ble_eq_true rfl) ?_
  refine WL.po (PO.pickOr rfl rfl) (Nat.le_of_ble_eq_true rfl) ?_
  refine WL.nil (keepF (ts := [0, 24]) rfl (toK (by assumption) ?_))
  (try clear hG ops)
  (repeat (first | refine WC.seqK fun K hK => ?_ | refine WC.block ?_ | refine WC.regionG rfl fun ops hG => ?_))
  refine WC.cond (Ev.tmp rfl) (fun c24 => ?_) (fun c24 => ?_)
  · have hb : badS s = true := c24
    (repeat (first | refine WC.seqK fun K hK => ?_ | refine WC.block ?_ | refine WC.regionG rfl fun ops hG => ?_))
    refine WL.po (PO.assign Ev.const) (Nat.le_of_ble_eq_true rfl) ?_
    refine WL.nil (keepF (ts := [2]) rfl (toK (by assumption) ?_))
    (try clear hG ops)
    refine WC.ret (end1 (h' := h) (.inl rfl) rfl (RV.tmp rfl) (View.le.refl m) (by (repeat (first | exact List.Sublist.refl _ | refine List.Sublist.cons_cons _ ?_ | apply List.Sublist.cons))) ?_)
    exact ⟨by unfold validP; rw [hb]; rfl, rfl⟩
  · have hb : badS s = false := c24
    have hv : validP s = s.all okB := by unfold validP; rw [hb]; rfl
    refine WC.skip (keepF (ts := [0]) rfl (toK (by assumption) ?_))
    (repeat (first | refine WC.seqK fun K hK => ?_ | refine WC.block ?_ | refine WC.regionG rfl fun ops hG => ?_))
    refine WL.po (PO.move (Ev.tmp rfl)) (Nat.le_of_ble_eq_true rfl) ?_
    refine WL.po (PO.lenS Tryd.underlying9 (Ev.tmp rfl)) (Nat.le_of_ble_eq_true rfl) ?_
    refine WL.po (PO.move Ev.const) (Nat.le_of_ble_eq_true rfl) ?_
    refine WL.nil (keepF (ts := [0, 26, 27]) rfl (toK (by assumption) ?_))
    (try clear hG ops)
    (repeat (first | refine WC.seqK fun K hK => ?_ | refine WC.block ?_ | refine WC.regionG rfl fun ops hG => ?_))
    refine WC.loopI [0, 26] rfl (fun μ F' h' => ∃ k : Nat, (k ≤ s.length ∧ s.all okB = (s.drop k).all okB) ∧ s.length - k = μ ∧ F' = [(27, .int .i64 k)] ∧ h = h') (s.length - 0) [(27, .int .i64 0)] (h0 := h) ?_ (by (repeat (first | exact List.Sublist.refl _ | refine List.Sublist.cons_cons _ ?_ | apply List.Sublist.cons))) ⟨0, ⟨by omega, rfl⟩, rfl, rfl, rfl⟩ ?_
    · (repeat (first | exact Sub.nil | refine Sub.cons rfl ?_ | refine Sub.consE rfl (by simp; done) ?_))
    rintro _ _ _ ⟨k, ⟨hk, hJ⟩, rfl, rfl, rfl⟩
    refine WC.frm rfl ?_
    (repeat (first | refine WC.seqK fun K hK => ?_ | refine WC.block ?_ | refine WC.regionG rfl fun ops hG => ?_))
    refine WL.po (PO.bin (Ev.tmp rfl) (Ev.tmp rfl) rfl) (Nat.le_of_ble_eq_true rfl) ?_
    refine WL.nil (keepF (ts := [0, 26, 27, 28]) rfl (toK (by assumption) ?_))
    (try clear hG ops)
    (repeat (first | refine WC.seqK fun K hK => ?_ | refine WC.block ?_ | refine WC.regionG rfl fun ops hG => ?_))
    refine WC.cond (Ev.tmp rfl) (fun c28 => ?_) (fun c28 => ?_)
    · replace c28 := of_decide_eq_true c28
      obtain ⟨c, hc⟩ := get_some (l := s) (k := k) (by omega)
      have hJ : s.all okB = (okB c && (s.drop (k + 1)).all okB) := by rw [hJ, drop_at hc]; rfl
      refine WC.skip (keepF (ts := [0, 26, 27]) rfl (toK (by assumption) ?_))
      (repeat (first | refine WC.seqK fun K hK => ?_ | refine WC.block ?_ | refine WC.regionG rfl fun ops hG => ?_))
      refine WL.po (PO.move (Ev.tmp rfl)) (Nat.le_of_ble_eq_true rfl) ?_
      refine WL.po (PO.assign (Ev.tmp rfl)) (Nat.le_of_ble_eq_true rfl) ?_
      refine WL.nil (keepF (ts := [0, 3, 26, 27]) rfl (toK (by assumption) ?_))
      (try clear hG ops)
      (repeat (first | refine WC.seqK fun K hK => ?_ | refine WC.block ?_ | refine WC.regionG rfl fun ops hG => ?_))
      refine WL.po (PO.move (Ev.tmp rfl)) (Nat.le_of_ble_eq_true rfl) ?_
      refine WL.po (PO.move (Ev.tmp rfl)) (Nat.le_of_ble_eq_true rfl) ?_
      refine WL.po (PO.idxS Tryd.underlying9 (Ev.tmp rfl) (Ev.tmp rfl) rfl (by assumption)) (Nat.le_of_ble_eq_true rfl) ?_
      refine WL.callP Ev.func (Evs.cons (Ev.tmp rfl) Evs.nil) (allowed_ct _ _ _) (Nat.le_of_ble_eq_true rfl) ?_
      refine WL.po (PO.not (Ev.tmp rfl)) (Nat.le_of_ble_eq_true rfl) ?_
      refine WL.nil (keepF (ts := [0, 26, 27, 34]) rfl (toK (by assumption) ?_))
      (try clear hG ops)
      (repeat (first | refine WC.seqK fun K hK => ?_ | refine WC.block ?_ | refine WC.regionG rfl fun ops hG => ?_))
      refine WC.cond (Ev.tmp rfl) (fun c34 => ?_) (fun c34 => ?_)
      · have hn : okB c = false := by simpa using c34
        (repeat (first | refine WC.seqK fun K hK => ?_ | refine WC.block ?_ | refine WC.regionG rfl fun ops hG => ?_))
        refine WL.po (PO.assign Ev.const) (Nat.le_of_ble_eq_true rfl) ?_
        refine WL.nil (keepF (ts := [2]) rfl (toK (by assumption) ?_))
        (try clear hG ops)
        refine WC.ret (end1 (h' := h) (.inl rfl) rfl (RV.tmp rfl) (View.le.refl m) (by (repeat (first | exact List.Sublist.refl _ | refine List.Sublist.cons_cons _ ?_ | apply List.Sublist.cons))) ?_)
        exact ⟨by rw [hv, hJ, hn]; rfl, rfl⟩
      · have hn : okB c = true := by simpa using c34
        refine WC.skip (keepF (ts := [0, 26, 27]) rfl (toK (by assumption) ?_))
        (repeat (first | refine WC.seqK fun K hK => ?_ | refine WC.block ?_ | refine WC.regionG rfl fun ops hG => ?_))
        refine WL.po (PO.addI (Ev.tmp rfl) Ev.const (by omega)) (Nat.le_of_ble_eq_true rfl) ?_
        refine WL.po (PO.move (Ev.tmp rfl)) (Nat.le_of_ble_eq_true rfl) ?_
        refine WL.nil (loopBackI (s.length - (k + 1)) [(27, .int .i64 (k + 1))] (h'' := h) (by omega) ?_ (by (repeat (first | exact Sub.nil | refine Sub.cons rfl ?_ | refine Sub.consE rfl (by simp; done) ?_))) (by (repeat (first | exact List.Sublist.refl _ | refine List.Sublist.cons_cons _ ?_ | apply List.Sublist.cons))) ⟨k + 1, ⟨by omega, by rw [hJ, hn]; rfl⟩, rfl, rfl, rfl⟩)
        (repeat (first | exact Sub.nil | refine Sub.cons rfl ?_ | refine Sub.consE rfl (by simp; done) ?_))
    · replace c28 := of_decide_eq_false c28
      refine WC.exit (keepF (ts := []) rfl (toK (by assumption) ?_))
      (repeat (first | refine WC.seqK fun K hK => ?_ | refine WC.block ?_ | refine WC.regionG rfl fun ops hG => ?_))
      refine WL.po (PO.assign Ev.const) (Nat.le_of_ble_eq_true rfl) ?_
      refine WL.nil (keepF (ts := [2]) rfl (toK (by assumption) ?_))
      (try clear hG ops)
      refine WC.ret (end1 (h' := h) (.inl rfl) rfl (RV.tmp rfl) (View.le.refl m) (by (repeat (first | exact List.Sublist.refl _ | refine List.Sublist.cons_cons _ ?_ | apply List.Sublist.cons))) ?_)
      exact ⟨by rw [hv, hJ, List.drop_eq_nil_of_le (by omega)]; rfl, rfl⟩
theorem may_ct {m : View} (hg : Glob m) (a : Option Addr) (n c : Nat) (l : List Rw) (h : List Res) (hr : Rd m h a n c 3 (fl encR l)) (hs : ∀ x ∈ l, x.text.length < 4294967281) : CT Tryd.prog 12 [.slice a n c] h m (Pure1 h (.bool (mayP l))) := by
  have hl := hr.lenF encR_len (by decide)
  have hmx := hr.mx
  have hle := hr.le
  subst hl
  refine CT.body Tryd.call12 Tryd.func12 rfl Tryd.ntmps12 (Nat.le_of_ble_eq_true rfl) rfl ?_
  (repeat (first | refine WC.seqK fun K hK => ?_ | refine WC.block ?_ | refine WC.regionG rfl fun ops hG => ?_))
  refine WL.po (PO.assign Ev.const) (Nat.le_of_ble_eq_true rfl) ?_
  refine WL.nil (keepF (ts := [0]) rfl (toK (by assumption) ?_))
  (try clear hG ops)
  (repeat (first | refine WC.seqK fun K hK => ?_ | refine WC.block ?_ | refine WC.regionG rfl fun ops hG => ?_))
  refine WL.po (PO.move (Ev.tmp rfl)) (Nat.le_of_ble_eq_true rfl) ?_
  refine WL.po (PO.lenSl Tryd.underlying22 (Ev.tmp rfl)) (Nat.le_of_ble_eq_true rfl) ?_
  refine WL.po (PO.bin (Ev.tmp rfl) Ev.const rfl) (Nat.le_of_ble_eq_true rfl) ?_
  refine WL.nil (keepF (ts := [0, 10]) rfl (toK (by assumption) ?_))
  (try clear hG ops)
  (repeat (first | refine WC.seqK fun K hK => ?_ | refine WC.block ?_ | refine WC.regionG rfl fun ops hG => ?_))
  refine WC.cond (Ev.tmp rfl) (fun c10 => ?_) (fun c10 => ?_)
  · replace c10 := of_decide_eq_true c10
    (repeat (first | refine WC.seqK fun K hK => ?_ | refine WC.block ?_ | refine WC.regionG rfl fun ops hG => ?_))
    refine WL.po (PO.assign Ev.const) (Nat.le_of_ble_eq_true rfl) ?_
    refine WL.nil (keepF (ts := [2]) rfl (toK (by assumption) ?_))
    (try clear hG ops)
    refine WC.ret (end1 (h' := h) (.inl rfl) rfl (RV.tmp rfl) (View.le.refl m) (by (repeat (first | exact List.Sublist.refl _ | refine List.Sublist.cons_cons _ ?_ | apply List.Sublist.cons))) ?_)
    exact ⟨by unfold mayP; rw [if_pos c10], rfl⟩
  · replace c10 := of_decide_eq_false c10
    have hm : mayP l = mayA 0 (-1) 0 l := by unfold mayP; rw [if_neg c10]
    refine WC.skip (keepF (ts := [0]) rfl (toK (by assumption) ?_))
    (repeat (first | refine WC.seqK fun K hK => ?_ | refine WC.block ?_ | refine WC.regionG rfl fun ops hG => ?_))
    refine WL.po (PO.assign Ev.const) (Nat.le_of_ble_eq_true rfl) ?_
    refine WL.po (PO.assign Ev.const) (Nat.le_of_ble_eq_true rfl) ?_
    refine WL.po (PO.assign Ev.const) (Nat.le_of_ble_eq_true rfl) ?_
    refine WL.nil (keepF (ts := [0, 3, 4, 5]) rfl (toK (by assumption) ?_))
    (try clear hG ops)
    (repeat (first | refine WC.seqK fun K hK => ?_ | refine WC.block ?_ | refine WC.regionG rfl fun ops hG => ?_))
    refine WL.po (PO.move (Ev.tmp rfl)) (Nat.le_of_ble_eq_true rfl) ?_
    refine WL.po (PO.lenSl Tryd.underlying22 (Ev.tmp rfl)) (Nat.le_of_ble_eq_true rfl) ?_
    refine WL.po (PO.move Ev.const) (Nat.le_of_ble_eq_true rfl) ?_
    refine WL.nil (keepF (ts := [3, 4, 5, 11, 12, 13]) rfl (toK (by assumption) ?_))
    (try clear hG ops)
    (repeat (first | refine WC.seqK fun K hK => ?_ | refine WC.block ?_ | refine WC.regionG rfl fun ops hG => ?_))
    refine WC.loopI [11, 12] rfl (fun μ F' h' => ∃ k : Nat, ∃ no : Int, ∃ dp : Int, ∃ size : Int, ((k ≤ l.length ∧ (-1 ≤ dp ∧ dp ≤ 32) ∧ (0 ≤ size ∧ size ≤ k * 321)) ∧ mayP l = mayA no dp size (l.drop k)) ∧ l.length - k = μ ∧ F' = [(3, .int .i64 no), (4, .int .i64 dp), (5, .int .i64 size), (13, .int .i64 k)] ∧ h = h') (l.length - 0) [(3, .int .i64 0), (4, .int .i64 (-1)), (5, .int .i64 0), (13, .int .i64 0)] (h0 := h) ?_ (by (repeat (first | exact List.Sublist.refl _ | refine List.Sublist.cons_cons _ ?_ | apply List.Sublist.cons))) ⟨0, 0, -1, 0, ⟨⟨by omega, by omega, by omega⟩, hm⟩, rfl, rfl, rfl⟩ ?_
    · (repeat (first | exact Sub.nil | refine Sub.cons rfl ?_ | refine Sub.consE rfl (by simp; done) ?_))
    rintro _ _ _ ⟨k, no, dp, size, ⟨⟨hk, hdp, hsz⟩, hJ⟩, rfl, rfl, rfl⟩
    refine WC.frm rfl ?_
    (repeat (first | refine WC.seqK fun K hK => ?_ | refine WC.block ?_ | refine WC.regionG rfl fun ops hG => ?_))
    refine WL.po (PO.bin (Ev.tmp rfl) (Ev.tmp rfl) rfl) (Nat.le_of_ble_eq_true rfl) ?_
    refine WL.nil (keepF (ts := [3, 4, 5, 11, 12, 13, 14]) rfl (toK (by assumption) ?_))
    (try clear hG ops)
    (repeat (first | refine WC.seqK fun K hK => ?_ | refine WC.block ?_ | refine WC.regionG rfl fun ops hG => ?_))
    refine WC.cond (Ev.tmp rfl) (fun c14 => ?_) (fun c14 => ?_)
    · replace c14 := of_decide_eq_true c14
      obtain ⟨x, hx⟩ := get_some (l := l) (k := k) (by omega)
      have hxs := hs x (List.mem_of_getElem? hx)
      rw [mayA_drop hx] at hJ
      refine WC.skip (keepF (ts := [3, 4, 5, 11, 12, 13]) rfl (toK (by assumption) ?_))
      (repeat (first | refine WC.seqK fun K hK => ?_ | refine WC.block ?_ | refine WC.regionG rfl fun ops hG => ?_))
      refine WL.po (PO.idx EL22.und EL22.size EL22.posz (Ev.tmp rfl) (Ev.tmp rfl) (by first | assumption | exact Rd.ofSl (by assumption) | exact Rd.ofPt rfl (by decide) (by (repeat (first | exact List.Mem.head _ | apply List.Mem.tail))) | exact Rd.mono (by assumption) (View.le.refl _) (by (repeat (first | exact List.Sublist.refl _ | refine List.Sublist.cons_cons _ ?_ | apply List.Sublist.cons))) | exact Rd.inRow (by (repeat (first | exact List.Mem.head _ | apply List.Mem.tail))) (by assumption) (by assumption) (by assumption)) rfl (by omega)) (Nat.le_of_ble_eq_true rfl) ?_
      refine WL.po (PO.loadFA Tryd.underlying34 rfl rfl encR_len (by first | assumption | exact Rd.ofSl (by assumption) | exact Rd.ofPt rfl (by decide) (by (repeat (first | exact List.Mem.head _ | apply List.Mem.tail))) | exact Rd.mono (by assumption) (View.le.refl _) (by (repeat (first | exact List.Sublist.refl _ | refine List.Sublist.cons_cons _ ?_ | apply List.Sublist.cons))) | exact Rd.inRow (by (repeat (first | exact List.Mem.head _ | apply List.Mem.tail))) (by assumption) (by assumption) (by assumption)) (Ev.tmp rfl) (by assumption) rfl rfl (Nat.succ_pos _)) (Nat.le_of_ble_eq_true rfl) ?_
      refine WL.alloc rfl rfl (Nat.le_of_ble_eq_true rfl) fun b7 => ?_
      refine WL.store rfl (Ev.tmp rfl) (Ev.tmp rfl) rfl rfl rfl rfl (by (repeat (first | exact Upd.here | apply Upd.next))) ?_
      refine WL.nil (keepF (ts := [3, 4, 5, 7, 11, 12, 13]) rfl (toK (by assumption) ?_))
      (try clear hG ops)
      (repeat (first | refine WC.seqK fun K hK => ?_ | refine WC.block ?_ | refine WC.regionG rfl fun ops hG => ?_))
      refine WL.po (PO.fieldAddr Tryd.underlying34 rfl (Nat.ne_of_beq_eq_false rfl) (Ev.tmp rfl)) (Nat.le_of_ble_eq_true rfl) ?_
      refine WL.po (PO.load1 Tryd.underlying3 rfl (Ev.tmp rfl) (by (repeat (first | exact List.Mem.head _ | apply List.Mem.tail))) rfl) (Nat.le_of_ble_eq_true rfl) ?_
      refine WL.po (PO.move (Ev.tmp rfl)) (Nat.le_of_ble_eq_true rfl) ?_
      refine WL.po (PO.bin (Ev.tmp rfl) (Ev.tmp rfl) rfl) (Nat.le_of_ble_eq_true rfl) ?_
      refine WL.po (PO.move (Ev.tmp rfl)) (Nat.le_of_ble_eq_true rfl) ?_
      refine WL.poG (GU.f (hG _ _ rfl) rfl) (fun hc => PO.fieldAddr Tryd.underlying34 rfl (Nat.ne_of_beq_eq_false rfl) (Ev.tmp rfl)) (Nat.le_of_ble_eq_true rfl) ?_
      refine WL.poG (GU.f (hG _ _ rfl) rfl) (fun hc => PO.load1 Tryd.underlying3 rfl (Ev.gv rfl hc) (by (repeat (first | exact List.Mem.head _ | apply List.Mem.tail))) rfl) (Nat.le_of_ble_eq_true rfl) ?_
      refine WL.poG (GU.f (hG _ _ rfl) rfl) (fun hc => PO.bin (Ev.gv rfl hc) Ev.const rfl) (Nat.le_of_ble_eq_true rfl) ?_
      refine WL.po (PO.pickOr rfl rfl) (Nat.le_of_ble_eq_true rfl) ?_
      refine WL.po (PO.move (Ev.tmp rfl)) (Nat.le_of_ble_eq_true rfl) ?_
      refine WL.poG (GU.f (hG _ _ rfl) rfl) (fun hc => PO.fieldAddr Tryd.underlying34 rfl (Nat.ne_of_beq_eq_false rfl) (Ev.tmp rfl)) (Nat.le_of_ble_eq_true rfl) ?_
      refine WL.poG (GU.f (hG _ _ rfl) rfl) (fun hc => PO.load1 Tryd.underlying3 rfl (Ev.gv rfl hc) (by (repeat (first | exact List.Mem.head _ | apply List.Mem.tail))) rfl) (Nat.le_of_ble_eq_true rfl) ?_
      refine WL.poG (GU.f (hG _ _ rfl) rfl) (fun hc => PO.bin (Ev.gv rfl hc) Ev.const rfl) (Nat.le_of_ble_eq_true rfl) ?_
      refine WL.po (PO.pickOr rfl rfl) (Nat.le_of_ble_eq_true rfl) ?_
      refine WL.po (PO.move (Ev.tmp rfl)) (Nat.le_of_ble_eq_true rfl) ?_
      refine WL.poG (GU.f (hG _ _ rfl) rfl) (fun hc => PO.fieldAddr Tryd.underlying34 rfl (Nat.ne_of_beq_eq_false rfl) (Ev.tmp rfl)) (Nat.le_of_ble_eq_true rfl) ?_
      refine WL.poG (GU.f (hG _ _ rfl) rfl) (fun hc => PO.load1 Tryd.underlying3 rfl (Ev.gv rfl hc) (by (repeat (first | exact List.Mem.head _ | apply List.Mem.tail))) rfl) (Nat.le_of_ble_eq_true rfl) ?_
      refine WL.poG (GU.f (hG _ _ rfl) rfl) (fun hc => PO.move (Ev.tmp rfl)) (Nat.le_of_ble_eq_true rfl) ?_
      refine WL.poG (GU.f (hG _ _ rfl) rfl) (fun hc => PO.addI (Ev.gv rfl hc) Ev.const (by first | omega | (simp at hc; omega))) (Nat.le_of_ble_eq_true rfl) ?_
      refine WL.poG (GU.f (hG _ _ rfl) rfl) (fun hc => PO.min (Ev.gv rfl hc) Ev.const) (Nat.le_of_ble_eq_true rfl) ?_
      refine WL.poG (GU.f (hG _ _ rfl) rfl) (fun hc => PO.bin (Ev.gv rfl hc) (Ev.gv rfl hc) rfl) (Nat.le_of_ble_eq_true rfl) ?_
      refine WL.po (PO.pickOr rfl rfl) (Nat.le_of_ble_eq_true rfl) ?_
      refine WL.po (PO.move (Ev.tmp rfl)) (Nat.le_of_ble_eq_true rfl) ?_
      refine WL.poG (GU.f (hG _ _ rfl) rfl) (fun hc => PO.fieldAddr Tryd.underlying34 rfl (Nat.ne_of_beq_eq_false rfl) (Ev.tmp rfl)) (Nat.le_of_ble_eq_true rfl) ?_
      refine WL.poG (GU.f (hG _ _ rfl) rfl) (fun hc => PO.load1 Tryd.underlying9 rfl (Ev.gv rfl hc) (by (repeat (first | exact List.Mem.head _ | apply List.Mem.tail))) rfl) (Nat.le_of_ble_eq_true rfl) ?_
      refine WL.callG (GU.f (hG _ _ rfl) rfl) (fun hc => ⟨Ev.func, (Evs.cons (Ev.gv rfl hc) Evs.nil), valid_ct hg x.text hxs _⟩) (Nat.le_of_ble_eq_true rfl) ?_
      refine WL.poG (GU.f (hG _ _ rfl) rfl) (fun hc => PO.not (Ev.gv rfl hc)) (Nat.le_of_ble_eq_true rfl) ?_
      refine WL.po (PO.pickOr rfl rfl) (Nat.le_of_ble_eq_true rfl) ?_
      refine WL.nil (keepF (ts := [5, 7, 11, 12, 13, 44]) rfl (toK (by assumption) ?_))
      (try clear hG ops)
      (repeat (first | refine WC.seqK fun K hK => ?_ | refine WC.block ?_ | refine WC.regionG rfl fun ops hG => ?_))
      refine WC.cond (Ev.tmp rfl) (fun c44 => ?_) (fun c44 => ?_)
      · have hb : badR no dp x = true := c44
        rw [if_pos hb] at hJ
        (repeat (first | refine WC.seqK fun K hK => ?_ | refine WC.block ?_ | refine WC.regionG rfl fun ops hG => ?_))
        refine WL.po (PO.assign Ev.const) (Nat.le_of_ble_eq_true rfl) ?_
        refine WL.nil (keepF (ts := [2]) rfl (toK (by assumption) ?_))
        (try clear hG ops)
        refine WC.ret (end1 (h' := h) (.inl rfl) rfl (RV.tmp rfl) (View.le.refl m) (by (repeat (first | exact List.Sublist.refl _ | refine List.Sublist.cons_cons _ ?_ | apply List.Sublist.cons))) ?_)
        exact ⟨by rw [hJ], rfl⟩
      · have hb : badR no dp x = false := c44
        rw [hb] at hJ
        obtain ⟨h1, h2, h3, h4, h5, h6⟩ := badR_no hb
        have h7 := (validP_spec h6).2.1
        refine WC.skip (keepF (ts := [5, 7, 11, 12, 13]) rfl (toK (by assumption) ?_))
        (repeat (first | refine WC.seqK fun K hK => ?_ | refine WC.block ?_ | refine WC.regionG rfl fun ops hG => ?_))
        refine WC.drawS [] (.op 0 (.op 1 (.op 2 (.op 3 (.op 4 (.op 5 (.op 6 (.op 7 (.op 8 (.op 9 (.op 10 (.op 11 (.op 12 (.op 13 (.op 14 (.op 15 .nil)))))))))))))))) [16] _ [] mixed (fun _ _ _ _ _ h => h) [] (by kernel_rfl) ?_
        refine SR.po rfl rfl (PO.fieldAddr Tryd.underlying34 rfl (Nat.ne_of_beq_eq_false rfl) (Ev.tmp rfl)) (Nat.le_of_ble_eq_true rfl) ?_
        refine SR.po rfl rfl (PO.load1 Tryd.underlying3 rfl (Ev.tmp rfl) (by (repeat (first | exact List.Mem.head _ | apply List.Mem.tail))) rfl) (Nat.le_of_ble_eq_true rfl) ?_
        refine SR.po rfl rfl (PO.fieldAddr Tryd.underlying34 rfl (Nat.ne_of_beq_eq_false rfl) (Ev.tmp rfl)) (Nat.le_of_ble_eq_true rfl) ?_
        refine SR.po rfl rfl (PO.load1 Tryd.underlying3 rfl (Ev.tmp rfl) (by (repeat (first | exact List.Mem.head _ | apply List.Mem.tail))) rfl) (Nat.le_of_ble_eq_true rfl) ?_
        refine SR.po rfl rfl (PO.move (Ev.tmp rfl)) (Nat.le_of_ble_eq_true rfl) ?_
        refine SR.po rfl rfl (PO.fieldAddr Tryd.underlying34 rfl (Nat.ne_of_beq_eq_false rfl) (Ev.tmp rfl)) (Nat.le_of_ble_eq_true rfl) ?_
        refine SR.po rfl rfl (PO.load1 Tryd.underlying3 rfl (Ev.tmp rfl) (by (repeat (first | exact List.Mem.head _ | apply List.Mem.tail))) rfl) (Nat.le_of_ble_eq_true rfl) ?_
        refine SR.po rfl rfl (PO.mulI Ev.const (Ev.tmp rfl) (by omega)) (Nat.le_of_ble_eq_true rfl) ?_
        refine SR.po rfl rfl (PO.addI (Ev.tmp rfl) (Ev.tmp rfl) (by omega)) (Nat.le_of_ble_eq_true rfl) ?_
        refine SR.po rfl rfl (PO.fieldAddr Tryd.underlying34 rfl (Nat.ne_of_beq_eq_false rfl) (Ev.tmp rfl)) (Nat.le_of_ble_eq_true rfl) ?_
        refine SR.po rfl rfl (PO.load1 Tryd.underlying9 rfl (Ev.tmp rfl) (by (repeat (first | exact List.Mem.head _ | apply List.Mem.tail))) rfl) (Nat.le_of_ble_eq_true rfl) ?_
        refine SR.po rfl rfl (PO.lenS Tryd.underlying9 (Ev.tmp rfl)) (Nat.le_of_ble_eq_true rfl) ?_
        refine SR.po rfl rfl (PO.addI (Ev.tmp rfl) (Ev.tmp rfl) (by omega)) (Nat.le_of_ble_eq_true rfl) ?_
        refine SR.po rfl rfl (PO.addI (Ev.tmp rfl) Ev.const (by omega)) (Nat.le_of_ble_eq_true rfl) ?_
        refine SR.po rfl rfl (PO.assign (Ev.tmp rfl)) (Nat.le_of_ble_eq_true rfl) ?_
        refine SR.po rfl rfl (PO.assign (Ev.tmp rfl)) (Nat.le_of_ble_eq_true rfl) ?_
        refine SR.nil rfl rfl ?_
        refine WL.po (PO.assign (Ev.tmp rfl)) (Nat.le_of_ble_eq_true rfl) ?_
        refine WL.nil (keepF (ts := [3, 4, 5, 11, 12, 13]) rfl (toK (by assumption) ?_))
        (try clear hG ops)
        (repeat (first | refine WC.seqK fun K hK => ?_ | refine WC.block ?_ | refine WC.regionG rfl fun ops hG => ?_))
        refine WL.po (PO.addI (Ev.tmp rfl) Ev.const (by omega)) (Nat.le_of_ble_eq_true rfl) ?_
        refine WL.po (PO.move (Ev.tmp rfl)) (Nat.le_of_ble_eq_true rfl) ?_
        refine WL.nil (loopBackI (l.length - (k + 1)) [(3, .int .i64 (x.no)), (4, .int .i64 (x.depth)), (5, .int .i64 (size + 2 * x.depth + x.text.length + 1)), (13, .int .i64 (k + 1))] (h'' := h) (by omega) ?_ (by (repeat (first | exact Sub.nil | refine Sub.cons rfl ?_ | refine Sub.consE rfl (by simp; done) ?_))) (by (repeat (first | exact List.Sublist.refl _ | refine List.Sublist.cons_cons _ ?_ | apply List.Sublist.cons))) ⟨k + 1, x.no, x.depth, size + 2 * x.depth + x.text.length + 1, ⟨⟨by omega, by omega, by omega⟩, hJ⟩, rfl, rfl, rfl⟩)
        (repeat (first | exact Sub.nil | refine Sub.cons rfl ?_ | refine Sub.consE rfl (by simp; done) ?_))
    · replace c14 := of_decide_eq_false c14
      rw [List.drop_eq_nil_of_le (by omega)] at hJ
      refine WC.exit (keepF (ts := [5]) rfl (toK (by assumption) ?_))
      (repeat (first | refine WC.seqK fun K hK => ?_ | refine WC.block ?_ | refine WC.regionG rfl fun ops hG => ?_))
      refine WL.po (PO.move (Ev.tmp rfl)) (Nat.le_of_ble_eq_true rfl) ?_
      refine WL.po (PO.bin (Ev.tmp rfl) Ev.const rfl) (Nat.le_of_ble_eq_true rfl) ?_
      refine WL.po (PO.assign (Ev.tmp rfl)) (Nat.le_of_ble_eq_true rfl) ?_
      refine WL.nil (keepF (ts := [2]) rfl (toK (by assumption) ?_))
      (try clear hG ops)
      refine WC.ret (end1 (h' := h) (.inl rfl) rfl (RV.tmp rfl) (View.le.refl m) (by (repeat (first | exact List.Sublist.refl _ | refine List.Sublist.cons_cons _ ?_ | apply List.Sublist.cons))) ?_)
      exact ⟨by rw [hJ]; rfl, rfl⟩
theorem bstr0_ct (b : Nat) (p : Option Addr) (c : Nat) (h : List Res) (m : View) : CT Tryd.prog 36 [.pointer (some ⟨b, 0, none⟩)] (BL b p none c [] h) m (fun v _ h' => v = str [] ∧ h' = h) := by
  unfold BL
  refine CT.body Tryd.call36 Tryd.func36 rfl Tryd.ntmps36 (Nat.le_of_ble_eq_true rfl) rfl ?_
  (repeat (first | refine WC.seqK fun K hK => ?_ | refine WC.block ?_ | refine WC.regionG rfl fun ops hG => ?_))
  refine WL.po (PO.assign Ev.const) (Nat.le_of_ble_eq_true rfl) ?_
  refine WL.nil (keepF (ts := [0]) rfl (toK (by assumption) ?_))
  (try clear hG ops)
  (repeat (first | refine WC.seqK fun K hK => ?_ | refine WC.block ?_ | refine WC.regionG rfl fun ops hG => ?_))
  refine WC.drawS [] (.op 0 (.op 1 (.op 2 (.op 3 (.op 4 (.op 5 (.op 6 (.op 7 (.op 8 (.op 9 .nil)))))))))) [10, 11] _ [] mixed (fun _ _ _ _ _ h => h) [] (by kernel_rfl) ?_
  refine SR.po rfl rfl (PO.move (Ev.tmp rfl)) (Nat.le_of_ble_eq_true rfl) ?_
  refine SR.po rfl rfl (PO.nilCheck (Ev.tmp rfl)) (Nat.le_of_ble_eq_true rfl) ?_
  refine SR.po rfl rfl (PO.fieldAddr Tryd.underlying60 rfl (Nat.ne_of_beq_eq_false rfl) (Ev.tmp rfl)) (Nat.le_of_ble_eq_true rfl) ?_
  refine SR.po rfl rfl (PO.load1 Tryd.underlying58 rfl (Ev.tmp rfl) (by (repeat (first | exact List.Mem.head _ | apply List.Mem.tail))) rfl) (Nat.le_of_ble_eq_true rfl) ?_
  refine SR.po rfl rfl (PO.sliceDataN (Ev.tmp rfl)) (Nat.le_of_ble_eq_true rfl) ?_
  refine SR.po rfl rfl (PO.move (Ev.tmp rfl)) (Nat.le_of_ble_eq_true rfl) ?_
  refine SR.po rfl rfl (PO.nilCheck (Ev.tmp rfl)) (Nat.le_of_ble_eq_true rfl) ?_
  refine SR.po rfl rfl (PO.fieldAddr Tryd.underlying60 rfl (Nat.ne_of_beq_eq_false rfl) (Ev.tmp rfl)) (Nat.le_of_ble_eq_true rfl) ?_
  refine SR.po rfl rfl (PO.load1 Tryd.underlying58 rfl (Ev.tmp rfl) (by (repeat (first | exact List.Mem.head _ | apply List.Mem.tail))) rfl) (Nat.le_of_ble_eq_true rfl) ?_
  refine SR.po rfl rfl (PO.lenSl Tryd.underlying58 (Ev.tmp rfl)) (Nat.le_of_ble_eq_true rfl) ?_
  refine SR.nil rfl rfl ?_
  refine WL.po (PO.unsafeStringN (Ev.tmp rfl) (Ev.tmp rfl)) (Nat.le_of_ble_eq_true rfl) ?_
  refine WL.po (PO.assign (Ev.tmp rfl)) (Nat.le_of_ble_eq_true rfl) ?_
  refine WL.nil (keepF (ts := [2]) rfl (toK (by assumption) ?_))
  (try clear hG ops)
  refine WC.ret (end1 (h' := h) (.inl rfl) rfl (RV.tmp rfl) (View.le.refl m) (by (repeat (first | exact List.Sublist.refl _ | refine List.Sublist.cons_cons _ ?_ | apply List.Sublist.cons))) ?_)
  exact ⟨rfl, rfl⟩
theorem bstrA_ct (b : Nat) (p a : Option Addr) (c : Nat) (bs : B) (h : List Res) (m : View) (h0 : bs = [] → a = none) : CT Tryd.prog 36 [.pointer (some ⟨b, 0, none⟩)] (BL b p a c bs h) m (fun v _ h' => v = str bs ∧ h' = h) := by
  by_cases hb : bs = []
  · rw [h0 hb, hb]
    exact bstr0_ct b p c h m
  · exact bstr_ct b p a c bs h m hb
def Srcs (h : List Res) (o : B × Int) : Value → View → List Res → Prop := fun v _ h' => v = .tuple #[str o.1, .int .i64 o.2] ∧ h' = h
theorem source_ct {m : View} (hg : Glob m) (a : Option Addr) (n c : Nat) (l : List Rw) (h : List Res) (hr : Rd m h a n c 3 (fl encR l)) (hs : ∀ x ∈ l, x.text.length < 4294967281) : CT Tryd.prog 13 [.slice a n c] h m (Srcs h (sourceP l)) := by
  have hl := hr.lenF encR_len (by decide)
  have hmx := hr.mx
  have hle := hr.le
  subst hl
  refine CT.body Tryd.call13 Tryd.func13 rfl Tryd.ntmps13 (Nat.le_of_ble_eq_true rfl) rfl ?_
  (repeat (first | refine WC.seqK fun K hK => ?_ | refine WC.block ?_ | refine WC.regionG rfl fun ops hG => ?_))
  refine WL.po (PO.assign Ev.const) (Nat.le_of_ble_eq_true rfl) ?_
  refine WL.po (PO.assign Ev.const) (Nat.le_of_ble_eq_true rfl) ?_
  refine WL.nil (keepF (ts := [0]) rfl (toK (by assumption) ?_))
  (try clear hG ops)
  (repeat (first | refine WC.seqK fun K hK => ?_ | refine WC.block ?_ | refine WC.regionG rfl fun ops hG => ?_))
  refine WL.po (PO.move (Ev.tmp rfl)) (Nat.le_of_ble_eq_true rfl) ?_
  refine WL.callP Ev.func (Evs.cons (Ev.tmp rfl) Evs.nil) (may_ct hg _ _ _ l _ (by first | assumption | exact Rd.ofSl (by assumption) | exact Rd.ofPt rfl (by decide) (by (repeat (first | exact List.Mem.head _ | apply List.Mem.tail))) | exact Rd.mono (by assumption) (View.le.refl _) (by (repeat (first | exact List.Sublist.refl _ | refine List.Sublist.cons_cons _ ?_ | apply List.Sublist.cons))) | exact Rd.inRow (by (repeat (first | exact List.Mem.head _ | apply List.Mem.tail))) (by assumption) (by assumption) (by assumption)) hs) (Nat.le_of_ble_eq_true rfl) ?_
  refine WL.po (PO.not (Ev.tmp rfl)) (Nat.le_of_ble_eq_true rfl) ?_
  refine WL.nil (keepF (ts := [0, 9]) rfl (toK (by assumption) ?_))
  (try clear hG ops)
  (repeat (first | refine WC.seqK fun K hK => ?_ | refine WC.block ?_ | refine WC.regionG rfl fun ops hG => ?_))
  refine WC.cond (Ev.tmp rfl) (fun c9 => ?_) (fun c9 => ?_)
  · (repeat (first | refine WC.seqK fun K hK => ?_ | refine WC.block ?_ | refine WC.regionG rfl fun ops hG => ?_))
    refine WL.po (PO.assign Ev.const) (Nat.le_of_ble_eq_true rfl) ?_
    refine WL.po (PO.assign Ev.const) (Nat.le_of_ble_eq_true rfl) ?_
    refine WL.nil (keepF (ts := [2, 3]) rfl (toK (by assumption) ?_))
    (try clear hG ops)
    refine WC.ret (end2 (h' := h) (.inl rfl) rfl (RV.tmp rfl) (RV.tmp rfl) (View.le.refl m) (by (repeat (first | exact List.Sublist.refl _ | refine List.Sublist.cons_cons _ ?_ | apply List.Sublist.cons))) ?_)
    exact ⟨by unfold sourceP; rw [if_pos c9], rfl⟩
  · have hmay : mayP l = true := by simpa using c9
    have hsrc : sourceP l = if ((srcP l).length : Int) > 65536 then ([], 3) else (srcP l, 0) := by unfold sourceP; rw [if_neg (by rw [c9]; decide)]
    obtain ⟨hln, hall⟩ := mayP_all hmay
    have hlen := srcP_len hall
    refine WC.skip (keepF (ts := [0]) rfl (toK (by assumption) ?_))
    (repeat (first | refine WC.seqK fun K hK => ?_ | refine WC.block ?_ | refine WC.regionG rfl fun ops hG => ?_))
    refine WL.alloc rfl rfl (Nat.le_of_ble_eq_true rfl) fun b4 => ?_
    refine WL.addNil 5 1 ?_; refine WL.take (r := .pt b4 _) (by (repeat (first | exact Del.here | apply Del.next))) ?_
    refine WL.nil (keepF (ts := [0, 4]) rfl (toK (by assumption) ?_))
    (try clear hG ops)
    (repeat (first | refine WC.seqK fun K hK => ?_ | refine WC.block ?_ | refine WC.regionG rfl fun ops hG => ?_))
    refine WL.po (PO.move (Ev.tmp rfl)) (Nat.le_of_ble_eq_true rfl) ?_
    refine WL.po (PO.lenSl Tryd.underlying22 (Ev.tmp rfl)) (Nat.le_of_ble_eq_true rfl) ?_
    refine WL.po (PO.move Ev.const) (Nat.le_of_ble_eq_true rfl) ?_
    refine WL.nil (keepF (ts := [4, 10, 11, 12]) rfl (toK (by assumption) ?_))
    (try clear hG ops)
    (repeat (first | refine WC.seqK fun K hK => ?_ | refine WC.block ?_ | refine WC.regionG rfl fun ops hG => ?_))
    refine WC.loopI [4, 10, 11] rfl (fun μ F' h' => ∃ k : Nat, ∃ p : Option Addr, ∃ ab : Option Addr, ∃ cb : Nat, ((k ≤ l.length ∧ Used p b4 ∧ (k = 0 → ab = none))) ∧ l.length - k = μ ∧ F' = [(12, .int .i64 k)] ∧ BL b4 p ab cb (srcP (l.take k)) h = h') (l.length - 0) [(12, .int .i64 0)] (h0 := BL b4 none none 0 (srcP (l.take 0)) h) ?_ (by (repeat (first | exact List.Sublist.refl _ | refine List.Sublist.cons_cons _ ?_ | apply List.Sublist.cons))) ⟨0, none, none, 0, ⟨by omega, .inl rfl, fun _ => rfl⟩, rfl, rfl, rfl⟩ ?_
    · (repeat (first | exact Sub.nil | refine Sub.cons rfl ?_ | refine Sub.consE rfl (by simp; done) ?_))
    rintro _ _ _ ⟨k, p, ab, cb, ⟨hk, hu, hab⟩, rfl, rfl, rfl⟩
    refine WC.frm rfl ?_
    (repeat (first | refine WC.seqK fun K hK => ?_ | refine WC.block ?_ | refine WC.regionG rfl fun ops hG => ?_))
    refine WL.po (PO.bin (Ev.tmp rfl) (Ev.tmp rfl) rfl) (Nat.le_of_ble_eq_true rfl) ?_
    refine WL.nil (keepF (ts := [4, 10, 11, 12, 13]) rfl (toK (by assumption) ?_))
    (try clear hG ops)
    (repeat (first | refine WC.seqK fun K hK => ?_ | refine WC.block ?_ | refine WC.regionG rfl fun ops hG => ?_))
    refine WC.cond (Ev.tmp rfl) (fun c13 => ?_) (fun c13 => ?_)
    · replace c13 := of_decide_eq_true c13
      obtain ⟨x, hx⟩ := get_some (l := l) (k := k) (by omega)
      obtain ⟨hx1, hx2, hx3⟩ := hall x (List.mem_of_getElem? hx)
      have htk := srcP_take hx
      have hlk := srcP_len (l := l.take k) fun y hy => hall y (List.mem_of_mem_take hy)
      rw [List.length_take] at hlk
      have hrl : (List.replicate (2 * x.depth.toNat) (32 : UInt8)).length ≤ 64 := by rw [List.length_replicate]; omega
      refine WC.skip (keepF (ts := [4, 10, 11, 12]) rfl (toK (by assumption) ?_))
      (repeat (first | refine WC.seqK fun K hK => ?_ | refine WC.block ?_ | refine WC.regionG rfl fun ops hG => ?_))
      refine WL.po (PO.idx EL22.und EL22.size EL22.posz (Ev.tmp rfl) (Ev.tmp rfl) (by first | assumption | exact Rd.ofSl (by assumption) | exact Rd.ofPt rfl (by decide) (by (repeat (first | exact List.Mem.head _ | apply List.Mem.tail))) | exact Rd.mono (by assumption) (View.le.refl _) (by (repeat (first | exact List.Sublist.refl _ | refine List.Sublist.cons_cons _ ?_ | apply List.Sublist.cons))) | exact Rd.inRow (by (repeat (first | exact List.Mem.head _ | apply List.Mem.tail))) (by assumption) (by assumption) (by assumption)) rfl (by omega)) (Nat.le_of_ble_eq_true rfl) ?_
      refine WL.po (PO.loadFA Tryd.underlying34 rfl rfl encR_len (by first | assumption | exact Rd.ofSl (by assumption) | exact Rd.ofPt rfl (by decide) (by (repeat (first | exact List.Mem.head _ | apply List.Mem.tail))) | exact Rd.mono (by assumption) (View.le.refl _) (by (repeat (first | exact List.Sublist.refl _ | refine List.Sublist.cons_cons _ ?_ | apply List.Sublist.cons))) | exact Rd.inRow (by (repeat (first | exact List.Mem.head _ | apply List.Mem.tail))) (by assumption) (by assumption) (by assumption)) (Ev.tmp rfl) (by assumption) rfl rfl (Nat.succ_pos _)) (Nat.le_of_ble_eq_true rfl) ?_
      refine WL.alloc rfl rfl (Nat.le_of_ble_eq_true rfl) fun b6 => ?_
      refine WL.store rfl (Ev.tmp rfl) (Ev.tmp rfl) rfl rfl rfl rfl (by (repeat (first | exact Upd.here | apply Upd.next))) ?_
      refine WL.nil (keepF (ts := [4, 6, 10, 11, 12]) rfl (toK (by assumption) ?_))
      (try clear hG ops)
      (repeat (first | refine WC.seqK fun K hK => ?_ | refine WC.block ?_ | refine WC.regionG rfl fun ops hG => ?_))
      refine WL.po (PO.fieldAddr Tryd.underlying34 rfl (Nat.ne_of_beq_eq_false rfl) (Ev.tmp rfl)) (Nat.le_of_ble_eq_true rfl) ?_
      refine WL.po (PO.load1 Tryd.underlying3 rfl (Ev.tmp rfl) (by (repeat (first | exact List.Mem.head _ | apply List.Mem.tail))) rfl) (Nat.le_of_ble_eq_true rfl) ?_
      refine WL.val (v' := .int .i64 (x.depth.toNat : Nat)) (congrArg (Value.int .i64) (by omega)) ?_
      refine WL.callP Ev.func (Evs.cons Ev.const (Evs.cons (Ev.tmp rfl) Evs.nil)) (CT.val (repeat_ct [32, 32] x.depth.toNat _ _ (by simp; omega) (by omega)) (congrArg str (rep_two _))) (Nat.le_of_ble_eq_true rfl) ?_
      refine WL.take (r := .row (.slice ab (srcP (l.take k)).length cb) 5 1 (srcP (l.take k)).length (bv (srcP (l.take k)))) (by (repeat (first | exact Del.here | apply Del.next))) ?_
      refine WL.take (r := .pt b4 _) (by (repeat (first | exact Del.here | apply Del.next))) ?_
      refine WL.callK Ev.func (Evs.cons (Ev.tmp rfl) (Evs.cons (Ev.tmp rfl) Evs.nil)) (wstr_ct b4 p ab cb (srcP (l.take k)) _ _ _ hu (by omega)) (Nat.le_of_ble_eq_true rfl) ?_
      rintro _ _ ⟨a19, c19, rfl⟩
      refine WL.nil (keepF (ts := [4, 6, 10, 11, 12]) rfl (toK (by assumption) ?_))
      (try clear hG ops)
      (repeat (first | refine WC.seqK fun K hK => ?_ | refine WC.block ?_ | refine WC.regionG rfl fun ops hG => ?_))
      refine WL.po (PO.fieldAddr Tryd.underlying34 rfl (Nat.ne_of_beq_eq_false rfl) (Ev.tmp rfl)) (Nat.le_of_ble_eq_true rfl) ?_
      refine WL.po (PO.load1 Tryd.underlying9 rfl (Ev.tmp rfl) (by (repeat (first | exact List.Mem.head _ | apply List.Mem.tail))) rfl) (Nat.le_of_ble_eq_true rfl) ?_
      refine WL.callK Ev.func (Evs.cons (Ev.tmp rfl) (Evs.cons (Ev.tmp rfl) Evs.nil)) (wstr_ct b4 _ a19 c19 _ x.text _ _ (.inr rfl) (by rw [List.length_append]; omega)) (Nat.le_of_ble_eq_true rfl) ?_
      rintro _ _ ⟨a22, c22, rfl⟩
      refine WL.nil (keepF (ts := [4, 10, 11, 12]) rfl (toK (by assumption) ?_))
      (try clear hG ops)
      (repeat (first | refine WC.seqK fun K hK => ?_ | refine WC.block ?_ | refine WC.regionG rfl fun ops hG => ?_))
      refine WL.callK Ev.func (Evs.cons (Ev.tmp rfl) (Evs.cons Ev.const Evs.nil)) (wbyte_ct b4 _ a22 c22 _ 10 _ _ (.inr rfl) (by rw [List.length_append, List.length_append]; omega)) (Nat.le_of_ble_eq_true rfl) ?_
      rintro _ _ ⟨a23, c23, rfl⟩
      rw [← htk]
      refine WL.nil (keepF (ts := [4, 10, 11, 12]) rfl (toK (by assumption) ?_))
      (try clear hG ops)
      (repeat (first | refine WC.seqK fun K hK => ?_ | refine WC.block ?_ | refine WC.regionG rfl fun ops hG => ?_))
      refine WL.po (PO.addI (Ev.tmp rfl) Ev.const (by omega)) (Nat.le_of_ble_eq_true rfl) ?_
      refine WL.po (PO.move (Ev.tmp rfl)) (Nat.le_of_ble_eq_true rfl) ?_
      refine WL.nil (loopBackI (l.length - (k + 1)) [(12, .int .i64 (k + 1))] (h'' := BL b4 (some ⟨b4, 0, none⟩) a23 c23 (srcP (l.take (k + 1))) h) (by omega) ?_ (by (repeat (first | exact Sub.nil | refine Sub.cons rfl ?_ | refine Sub.consE rfl (by simp; done) ?_))) (by (repeat (first | exact List.Sublist.refl _ | refine List.Sublist.cons_cons _ ?_ | apply List.Sublist.cons))) ⟨k + 1, some ⟨b4, 0, none⟩, a23, c23, ⟨by omega, .inr rfl, fun h => by omega⟩, rfl, rfl, rfl⟩)
      (repeat (first | exact Sub.nil | refine Sub.cons rfl ?_ | refine Sub.consE rfl (by simp; done) ?_))
    · replace c13 := of_decide_eq_false c13
      have hk2 : k = l.length := by omega
      subst hk2
      rw [List.take_length]
      refine WC.exit (keepF (ts := [4]) rfl (toK (by assumption) ?_))
      (repeat (first | refine WC.seqK fun K hK => ?_ | refine WC.block ?_ | refine WC.regionG rfl fun ops hG => ?_))
      refine WL.callP Ev.func (Evs.cons (Ev.tmp rfl) Evs.nil) (blen_ct b4 p ab cb (srcP l) _ _) (Nat.le_of_ble_eq_true rfl) ?_
      refine WL.po (PO.bin (Ev.tmp rfl) Ev.const rfl) (Nat.le_of_ble_eq_true rfl) ?_
      refine WL.nil (keepF (ts := [4, 26]) rfl (toK (by assumption) ?_))
      (try clear hG ops)
      (repeat (first | refine WC.seqK fun K hK => ?_ | refine WC.block ?_ | refine WC.regionG rfl fun ops hG => ?_))
      refine WC.cond (Ev.tmp rfl) (fun c26 => ?_) (fun c26 => ?_)
      · replace c26 := of_decide_eq_true c26
        rw [if_pos c26] at hsrc
        (repeat (first | refine WC.seqK fun K hK => ?_ | refine WC.block ?_ | refine WC.regionG rfl fun ops hG => ?_))
        refine WL.po (PO.assign Ev.const) (Nat.le_of_ble_eq_true rfl) ?_
        refine WL.po (PO.assign Ev.const) (Nat.le_of_ble_eq_true rfl) ?_
        refine WL.nil (keepF (ts := [2, 3]) rfl (toK (by assumption) ?_))
        (try clear hG ops)
        refine WC.ret (end2 (h' := h) (.inl rfl) rfl (RV.tmp rfl) (RV.tmp rfl) (View.le.refl m) (by (repeat (first | exact List.Sublist.refl _ | refine List.Sublist.cons_cons _ ?_ | apply List.Sublist.cons))) ?_)
        exact ⟨by rw [hsrc], rfl⟩
      · replace c26 := of_decide_eq_false c26
        rw [if_neg c26] at hsrc
        refine WC.skip (keepF (ts := [4]) rfl (toK (by assumption) ?_))
        (repeat (first | refine WC.seqK fun K hK => ?_ | refine WC.block ?_ | refine WC.regionG rfl fun ops hG => ?_))
        refine WL.callK Ev.func (Evs.cons (Ev.tmp rfl) Evs.nil) (bstrA_ct b4 p ab cb (srcP l) _ _ (fun e => hab (by rw [srcP_nil e]; rfl))) (Nat.le_of_ble_eq_true rfl) ?_
        rintro _ hz ⟨rfl, rfl⟩
        refine WL.po (PO.assign (Ev.tmp rfl)) (Nat.le_of_ble_eq_true rfl) ?_
        refine WL.po (PO.assign Ev.const) (Nat.le_of_ble_eq_true rfl) ?_
        refine WL.nil (keepF (ts := [2, 3]) rfl (toK (by assumption) ?_))
        (try clear hG ops)
        refine WC.ret (end2 (h' := hz) (.inl rfl) rfl (RV.tmp rfl) (RV.tmp rfl) (View.le.refl m) (by (repeat (first | exact List.Sublist.refl _ | refine List.Sublist.cons_cons _ ?_ | apply List.Sublist.cons))) ?_)
        exact ⟨by rw [hsrc], rfl⟩
end Go.Proofs.YtmffmpadfpajcaaDoor

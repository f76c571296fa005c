/- layout: the library's functions; lines that continue, bytes that are allowed, the first wrong line, walked. -/
import Derived.Test.YtmffmpadfpajcaaDoorGlob
namespace Go.Proofs.YtmffmpadfpajcaaDoor
open Go.Eng Go.Ly Go
set_option maxRecDepth 100000
theorem cut_ct {m : View} (hg : Glob m) (s : B) (hs : s.length < 4294967281) (h : List Res) : CT Tryd.prog 43 [str s, str [45, 45]] h m (Pure1 h (.tuple #[str (cutL s), str (Lib.cut s [45, 45]).2.1, .bool (Lib.cut s [45, 45]).2.2])) := by
  obtain ⟨x, hx⟩ := hg.max
  refine ⟨Tryd.call43, fun w st => Calls.mono (Tryd.strings_Cut ⟨s.toArray⟩ ⟨#[45, 45]⟩ x w hs (st.cell hx)) ?_⟩
  rintro e w' ⟨rfl, n, rfl⟩
  refine ⟨_, m, h, rfl, View.le.refl m, st.wider rfl rfl rfl (fun _ _ => rfl), ?_, rfl⟩
  rw [← cut_eq]
theorem trimR_ct (s : B) (hs : s.length ≤ 9223372036854775807) (h : List Res) (m : View) : CT Tryd.prog 44 [str s, str [32]] h m (Pure1 h (str (Lib.trimRightB s 32))) :=
  CT.ofCalls Tryd.call44 fun w _ => Tryd.strings_TrimRight_one ⟨s.toArray⟩ 32 (by decide) w hs
theorem trimL_ct (s : B) (h : List Res) (m : View) : CT Tryd.prog 45 [str s, str [32]] h m (Pure1 h (str (Lib.trimLeftB s 32))) :=
  CT.ofCalls Tryd.call45 fun w _ => Tryd.strings_TrimLeft_one ⟨s.toArray⟩ 32 (by decide) w
theorem body_ct (s : B) (hs : (cutL s).length ≤ 9223372036854775807) (h : List Res) (m : View) : CT Tryd.prog 44 [str (cutL s), str [32]] h m (Pure1 h (str (bodyL s))) := trimR_ct (cutL s) hs h m
theorem txt_ct (s : B) (h : List Res) (m : View) : CT Tryd.prog 45 [str (bodyL s), str [32]] h m (Pure1 h (str (txt s))) := trimL_ct (bodyL s) h m
theorem idx_ct (l : B) (c : UInt8) (h : List Res) (m : View) : CT Tryd.prog 46 [str l, .int .u8 c.toNat] h m (Pure1 h (.int .i64 (Lib.indexByte l c))) :=
  CT.ofCalls Tryd.call46 fun w _ => by
    have := Tryd.strings_IndexByte ⟨l.toArray⟩ c.toNat w
    rw [show (c.toNat : Int).toNat.toUInt8 = c by simp] at this
    exact this
theorem split_len (s : B) : (Lib.splitB ⟨#[10]⟩ 0 (Lib.countB ⟨s.toArray⟩ ⟨#[10]⟩) ⟨s.toArray⟩).map (·.data.toList) = lines s := by
  rw [Lib.splitB_data]
  exact split_eq _ s (Nat.le_refl _)
theorem split_ct {m : View} (hg : Glob m) (s : B) (hs : s.length < 4294967281) (h : List Res) : CT Tryd.prog 15 [str s, str [10]] h m
    (fun v _ h' => ∃ b, v = .slice (some ⟨b, 0, none⟩) (lines s).length (lines s).length ∧ h' = .pt b (.cells (fl encB (lines s)).toArray 9 (0, 0)) :: h) := by
  obtain ⟨x, hx⟩ := hg.max
  refine ⟨Tryd.call15, fun w st => Calls.mono (Tryd.strings_Split ⟨s.toArray⟩ ⟨#[10]⟩ x w hs (st.cell hx) (by decide)) ?_⟩
  rintro e w' ⟨rfl, rfl⟩
  have h1 := split_len s
  have h2 : Lib.countB ⟨s.toArray⟩ ⟨#[10]⟩ + 1 = (lines s).length := by
    rw [← h1, List.length_map, Lib.splitB_all ⟨#[10]⟩ (by decide) 0 _ ⟨s.toArray⟩ rfl]
  have h3 : (Lib.splitB ⟨#[10]⟩ 0 (Lib.countB ⟨s.toArray⟩ ⟨#[10]⟩) ⟨s.toArray⟩).map Value.string = fl encB (lines s) := by
    rw [← h1]
    generalize Lib.splitB ⟨#[10]⟩ 0 (Lib.countB ⟨s.toArray⟩ ⟨#[10]⟩) ⟨s.toArray⟩ = l
    induction l with
    | nil => rfl
    | cons y l ih =>
      rw [List.map_cons, List.map_cons, ih]
      rfl
  rw [h2, h3]
  exact ⟨_, m, _, rfl, View.le.refl m, st.alloc _, w.heap.size, rfl, rfl⟩
theorem join_ct (a : Addr) (n cap : Nat) (ps : List B) (h : List Res) (m : View) (hr : Rd m h (some a) n cap 1 (fl encB ps)) (hn : ps.length ≤ 140737488355328) (hl : (Lib.join ps [32]).length ≤ 140737488355328) (h0 : ps ≠ []) :
    CT Tryd.prog 17 [.slice (some a) n cap, str [32]] h m (Pure1 h (str (Lib.join ps [32]))) := by
  refine ⟨Tryd.call17, fun w st => ?_⟩
  have hln := hr.lenF encB_len (by decide)
  have hpos : 0 < ps.length := List.length_pos_iff.2 h0
  obtain ⟨b, o, e0, hc0⟩ := hr.at_ w st 0 (str (ps[0])) (fl_at (q := 0) encB_len (List.getElem?_eq_getElem hpos) 0 _ rfl)
  cases e0
  have hm : (ps.map fun x => (⟨x.toArray⟩ : ByteArray)).map (·.data.toList) = ps := by
    rw [List.map_map]
    exact List.map_id ps
  have key := Tryd.strings_Join b o cap (ps.map fun x => ⟨x.toArray⟩) ⟨#[32]⟩ w (fun j x hx => by
    simp only [List.getElem?_map, Option.map_eq_some_iff] at hx
    obtain ⟨y, hy, rfl⟩ := hx
    obtain ⟨b', o', e1, hc⟩ := hr.at_ w st j (str y) (by have := fl_at (q := j) encB_len hy 0 _ rfl; simpa using this)
    cases e1
    exact hc) (by
      rcases Nat.lt_or_ge b w.heap.size with h' | h'
      · exact h'
      · simp [World.cell?, Array.getElem?_eq_none h'] at hc0) (by simpa using hn) (by have := hr.le; simp; omega) (by rw [hm]; exact hl)
  rw [hm, List.length_map, hln] at key
  refine Calls.mono key ?_
  rintro e w' ⟨rfl, hb⟩
  exact ⟨_, m, h, rfl, View.le.refl m, st.wider hb.os hb.output hb.tape hb.block, rfl, rfl⟩

theorem allowed_ct (c : UInt8) (h : List Res) (m : View) : CT Tryd.prog 41 [.int .u8 c.toNat] h m (Pure1 h (.bool (okB c))) := by
  refine CT.body Tryd.call41 Tryd.func41 rfl Tryd.ntmps41 (Nat.le_of_ble_eq_true rfl) rfl ?_
  (repeat (first | refine WC.seqK fun K hK => ?_ | refine WC.block ?_ | refine WC.regionG rfl fun ops hG => ?_))
  refine WL.po (PO.assign Ev.const) (Nat.le_of_ble_eq_true rfl) ?_
  refine WL.nil (keepF (ts := [0]) rfl (toK (by assumption) ?_))
  (try clear hG ops)
  (repeat (first | refine WC.seqK fun K hK => ?_ | refine WC.block ?_ | refine WC.regionG rfl fun ops hG => ?_))
  refine WL.po (PO.move (Ev.tmp rfl)) (Nat.le_of_ble_eq_true rfl) ?_
  refine WL.po (PO.bin (Ev.tmp rfl) Ev.const rfl) (Nat.le_of_ble_eq_true rfl) ?_
  refine WL.po (PO.move (Ev.tmp rfl)) (Nat.le_of_ble_eq_true rfl) ?_
  refine WL.poG (GU.t (hG _ _ rfl) rfl) (fun hc => PO.move (Ev.tmp rfl)) (Nat.le_of_ble_eq_true rfl) ?_
  refine WL.poG (GU.t (hG _ _ rfl) rfl) (fun hc => PO.bin (Ev.gv rfl hc) Ev.const rfl) (Nat.le_of_ble_eq_true rfl) ?_
  refine WL.po (PO.pickAnd rfl rfl) (Nat.le_of_ble_eq_true rfl) ?_
  refine WL.po (PO.assign (Ev.tmp rfl)) (Nat.le_of_ble_eq_true rfl) ?_
  refine WL.nil (keepF (ts := [2]) rfl (toK (by assumption) ?_))
  (try clear hG ops)
  refine WC.ret (end1 (h' := h) (.inl rfl) rfl (RV.tmp rfl) (View.le.refl m) (by (repeat (first | exact List.Sublist.refl _ | refine List.Sublist.cons_cons _ ?_ | apply List.Sublist.cons))) ?_)
  exact ⟨rfl, rfl⟩
theorem last_get {s : B} (h0 : s ≠ []) : ∃ c, s[s.length - 1]? = some c ∧ cont s = contB.contains c := by
  refine ⟨s.getLast h0, ?_, ?_⟩
  · rw [← List.getLast?_eq_getElem?, List.getLast?_eq_some_getLast h0]
  · unfold cont
    rw [List.getLast?_eq_some_getLast h0]
theorem continues_ct (s : B) (h0 : s ≠ []) (hs : s.length ≤ 9223372036854775807) (h : List Res) (m : View) : CT Tryd.prog 22 [str s] h m (Pure1 h (.bool (cont s))) := by
  obtain ⟨c, hc, he⟩ := last_get h0
  have hp : 0 < s.length := List.length_pos_iff.2 h0
  refine CT.body Tryd.call22 Tryd.func22 rfl Tryd.ntmps22 (Nat.le_of_ble_eq_true rfl) rfl ?_
  (repeat (first | refine WC.seqK fun K hK => ?_ | refine WC.block ?_ | refine WC.regionG rfl fun ops hG => ?_))
  refine WL.po (PO.assign Ev.const) (Nat.le_of_ble_eq_true rfl) ?_
  refine WL.nil (keepF (ts := [0]) rfl (toK (by assumption) ?_))
  (try clear hG ops)
  (repeat (first | refine WC.seqK fun K hK => ?_ | refine WC.block ?_ | refine WC.regionG rfl fun ops hG => ?_))
  refine WL.po (PO.move (Ev.tmp rfl)) (Nat.le_of_ble_eq_true rfl) ?_
  refine WL.po (PO.move (Ev.tmp rfl)) (Nat.le_of_ble_eq_true rfl) ?_
  refine WL.po (PO.lenS Tryd.underlying9 (Ev.tmp rfl)) (Nat.le_of_ble_eq_true rfl) ?_
  refine WL.po (PO.subI (Ev.tmp rfl) Ev.const (by omega)) (Nat.le_of_ble_eq_true rfl) ?_
  refine WL.val (v' := .int .i64 ((s.length - 1 : Nat) : Int)) (congrArg (Value.int .i64) (by omega)) ?_
  refine WL.po (PO.idxS Tryd.underlying9 (Ev.tmp rfl) (Ev.tmp rfl) rfl (by assumption)) (Nat.le_of_ble_eq_true rfl) ?_
  refine WL.callP Ev.func (Evs.cons Ev.const (Evs.cons (Ev.tmp rfl) Evs.nil)) (CT.argsE rfl (idx_ct contB c _ _)) (Nat.le_of_ble_eq_true rfl) ?_
  refine WL.po (PO.bin (Ev.tmp rfl) Ev.const rfl) (Nat.le_of_ble_eq_true rfl) ?_
  refine WL.po (PO.assign (Ev.tmp rfl)) (Nat.le_of_ble_eq_true rfl) ?_
  refine WL.nil (keepF (ts := [2]) rfl (toK (by assumption) ?_))
  (try clear hG ops)
  refine WC.ret (end1 (h' := h) (.inl rfl) rfl (RV.tmp rfl) (View.le.refl m) (by (repeat (first | exact List.Sublist.refl _ | refine List.Sublist.cons_cons _ ?_ | apply List.Sublist.cons))) ?_)
  exact ⟨by rw [he, ← index_in], rfl⟩
theorem wrong_drop (no : Nat) {l : B} {k : Nat} {c : UInt8} (hc : l[k]? = some c) : wrongP no (l.drop k) = if c == 10 then wrongP (no + 1) (l.drop (k + 1)) else if !okB c then no else wrongP no (l.drop (k + 1)) := by
  rw [drop_at hc]
  rfl
theorem byte_eq10 (c : UInt8) : ((c.toNat : Int) == 10) = (c == 10) := by
  rw [Bool.eq_iff_iff]
  simp only [beq_iff_eq]
  constructor
  · intro h
    apply UInt8.toNat_inj.1
    show c.toNat = 10
    exact_mod_cast h
  · rintro rfl
    rfl
theorem wrong_ct (s : B) (h : List Res) (m : View) (hs : s.length ≤ 140737488355328) : CT Tryd.prog 20 [str s] h m (Pure1 h (.int .i64 (wrongP 1 s))) := by
  refine CT.body Tryd.call20 Tryd.func20 rfl Tryd.ntmps20 (Nat.le_of_ble_eq_true rfl) rfl ?_
  (repeat (first | refine WC.seqK fun K hK => ?_ | refine WC.block ?_ | refine WC.regionG rfl fun ops hG => ?_))
  refine WL.po (PO.assign Ev.const) (Nat.le_of_ble_eq_true rfl) ?_
  refine WL.nil (keepF (ts := [0]) rfl (toK (by assumption) ?_))
  (try clear hG ops)
  (repeat (first | refine WC.seqK fun K hK => ?_ | refine WC.block ?_ | refine WC.regionG rfl fun ops hG => ?_))
  refine WL.po (PO.assign Ev.const) (Nat.le_of_ble_eq_true rfl) ?_
  refine WL.nil (keepF (ts := [0, 3]) rfl (toK (by assumption) ?_))
  (try clear hG ops)
  (repeat (first | refine WC.seqK fun K hK => ?_ | refine WC.block ?_ | refine WC.regionG rfl fun ops hG => ?_))
  refine WL.po (PO.move (Ev.tmp rfl)) (Nat.le_of_ble_eq_true rfl) ?_
  refine WL.po (PO.lenS Tryd.underlying9 (Ev.tmp rfl)) (Nat.le_of_ble_eq_true rfl) ?_
  refine WL.po (PO.move Ev.const) (Nat.le_of_ble_eq_true rfl) ?_
  refine WL.nil (keepF (ts := [0, 3, 6, 7]) rfl (toK (by assumption) ?_))
  (try clear hG ops)
  (repeat (first | refine WC.seqK fun K hK => ?_ | refine WC.block ?_ | refine WC.regionG rfl fun ops hG => ?_))
  refine WC.loopI [0, 6] rfl (fun μ F' h' => ∃ k : Nat, ∃ no : Nat, ((k ≤ s.length ∧ no ≤ k + 1) ∧ wrongP 1 s = wrongP no (s.drop k)) ∧ s.length - k = μ ∧ F' = [(3, .int .i64 no), (7, .int .i64 k)] ∧ h = h') (s.length - 0) [(3, .int .i64 1), (7, .int .i64 0)] (h0 := h) ?_ (by (repeat (first | exact List.Sublist.refl _ | refine List.Sublist.cons_cons _ ?_ | apply List.Sublist.cons))) ⟨0, 1, ⟨⟨by omega, by omega⟩, rfl⟩, rfl, rfl, rfl⟩ ?_
  · (repeat (first | exact Sub.nil | refine Sub.cons rfl ?_ | refine Sub.consE rfl (by simp; done) ?_))
  rintro _ _ _ ⟨k, no, ⟨⟨hk, hno⟩, hJ⟩, rfl, rfl, rfl⟩
  refine WC.frm rfl ?_
  (repeat (first | refine WC.seqK fun K hK => ?_ | refine WC.block ?_ | refine WC.regionG rfl fun ops hG => ?_))
  refine WL.po (PO.bin (Ev.tmp rfl) (Ev.tmp rfl) rfl) (Nat.le_of_ble_eq_true rfl) ?_
  refine WL.nil (keepF (ts := [0, 3, 6, 7, 8]) rfl (toK (by assumption) ?_))
  (try clear hG ops)
  (repeat (first | refine WC.seqK fun K hK => ?_ | refine WC.block ?_ | refine WC.regionG rfl fun ops hG => ?_))
  refine WC.cond (Ev.tmp rfl) (fun c8 => ?_) (fun c8 => ?_)
  · replace c8 := of_decide_eq_true c8
    obtain ⟨c, hc⟩ := get_some (l := s) (k := k) (by omega)
    rw [wrong_drop no hc] at hJ
    refine WC.skip (keepF (ts := [0, 3, 6, 7]) rfl (toK (by assumption) ?_))
    (repeat (first | refine WC.seqK fun K hK => ?_ | refine WC.block ?_ | refine WC.regionG rfl fun ops hG => ?_))
    refine WL.po (PO.move (Ev.tmp rfl)) (Nat.le_of_ble_eq_true rfl) ?_
    refine WL.po (PO.assign (Ev.tmp rfl)) (Nat.le_of_ble_eq_true rfl) ?_
    refine WL.nil (keepF (ts := [0, 3, 4, 6, 7]) rfl (toK (by assumption) ?_))
    (try clear hG ops)
    (repeat (first | refine WC.seqK fun K hK => ?_ | refine WC.block ?_ | refine WC.regionG rfl fun ops hG => ?_))
    refine WL.po (PO.move (Ev.tmp rfl)) (Nat.le_of_ble_eq_true rfl) ?_
    refine WL.po (PO.move (Ev.tmp rfl)) (Nat.le_of_ble_eq_true rfl) ?_
    refine WL.po (PO.idxS Tryd.underlying9 (Ev.tmp rfl) (Ev.tmp rfl) rfl (by assumption)) (Nat.le_of_ble_eq_true rfl) ?_
    refine WL.po (PO.bin (Ev.tmp rfl) Ev.const rfl) (Nat.le_of_ble_eq_true rfl) ?_
    refine WL.po (PO.assign (Ev.tmp rfl)) (Nat.le_of_ble_eq_true rfl) ?_
    refine WL.nil (keepF (ts := [0, 3, 4, 6, 7, 10]) rfl (toK (by assumption) ?_))
    (try clear hG ops)
    (repeat (first | refine WC.seqK fun K hK => ?_ | refine WC.block ?_ | refine WC.regionG rfl fun ops hG => ?_))
    refine WC.cond (Ev.tmp rfl) (fun c10 => ?_) (fun c10 => ?_)
    · rw [← byte_eq10, c10, if_pos rfl] at hJ
      (repeat (first | refine WC.seqK fun K hK => ?_ | refine WC.block ?_ | refine WC.regionG rfl fun ops hG => ?_))
      refine WL.po (PO.move (Ev.tmp rfl)) (Nat.le_of_ble_eq_true rfl) ?_
      refine WL.po (PO.addI (Ev.tmp rfl) Ev.const (by omega)) (Nat.le_of_ble_eq_true rfl) ?_
      refine WL.po (PO.assign (Ev.tmp rfl)) (Nat.le_of_ble_eq_true rfl) ?_
      refine WL.nil (keepF (ts := [0, 3, 6, 7]) rfl (toK (by assumption) ?_))
      (try clear hG ops)
      (repeat (first | refine WC.seqK fun K hK => ?_ | refine WC.block ?_ | refine WC.regionG rfl fun ops hG => ?_))
      refine WL.po (PO.addI (Ev.tmp rfl) Ev.const (by omega)) (Nat.le_of_ble_eq_true rfl) ?_
      refine WL.po (PO.move (Ev.tmp rfl)) (Nat.le_of_ble_eq_true rfl) ?_
      refine WL.nil (loopBackI (s.length - (k + 1)) [(3, .int .i64 (no + 1)), (7, .int .i64 (k + 1))] (h'' := h) (by omega) ?_ (by (repeat (first | exact Sub.nil | refine Sub.cons rfl ?_ | refine Sub.consE rfl (by simp; done) ?_))) (by (repeat (first | exact List.Sublist.refl _ | refine List.Sublist.cons_cons _ ?_ | apply List.Sublist.cons))) ⟨k + 1, no + 1, ⟨⟨by omega, by omega⟩, hJ⟩, rfl, rfl, rfl⟩)
      (repeat (first | exact Sub.nil | refine Sub.cons rfl ?_ | refine Sub.consE rfl (by simp; done) ?_))
    · rw [← byte_eq10, c10] at hJ
      (repeat (first | refine WC.seqK fun K hK => ?_ | refine WC.block ?_ | refine WC.regionG rfl fun ops hG => ?_))
      refine WL.po (PO.move (Ev.tmp rfl)) (Nat.le_of_ble_eq_true rfl) ?_
      refine WL.po (PO.move (Ev.tmp rfl)) (Nat.le_of_ble_eq_true rfl) ?_
      refine WL.po (PO.idxS Tryd.underlying9 (Ev.tmp rfl) (Ev.tmp rfl) rfl (by assumption)) (Nat.le_of_ble_eq_true rfl) ?_
      refine WL.callP Ev.func (Evs.cons (Ev.tmp rfl) Evs.nil) (allowed_ct _ _ _) (Nat.le_of_ble_eq_true rfl) ?_
      refine WL.po (PO.not (Ev.tmp rfl)) (Nat.le_of_ble_eq_true rfl) ?_
      refine WL.po (PO.assign (Ev.tmp rfl)) (Nat.le_of_ble_eq_true rfl) ?_
      refine WL.nil (keepF (ts := [0, 3, 6, 7, 17]) rfl (toK (by assumption) ?_))
      (try clear hG ops)
      (repeat (first | refine WC.seqK fun K hK => ?_ | refine WC.block ?_ | refine WC.regionG rfl fun ops hG => ?_))
      refine WC.cond (Ev.tmp rfl) (fun c17 => ?_) (fun c17 => ?_)
      · rw [c17] at hJ
        (repeat (first | refine WC.seqK fun K hK => ?_ | refine WC.block ?_ | refine WC.regionG rfl fun ops hG => ?_))
        refine WL.po (PO.move (Ev.tmp rfl)) (Nat.le_of_ble_eq_true rfl) ?_
        refine WL.po (PO.assign (Ev.tmp rfl)) (Nat.le_of_ble_eq_true rfl) ?_
        refine WL.nil (keepF (ts := [2]) rfl (toK (by assumption) ?_))
        (try clear hG ops)
        refine WC.ret (end1 (h' := h) (.inl rfl) rfl (RV.tmp rfl) (View.le.refl m) (by (repeat (first | exact List.Sublist.refl _ | refine List.Sublist.cons_cons _ ?_ | apply List.Sublist.cons))) ?_)
        exact ⟨by rw [hJ]; rfl, rfl⟩
      · rw [c17] at hJ
        refine WC.skip (keepF (ts := [0, 3, 6, 7]) rfl (toK (by assumption) ?_))
        (repeat (first | refine WC.seqK fun K hK => ?_ | refine WC.block ?_ | refine WC.regionG rfl fun ops hG => ?_))
        refine WL.po (PO.addI (Ev.tmp rfl) Ev.const (by omega)) (Nat.le_of_ble_eq_true rfl) ?_
        refine WL.po (PO.move (Ev.tmp rfl)) (Nat.le_of_ble_eq_true rfl) ?_
        refine WL.nil (loopBackI (s.length - (k + 1)) [(3, .int .i64 no), (7, .int .i64 (k + 1))] (h'' := h) (by omega) ?_ (by (repeat (first | exact Sub.nil | refine Sub.cons rfl ?_ | refine Sub.consE rfl (by simp; done) ?_))) (by (repeat (first | exact List.Sublist.refl _ | refine List.Sublist.cons_cons _ ?_ | apply List.Sublist.cons))) ⟨k + 1, no, ⟨⟨by omega, by omega⟩, hJ⟩, rfl, rfl, rfl⟩)
        (repeat (first | exact Sub.nil | refine Sub.cons rfl ?_ | refine Sub.consE rfl (by simp; done) ?_))
  · replace c8 := of_decide_eq_false c8
    rw [List.drop_eq_nil_of_le (by omega)] at hJ
    refine WC.exit (keepF (ts := []) rfl (toK (by assumption) ?_))
    (repeat (first | refine WC.seqK fun K hK => ?_ | refine WC.block ?_ | refine WC.regionG rfl fun ops hG => ?_))
    refine WL.po (PO.assign Ev.const) (Nat.le_of_ble_eq_true rfl) ?_
    refine WL.nil (keepF (ts := [2]) rfl (toK (by assumption) ?_))
    (try clear hG ops)
    refine WC.ret (end1 (h' := h) (.inl rfl) rfl (RV.tmp rfl) (View.le.refl m) (by (repeat (first | exact List.Sublist.refl _ | refine List.Sublist.cons_cons _ ?_ | apply List.Sublist.cons))) ?_)
    exact ⟨by rw [hJ]; rfl, rfl⟩
theorem pieces_ct (s : B) (h : List Res) (m : View) : CT Tryd.prog 21 [str s] h m (fun v _ h' => ∃ b, v = .func (.func 42) #[] #[.pointer (some ⟨b, 0, none⟩)] ∧ h' = .pt b (.cells [str s].toArray 9 (0, 0)) :: h) := by
  refine CT.body Tryd.call21 Tryd.func21 rfl Tryd.ntmps21 (Nat.le_of_ble_eq_true rfl) rfl ?_
  (repeat (first | refine WC.seqK fun K hK => ?_ | refine WC.block ?_ | refine WC.regionG rfl fun ops hG => ?_))
  refine WL.box (Ev.tmp rfl) rfl (Nat.le_of_ble_eq_true rfl) fun b1 => ?_
  refine WL.po (PO.assign Ev.const) (Nat.le_of_ble_eq_true rfl) ?_
  refine WL.nil (keepF (ts := [1]) rfl (toK (by assumption) ?_))
  (try clear hG ops)
  (repeat (first | refine WC.seqK fun K hK => ?_ | refine WC.block ?_ | refine WC.regionG rfl fun ops hG => ?_))
  refine WL.po (PO.makeFunc Evs.nil (Evs.cons (Ev.tmp rfl) Evs.nil)) (Nat.le_of_ble_eq_true rfl) ?_
  refine WL.po (PO.assign (Ev.tmp rfl)) (Nat.le_of_ble_eq_true rfl) ?_
  refine WL.nil (keepF (ts := [2]) rfl (toK (by assumption) ?_))
  (try clear hG ops)
  refine WC.ret (end1 (h' := .pt b1 (.cells [str s].toArray 9 (0, 0)) :: h) (.inl rfl) rfl (RV.tmp rfl) (View.le.refl m) (by (repeat (first | exact List.Sublist.refl _ | refine List.Sublist.cons_cons _ ?_ | apply List.Sublist.cons))) ?_)
  exact ⟨b1, rfl, rfl⟩
end Go.Proofs.YtmffmpadfpajcaaDoor

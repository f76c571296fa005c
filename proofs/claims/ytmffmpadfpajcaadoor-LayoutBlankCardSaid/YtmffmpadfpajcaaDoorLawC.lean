/- layout: LayoutBlank. -/
import Derived.Test.YtmffmpadfpajcaaDoorLayI
import Derived.Test.YtmffmpadfpajcaaDoorLayW
import Derived.Test.YtmffmpadfpajcaaDoorEng20
namespace Go.Proofs.YtmffmpadfpajcaaDoor
open Go.Eng Go.Ly Go
set_option maxRecDepth 100000
theorem joinN_ct (a : Addr) (n cap : Nat) (ps : List B) (h : List Res) (m : View) (hr : Rd m h (some a) n cap 1 (fl encB ps)) (hn : ps.length ≤ 140737488355328) (hl : (Lib.join ps [10]).length ≤ 140737488355328) (h0 : ps ≠ []) :
    CT Tryd.prog 17 [.slice (some a) n cap, str [10]] h m (Pure1 h (str (Lib.join ps [10]))) := by
  refine ⟨Tryd.call17, fun w st => ?_⟩
  have hln := hr.lenF encB_len (by decide)
  have hpos : 0 < ps.length := List.length_pos_iff.2 h0
  obtain ⟨b, o, e0, hc0⟩ := hr.at_ w st 0 (str (ps[0])) (fl_at (q := 0) encB_len (List.getElem?_eq_getElem hpos) 0 _ rfl)
  cases e0
  have hm : (ps.map fun x => (⟨x.toArray⟩ : ByteArray)).map (·.data.toList) = ps := by
    rw [List.map_map]
    exact List.map_id ps
  have key := Tryd.strings_Join b o cap (ps.map fun x => ⟨x.toArray⟩) ⟨#[10]⟩ w (fun j x hx => by
    simp only [List.getElem?_map, Option.map_eq_some_iff] at hx
    obtain ⟨y, hy, rfl⟩ := hx
    obtain ⟨b', o', e1, hc⟩ := hr.at_ w st j (str y) (by have := fl_at (q := j) encB_len hy 0 _ rfl; simpa using this)
    cases e1
    exact hc) (by
      rcases Nat.lt_or_ge b w.heap.size with h' | h'
      · exact h'
      · simp [World.cell?, Array.getElem?_eq_none h'] at hc0) (by simpa using hn) (by have := hr.le; simp; omega) (by rw [hm]; exact hl)
  rw [hm, List.length_map, hln] at key
  refine Calls.mono key ?_
  rintro e w' ⟨rfl, hb⟩
  exact ⟨_, m, h, rfl, View.le.refl m, st.wider hb.os hb.output hb.tape hb.block, rfl, rfl⟩
theorem rep_one (n : Nat) : Lib.repeatL [32] n = List.replicate n (32 : UInt8) := by
  induction n with
  | zero => rfl
  | succ n ih => rw [show Lib.repeatL [32] (n + 1) = [32] ++ Lib.repeatL [32] n from rfl, ih, List.replicate_succ]; rfl
theorem wrapS {t : Nat} (h : t < 65536) : IntKind.i64.wrap (t : Int) = (t : Int) := by
  rw [IntKind.wrap_i64]
  omega
theorem tmodS (t b : Nat) : ((t : Int)).tmod (b : Int) = ((t % b : Nat) : Int) := by
  rw [Int.tmod_eq_emod_of_nonneg (Int.natCast_nonneg _)]
  rfl
theorem chain_pos : ∀ {l : List Rw} {no d : Int}, chain no d l → 0 ≤ no → ∀ x ∈ l, 0 ≤ x.no ∧ x.no ≤ 65536
  | [], _, _, _, _, x, hx => by cases hx
  | y :: r, no, d, h, h0, x, hx => by
    obtain ⟨h1, h2, _⟩ := badR_no h.1
    rcases List.mem_cons.1 hx with rfl | hx
    · exact ⟨by omega, h2⟩
    · exact chain_pos h.2 (by omega) x hx
theorem rows_nos {src : B} (hs : src.length ≤ 3000) {l : List Rw} {no er : Nat} (h : rowsP src = (l, no, er)) : ∀ x ∈ l, 0 ≤ x.no ∧ x.no ≤ 65536 := by
  rcases rows_err (src := src) (by omega) with ⟨h1, _⟩ | ⟨h1, _⟩
  · rw [h] at h1
    obtain rfl : er = 0 := h1
    exact chain_pos (rows_valid hs h).2.1 (Int.le_refl 0)
  · rw [h] at h1
    obtain rfl : l = [] := h1
    intro x hx
    cases hx
theorem rows_line {src : B} (hs : src.length ≤ 3000) {l : List Rw} {no er : Nat} (h : rowsP src = (l, no, er)) (k : Nat) : (if er = 0 then no else shift k no) = shift k no := by
  split
  · rename_i h0
    subst h0
    obtain ⟨rfl, _⟩ := rows_valid hs h
    unfold shift
    rw [if_neg (by omega)]
  · rfl
theorem rows_nob {src : B} (hs : src.length ≤ 3000) {l : List Rw} {no er : Nat} (h : rowsP src = (l, no, er)) : no ≤ 5000 := by
  have h3 : (lines src).length ≤ src.length + 1 := lines_count src []
  rcases rows_err (src := src) (by omega) with ⟨_, h1⟩ | ⟨_, _, _, h2⟩
  · rw [h] at h1
    have h1 : no = 0 := h1
    omega
  · rw [h] at h2
    have h2 : no ≤ (lines src).length := h2
    omega
theorem blank_law {m : View} (hg : Glob m) (src cm : B) (at_ sp : Nat) (hat : at_ < 65536) (hsp : sp < 256) (h : List Res) : CT Tryd.prog 5 [str src, .int .u16 at_, .int .u8 sp, str cm] h m Law := by
  obtain ⟨t, ht⟩ : ∃ t, src.take (min src.length 2000) = t := ⟨_, rfl⟩
  obtain ⟨c, hcm⟩ : ∃ c, cm.take (min cm.length 50) = c := ⟨_, rfl⟩
  obtain ⟨⟨l, no, er⟩, hO⟩ : ∃ o, rowsP t = o := ⟨_, rfl⟩
  have hcut : t.length ≤ 2000 := by rw [← ht, List.length_take]; omega
  have hcc : c.length ≤ 50 := by rw [← hcm, List.length_take]; omega
  have hlc : (lines t).length ≤ t.length + 1 := lines_count t []
  obtain ⟨n0, hn0⟩ : ∃ n, sp % 80 = n := ⟨_, rfl⟩
  have hn80 : n0 < 80 := by omega
  obtain ⟨k0, hk0⟩ : ∃ k, at_ % ((lines t).length + 1) = k := ⟨_, rfl⟩
  have hkl : k0 ≤ (lines t).length := by have := Nat.mod_lt at_ (show (lines t).length + 1 > 0 by omega); omega
  refine CT.body Tryd.call5 Tryd.func5 rfl Tryd.ntmps5 (Nat.le_of_ble_eq_true rfl) rfl ?_
  (repeat (first | refine WC.seqK fun K hK => ?_ | refine WC.block ?_ | refine WC.regionG rfl fun ops hG => ?_))
  refine WL.po (PO.assign Ev.const) (Nat.le_of_ble_eq_true rfl) ?_
  refine WL.nil (keepF (ts := [0, 1, 2, 3]) rfl (toK (by assumption) ?_))
  (try clear hG ops)
  (repeat (first | refine WC.seqK fun K hK => ?_ | refine WC.block ?_ | refine WC.regionG rfl fun ops hG => ?_))
  refine WC.drawS [] (.op 0 (.op 1 (.op 2 (.op 3 (.op 4 (.op 5 (.op 6 (.op 7 (.op 8 (.op 9 (.op 10 .nil))))))))))) [11] _ [] mixed (fun _ _ _ _ _ h => h) [] (by kernel_rfl) ?_
  refine SR.po rfl rfl (PO.move (Ev.tmp rfl)) (Nat.le_of_ble_eq_true rfl) ?_
  refine SR.po rfl rfl (PO.move (Ev.tmp rfl)) (Nat.le_of_ble_eq_true rfl) ?_
  refine SR.po rfl rfl (PO.lenS Tryd.underlying9 (Ev.tmp rfl)) (Nat.le_of_ble_eq_true rfl) ?_
  refine SR.po rfl rfl (PO.min (Ev.tmp rfl) Ev.const) (Nat.le_of_ble_eq_true rfl) ?_
  refine SR.val (v' := .int .i64 ((min src.length 2000 : Nat) : Int)) (congrArg (Value.int .i64) (by split <;> omega)) ?_
  refine SR.po rfl rfl (PO.sliceSH Tryd.underlying9 (Ev.tmp rfl) (Ev.tmp rfl) rfl (by omega)) (Nat.le_of_ble_eq_true rfl) ?_
  refine SR.val (v' := str t) (congrArg str ht) ?_
  refine SR.po rfl rfl (PO.move (Ev.tmp rfl)) (Nat.le_of_ble_eq_true rfl) ?_
  refine SR.po rfl rfl (PO.move (Ev.tmp rfl)) (Nat.le_of_ble_eq_true rfl) ?_
  refine SR.po rfl rfl (PO.lenS Tryd.underlying9 (Ev.tmp rfl)) (Nat.le_of_ble_eq_true rfl) ?_
  refine SR.po rfl rfl (PO.min (Ev.tmp rfl) Ev.const) (Nat.le_of_ble_eq_true rfl) ?_
  refine SR.val (v' := .int .i64 ((min cm.length 50 : Nat) : Int)) (congrArg (Value.int .i64) (by split <;> omega)) ?_
  refine SR.po rfl rfl (PO.sliceSH Tryd.underlying9 (Ev.tmp rfl) (Ev.tmp rfl) rfl (by omega)) (Nat.le_of_ble_eq_true rfl) ?_
  refine SR.val (v' := str c) (congrArg str hcm) ?_
  refine SR.po rfl rfl (PO.assign (Ev.tmp rfl)) (Nat.le_of_ble_eq_true rfl) ?_
  refine SR.nil rfl rfl ?_
  refine WL.po (PO.assign (Ev.tmp rfl)) (Nat.le_of_ble_eq_true rfl) ?_
  refine WL.nil (keepF (ts := [0, 1, 2, 3]) rfl (toK (by assumption) ?_))
  (try clear hG ops)
  (repeat (first | refine WC.seqK fun K hK => ?_ | refine WC.block ?_ | refine WC.regionG rfl fun ops hG => ?_))
  refine WL.po (PO.assign Ev.const) (Nat.le_of_ble_eq_true rfl) ?_
  refine WL.nil (keepF (ts := [0, 1, 2, 3, 9]) rfl (toK (by assumption) ?_))
  (try clear hG ops)
  (repeat (first | refine WC.seqK fun K hK => ?_ | refine WC.block ?_ | refine WC.regionG rfl fun ops hG => ?_))
  refine WC.loopI [0, 1, 2, 3] rfl (fun μ F' h' => ∃ k : Nat, (k ≤ c.length ∧ c.all okB = (c.drop k).all okB) ∧ c.length - k = μ ∧ F' = [(9, .int .i64 k)] ∧ h = h') (c.length - 0) [(9, .int .i64 0)] (h0 := h) ?_ (by (repeat (first | exact List.Sublist.refl _ | refine List.Sublist.cons_cons _ ?_ | apply List.Sublist.cons))) ⟨0, ⟨by omega, rfl⟩, rfl, rfl, rfl⟩ ?_
  · (repeat (first | exact Sub.nil | refine Sub.cons rfl ?_ | refine Sub.consE rfl (by simp; done) ?_))
  rintro _ _ _ ⟨k, ⟨hk, hJ⟩, rfl, rfl, rfl⟩
  refine WC.frm rfl ?_
  (repeat (first | refine WC.seqK fun K hK => ?_ | refine WC.block ?_ | refine WC.regionG rfl fun ops hG => ?_))
  refine WL.po (PO.move (Ev.tmp rfl)) (Nat.le_of_ble_eq_true rfl) ?_
  refine WL.po (PO.move (Ev.tmp rfl)) (Nat.le_of_ble_eq_true rfl) ?_
  refine WL.po (PO.lenS Tryd.underlying9 (Ev.tmp rfl)) (Nat.le_of_ble_eq_true rfl) ?_
  refine WL.po (PO.bin (Ev.tmp rfl) (Ev.tmp rfl) rfl) (Nat.le_of_ble_eq_true rfl) ?_
  refine WL.nil (keepF (ts := [0, 1, 2, 3, 9, 35]) rfl (toK (by assumption) ?_))
  (try clear hG ops)
  (repeat (first | refine WC.seqK fun K hK => ?_ | refine WC.block ?_ | refine WC.regionG rfl fun ops hG => ?_))
  refine WC.cond (Ev.tmp rfl) (fun c35 => ?_) (fun c35 => ?_)
  · replace c35 := of_decide_eq_true c35
    obtain ⟨x, hx⟩ := get_some (l := c) (k := k) (by omega)
    have hJ := all_drop hx hJ
    have hn := okB_not x
    refine WC.skip (keepF (ts := [0, 1, 2, 3, 9]) rfl (toK (by assumption) ?_))
    (repeat (first | refine WC.seqK fun K hK => ?_ | refine WC.block ?_ | refine WC.regionG rfl fun ops hG => ?_))
    refine WL.po (PO.move (Ev.tmp rfl)) (Nat.le_of_ble_eq_true rfl) ?_
    refine WL.po (PO.move (Ev.tmp rfl)) (Nat.le_of_ble_eq_true rfl) ?_
    refine WL.po (PO.idxS Tryd.underlying9 (Ev.tmp rfl) (Ev.tmp rfl) rfl (by assumption)) (Nat.le_of_ble_eq_true rfl) ?_
    refine WL.po (PO.bin (Ev.tmp rfl) Ev.const rfl) (Nat.le_of_ble_eq_true rfl) ?_
    refine WL.po (PO.move (Ev.tmp rfl)) (Nat.le_of_ble_eq_true rfl) ?_
    refine WL.poG (GU.f (hG _ _ rfl) rfl) (fun hc => PO.move (Ev.tmp rfl)) (Nat.le_of_ble_eq_true rfl) ?_
    refine WL.poG (GU.f (hG _ _ rfl) rfl) (fun hc => PO.move (Ev.tmp rfl)) (Nat.le_of_ble_eq_true rfl) ?_
    refine WL.poG (GU.f (hG _ _ rfl) rfl) (fun hc => PO.idxS Tryd.underlying9 (Ev.gv rfl hc) (Ev.gv rfl hc) rfl (by assumption)) (Nat.le_of_ble_eq_true rfl) ?_
    refine WL.poG (GU.f (hG _ _ rfl) rfl) (fun hc => PO.bin (Ev.gv rfl hc) Ev.const rfl) (Nat.le_of_ble_eq_true rfl) ?_
    refine WL.po (PO.pickOr rfl rfl) (Nat.le_of_ble_eq_true rfl) ?_
    refine WL.nil (keepF (ts := [0, 1, 2, 3, 9, 47]) rfl (toK (by assumption) ?_))
    (try clear hG ops)
    (repeat (first | refine WC.seqK fun K hK => ?_ | refine WC.block ?_ | refine WC.regionG rfl fun ops hG => ?_))
    refine WC.cond (Ev.tmp rfl) (fun c47 => ?_) (fun c47 => ?_)
    · (repeat (first | refine WC.seqK fun K hK => ?_ | refine WC.block ?_ | refine WC.regionG rfl fun ops hG => ?_))
      refine WL.callP Ev.func Evs.nil (works_ct hg _) (Nat.le_of_ble_eq_true rfl) ?_
      refine WL.po (PO.assign (Ev.tmp rfl)) (Nat.le_of_ble_eq_true rfl) ?_
      refine WL.nil (keepF (ts := [8]) rfl (toK (by assumption) ?_))
      (try clear hG ops)
      refine WC.ret (end1 (h' := h) (.inl rfl) rfl (RV.tmp rfl) (View.le.refl m) (by (repeat (first | exact List.Sublist.refl _ | refine List.Sublist.cons_cons _ ?_ | apply List.Sublist.cons))) ?_)
      rfl
    · replace hn := hn.symm.trans c47
      refine WC.skip (keepF (ts := [0, 1, 2, 3, 9]) rfl (toK (by assumption) ?_))
      (repeat (first | refine WC.seqK fun K hK => ?_ | refine WC.block ?_ | refine WC.regionG rfl fun ops hG => ?_))
      refine WL.po (PO.move (Ev.tmp rfl)) (Nat.le_of_ble_eq_true rfl) ?_
      refine WL.po (PO.addI (Ev.tmp rfl) Ev.const (by omega)) (Nat.le_of_ble_eq_true rfl) ?_
      refine WL.po (PO.assign (Ev.tmp rfl)) (Nat.le_of_ble_eq_true rfl) ?_
      refine WL.nil (loopBackI (c.length - (k + 1)) [(9, .int .i64 (k + 1))] (h'' := h) (by omega) ?_ (by (repeat (first | exact Sub.nil | refine Sub.cons rfl ?_ | refine Sub.consE rfl (by simp; done) ?_))) (by (repeat (first | exact List.Sublist.refl _ | refine List.Sublist.cons_cons _ ?_ | apply List.Sublist.cons))) ⟨k + 1, ⟨by omega, by rw [hJ, show okB x = true by simpa using hn]; rfl⟩, rfl, rfl, rfl⟩)
      (repeat (first | exact Sub.nil | refine Sub.cons rfl ?_ | refine Sub.consE rfl (by simp; done) ?_))
  · replace c35 := of_decide_eq_false c35
    have hall : c.all okB = true := by rw [hJ, List.drop_eq_nil_of_le (by omega)]; rfl
    refine WC.exit (keepF (ts := [0, 1, 2, 3]) rfl (toK (by assumption) ?_))
    (repeat (first | refine WC.seqK fun K hK => ?_ | refine WC.block ?_ | refine WC.regionG rfl fun ops hG => ?_))
    refine WL.po (PO.move (Ev.tmp rfl)) (Nat.le_of_ble_eq_true rfl) ?_
    refine WL.callK Ev.func (Evs.cons (Ev.tmp rfl) (Evs.cons Ev.const Evs.nil)) (split_ct hg t (by omega) _) (Nat.le_of_ble_eq_true rfl) ?_
    rintro _ _ ⟨b50, rfl, rfl⟩
    refine WL.po (PO.assign (Ev.tmp rfl)) (Nat.le_of_ble_eq_true rfl) ?_
    refine WL.nil (keepF (ts := [0, 1, 2, 3, 10]) rfl (toK (by assumption) ?_))
    (try clear hG ops)
    (repeat (first | refine WC.seqK fun K hK => ?_ | refine WC.block ?_ | refine WC.regionG rfl fun ops hG => ?_))
    refine WL.po (PO.move (Ev.tmp rfl)) (Nat.le_of_ble_eq_true rfl) ?_
    refine WL.po (PO.conv Tryd.underlying37 Tryd.underlying3 (Ev.tmp rfl)) (Nat.le_of_ble_eq_true rfl) ?_
    refine WL.po (PO.move (Ev.tmp rfl)) (Nat.le_of_ble_eq_true rfl) ?_
    refine WL.po (PO.lenSl Tryd.underlying38 (Ev.tmp rfl)) (Nat.le_of_ble_eq_true rfl) ?_
    refine WL.po (PO.addI (Ev.tmp rfl) Ev.const (by omega)) (Nat.le_of_ble_eq_true rfl) ?_
    refine WL.po (PO.rem (Ev.tmp rfl) (Ev.tmp rfl) (by omega)) (Nat.le_of_ble_eq_true rfl) ?_
    refine WL.val (v' := .int .i64 (k0 : Nat)) (congrArg (Value.int .i64) (by rw [wrapS hat, ← hk0]; exact tmodS at_ ((lines t).length + 1))) ?_
    refine WL.po (PO.assign (Ev.tmp rfl)) (Nat.le_of_ble_eq_true rfl) ?_
    refine WL.nil (keepF (ts := [0, 2, 3, 10, 11]) rfl (toK (by assumption) ?_))
    (try clear hG ops)
    (repeat (first | refine WC.seqK fun K hK => ?_ | refine WC.block ?_ | refine WC.regionG rfl fun ops hG => ?_))
    refine WL.po (PO.move (Ev.tmp rfl)) (Nat.le_of_ble_eq_true rfl) ?_
    refine WL.po (PO.conv Tryd.underlying5 Tryd.underlying3 (Ev.tmp rfl)) (Nat.le_of_ble_eq_true rfl) ?_
    refine WL.po (PO.rem (Ev.tmp rfl) Ev.const (by decide)) (Nat.le_of_ble_eq_true rfl) ?_
    refine WL.val (v' := .int .i64 (n0 : Nat)) (congrArg (Value.int .i64) (by rw [wrapS (by omega), ← hn0]; exact tmodS sp 80)) ?_
    refine WL.callP Ev.func (Evs.cons Ev.const (Evs.cons (Ev.tmp rfl) Evs.nil)) (CT.val (repeat_ct [32] n0 _ _ (by simp; omega) (by omega)) (congrArg str (rep_one n0))) (Nat.le_of_ble_eq_true rfl) ?_
    refine WL.po (PO.assign (Ev.tmp rfl)) (Nat.le_of_ble_eq_true rfl) ?_
    refine WL.nil (keepF (ts := [0, 3, 10, 11, 12]) rfl (toK (by assumption) ?_))
    (try clear hG ops)
    (repeat (first | refine WC.seqK fun K hK => ?_ | refine WC.block ?_ | refine WC.regionG rfl fun ops hG => ?_))
    refine WL.po (PO.move (Ev.tmp rfl)) (Nat.le_of_ble_eq_true rfl) ?_
    refine WL.po (PO.lenS Tryd.underlying9 (Ev.tmp rfl)) (Nat.le_of_ble_eq_true rfl) ?_
    refine WL.po (PO.bin (Ev.tmp rfl) Ev.const rfl) (Nat.le_of_ble_eq_true rfl) ?_
    refine WL.nil (keepF (ts := [0, 3, 10, 11, 12, 63]) rfl (toK (by assumption) ?_))
    (try clear hG ops)
    (repeat refine WC.seqK fun K hK => ?_)
    refine WC.cutK (by assumption) [0, 10, 11] rfl (fun F' h' => ∃ b : B, (txt b = [] ∧ b.all okB = true ∧ b.length ≤ 200) ∧ F' = [(12, str b)] ∧ .pt b50 (.cells (fl encB (lines t)).toArray 9 (0, 0)) :: h = h') ?_ ?_
    · (repeat (first | refine WC.seqK fun K hK => ?_ | refine WC.block ?_ | refine WC.regionG rfl fun ops hG => ?_))
      refine WC.cond (Ev.tmp rfl) (fun c63 => ?_) (fun c63 => ?_)
      · replace c63 := of_decide_eq_true c63
        (repeat (first | refine WC.seqK fun K hK => ?_ | refine WC.block ?_ | refine WC.regionG rfl fun ops hG => ?_))
        refine WL.po (PO.move (Ev.tmp rfl)) (Nat.le_of_ble_eq_true rfl) ?_
        refine WL.po (PO.catS (Ev.tmp rfl) Ev.const (by simp; omega)) (Nat.le_of_ble_eq_true rfl) ?_
        refine WL.po (PO.move (Ev.tmp rfl)) (Nat.le_of_ble_eq_true rfl) ?_
        refine WL.po (PO.catS (Ev.tmp rfl) (Ev.tmp rfl) (by simp; omega)) (Nat.le_of_ble_eq_true rfl) ?_
        refine WL.po (PO.assign (Ev.tmp rfl)) (Nat.le_of_ble_eq_true rfl) ?_
        refine WL.nil (meetI [(12, str ((List.replicate n0 32 ++ [45, 45]) ++ c))] (h'' := .pt b50 (.cells (fl encB (lines t)).toArray 9 (0, 0)) :: h) ?_ (by (repeat (first | exact Sub.nil | refine Sub.cons rfl ?_ | refine Sub.consE rfl (by simp; done) ?_))) (by (repeat (first | exact List.Sublist.refl _ | refine List.Sublist.cons_cons _ ?_ | apply List.Sublist.cons))) ⟨(List.replicate n0 32 ++ [45, 45]) ++ c, ⟨by rw [List.append_assoc]; exact blank_txt n0 c, by rw [List.all_append, List.all_append, ok_rep, hall]; rfl, by simp; omega⟩, rfl, rfl⟩)
        (repeat (first | exact Sub.nil | refine Sub.cons rfl ?_ | refine Sub.consE rfl (by simp; done) ?_))
      · replace c63 := of_decide_eq_false c63
        refine WC.skip (meetI [(12, str (List.replicate n0 32))] (h'' := .pt b50 (.cells (fl encB (lines t)).toArray 9 (0, 0)) :: h) ?_ (by (repeat (first | exact Sub.nil | refine Sub.cons rfl ?_ | refine Sub.consE rfl (by simp; done) ?_))) (by (repeat (first | exact List.Sublist.refl _ | refine List.Sublist.cons_cons _ ?_ | apply List.Sublist.cons))) ⟨List.replicate n0 32, ⟨blank_txt0 n0, ok_rep n0, by simp; omega⟩, rfl, rfl⟩)
        (repeat (first | exact Sub.nil | refine Sub.cons rfl ?_ | refine Sub.consE rfl (by simp; done) ?_))
    rintro _ _ ⟨b, ⟨hb1, hb2, hb3⟩, rfl, rfl⟩
    refine WC.frm rfl ?_
    have hrd : Rd m (.pt b50 (.cells (fl encB (lines t)).toArray 9 (0, 0)) :: h) (some ⟨b50, 0, none⟩) (lines t).length (lines t).length 1 (fl encB (lines t)) := Rd.ofPt (by rw [fl_len encB_len]) (by omega) (List.Mem.head _)
    have hrT := Rd.takeF encB_len hrd (j := k0) hkl
    have hrD := Rd.dropF encB_len (by decide) hrd (i := k0) hkl
    (repeat refine WC.seqK fun K hK => ?_)
    refine WC.cutK (by assumption) [0, 11] rfl (fun F' h' => ∃ a : Option Addr, ∃ cp : Nat, (True) ∧ F' = [(13, .slice a (k0 + 1 + ((lines t).length - k0)) cp)] ∧ .row (.slice a (k0 + 1 + ((lines t).length - k0)) cp) 9 1 (k0 + 1 + ((lines t).length - k0)) (fl encB (((lines t).take k0 ++ [b]) ++ (lines t).drop k0)) :: .pt b50 (.cells (fl encB (lines t)).toArray 9 (0, 0)) :: h = h') ?_ ?_
    · (repeat (first | refine WC.seqK fun K hK => ?_ | refine WC.block ?_ | refine WC.regionG rfl fun ops hG => ?_))
      refine WC.drawS [0, 4, 6, 7] (.op 1 (.op 2 (.op 3 (.op 5 (.op 8 (.op 9 (.op 10 (.alt (.op 0 (.alt (.op 4 (.op 6 (.op 7 .nil))) (.op 6 (.op 4 (.op 7 .nil))))) (.op 6 (.op 0 (.op 4 (.op 7 .nil)))))))))))) [11, 12] _ [] mixed (fun _ _ _ _ _ h => h) [] (by kernel_rfl) ?_
      refine SR.po rfl rfl (PO.move (Ev.tmp rfl)) (Nat.le_of_ble_eq_true rfl) ?_
      refine SR.po rfl rfl (PO.move (Ev.tmp rfl)) (Nat.le_of_ble_eq_true rfl) ?_
      refine SR.po rfl rfl (PO.sliceH EL38.und EL38.size (Ev.tmp rfl) (Ev.tmp rfl) rfl (by omega)) (Nat.le_of_ble_eq_true rfl) ?_
      refine SR.po rfl rfl (PO.move (Ev.tmp rfl)) (Nat.le_of_ble_eq_true rfl) ?_
      refine SR.po rfl rfl (PO.move (Ev.tmp rfl)) (Nat.le_of_ble_eq_true rfl) ?_
      refine SR.po rfl rfl (PO.move (Ev.tmp rfl)) (Nat.le_of_ble_eq_true rfl) ?_
      refine SR.po rfl rfl (PO.sliceL EL38.und EL38.size (Ev.tmp rfl) (Ev.tmp rfl) rfl (by omega)) (Nat.le_of_ble_eq_true rfl) ?_
      refine SR.alt ?_ ?_
      · refine SR.buildSlice0 rfl rfl EL38 (Nat.le_of_ble_eq_true rfl) fun b68 => ?_
        refine SR.alt ?_ ?_
        · refine SR.appendE rfl rfl EL38 (Ev.tmp rfl) (Ev.tmp rfl) (by first | assumption | exact Rd.ofSl (by assumption) | exact Rd.ofPt rfl (by decide) (by (repeat (first | exact List.Mem.head _ | apply List.Mem.tail))) | exact Rd.mono (by assumption) (View.le.refl _) (by (repeat (first | exact List.Sublist.refl _ | refine List.Sublist.cons_cons _ ?_ | apply List.Sublist.cons))) | exact Rd.inRow (by (repeat (first | exact List.Mem.head _ | apply List.Mem.tail))) (by assumption) (by assumption) (by assumption)) (by first | exact one_of rfl | exact fl_ones (fun _ => rfl) _) (Nat.zero_add k0) rfl (by omega) (by omega) (fun v' => by (repeat (first | exact Upd.here | apply Upd.next))) (Nat.le_of_ble_eq_true rfl) fun a72 c72 => ?_
          refine SR.buildSlice rfl rfl EL38 rfl (EvP.cons (Ev.tmp rfl) EvP.nil) rfl rfl (by decide) rfl (Nat.le_of_ble_eq_true rfl) fun b74 => ?_
          refine SR.appendE rfl rfl EL38 (Ev.tmp rfl) (Ev.tmp rfl) (by first | assumption | exact Rd.ofSl (by assumption) | exact Rd.ofPt rfl (by decide) (by (repeat (first | exact List.Mem.head _ | apply List.Mem.tail))) | exact Rd.mono (by assumption) (View.le.refl _) (by (repeat (first | exact List.Sublist.refl _ | refine List.Sublist.cons_cons _ ?_ | apply List.Sublist.cons))) | exact Rd.inRow (by (repeat (first | exact List.Mem.head _ | apply List.Mem.tail))) (by assumption) (by assumption) (by assumption)) (by first | exact one_of rfl | exact fl_ones (fun _ => rfl) _) rfl (fl_snoc (enc := encB) _ (b)) (by omega) (by omega) (fun v' => by (repeat (first | exact Upd.here | apply Upd.next))) (Nat.le_of_ble_eq_true rfl) fun a75 c75 => ?_
          refine SR.nil rfl rfl ?_
          refine WL.appendE EL38 (Ev.tmp rfl) (Ev.tmp rfl) (by first | assumption | exact Rd.ofSl (by assumption) | exact Rd.ofPt rfl (by decide) (by (repeat (first | exact List.Mem.head _ | apply List.Mem.tail))) | exact Rd.mono (by assumption) (View.le.refl _) (by (repeat (first | exact List.Sublist.refl _ | refine List.Sublist.cons_cons _ ?_ | apply List.Sublist.cons))) | exact Rd.inRow (by (repeat (first | exact List.Mem.head _ | apply List.Mem.tail))) (by assumption) (by assumption) (by assumption)) (by first | exact one_of rfl | exact fl_ones (fun _ => rfl) _) rfl (fl_app _ _).symm (by omega) (by omega) (fun v' => by (repeat (first | exact Upd.here | apply Upd.next))) (Nat.le_of_ble_eq_true rfl) fun a79 c79 => ?_
          refine WL.po (PO.assign (Ev.tmp rfl)) (Nat.le_of_ble_eq_true rfl) ?_
          refine WL.nil (meetI [(13, .slice a79 (k0 + 1 + ((lines t).length - k0)) c79)] (h'' := .row (.slice a79 (k0 + 1 + ((lines t).length - k0)) c79) 9 1 (k0 + 1 + ((lines t).length - k0)) (fl encB (((lines t).take k0 ++ [b]) ++ (lines t).drop k0)) :: .pt b50 (.cells (fl encB (lines t)).toArray 9 (0, 0)) :: h) ?_ (by (repeat (first | exact Sub.nil | refine Sub.cons rfl ?_ | refine Sub.consE rfl (by simp; done) ?_))) (by (repeat (first | exact List.Sublist.refl _ | refine List.Sublist.cons_cons _ ?_ | apply List.Sublist.cons))) ⟨a79, c79, by trivial, rfl, rfl⟩)
          (repeat (first | exact Sub.nil | refine Sub.cons rfl ?_ | refine Sub.consE rfl (by simp; done) ?_))
        · refine SR.buildSlice rfl rfl EL38 rfl (EvP.cons (Ev.tmp rfl) EvP.nil) rfl rfl (by decide) rfl (Nat.le_of_ble_eq_true rfl) fun b74 => ?_
          refine SR.appendE rfl rfl EL38 (Ev.tmp rfl) (Ev.tmp rfl) (by first | assumption | exact Rd.ofSl (by assumption) | exact Rd.ofPt rfl (by decide) (by (repeat (first | exact List.Mem.head _ | apply List.Mem.tail))) | exact Rd.mono (by assumption) (View.le.refl _) (by (repeat (first | exact List.Sublist.refl _ | refine List.Sublist.cons_cons _ ?_ | apply List.Sublist.cons))) | exact Rd.inRow (by (repeat (first | exact List.Mem.head _ | apply List.Mem.tail))) (by assumption) (by assumption) (by assumption)) (by first | exact one_of rfl | exact fl_ones (fun _ => rfl) _) (Nat.zero_add k0) rfl (by omega) (by omega) (fun v' => by (repeat (first | exact Upd.here | apply Upd.next))) (Nat.le_of_ble_eq_true rfl) fun a72 c72 => ?_
          refine SR.appendE rfl rfl EL38 (Ev.tmp rfl) (Ev.tmp rfl) (by first | assumption | exact Rd.ofSl (by assumption) | exact Rd.ofPt rfl (by decide) (by (repeat (first | exact List.Mem.head _ | apply List.Mem.tail))) | exact Rd.mono (by assumption) (View.le.refl _) (by (repeat (first | exact List.Sublist.refl _ | refine List.Sublist.cons_cons _ ?_ | apply List.Sublist.cons))) | exact Rd.inRow (by (repeat (first | exact List.Mem.head _ | apply List.Mem.tail))) (by assumption) (by assumption) (by assumption)) (by first | exact one_of rfl | exact fl_ones (fun _ => rfl) _) rfl (fl_snoc (enc := encB) _ (b)) (by omega) (by omega) (fun v' => by (repeat (first | exact Upd.here | apply Upd.next))) (Nat.le_of_ble_eq_true rfl) fun a75 c75 => ?_
          refine SR.nil rfl rfl ?_
          refine WL.appendE EL38 (Ev.tmp rfl) (Ev.tmp rfl) (by first | assumption | exact Rd.ofSl (by assumption) | exact Rd.ofPt rfl (by decide) (by (repeat (first | exact List.Mem.head _ | apply List.Mem.tail))) | exact Rd.mono (by assumption) (View.le.refl _) (by (repeat (first | exact List.Sublist.refl _ | refine List.Sublist.cons_cons _ ?_ | apply List.Sublist.cons))) | exact Rd.inRow (by (repeat (first | exact List.Mem.head _ | apply List.Mem.tail))) (by assumption) (by assumption) (by assumption)) (by first | exact one_of rfl | exact fl_ones (fun _ => rfl) _) rfl (fl_app _ _).symm (by omega) (by omega) (fun v' => by (repeat (first | exact Upd.here | apply Upd.next))) (Nat.le_of_ble_eq_true rfl) fun a79 c79 => ?_
          refine WL.po (PO.assign (Ev.tmp rfl)) (Nat.le_of_ble_eq_true rfl) ?_
          refine WL.nil (meetI [(13, .slice a79 (k0 + 1 + ((lines t).length - k0)) c79)] (h'' := .row (.slice a79 (k0 + 1 + ((lines t).length - k0)) c79) 9 1 (k0 + 1 + ((lines t).length - k0)) (fl encB (((lines t).take k0 ++ [b]) ++ (lines t).drop k0)) :: .pt b50 (.cells (fl encB (lines t)).toArray 9 (0, 0)) :: h) ?_ (by (repeat (first | exact Sub.nil | refine Sub.cons rfl ?_ | refine Sub.consE rfl (by simp; done) ?_))) (by (repeat (first | exact List.Sublist.refl _ | refine List.Sublist.cons_cons _ ?_ | apply List.Sublist.cons))) ⟨a79, c79, by trivial, rfl, rfl⟩)
          (repeat (first | exact Sub.nil | refine Sub.cons rfl ?_ | refine Sub.consE rfl (by simp; done) ?_))
      · refine SR.buildSlice rfl rfl EL38 rfl (EvP.cons (Ev.tmp rfl) EvP.nil) rfl rfl (by decide) rfl (Nat.le_of_ble_eq_true rfl) fun b74 => ?_
        refine SR.buildSlice0 rfl rfl EL38 (Nat.le_of_ble_eq_true rfl) fun b68 => ?_
        refine SR.appendE rfl rfl EL38 (Ev.tmp rfl) (Ev.tmp rfl) (by first | assumption | exact Rd.ofSl (by assumption) | exact Rd.ofPt rfl (by decide) (by (repeat (first | exact List.Mem.head _ | apply List.Mem.tail))) | exact Rd.mono (by assumption) (View.le.refl _) (by (repeat (first | exact List.Sublist.refl _ | refine List.Sublist.cons_cons _ ?_ | apply List.Sublist.cons))) | exact Rd.inRow (by (repeat (first | exact List.Mem.head _ | apply List.Mem.tail))) (by assumption) (by assumption) (by assumption)) (by first | exact one_of rfl | exact fl_ones (fun _ => rfl) _) (Nat.zero_add k0) rfl (by omega) (by omega) (fun v' => by (repeat (first | exact Upd.here | apply Upd.next))) (Nat.le_of_ble_eq_true rfl) fun a72 c72 => ?_
        refine SR.appendE rfl rfl EL38 (Ev.tmp rfl) (Ev.tmp rfl) (by first | assumption | exact Rd.ofSl (by assumption) | exact Rd.ofPt rfl (by decide) (by (repeat (first | exact List.Mem.head _ | apply List.Mem.tail))) | exact Rd.mono (by assumption) (View.le.refl _) (by (repeat (first | exact List.Sublist.refl _ | refine List.Sublist.cons_cons _ ?_ | apply List.Sublist.cons))) | exact Rd.inRow (by (repeat (first | exact List.Mem.head _ | apply List.Mem.tail))) (by assumption) (by assumption) (by assumption)) (by first | exact one_of rfl | exact fl_ones (fun _ => rfl) _) rfl (fl_snoc (enc := encB) _ (b)) (by omega) (by omega) (fun v' => by (repeat (first | exact Upd.here | apply Upd.next))) (Nat.le_of_ble_eq_true rfl) fun a75 c75 => ?_
        refine SR.nil rfl rfl ?_
        refine WL.appendE EL38 (Ev.tmp rfl) (Ev.tmp rfl) (by first | assumption | exact Rd.ofSl (by assumption) | exact Rd.ofPt rfl (by decide) (by (repeat (first | exact List.Mem.head _ | apply List.Mem.tail))) | exact Rd.mono (by assumption) (View.le.refl _) (by (repeat (first | exact List.Sublist.refl _ | refine List.Sublist.cons_cons _ ?_ | apply List.Sublist.cons))) | exact Rd.inRow (by (repeat (first | exact List.Mem.head _ | apply List.Mem.tail))) (by assumption) (by assumption) (by assumption)) (by first | exact one_of rfl | exact fl_ones (fun _ => rfl) _) rfl (fl_app _ _).symm (by omega) (by omega) (fun v' => by (repeat (first | exact Upd.here | apply Upd.next))) (Nat.le_of_ble_eq_true rfl) fun a79 c79 => ?_
        refine WL.po (PO.assign (Ev.tmp rfl)) (Nat.le_of_ble_eq_true rfl) ?_
        refine WL.nil (meetI [(13, .slice a79 (k0 + 1 + ((lines t).length - k0)) c79)] (h'' := .row (.slice a79 (k0 + 1 + ((lines t).length - k0)) c79) 9 1 (k0 + 1 + ((lines t).length - k0)) (fl encB (((lines t).take k0 ++ [b]) ++ (lines t).drop k0)) :: .pt b50 (.cells (fl encB (lines t)).toArray 9 (0, 0)) :: h) ?_ (by (repeat (first | exact Sub.nil | refine Sub.cons rfl ?_ | refine Sub.consE rfl (by simp; done) ?_))) (by (repeat (first | exact List.Sublist.refl _ | refine List.Sublist.cons_cons _ ?_ | apply List.Sublist.cons))) ⟨a79, c79, by trivial, rfl, rfl⟩)
        (repeat (first | exact Sub.nil | refine Sub.cons rfl ?_ | refine Sub.consE rfl (by simp; done) ?_))
    rintro _ _ ⟨a, cp, hJ, rfl, rfl⟩
    refine WC.frm rfl ?_
    refine WC.know (fun w st => row_some (st.ok _ (List.Mem.head _)) (by omega)) ?_
    rintro ⟨hcp, ga, rfl⟩
    refine WC.knowRow (a := some ⟨ga, 0, none⟩) (List.Mem.head _) fun pj qj rj => ?_
    obtain ⟨LL, hLL⟩ : ∃ LL, ((lines t).take k0 ++ [b]) ++ (lines t).drop k0 = LL := ⟨_, rfl⟩
    have hLL2 : (lines t).take k0 ++ b :: (lines t).drop k0 = LL := by rw [← hLL]; simp
    obtain ⟨hJ1, hJ2⟩ := rows_blank hcut hb1 hb2 hb3 hkl
    rw [hLL2, hO] at hJ1
    rw [hLL2] at hJ2
    have hLn : LL.length ≤ 100000 := by rw [← hLL]; simp; omega
    have hLne : LL ≠ [] := by rw [← hLL]; simp
    rw [hLL] at rj ⊢
    have hnos := rows_nos (by omega) hO
    have hlin := rows_line (by omega) hO k0
    have hnob := rows_nob (by omega) hO
    have hJ3 : rowsP (Lib.join LL [10]) = (l.map (shR (shift k0)), shift k0 no, er) := by rw [hJ1]; unfold shO; rw [hlin]
    (repeat (first | refine WC.seqK fun K hK => ?_ | refine WC.block ?_ | refine WC.regionG rfl fun ops hG => ?_))
    refine WL.po (PO.move (Ev.tmp rfl)) (Nat.le_of_ble_eq_true rfl) ?_
    refine WL.callK Ev.func (Evs.cons (Ev.tmp rfl) Evs.nil) (rowsE_ct hg hO (by omega) _) (Nat.le_of_ble_eq_true rfl) ?_
    rintro _ _ ⟨a82, c82, rfl, rfl⟩
    refine WL.knowRow (a := a82) (by (repeat (first | exact List.Mem.head _ | apply List.Mem.tail))) fun p82 q82 r82 => ?_
    refine WL.po (PO.move (Ev.tmp rfl)) (Nat.le_of_ble_eq_true rfl) ?_
    refine WL.po (PO.extract (Ev.tmp rfl) rfl) (Nat.le_of_ble_eq_true rfl) ?_
    refine WL.po (PO.extract (Ev.tmp rfl) rfl) (Nat.le_of_ble_eq_true rfl) ?_
    refine WL.po (PO.extract (Ev.tmp rfl) rfl) (Nat.le_of_ble_eq_true rfl) ?_
    refine WL.po (PO.assign (Ev.tmp rfl)) (Nat.le_of_ble_eq_true rfl) ?_
    refine WL.po (PO.assign (Ev.tmp rfl)) (Nat.le_of_ble_eq_true rfl) ?_
    refine WL.po (PO.assign (Ev.tmp rfl)) (Nat.le_of_ble_eq_true rfl) ?_
    refine WL.nil (keepF (ts := [11, 13, 14, 15, 16]) rfl (toK (by assumption) ?_))
    (try clear hG ops)
    (repeat (first | refine WC.seqK fun K hK => ?_ | refine WC.block ?_ | refine WC.regionG rfl fun ops hG => ?_))
    refine WL.po (PO.move (Ev.tmp rfl)) (Nat.le_of_ble_eq_true rfl) ?_
    refine WL.callP Ev.func (Evs.cons (Ev.tmp rfl) (Evs.cons Ev.const Evs.nil)) (joinN_ct _ _ _ LL _ _ (by first | assumption | exact Rd.ofSl (by assumption) | exact Rd.ofPt rfl (by decide) (by (repeat (first | exact List.Mem.head _ | apply List.Mem.tail))) | exact Rd.mono (by assumption) (View.le.refl _) (by (repeat (first | exact List.Sublist.refl _ | refine List.Sublist.cons_cons _ ?_ | apply List.Sublist.cons))) | exact Rd.inRow (by (repeat (first | exact List.Mem.head _ | apply List.Mem.tail))) (by assumption) (by assumption) (by assumption)) (by omega) (by omega) hLne) (Nat.le_of_ble_eq_true rfl) ?_
    refine WL.callK Ev.func (Evs.cons (Ev.tmp rfl) Evs.nil) (rowsE_ct hg hJ3 (by omega) _) (Nat.le_of_ble_eq_true rfl) ?_
    rintro _ _ ⟨a89, c89, rfl, rfl⟩
    refine WL.knowRow (a := a89) (by (repeat (first | exact List.Mem.head _ | apply List.Mem.tail))) fun p89 q89 r89 => ?_
    refine WL.po (PO.move (Ev.tmp rfl)) (Nat.le_of_ble_eq_true rfl) ?_
    refine WL.po (PO.extract (Ev.tmp rfl) rfl) (Nat.le_of_ble_eq_true rfl) ?_
    refine WL.po (PO.extract (Ev.tmp rfl) rfl) (Nat.le_of_ble_eq_true rfl) ?_
    refine WL.po (PO.extract (Ev.tmp rfl) rfl) (Nat.le_of_ble_eq_true rfl) ?_
    refine WL.po (PO.assign (Ev.tmp rfl)) (Nat.le_of_ble_eq_true rfl) ?_
    refine WL.po (PO.assign (Ev.tmp rfl)) (Nat.le_of_ble_eq_true rfl) ?_
    refine WL.po (PO.assign (Ev.tmp rfl)) (Nat.le_of_ble_eq_true rfl) ?_
    refine WL.nil (keepF (ts := [11, 14, 15, 16, 17, 18, 19]) rfl (toK (by assumption) ?_))
    (try clear hG ops)
    (repeat (first | refine WC.seqK fun K hK => ?_ | refine WC.block ?_ | refine WC.regionG rfl fun ops hG => ?_))
    refine WL.po (PO.move (Ev.tmp rfl)) (Nat.le_of_ble_eq_true rfl) ?_
    refine WL.po (PO.move (Ev.tmp rfl)) (Nat.le_of_ble_eq_true rfl) ?_
    refine WL.po (PO.bin (Ev.tmp rfl) (Ev.tmp rfl) rfl) (Nat.le_of_ble_eq_true rfl) ?_
    refine WL.nil (keepF (ts := [11, 14, 15, 16, 17, 18, 19, 95]) rfl (toK (by assumption) ?_))
    (try clear hG ops)
    (repeat refine WC.seqK fun K hK => ?_)
    refine WC.cutK (by assumption) [11, 14, 16, 17, 18, 19] rfl (fun F' h' => ∃ z : Nat, (z = shift k0 no) ∧ F' = [(15, .int .i64 z)] ∧ .row (.slice a89 (l.map (shR (shift k0))).length c89) 34 3 (l.map (shR (shift k0))).length (fl encR (l.map (shR (shift k0)))) :: .row (.slice a82 l.length c82) 34 3 l.length (fl encR l) :: h = h') ?_ ?_
    · (repeat (first | refine WC.seqK fun K hK => ?_ | refine WC.block ?_ | refine WC.regionG rfl fun ops hG => ?_))
      refine WC.cond (Ev.tmp rfl) (fun c95 => ?_) (fun c95 => ?_)
      · replace c95 := of_decide_eq_true c95
        have hz : no + 1 = shift k0 no := by unfold shift; rw [if_pos (by omega)]
        (repeat (first | refine WC.seqK fun K hK => ?_ | refine WC.block ?_ | refine WC.regionG rfl fun ops hG => ?_))
        refine WL.po (PO.move (Ev.tmp rfl)) (Nat.le_of_ble_eq_true rfl) ?_
        refine WL.po (PO.addI (Ev.tmp rfl) Ev.const (by omega)) (Nat.le_of_ble_eq_true rfl) ?_
        refine WL.po (PO.assign (Ev.tmp rfl)) (Nat.le_of_ble_eq_true rfl) ?_
        refine WL.nil (meetI [(15, .int .i64 (no + 1))] (h'' := .row (.slice a89 (l.map (shR (shift k0))).length c89) 34 3 (l.map (shR (shift k0))).length (fl encR (l.map (shR (shift k0)))) :: .row (.slice a82 l.length c82) 34 3 l.length (fl encR l) :: h) ?_ (by (repeat (first | exact Sub.nil | refine Sub.cons rfl ?_ | refine Sub.consE rfl (by simp; done) ?_))) (by (repeat (first | exact List.Sublist.refl _ | refine List.Sublist.cons_cons _ ?_ | apply List.Sublist.cons))) ⟨no + 1, hz, rfl, rfl⟩)
        (repeat (first | exact Sub.nil | refine Sub.cons rfl ?_ | refine Sub.consE rfl (by simp; done) ?_))
      · replace c95 := of_decide_eq_false c95
        have hz : no = shift k0 no := by unfold shift; rw [if_neg (by omega)]
        refine WC.skip (meetI [(15, .int .i64 no)] (h'' := .row (.slice a89 (l.map (shR (shift k0))).length c89) 34 3 (l.map (shR (shift k0))).length (fl encR (l.map (shR (shift k0)))) :: .row (.slice a82 l.length c82) 34 3 l.length (fl encR l) :: h) ?_ (by (repeat (first | exact Sub.nil | refine Sub.cons rfl ?_ | refine Sub.consE rfl (by simp; done) ?_))) (by (repeat (first | exact List.Sublist.refl _ | refine List.Sublist.cons_cons _ ?_ | apply List.Sublist.cons))) ⟨no, hz, rfl, rfl⟩)
        (repeat (first | exact Sub.nil | refine Sub.cons rfl ?_ | refine Sub.consE rfl (by simp; done) ?_))
    rintro _ _ ⟨z, rfl, rfl, rfl⟩
    refine WC.frm rfl ?_
    have hrl : Rd m (.row (.slice a89 (l.map (shR (shift k0))).length c89) 34 3 (l.map (shR (shift k0))).length (fl encR (l.map (shR (shift k0)))) :: .row (.slice a82 l.length c82) 34 3 l.length (fl encR l) :: h) a82 l.length c82 3 (fl encR l) := Rd.inRow (List.Mem.tail _ (List.Mem.head _)) r82 p82 q82
    have hrx : Rd m (.row (.slice a89 (l.map (shR (shift k0))).length c89) 34 3 (l.map (shR (shift k0))).length (fl encR (l.map (shR (shift k0)))) :: .row (.slice a82 l.length c82) 34 3 l.length (fl encR l) :: h) a89 (l.map (shR (shift k0))).length c89 3 (fl encR (l.map (shR (shift k0)))) := Rd.inRow (List.Mem.head _) r89 p89 q89
    have hll : (l.map (shR (shift k0))).length = l.length := List.length_map _
    (repeat (first | refine WC.seqK fun K hK => ?_ | refine WC.block ?_ | refine WC.regionG rfl fun ops hG => ?_))
    refine WL.po (PO.move (Ev.tmp rfl)) (Nat.le_of_ble_eq_true rfl) ?_
    refine WL.po (PO.move (Ev.tmp rfl)) (Nat.le_of_ble_eq_true rfl) ?_
    refine WL.po (PO.bin (Ev.tmp rfl) (Ev.tmp rfl) rfl) (Nat.le_of_ble_eq_true rfl) ?_
    refine WL.po (PO.move (Ev.tmp rfl)) (Nat.le_of_ble_eq_true rfl) ?_
    refine WL.poG (GU.f (hG _ _ rfl) rfl) (fun hc => PO.move (Ev.tmp rfl)) (Nat.le_of_ble_eq_true rfl) ?_
    refine WL.poG (GU.f (hG _ _ rfl) rfl) (fun hc => PO.move (Ev.tmp rfl)) (Nat.le_of_ble_eq_true rfl) ?_
    refine WL.poG (GU.f (hG _ _ rfl) rfl) (fun hc => PO.bin (Ev.gv rfl hc) (Ev.gv rfl hc) rfl) (Nat.le_of_ble_eq_true rfl) ?_
    refine WL.po (PO.pickOr rfl rfl) (Nat.le_of_ble_eq_true rfl) ?_
    refine WL.po (PO.move (Ev.tmp rfl)) (Nat.le_of_ble_eq_true rfl) ?_
    refine WL.poG (GU.f (hG _ _ rfl) rfl) (fun hc => PO.move (Ev.tmp rfl)) (Nat.le_of_ble_eq_true rfl) ?_
    refine WL.poG (GU.f (hG _ _ rfl) rfl) (fun hc => PO.move (Ev.tmp rfl)) (Nat.le_of_ble_eq_true rfl) ?_
    refine WL.callG (GU.f (hG _ _ rfl) rfl) (fun hc => ⟨Ev.func, (Evs.cons (Ev.gv rfl hc) (Evs.cons (Ev.gv rfl hc) Evs.nil)), alike_ct _ _ _ _ _ _ (l.map (shR (shift k0))) l _ _ hrx hrl⟩) (Nat.le_of_ble_eq_true rfl) ?_
    refine WL.poG (GU.f (hG _ _ rfl) rfl) (fun hc => PO.not (Ev.gv rfl hc)) (Nat.le_of_ble_eq_true rfl) ?_
    refine WL.po (PO.pickOr rfl rfl) (Nat.le_of_ble_eq_true rfl) ?_
    refine WL.nil (keepF (ts := [11, 14, 17, 111]) rfl (toK (by assumption) ?_))
    (try clear hG ops)
    (repeat (first | refine WC.seqK fun K hK => ?_ | refine WC.block ?_ | refine WC.regionG rfl fun ops hG => ?_))
    refine WC.cond (Ev.tmp rfl) (fun c111 => ?_) (fun c111 => ?_)
    · exfalso
      rw [alike_sh] at c111
      simp at c111
    · refine WC.skip (keepF (ts := [11, 14, 17]) rfl (toK (by assumption) ?_))
      (repeat (first | refine WC.seqK fun K hK => ?_ | refine WC.block ?_ | refine WC.regionG rfl fun ops hG => ?_))
      refine WL.po (PO.move (Ev.tmp rfl)) (Nat.le_of_ble_eq_true rfl) ?_
      refine WL.po (PO.lenSl Tryd.underlying22 (Ev.tmp rfl)) (Nat.le_of_ble_eq_true rfl) ?_
      refine WL.po (PO.move Ev.const) (Nat.le_of_ble_eq_true rfl) ?_
      refine WL.nil (keepF (ts := [11, 14, 17, 113, 114]) rfl (toK (by assumption) ?_))
      (try clear hG ops)
      (repeat (first | refine WC.seqK fun K hK => ?_ | refine WC.block ?_ | refine WC.regionG rfl fun ops hG => ?_))
      refine WC.loopI [11, 14, 17, 113] rfl (fun μ F' h' => ∃ i : Nat, (i ≤ l.length) ∧ l.length - i = μ ∧ F' = [(114, .int .i64 i)] ∧ .row (.slice a89 (l.map (shR (shift k0))).length c89) 34 3 (l.map (shR (shift k0))).length (fl encR (l.map (shR (shift k0)))) :: .row (.slice a82 l.length c82) 34 3 l.length (fl encR l) :: h = h') (l.length - 0) [(114, .int .i64 0)] (h0 := .row (.slice a89 (l.map (shR (shift k0))).length c89) 34 3 (l.map (shR (shift k0))).length (fl encR (l.map (shR (shift k0)))) :: .row (.slice a82 l.length c82) 34 3 l.length (fl encR l) :: h) ?_ (by (repeat (first | exact List.Sublist.refl _ | refine List.Sublist.cons_cons _ ?_ | apply List.Sublist.cons))) ⟨0, by omega, rfl, rfl, rfl⟩ ?_
      · (repeat (first | exact Sub.nil | refine Sub.cons rfl ?_ | refine Sub.consE rfl (by simp; done) ?_))
      rintro _ _ _ ⟨i, hi, rfl, rfl, rfl⟩
      refine WC.frm rfl ?_
      (repeat (first | refine WC.seqK fun K hK => ?_ | refine WC.block ?_ | refine WC.regionG rfl fun ops hG => ?_))
      refine WL.po (PO.bin (Ev.tmp rfl) (Ev.tmp rfl) rfl) (Nat.le_of_ble_eq_true rfl) ?_
      refine WL.nil (keepF (ts := [11, 14, 17, 113, 114, 115]) rfl (toK (by assumption) ?_))
      (try clear hG ops)
      (repeat (first | refine WC.seqK fun K hK => ?_ | refine WC.block ?_ | refine WC.regionG rfl fun ops hG => ?_))
      refine WC.cond (Ev.tmp rfl) (fun c115 => ?_) (fun c115 => ?_)
      · replace c115 := of_decide_eq_true c115
        obtain ⟨y, hy⟩ := get_some (l := l) (k := i) (by omega)
        have hy2 : (l.map (shR (shift k0)))[i]? = some (shR (shift k0) y) := by rw [List.getElem?_map, hy]; rfl
        obtain ⟨hyn1, hyn2⟩ := hnos y (List.mem_of_getElem? hy)
        have hsh : (shR (shift k0) y).no = if y.no > k0 then y.no + 1 else y.no := by
          show ((shift k0 y.no.toNat : Nat) : Int) = _
          unfold shift
          split <;> split <;> omega
        refine WC.skip (keepF (ts := [11, 14, 17, 113, 114]) rfl (toK (by assumption) ?_))
        (repeat (first | refine WC.seqK fun K hK => ?_ | refine WC.block ?_ | refine WC.regionG rfl fun ops hG => ?_))
        refine WL.po (PO.move (Ev.tmp rfl)) (Nat.le_of_ble_eq_true rfl) ?_
        refine WL.po (PO.assign (Ev.tmp rfl)) (Nat.le_of_ble_eq_true rfl) ?_
        refine WL.nil (keepF (ts := [11, 14, 17, 20, 113, 114]) rfl (toK (by assumption) ?_))
        (try clear hG ops)
        (repeat (first | refine WC.seqK fun K hK => ?_ | refine WC.block ?_ | refine WC.regionG rfl fun ops hG => ?_))
        refine WL.po (PO.move (Ev.tmp rfl)) (Nat.le_of_ble_eq_true rfl) ?_
        refine WL.po (PO.move (Ev.tmp rfl)) (Nat.le_of_ble_eq_true rfl) ?_
        refine WL.po (PO.idx EL22.und EL22.size EL22.posz (Ev.tmp rfl) (Ev.tmp rfl) (by first | assumption | exact Rd.ofSl (by assumption) | exact Rd.ofPt rfl (by decide) (by (repeat (first | exact List.Mem.head _ | apply List.Mem.tail))) | exact Rd.mono (by assumption) (View.le.refl _) (by (repeat (first | exact List.Sublist.refl _ | refine List.Sublist.cons_cons _ ?_ | apply List.Sublist.cons))) | exact Rd.inRow (by (repeat (first | exact List.Mem.head _ | apply List.Mem.tail))) (by assumption) (by assumption) (by assumption)) rfl (by omega)) (Nat.le_of_ble_eq_true rfl) ?_
        refine WL.po (PO.fieldF Tryd.underlying34 rfl (Nat.ne_of_beq_eq_false rfl) encR_len (Nat.succ_pos _) (by first | assumption | exact Rd.ofSl (by assumption) | exact Rd.ofPt rfl (by decide) (by (repeat (first | exact List.Mem.head _ | apply List.Mem.tail))) | exact Rd.mono (by assumption) (View.le.refl _) (by (repeat (first | exact List.Sublist.refl _ | refine List.Sublist.cons_cons _ ?_ | apply List.Sublist.cons))) | exact Rd.inRow (by (repeat (first | exact List.Mem.head _ | apply List.Mem.tail))) (by assumption) (by assumption) (by assumption)) (by assumption) (Ev.tmp rfl)) (Nat.le_of_ble_eq_true rfl) ?_
        refine WL.po (PO.loadFf Tryd.underlying3 rfl encR_len (by first | assumption | exact Rd.ofSl (by assumption) | exact Rd.ofPt rfl (by decide) (by (repeat (first | exact List.Mem.head _ | apply List.Mem.tail))) | exact Rd.mono (by assumption) (View.le.refl _) (by (repeat (first | exact List.Sublist.refl _ | refine List.Sublist.cons_cons _ ?_ | apply List.Sublist.cons))) | exact Rd.inRow (by (repeat (first | exact List.Mem.head _ | apply List.Mem.tail))) (by assumption) (by assumption) (by assumption)) (Ev.tmp rfl) (by assumption) rfl) (Nat.le_of_ble_eq_true rfl) ?_
        refine WL.po (PO.assign (Ev.tmp rfl)) (Nat.le_of_ble_eq_true rfl) ?_
        refine WL.nil (keepF (ts := [11, 14, 17, 20, 21, 113, 114]) rfl (toK (by assumption) ?_))
        (try clear hG ops)
        (repeat (first | refine WC.seqK fun K hK => ?_ | refine WC.block ?_ | refine WC.regionG rfl fun ops hG => ?_))
        refine WL.po (PO.move (Ev.tmp rfl)) (Nat.le_of_ble_eq_true rfl) ?_
        refine WL.po (PO.move (Ev.tmp rfl)) (Nat.le_of_ble_eq_true rfl) ?_
        refine WL.po (PO.bin (Ev.tmp rfl) (Ev.tmp rfl) rfl) (Nat.le_of_ble_eq_true rfl) ?_
        refine WL.nil (keepF (ts := [11, 14, 17, 20, 21, 113, 114, 124]) rfl (toK (by assumption) ?_))
        (try clear hG ops)
        (repeat (first | refine WC.seqK fun K hK => ?_ | refine WC.block ?_ | refine WC.regionG rfl fun ops hG => ?_))
        refine WC.cond (Ev.tmp rfl) (fun c124 => ?_) (fun c124 => ?_)
        · replace c124 := of_decide_eq_true c124
          rw [if_pos c124] at hsh
          (repeat (first | refine WC.seqK fun K hK => ?_ | refine WC.block ?_ | refine WC.regionG rfl fun ops hG => ?_))
          refine WL.po (PO.move (Ev.tmp rfl)) (Nat.le_of_ble_eq_true rfl) ?_
          refine WL.po (PO.addI (Ev.tmp rfl) Ev.const (by omega)) (Nat.le_of_ble_eq_true rfl) ?_
          refine WL.po (PO.assign (Ev.tmp rfl)) (Nat.le_of_ble_eq_true rfl) ?_
          refine WL.nil (keepF (ts := [11, 14, 17, 20, 21, 113, 114]) rfl (toK (by assumption) ?_))
          (try clear hG ops)
          (repeat (first | refine WC.seqK fun K hK => ?_ | refine WC.block ?_ | refine WC.regionG rfl fun ops hG => ?_))
          refine WL.po (PO.move (Ev.tmp rfl)) (Nat.le_of_ble_eq_true rfl) ?_
          refine WL.po (PO.move (Ev.tmp rfl)) (Nat.le_of_ble_eq_true rfl) ?_
          refine WL.po (PO.idx EL22.und EL22.size EL22.posz (Ev.tmp rfl) (Ev.tmp rfl) (by first | assumption | exact Rd.ofSl (by assumption) | exact Rd.ofPt rfl (by decide) (by (repeat (first | exact List.Mem.head _ | apply List.Mem.tail))) | exact Rd.mono (by assumption) (View.le.refl _) (by (repeat (first | exact List.Sublist.refl _ | refine List.Sublist.cons_cons _ ?_ | apply List.Sublist.cons))) | exact Rd.inRow (by (repeat (first | exact List.Mem.head _ | apply List.Mem.tail))) (by assumption) (by assumption) (by assumption)) rfl (by omega)) (Nat.le_of_ble_eq_true rfl) ?_
          refine WL.po (PO.fieldF Tryd.underlying34 rfl (Nat.ne_of_beq_eq_false rfl) encR_len (Nat.succ_pos _) (by first | assumption | exact Rd.ofSl (by assumption) | exact Rd.ofPt rfl (by decide) (by (repeat (first | exact List.Mem.head _ | apply List.Mem.tail))) | exact Rd.mono (by assumption) (View.le.refl _) (by (repeat (first | exact List.Sublist.refl _ | refine List.Sublist.cons_cons _ ?_ | apply List.Sublist.cons))) | exact Rd.inRow (by (repeat (first | exact List.Mem.head _ | apply List.Mem.tail))) (by assumption) (by assumption) (by assumption)) (by assumption) (Ev.tmp rfl)) (Nat.le_of_ble_eq_true rfl) ?_
          refine WL.po (PO.loadFf Tryd.underlying3 rfl encR_len (by first | assumption | exact Rd.ofSl (by assumption) | exact Rd.ofPt rfl (by decide) (by (repeat (first | exact List.Mem.head _ | apply List.Mem.tail))) | exact Rd.mono (by assumption) (View.le.refl _) (by (repeat (first | exact List.Sublist.refl _ | refine List.Sublist.cons_cons _ ?_ | apply List.Sublist.cons))) | exact Rd.inRow (by (repeat (first | exact List.Mem.head _ | apply List.Mem.tail))) (by assumption) (by assumption) (by assumption)) (Ev.tmp rfl) (by assumption) rfl) (Nat.le_of_ble_eq_true rfl) ?_
          refine WL.po (PO.move (Ev.tmp rfl)) (Nat.le_of_ble_eq_true rfl) ?_
          refine WL.po (PO.bin (Ev.tmp rfl) (Ev.tmp rfl) rfl) (Nat.le_of_ble_eq_true rfl) ?_
          refine WL.nil (keepF (ts := [11, 14, 17, 113, 114, 133]) rfl (toK (by assumption) ?_))
          (try clear hG ops)
          (repeat (first | refine WC.seqK fun K hK => ?_ | refine WC.block ?_ | refine WC.regionG rfl fun ops hG => ?_))
          refine WC.cond (Ev.tmp rfl) (fun c133 => ?_) (fun c133 => ?_)
          · exfalso
            rw [hsh] at c133
            simp at c133
          · refine WC.skip (keepF (ts := [11, 14, 17, 113, 114]) rfl (toK (by assumption) ?_))
            (repeat (first | refine WC.seqK fun K hK => ?_ | refine WC.block ?_ | refine WC.regionG rfl fun ops hG => ?_))
            refine WL.po (PO.addI (Ev.tmp rfl) Ev.const (by omega)) (Nat.le_of_ble_eq_true rfl) ?_
            refine WL.po (PO.move (Ev.tmp rfl)) (Nat.le_of_ble_eq_true rfl) ?_
            refine WL.nil (loopBackI (l.length - (i + 1)) [(114, .int .i64 (i + 1))] (h'' := .row (.slice a89 (l.map (shR (shift k0))).length c89) 34 3 (l.map (shR (shift k0))).length (fl encR (l.map (shR (shift k0)))) :: .row (.slice a82 l.length c82) 34 3 l.length (fl encR l) :: h) (by omega) ?_ (by (repeat (first | exact Sub.nil | refine Sub.cons rfl ?_ | refine Sub.consE rfl (by simp; done) ?_))) (by (repeat (first | exact List.Sublist.refl _ | refine List.Sublist.cons_cons _ ?_ | apply List.Sublist.cons))) ⟨i + 1, by omega, rfl, rfl, rfl⟩)
            (repeat (first | exact Sub.nil | refine Sub.cons rfl ?_ | refine Sub.consE rfl (by simp; done) ?_))
        · replace c124 := of_decide_eq_false c124
          rw [if_neg c124] at hsh
          refine WC.skip (keepF (ts := [11, 14, 17, 20, 21, 113, 114]) rfl (toK (by assumption) ?_))
          (repeat (first | refine WC.seqK fun K hK => ?_ | refine WC.block ?_ | refine WC.regionG rfl fun ops hG => ?_))
          refine WL.po (PO.move (Ev.tmp rfl)) (Nat.le_of_ble_eq_true rfl) ?_
          refine WL.po (PO.move (Ev.tmp rfl)) (Nat.le_of_ble_eq_true rfl) ?_
          refine WL.po (PO.idx EL22.und EL22.size EL22.posz (Ev.tmp rfl) (Ev.tmp rfl) (by first | assumption | exact Rd.ofSl (by assumption) | exact Rd.ofPt rfl (by decide) (by (repeat (first | exact List.Mem.head _ | apply List.Mem.tail))) | exact Rd.mono (by assumption) (View.le.refl _) (by (repeat (first | exact List.Sublist.refl _ | refine List.Sublist.cons_cons _ ?_ | apply List.Sublist.cons))) | exact Rd.inRow (by (repeat (first | exact List.Mem.head _ | apply List.Mem.tail))) (by assumption) (by assumption) (by assumption)) rfl (by omega)) (Nat.le_of_ble_eq_true rfl) ?_
          refine WL.po (PO.fieldF Tryd.underlying34 rfl (Nat.ne_of_beq_eq_false rfl) encR_len (Nat.succ_pos _) (by first | assumption | exact Rd.ofSl (by assumption) | exact Rd.ofPt rfl (by decide) (by (repeat (first | exact List.Mem.head _ | apply List.Mem.tail))) | exact Rd.mono (by assumption) (View.le.refl _) (by (repeat (first | exact List.Sublist.refl _ | refine List.Sublist.cons_cons _ ?_ | apply List.Sublist.cons))) | exact Rd.inRow (by (repeat (first | exact List.Mem.head _ | apply List.Mem.tail))) (by assumption) (by assumption) (by assumption)) (by assumption) (Ev.tmp rfl)) (Nat.le_of_ble_eq_true rfl) ?_
          refine WL.po (PO.loadFf Tryd.underlying3 rfl encR_len (by first | assumption | exact Rd.ofSl (by assumption) | exact Rd.ofPt rfl (by decide) (by (repeat (first | exact List.Mem.head _ | apply List.Mem.tail))) | exact Rd.mono (by assumption) (View.le.refl _) (by (repeat (first | exact List.Sublist.refl _ | refine List.Sublist.cons_cons _ ?_ | apply List.Sublist.cons))) | exact Rd.inRow (by (repeat (first | exact List.Mem.head _ | apply List.Mem.tail))) (by assumption) (by assumption) (by assumption)) (Ev.tmp rfl) (by assumption) rfl) (Nat.le_of_ble_eq_true rfl) ?_
          refine WL.po (PO.move (Ev.tmp rfl)) (Nat.le_of_ble_eq_true rfl) ?_
          refine WL.po (PO.bin (Ev.tmp rfl) (Ev.tmp rfl) rfl) (Nat.le_of_ble_eq_true rfl) ?_
          refine WL.nil (keepF (ts := [11, 14, 17, 113, 114, 133]) rfl (toK (by assumption) ?_))
          (try clear hG ops)
          (repeat (first | refine WC.seqK fun K hK => ?_ | refine WC.block ?_ | refine WC.regionG rfl fun ops hG => ?_))
          refine WC.cond (Ev.tmp rfl) (fun c133 => ?_) (fun c133 => ?_)
          · exfalso
            rw [hsh] at c133
            simp at c133
          · refine WC.skip (keepF (ts := [11, 14, 17, 113, 114]) rfl (toK (by assumption) ?_))
            (repeat (first | refine WC.seqK fun K hK => ?_ | refine WC.block ?_ | refine WC.regionG rfl fun ops hG => ?_))
            refine WL.po (PO.addI (Ev.tmp rfl) Ev.const (by omega)) (Nat.le_of_ble_eq_true rfl) ?_
            refine WL.po (PO.move (Ev.tmp rfl)) (Nat.le_of_ble_eq_true rfl) ?_
            refine WL.nil (loopBackI (l.length - (i + 1)) [(114, .int .i64 (i + 1))] (h'' := .row (.slice a89 (l.map (shR (shift k0))).length c89) 34 3 (l.map (shR (shift k0))).length (fl encR (l.map (shR (shift k0)))) :: .row (.slice a82 l.length c82) 34 3 l.length (fl encR l) :: h) (by omega) ?_ (by (repeat (first | exact Sub.nil | refine Sub.cons rfl ?_ | refine Sub.consE rfl (by simp; done) ?_))) (by (repeat (first | exact List.Sublist.refl _ | refine List.Sublist.cons_cons _ ?_ | apply List.Sublist.cons))) ⟨i + 1, by omega, rfl, rfl, rfl⟩)
            (repeat (first | exact Sub.nil | refine Sub.cons rfl ?_ | refine Sub.consE rfl (by simp; done) ?_))
      · replace c115 := of_decide_eq_false c115
        refine WC.exit (keepF (ts := []) rfl (toK (by assumption) ?_))
        (repeat (first | refine WC.seqK fun K hK => ?_ | refine WC.block ?_ | refine WC.regionG rfl fun ops hG => ?_))
        refine WL.callP Ev.func Evs.nil (works_ct hg _) (Nat.le_of_ble_eq_true rfl) ?_
        refine WL.po (PO.assign (Ev.tmp rfl)) (Nat.le_of_ble_eq_true rfl) ?_
        refine WL.nil (keepF (ts := [8]) rfl (toK (by assumption) ?_))
        (try clear hG ops)
        refine WC.ret (end1 (h' := h) (.inl rfl) rfl (RV.tmp rfl) (View.le.refl m) (by (repeat (first | exact List.Sublist.refl _ | refine List.Sublist.cons_cons _ ?_ | apply List.Sublist.cons))) ?_)
        rfl
end Go.Proofs.YtmffmpadfpajcaaDoor

/- layout: LayoutKnown. -/
import Derived.Test.YtmffmpadfpajcaaDoorLayI
import Derived.Test.YtmffmpadfpajcaaDoorLayV
namespace Go.Proofs.YtmffmpadfpajcaaDoor
open Go.Eng Go.Ly Go
set_option maxRecDepth 100000
theorem spaces_ct (n : Nat) (h : List Res) (m : View) (hn : n ≤ 1000000) : CT Tryd.prog 19 [.int .i64 n] h m (Pure1 h (str (List.replicate n 32))) := by
  refine CT.body Tryd.call19 Tryd.func19 rfl Tryd.ntmps19 (Nat.le_of_ble_eq_true rfl) rfl ?_
  (repeat (first | refine WC.seqK fun K hK => ?_ | refine WC.block ?_ | refine WC.regionG rfl fun ops hG => ?_))
  refine WL.po (PO.assign Ev.const) (Nat.le_of_ble_eq_true rfl) ?_
  refine WL.nil (keepF (ts := [0]) rfl (toK (by assumption) ?_))
  (try clear hG ops)
  (repeat (first | refine WC.seqK fun K hK => ?_ | refine WC.block ?_ | refine WC.regionG rfl fun ops hG => ?_))
  refine WL.po (PO.assign Ev.const) (Nat.le_of_ble_eq_true rfl) ?_
  refine WL.nil (keepF (ts := [0, 3]) rfl (toK (by assumption) ?_))
  (try clear hG ops)
  (repeat (first | refine WC.seqK fun K hK => ?_ | refine WC.block ?_ | refine WC.regionG rfl fun ops hG => ?_))
  refine WL.po (PO.assign Ev.const) (Nat.le_of_ble_eq_true rfl) ?_
  refine WL.nil (keepF (ts := [0, 3, 4]) rfl (toK (by assumption) ?_))
  (try clear hG ops)
  (repeat (first | refine WC.seqK fun K hK => ?_ | refine WC.block ?_ | refine WC.regionG rfl fun ops hG => ?_))
  refine WC.loopI [0] rfl (fun μ F' h' => ∃ k : Nat, (k ≤ n) ∧ n - k = μ ∧ F' = [(3, str (List.replicate k 32)), (4, .int .i64 k)] ∧ h = h') (n - 0) [(3, str (List.replicate 0 32)), (4, .int .i64 0)] (h0 := h) ?_ (by (repeat (first | exact List.Sublist.refl _ | refine List.Sublist.cons_cons _ ?_ | apply List.Sublist.cons))) ⟨0, by omega, rfl, rfl, rfl⟩ ?_
  · (repeat (first | exact Sub.nil | refine Sub.cons rfl ?_ | refine Sub.consE rfl (by simp; done) ?_))
  rintro _ _ _ ⟨k, hk, rfl, rfl, rfl⟩
  refine WC.frm rfl ?_
  (repeat (first | refine WC.seqK fun K hK => ?_ | refine WC.block ?_ | refine WC.regionG rfl fun ops hG => ?_))
  refine WL.po (PO.move (Ev.tmp rfl)) (Nat.le_of_ble_eq_true rfl) ?_
  refine WL.po (PO.move (Ev.tmp rfl)) (Nat.le_of_ble_eq_true rfl) ?_
  refine WL.po (PO.bin (Ev.tmp rfl) (Ev.tmp rfl) rfl) (Nat.le_of_ble_eq_true rfl) ?_
  refine WL.nil (keepF (ts := [0, 3, 4, 7]) rfl (toK (by assumption) ?_))
  (try clear hG ops)
  (repeat (first | refine WC.seqK fun K hK => ?_ | refine WC.block ?_ | refine WC.regionG rfl fun ops hG => ?_))
  refine WC.cond (Ev.tmp rfl) (fun c7 => ?_) (fun c7 => ?_)
  · replace c7 := of_decide_eq_true c7
    have hrl : (List.replicate k (32 : UInt8)).length = k := List.length_replicate
    have hrs : List.replicate k (32 : UInt8) ++ [32] = List.replicate (k + 1) 32 := (List.replicate_succ' ..).symm
    refine WC.skip (keepF (ts := [0, 3, 4]) rfl (toK (by assumption) ?_))
    (repeat (first | refine WC.seqK fun K hK => ?_ | refine WC.block ?_ | refine WC.regionG rfl fun ops hG => ?_))
    refine WL.po (PO.move (Ev.tmp rfl)) (Nat.le_of_ble_eq_true rfl) ?_
    refine WL.po (PO.catS (Ev.tmp rfl) Ev.const (by simp; omega)) (Nat.le_of_ble_eq_true rfl) ?_
    refine WL.po (PO.assign (Ev.tmp rfl)) (Nat.le_of_ble_eq_true rfl) ?_
    refine WL.nil (keepF (ts := [0, 3, 4]) rfl (toK (by assumption) ?_))
    (try clear hG ops)
    (repeat (first | refine WC.seqK fun K hK => ?_ | refine WC.block ?_ | refine WC.regionG rfl fun ops hG => ?_))
    refine WL.po (PO.move (Ev.tmp rfl)) (Nat.le_of_ble_eq_true rfl) ?_
    refine WL.po (PO.addI (Ev.tmp rfl) Ev.const (by omega)) (Nat.le_of_ble_eq_true rfl) ?_
    refine WL.po (PO.assign (Ev.tmp rfl)) (Nat.le_of_ble_eq_true rfl) ?_
    refine WL.nil (loopBackI (n - (k + 1)) [(3, str (List.replicate (k + 1) 32)), (4, .int .i64 (k + 1))] (h'' := h) (by omega) ?_ (by (repeat (first | exact Sub.nil | refine Sub.cons rfl ?_ | refine Sub.consE rfl (by simp; done) ?_))) (by (repeat (first | exact List.Sublist.refl _ | refine List.Sublist.cons_cons _ ?_ | apply List.Sublist.cons))) ⟨k + 1, by omega, rfl, rfl, rfl⟩)
    rw [← hrs]; (repeat (first | exact Sub.nil | refine Sub.cons rfl ?_ | refine Sub.consE rfl (by simp; done) ?_))
  · replace c7 := of_decide_eq_false c7
    have hk2 : k = n := by omega
    subst hk2
    refine WC.exit (keepF (ts := [3]) rfl (toK (by assumption) ?_))
    (repeat (first | refine WC.seqK fun K hK => ?_ | refine WC.block ?_ | refine WC.regionG rfl fun ops hG => ?_))
    refine WL.po (PO.move (Ev.tmp rfl)) (Nat.le_of_ble_eq_true rfl) ?_
    refine WL.po (PO.assign (Ev.tmp rfl)) (Nat.le_of_ble_eq_true rfl) ?_
    refine WL.nil (keepF (ts := [2]) rfl (toK (by assumption) ?_))
    (try clear hG ops)
    refine WC.ret (end1 (h' := h) (.inl rfl) rfl (RV.tmp rfl) (View.le.refl m) (by (repeat (first | exact List.Sublist.refl _ | refine List.Sublist.cons_cons _ ?_ | apply List.Sublist.cons))) ?_)
    exact ⟨rfl, rfl⟩
/- many rows -/
def aRow : Rw := ⟨0, 0, [97]⟩
theorem run_as : ∀ (n k : Nat) (s : S), s.parts = [] → s.before = 0 ∨ s.before = -1 → s.out.length + n = 2048 → ∃ s', s'.parts = [] ∧ (s'.before = 0 ∨ s'.before = -1) ∧ s'.out.length = 2048 ∧ ∀ r, run (renP k (List.replicate n aRow ++ r)) s = run (renP (k + n) r) s'
  | 0, k, s, hp, hb, hl => ⟨s, hp, hb, by omega, fun r => rfl⟩
  | n + 1, k, s, hp, hb, hl => by
    obtain ⟨s1, e1⟩ : ∃ s1, closeS (takeS s ⟨k + 1, 0, [97]⟩) = s1 := ⟨_, rfl⟩
    have et : textS (takeS s ⟨k + 1, 0, [97]⟩) = [97] := by rw [text_take, hp]; rfl
    have ef : (takeS s ⟨k + 1, 0, [97]⟩).first = ⟨k + 1, 0, [97]⟩ := by simp [takeS, hp]
    have eo : s1.out.length = s.out.length + 1 := by rw [← e1]; simp [closeS, takeS]
    obtain ⟨s', h1, h2, h3, h4⟩ := run_as n (k + 1) s1 (by rw [← e1]; rfl) (.inl (by rw [← e1]; show (((takeS s _).first.ind / 2 : Nat) : Int) = 0; rw [ef]; simp)) (by omega)
    refine ⟨s', h1, h2, h3, fun r => ?_⟩
    have hlg : longS (takeS s ⟨k + 1, 0, [97]⟩) = false := by
      unfold longS
      rw [et, ef]
      simp only [Bool.or_eq_false_iff, decide_eq_false_iff_not]
      exact ⟨⟨by decide, by decide⟩, by show ¬ s.out.length = 2048; omega⟩
    have hst : run (renP k (List.replicate (n + 1) aRow ++ r)) s = run (renP (k + 1) (List.replicate n aRow ++ r)) s1 := by
      rw [List.replicate_succ, List.cons_append]
      show run (⟨k + 1, 0, [97]⟩ :: renP (k + 1) _) s = _
      rw [run_first hp, if_neg (by simp; rcases hb with hb | hb <;> rw [hb] <;> decide)]
      unfold finS
      rw [et, hlg, e1]
      rfl
    rw [hst, h4, show k + 1 + n = k + (n + 1) by omega]
theorem rep_as : ∀ n : Nat, Lib.repeatL [97, 10] n = srcP (List.replicate n aRow)
  | 0 => rfl
  | n + 1 => by
    rw [List.replicate_succ]
    show [97, 10] ++ Lib.repeatL [97, 10] n = srcR aRow ++ srcP (List.replicate n aRow)
    rw [rep_as n]
    rfl
theorem aV : TxtV aRow.text := TxtV.of_valid (by decide)
theorem many_rows : rowsP (Lib.repeatL [97, 10] 2049) = ([], 2049, 3) := by
  have hv : ∀ x ∈ List.replicate 2049 aRow, TxtV x.text := fun x hx => by rw [List.eq_of_mem_replicate hx]; exact aV
  have hls := lines_src hv
  have hlen : (srcP (List.replicate 2049 aRow)).length = 4098 := by
    rw [← rep_as, Lib.repeatL_length]
    rfl
  rw [rep_as]
  have hw : wrongP 1 (srcP (List.replicate 2049 aRow)) = 0 := by
    rw [← wrong_lines, hls]
    refine wrongL_none 0 fun x hx => ?_
    rcases List.mem_append.1 hx with hx | hx
    · obtain ⟨y, hy, rfl⟩ := List.mem_map.1 hx
      exact line_ok (hv y hy)
    · rw [List.mem_singleton.1 hx]
      rfl
  unfold rowsP
  rw [if_neg (by omega), hw, if_neg (by omega), hls, pieces_src 0 hv]
  obtain ⟨s', h1, h2, h3, h4⟩ := run_as 2048 0 s0 rfl (.inr rfl) (by decide)
  rw [show (2049 : Nat) = 2048 + 1 from rfl, List.replicate_succ', h4]
  show run (⟨2049, 0, [97]⟩ :: []) s' = _
  rw [run_first h1, if_neg (by simp; rcases h2 with hb | hb <;> rw [hb] <;> decide)]
  have et : textS (takeS s' ⟨2049, 0, [97]⟩) = [97] := by rw [text_take, h1]; rfl
  have ef : (takeS s' ⟨2049, 0, [97]⟩).first = ⟨2049, 0, [97]⟩ := by simp [takeS, h1]
  have hlg : longS (takeS s' ⟨2049, 0, [97]⟩) = true := by
    unfold longS
    simp only [Bool.or_eq_true, decide_eq_true_eq]
    exact .inr h3
  unfold finS
  rw [et, hlg, ef]
  rfl
theorem many_fails : failsP (Lib.repeatL [97, 10] 2049) 2049 3 = true := by
  unfold failsP
  rw [many_rows]
  rfl
theorem wide_fails : failsP (Lib.repeatL [32] 65537) 0 3 = true := by
  have : rowsP (Lib.repeatL [32] 65537) = ([], 0, 3) := by
    unfold rowsP
    rw [if_pos (by rw [Lib.repeatL_length]; decide)]
  unfold failsP
  rw [this]
  rfl
def longB : B := Lib.repeatL [97] 256
theorem k1 : failsP [83, 69, 81, 10, 32, 32, 32, 32, 120, 32, 58, 61, 32, 49] 2 70 = true := by kernel_rfl
theorem k2 : failsP [32, 32, 83, 75, 73, 80] 1 70 = true := by kernel_rfl
theorem k3 : failsP [120, 32, 58, 61, 32, 49, 32, 43, 10, 45, 45, 32, 101, 110, 100] 1 5 = true := by kernel_rfl
theorem k4 : failsP [83, 69, 81, 10, 32, 32, 120, 32, 58, 61, 10, 32, 49] 3 70 = true := by kernel_rfl
theorem k5 : failsP [83, 75, 73, 80, 10, 10, 9, 83, 75, 73, 80] 3 5 = true := by kernel_rfl
theorem k6 : failsP [32, 83, 75, 73, 80, 10, 45, 45, 127] 2 5 = true := by kernel_rfl
theorem k8 : failsP (([83, 75, 73, 80, 10] ++ longB) ++ [97]) 2 3 = true := by kernel_rfl
theorem k9 : failsP (longB ++ [97, 32, 43, 10]) 1 5 = true := by kernel_rfl
theorem k11 : rowsP (((longB ++ [32, 32, 45, 45, 32]) ++ longB) ++ [10, 32, 32, 32, 45, 45]) = ([⟨1, 0, longB⟩], 0, 0) := by kernel_rfl
def deepB (k : Nat) : B := (List.range k).flatMap fun i => List.replicate (2 * i) 32 ++ [83, 69, 81, 10]
def deepL : List Rw := (rowsP (deepB 33)).1
theorem k12 : rowsP (deepB 33) = (deepL, 0, 0) := by kernel_rfl
theorem k12b : deepL.length = 33 := by kernel_rfl
theorem k13 : failsP ((deepB 33 ++ List.replicate 66 32) ++ [83, 75, 73, 80]) 34 3 = true := by kernel_rfl
theorem deep_succ (k : Nat) : deepB (k + 1) = (deepB k ++ List.replicate (2 * k) 32) ++ [83, 69, 81, 10] := by
  unfold deepB
  rw [List.range_succ, List.flatMap_append]
  simp
theorem deep_len : ∀ k : Nat, k ≤ 33 → (deepB k).length ≤ k * 70
  | 0, _ => Nat.le_refl _
  | k + 1, h => by
    have := deep_len k (by omega)
    rw [deep_succ]
    simp only [List.length_append, List.length_replicate, List.length_cons, List.length_nil]
    omega
def badL : List Rw := [⟨0, 0, [97]⟩, ⟨1, 1, [97]⟩, ⟨1, 0, []⟩, ⟨1, 0, [97, 32]⟩, ⟨1, 0, [32, 97]⟩, ⟨1, 0, [97, 45, 45, 98]⟩, ⟨1, 0, [97, 44]⟩, ⟨1, 0, [97, 9, 98]⟩, ⟨1, 0, longB ++ [97]⟩, ⟨65537, 0, [97]⟩, ⟨1, -1, [97]⟩]
theorem bad_all : (badL.all fun x => !mayP [x]) = true := by kernel_rfl
theorem k20 : mayP [⟨65536, 0, longB⟩] = true := by kernel_rfl
theorem k21 : mayP [⟨2, 0, [97]⟩, ⟨2, 0, [97]⟩] = false := by kernel_rfl
theorem failsE_ct {m : View} (hg : Glob m) {src : B} {no er : Int} (e : failsP src no er = true) (hs : src.length < 4294967281) (h : List Res) : CT Tryd.prog 18 [str src, .int .i64 no, .int .i64 er] h m (Pure1 h (.bool true)) := by
  have := fails_ct hg src no er hs h
  rw [e] at this
  exact this
theorem k14 : rowsP [] = ([], 0, 0) := by kernel_rfl
theorem bad_len : (badL.all fun x => decide (x.text.length < 300)) = true := by kernel_rfl
theorem long_len : longB.length = 256 := by kernel_rfl
theorem known_law {m : View} (hg : Glob m) (h : List Res) : CT Tryd.prog 6 [] h m Law := by
  have hll := long_len
  have hdl := deep_len 33 (by decide)
  have hrw : (Lib.repeatL [32] 65537).length = 65537 := Lib.repeatL_length _ _
  have hrm : (Lib.repeatL [97, 10] 2049).length = 4098 := Lib.repeatL_length _ _
  refine CT.body Tryd.call6 Tryd.func6 rfl Tryd.ntmps6 (Nat.le_of_ble_eq_true rfl) rfl ?_
  (repeat (first | refine WC.seqK fun K hK => ?_ | refine WC.block ?_ | refine WC.regionG rfl fun ops hG => ?_))
  refine WL.po (PO.assign Ev.const) (Nat.le_of_ble_eq_true rfl) ?_
  refine WL.nil (keepF (ts := []) rfl (toK (by assumption) ?_))
  (try clear hG ops)
  (repeat (first | refine WC.seqK fun K hK => ?_ | refine WC.block ?_ | refine WC.regionG rfl fun ops hG => ?_))
  refine WL.callP Ev.func (Evs.cons Ev.const (Evs.cons Ev.const (Evs.cons Ev.const Evs.nil))) (failsE_ct hg k1 (by decide) _) (Nat.le_of_ble_eq_true rfl) ?_
  refine WL.po (PO.move (Ev.tmp rfl)) (Nat.le_of_ble_eq_true rfl) ?_
  refine WL.unG (GU.t (hG _ _ rfl) rfl) rfl ?_
  refine WL.callP Ev.func (Evs.cons Ev.const (Evs.cons Ev.const (Evs.cons Ev.const Evs.nil))) (failsE_ct hg k2 (by decide) _) (Nat.le_of_ble_eq_true rfl) ?_
  refine WL.po (PO.pickAnd rfl rfl) (Nat.le_of_ble_eq_true rfl) ?_
  refine WL.po (PO.move (Ev.tmp rfl)) (Nat.le_of_ble_eq_true rfl) ?_
  refine WL.unG (GU.t (hG _ _ rfl) rfl) rfl ?_
  refine WL.callP Ev.func (Evs.cons Ev.const (Evs.cons Ev.const (Evs.cons Ev.const Evs.nil))) (failsE_ct hg k3 (by decide) _) (Nat.le_of_ble_eq_true rfl) ?_
  refine WL.po (PO.pickAnd rfl rfl) (Nat.le_of_ble_eq_true rfl) ?_
  refine WL.po (PO.move (Ev.tmp rfl)) (Nat.le_of_ble_eq_true rfl) ?_
  refine WL.unG (GU.t (hG _ _ rfl) rfl) rfl ?_
  refine WL.callP Ev.func (Evs.cons Ev.const (Evs.cons Ev.const (Evs.cons Ev.const Evs.nil))) (failsE_ct hg k4 (by decide) _) (Nat.le_of_ble_eq_true rfl) ?_
  refine WL.po (PO.pickAnd rfl rfl) (Nat.le_of_ble_eq_true rfl) ?_
  refine WL.po (PO.move (Ev.tmp rfl)) (Nat.le_of_ble_eq_true rfl) ?_
  refine WL.unG (GU.t (hG _ _ rfl) rfl) rfl ?_
  refine WL.callP Ev.func (Evs.cons Ev.const (Evs.cons Ev.const (Evs.cons Ev.const Evs.nil))) (failsE_ct hg k5 (by decide) _) (Nat.le_of_ble_eq_true rfl) ?_
  refine WL.po (PO.pickAnd rfl rfl) (Nat.le_of_ble_eq_true rfl) ?_
  refine WL.po (PO.move (Ev.tmp rfl)) (Nat.le_of_ble_eq_true rfl) ?_
  refine WL.unG (GU.t (hG _ _ rfl) rfl) rfl ?_
  refine WL.callP Ev.func (Evs.cons Ev.const (Evs.cons Ev.const (Evs.cons Ev.const Evs.nil))) (failsE_ct hg k6 (by decide) _) (Nat.le_of_ble_eq_true rfl) ?_
  refine WL.po (PO.pickAnd rfl rfl) (Nat.le_of_ble_eq_true rfl) ?_
  refine WL.po (PO.move (Ev.tmp rfl)) (Nat.le_of_ble_eq_true rfl) ?_
  refine WL.unG (GU.t (hG _ _ rfl) rfl) rfl ?_
  refine WL.callP Ev.func (Evs.cons Ev.const (Evs.cons Ev.const Evs.nil)) (repeat_ct [32] 65537 _ _ (by decide) (by decide)) (Nat.le_of_ble_eq_true rfl) ?_
  refine WL.unG (GU.t (hG _ _ rfl) rfl) rfl ?_
  refine WL.callP Ev.func (Evs.cons (Ev.tmp rfl) (Evs.cons Ev.const (Evs.cons Ev.const Evs.nil))) (failsE_ct hg wide_fails (by omega) _) (Nat.le_of_ble_eq_true rfl) ?_
  refine WL.po (PO.pickAnd rfl rfl) (Nat.le_of_ble_eq_true rfl) ?_
  refine WL.po (PO.assign (Ev.tmp rfl)) (Nat.le_of_ble_eq_true rfl) ?_
  refine WL.nil (keepF (ts := [1]) rfl (toK (by assumption) ?_))
  (try clear hG ops)
  (repeat (first | refine WC.seqK fun K hK => ?_ | refine WC.block ?_ | refine WC.regionG rfl fun ops hG => ?_))
  refine WL.callP Ev.func (Evs.cons Ev.const (Evs.cons Ev.const Evs.nil)) (CT.val (repeat_ct [97] 256 _ _ (by decide) (by decide)) (show str _ = str longB from rfl)) (Nat.le_of_ble_eq_true rfl) ?_
  refine WL.po (PO.assign (Ev.tmp rfl)) (Nat.le_of_ble_eq_true rfl) ?_
  refine WL.nil (keepF (ts := [1, 2]) rfl (toK (by assumption) ?_))
  (try clear hG ops)
  (repeat (first | refine WC.seqK fun K hK => ?_ | refine WC.block ?_ | refine WC.regionG rfl fun ops hG => ?_))
  refine WL.po (PO.move (Ev.tmp rfl)) (Nat.le_of_ble_eq_true rfl) ?_
  refine WL.po (PO.catS Ev.const (Ev.tmp rfl) (by simp; omega)) (Nat.le_of_ble_eq_true rfl) ?_
  refine WL.po (PO.catS (Ev.tmp rfl) Ev.const (by simp; omega)) (Nat.le_of_ble_eq_true rfl) ?_
  refine WL.callP Ev.func (Evs.cons (Ev.tmp rfl) (Evs.cons Ev.const (Evs.cons Ev.const Evs.nil))) (failsE_ct hg k8 (by simp; omega) _) (Nat.le_of_ble_eq_true rfl) ?_
  refine WL.po (PO.move (Ev.tmp rfl)) (Nat.le_of_ble_eq_true rfl) ?_
  refine WL.unG (GU.t (hG _ _ rfl) rfl) rfl ?_
  refine WL.po (PO.move (Ev.tmp rfl)) (Nat.le_of_ble_eq_true rfl) ?_
  refine WL.unG (GU.t (hG _ _ rfl) rfl) rfl ?_
  refine WL.po (PO.catS (Ev.tmp rfl) Ev.const (by simp; omega)) (Nat.le_of_ble_eq_true rfl) ?_
  refine WL.unG (GU.t (hG _ _ rfl) rfl) rfl ?_
  refine WL.callP Ev.func (Evs.cons (Ev.tmp rfl) (Evs.cons Ev.const (Evs.cons Ev.const Evs.nil))) (failsE_ct hg k9 (by simp; omega) _) (Nat.le_of_ble_eq_true rfl) ?_
  refine WL.po (PO.pickAnd rfl rfl) (Nat.le_of_ble_eq_true rfl) ?_
  refine WL.po (PO.move (Ev.tmp rfl)) (Nat.le_of_ble_eq_true rfl) ?_
  refine WL.unG (GU.t (hG _ _ rfl) rfl) rfl ?_
  refine WL.callP Ev.func (Evs.cons Ev.const (Evs.cons Ev.const Evs.nil)) (repeat_ct [97, 10] 2049 _ _ (by decide) (by decide)) (Nat.le_of_ble_eq_true rfl) ?_
  refine WL.unG (GU.t (hG _ _ rfl) rfl) rfl ?_
  refine WL.callP Ev.func (Evs.cons (Ev.tmp rfl) (Evs.cons Ev.const (Evs.cons Ev.const Evs.nil))) (failsE_ct hg many_fails (by omega) _) (Nat.le_of_ble_eq_true rfl) ?_
  refine WL.po (PO.pickAnd rfl rfl) (Nat.le_of_ble_eq_true rfl) ?_
  refine WL.po (PO.assign (Ev.tmp rfl)) (Nat.le_of_ble_eq_true rfl) ?_
  refine WL.nil (keepF (ts := [1, 2, 3]) rfl (toK (by assumption) ?_))
  (try clear hG ops)
  (repeat (first | refine WC.seqK fun K hK => ?_ | refine WC.block ?_ | refine WC.regionG rfl fun ops hG => ?_))
  refine WL.po (PO.move (Ev.tmp rfl)) (Nat.le_of_ble_eq_true rfl) ?_
  refine WL.po (PO.catS (Ev.tmp rfl) Ev.const (by simp; omega)) (Nat.le_of_ble_eq_true rfl) ?_
  refine WL.po (PO.move (Ev.tmp rfl)) (Nat.le_of_ble_eq_true rfl) ?_
  refine WL.po (PO.catS (Ev.tmp rfl) (Ev.tmp rfl) (by simp; omega)) (Nat.le_of_ble_eq_true rfl) ?_
  refine WL.po (PO.catS (Ev.tmp rfl) Ev.const (by simp; omega)) (Nat.le_of_ble_eq_true rfl) ?_
  refine WL.callK Ev.func (Evs.cons (Ev.tmp rfl) Evs.nil) (rowsE_ct hg k11 (by simp; omega) _) (Nat.le_of_ble_eq_true rfl) ?_
  rintro _ _ ⟨a54, c54, rfl, rfl⟩
  refine WL.knowRow (a := a54) (by (repeat (first | exact List.Mem.head _ | apply List.Mem.tail))) fun p54 q54 r54 => ?_
  have hk11 : ([⟨1, 0, longB⟩] : List Rw)[0]? = some ⟨1, 0, longB⟩ := rfl
  refine WL.po (PO.move (Ev.tmp rfl)) (Nat.le_of_ble_eq_true rfl) ?_
  refine WL.po (PO.extract (Ev.tmp rfl) rfl) (Nat.le_of_ble_eq_true rfl) ?_
  refine WL.po (PO.extract (Ev.tmp rfl) rfl) (Nat.le_of_ble_eq_true rfl) ?_
  refine WL.po (PO.extract (Ev.tmp rfl) rfl) (Nat.le_of_ble_eq_true rfl) ?_
  refine WL.po (PO.assign (Ev.tmp rfl)) (Nat.le_of_ble_eq_true rfl) ?_
  refine WL.po (PO.assign (Ev.tmp rfl)) (Nat.le_of_ble_eq_true rfl) ?_
  refine WL.po (PO.assign (Ev.tmp rfl)) (Nat.le_of_ble_eq_true rfl) ?_
  refine WL.nil (keepF (ts := [1, 2, 3, 4, 5, 6]) rfl (toK (by assumption) ?_))
  (try clear hG ops)
  (repeat (first | refine WC.seqK fun K hK => ?_ | refine WC.block ?_ | refine WC.regionG rfl fun ops hG => ?_))
  refine WL.po (PO.move (Ev.tmp rfl)) (Nat.le_of_ble_eq_true rfl) ?_
  refine WL.po (PO.lenSl Tryd.underlying22 (Ev.tmp rfl)) (Nat.le_of_ble_eq_true rfl) ?_
  refine WL.po (PO.bin (Ev.tmp rfl) Ev.const rfl) (Nat.le_of_ble_eq_true rfl) ?_
  refine WL.po (PO.move (Ev.tmp rfl)) (Nat.le_of_ble_eq_true rfl) ?_
  refine WL.unG (GU.t (hG _ _ rfl) rfl) rfl ?_
  refine WL.po (PO.move (Ev.tmp rfl)) (Nat.le_of_ble_eq_true rfl) ?_
  refine WL.unG (GU.t (hG _ _ rfl) rfl) rfl ?_
  refine WL.po (PO.idx EL22.und EL22.size EL22.posz (Ev.tmp rfl) Ev.const (by first | assumption | exact Rd.ofSl (by assumption) | exact Rd.ofPt rfl (by decide) (by (repeat (first | exact List.Mem.head _ | apply List.Mem.tail))) | exact Rd.mono (by assumption) (View.le.refl _) (by (repeat (first | exact List.Sublist.refl _ | refine List.Sublist.cons_cons _ ?_ | apply List.Sublist.cons))) | exact Rd.inRow (by (repeat (first | exact List.Mem.head _ | apply List.Mem.tail))) (by assumption) (by assumption) (by assumption)) rfl (q := 0) (Nat.succ_pos _)) (Nat.le_of_ble_eq_true rfl) ?_
  refine WL.unG (GU.t (hG _ _ rfl) rfl) rfl ?_
  refine WL.po (PO.fieldF Tryd.underlying34 rfl (Nat.ne_of_beq_eq_false rfl) encR_len (Nat.succ_pos _) (by first | assumption | exact Rd.ofSl (by assumption) | exact Rd.ofPt rfl (by decide) (by (repeat (first | exact List.Mem.head _ | apply List.Mem.tail))) | exact Rd.mono (by assumption) (View.le.refl _) (by (repeat (first | exact List.Sublist.refl _ | refine List.Sublist.cons_cons _ ?_ | apply List.Sublist.cons))) | exact Rd.inRow (by (repeat (first | exact List.Mem.head _ | apply List.Mem.tail))) (by assumption) (by assumption) (by assumption)) (by assumption) (Ev.tmp rfl)) (Nat.le_of_ble_eq_true rfl) ?_
  refine WL.unG (GU.t (hG _ _ rfl) rfl) rfl ?_
  refine WL.po (PO.loadFf Tryd.underlying9 rfl encR_len (by first | assumption | exact Rd.ofSl (by assumption) | exact Rd.ofPt rfl (by decide) (by (repeat (first | exact List.Mem.head _ | apply List.Mem.tail))) | exact Rd.mono (by assumption) (View.le.refl _) (by (repeat (first | exact List.Sublist.refl _ | refine List.Sublist.cons_cons _ ?_ | apply List.Sublist.cons))) | exact Rd.inRow (by (repeat (first | exact List.Mem.head _ | apply List.Mem.tail))) (by assumption) (by assumption) (by assumption)) (Ev.tmp rfl) (by assumption) rfl) (Nat.le_of_ble_eq_true rfl) ?_
  refine WL.unG (GU.t (hG _ _ rfl) rfl) rfl ?_
  refine WL.po (PO.move (Ev.tmp rfl)) (Nat.le_of_ble_eq_true rfl) ?_
  refine WL.unG (GU.t (hG _ _ rfl) rfl) rfl ?_
  refine WL.po (PO.eqlS (Ev.tmp rfl) (Ev.tmp rfl)) (Nat.le_of_ble_eq_true rfl) ?_
  refine WL.val (v' := .bool true) (congrArg Value.bool (by simp)) ?_
  refine WL.po (PO.pickAnd rfl rfl) (Nat.le_of_ble_eq_true rfl) ?_
  refine WL.po (PO.move (Ev.tmp rfl)) (Nat.le_of_ble_eq_true rfl) ?_
  refine WL.unG (GU.t (hG _ _ rfl) rfl) rfl ?_
  refine WL.po (PO.move (Ev.tmp rfl)) (Nat.le_of_ble_eq_true rfl) ?_
  refine WL.unG (GU.t (hG _ _ rfl) rfl) rfl ?_
  refine WL.po (PO.bin (Ev.tmp rfl) Ev.const rfl) (Nat.le_of_ble_eq_true rfl) ?_
  refine WL.po (PO.pickAnd rfl rfl) (Nat.le_of_ble_eq_true rfl) ?_
  refine WL.po (PO.move (Ev.tmp rfl)) (Nat.le_of_ble_eq_true rfl) ?_
  refine WL.unG (GU.t (hG _ _ rfl) rfl) rfl ?_
  refine WL.po (PO.move (Ev.tmp rfl)) (Nat.le_of_ble_eq_true rfl) ?_
  refine WL.unG (GU.t (hG _ _ rfl) rfl) rfl ?_
  refine WL.po (PO.bin (Ev.tmp rfl) Ev.const rfl) (Nat.le_of_ble_eq_true rfl) ?_
  refine WL.po (PO.pickAnd rfl rfl) (Nat.le_of_ble_eq_true rfl) ?_
  refine WL.po (PO.assign (Ev.tmp rfl)) (Nat.le_of_ble_eq_true rfl) ?_
  refine WL.nil (keepF (ts := [1, 2, 3, 7]) rfl (toK (by assumption) ?_))
  (try clear hG ops)
  (repeat (first | refine WC.seqK fun K hK => ?_ | refine WC.block ?_ | refine WC.regionG rfl fun ops hG => ?_))
  refine WL.po (PO.assign Ev.const) (Nat.le_of_ble_eq_true rfl) ?_
  refine WL.nil (keepF (ts := [1, 2, 3, 7, 8]) rfl (toK (by assumption) ?_))
  (try clear hG ops)
  (repeat (first | refine WC.seqK fun K hK => ?_ | refine WC.block ?_ | refine WC.regionG rfl fun ops hG => ?_))
  refine WL.po (PO.assign Ev.const) (Nat.le_of_ble_eq_true rfl) ?_
  refine WL.nil (keepF (ts := [1, 2, 3, 7, 8, 9]) rfl (toK (by assumption) ?_))
  (try clear hG ops)
  (repeat (first | refine WC.seqK fun K hK => ?_ | refine WC.block ?_ | refine WC.regionG rfl fun ops hG => ?_))
  refine WC.loopI [1, 2, 3, 7] rfl (fun μ F' h' => ∃ k : Nat, (k ≤ 33) ∧ 33 - k = μ ∧ F' = [(8, str (deepB k)), (9, .int .i64 k)] ∧ .row (.slice a54 1 c54) 34 3 1 (fl encR [⟨1, 0, longB⟩]) :: h = h') (33 - 0) [(8, str (deepB 0)), (9, .int .i64 0)] (h0 := .row (.slice a54 1 c54) 34 3 1 (fl encR [⟨1, 0, longB⟩]) :: h) ?_ (by (repeat (first | exact List.Sublist.refl _ | refine List.Sublist.cons_cons _ ?_ | apply List.Sublist.cons))) ⟨0, by omega, rfl, rfl, rfl⟩ ?_
  · (repeat (first | exact Sub.nil | refine Sub.cons rfl ?_ | refine Sub.consE rfl (by simp; done) ?_))
  rintro _ _ _ ⟨k, hk, rfl, rfl, rfl⟩
  refine WC.frm rfl ?_
  (repeat (first | refine WC.seqK fun K hK => ?_ | refine WC.block ?_ | refine WC.regionG rfl fun ops hG => ?_))
  refine WL.po (PO.move (Ev.tmp rfl)) (Nat.le_of_ble_eq_true rfl) ?_
  refine WL.po (PO.bin (Ev.tmp rfl) Ev.const rfl) (Nat.le_of_ble_eq_true rfl) ?_
  refine WL.nil (keepF (ts := [1, 2, 3, 7, 8, 9, 78]) rfl (toK (by assumption) ?_))
  (try clear hG ops)
  (repeat (first | refine WC.seqK fun K hK => ?_ | refine WC.block ?_ | refine WC.regionG rfl fun ops hG => ?_))
  refine WC.cond (Ev.tmp rfl) (fun c78 => ?_) (fun c78 => ?_)
  · replace c78 := of_decide_eq_true c78
    have hdk := deep_len k hk
    have hds := deep_succ k
    refine WC.skip (keepF (ts := [1, 2, 3, 7, 8, 9]) rfl (toK (by assumption) ?_))
    (repeat (first | refine WC.seqK fun K hK => ?_ | refine WC.block ?_ | refine WC.regionG rfl fun ops hG => ?_))
    refine WL.po (PO.move (Ev.tmp rfl)) (Nat.le_of_ble_eq_true rfl) ?_
    refine WL.po (PO.move (Ev.tmp rfl)) (Nat.le_of_ble_eq_true rfl) ?_
    refine WL.po (PO.mulI Ev.const (Ev.tmp rfl) (by omega)) (Nat.le_of_ble_eq_true rfl) ?_
    refine WL.val (v' := .int .i64 (2 * k : Nat)) rfl ?_
    refine WL.callP Ev.func (Evs.cons (Ev.tmp rfl) Evs.nil) (spaces_ct (2 * k) _ _ (by omega)) (Nat.le_of_ble_eq_true rfl) ?_
    refine WL.po (PO.catS (Ev.tmp rfl) (Ev.tmp rfl) (by simp; omega)) (Nat.le_of_ble_eq_true rfl) ?_
    refine WL.po (PO.catS (Ev.tmp rfl) Ev.const (by simp; omega)) (Nat.le_of_ble_eq_true rfl) ?_
    refine WL.po (PO.assign (Ev.tmp rfl)) (Nat.le_of_ble_eq_true rfl) ?_
    refine WL.nil (keepF (ts := [1, 2, 3, 7, 8, 9]) rfl (toK (by assumption) ?_))
    (try clear hG ops)
    (repeat (first | refine WC.seqK fun K hK => ?_ | refine WC.block ?_ | refine WC.regionG rfl fun ops hG => ?_))
    refine WL.po (PO.move (Ev.tmp rfl)) (Nat.le_of_ble_eq_true rfl) ?_
    refine WL.po (PO.addI (Ev.tmp rfl) Ev.const (by omega)) (Nat.le_of_ble_eq_true rfl) ?_
    refine WL.po (PO.assign (Ev.tmp rfl)) (Nat.le_of_ble_eq_true rfl) ?_
    refine WL.nil (loopBackI (33 - (k + 1)) [(8, str (deepB (k + 1))), (9, .int .i64 (k + 1))] (h'' := .row (.slice a54 1 c54) 34 3 1 (fl encR [⟨1, 0, longB⟩]) :: h) (by omega) ?_ (by (repeat (first | exact Sub.nil | refine Sub.cons rfl ?_ | refine Sub.consE rfl (by simp; done) ?_))) (by (repeat (first | exact List.Sublist.refl _ | refine List.Sublist.cons_cons _ ?_ | apply List.Sublist.cons))) ⟨k + 1, by omega, rfl, rfl, rfl⟩)
    rw [hds]; (repeat (first | exact Sub.nil | refine Sub.cons rfl ?_ | refine Sub.consE rfl (by simp; done) ?_))
  · replace c78 := of_decide_eq_false c78
    have hk2 : k = 33 := by omega
    subst hk2
    refine WC.exit (keepF (ts := [1, 2, 3, 7, 8]) rfl (toK (by assumption) ?_))
    (repeat (first | refine WC.seqK fun K hK => ?_ | refine WC.block ?_ | refine WC.regionG rfl fun ops hG => ?_))
    refine WL.po (PO.move (Ev.tmp rfl)) (Nat.le_of_ble_eq_true rfl) ?_
    refine WL.callK Ev.func (Evs.cons (Ev.tmp rfl) Evs.nil) (rowsE_ct hg k12 (by omega) _) (Nat.le_of_ble_eq_true rfl) ?_
    rintro _ _ ⟨a89, c89, rfl, rfl⟩
    refine WL.knowRow (a := a89) (by (repeat (first | exact List.Mem.head _ | apply List.Mem.tail))) fun p89 q89 r89 => ?_
    refine WL.po (PO.move (Ev.tmp rfl)) (Nat.le_of_ble_eq_true rfl) ?_
    refine WL.po (PO.extract (Ev.tmp rfl) rfl) (Nat.le_of_ble_eq_true rfl) ?_
    refine WL.po (PO.extract (Ev.tmp rfl) rfl) (Nat.le_of_ble_eq_true rfl) ?_
    refine WL.po (PO.extract (Ev.tmp rfl) rfl) (Nat.le_of_ble_eq_true rfl) ?_
    refine WL.po (PO.assign (Ev.tmp rfl)) (Nat.le_of_ble_eq_true rfl) ?_
    refine WL.po (PO.assign (Ev.tmp rfl)) (Nat.le_of_ble_eq_true rfl) ?_
    refine WL.nil (keepF (ts := [1, 2, 3, 4, 6, 7, 8]) rfl (toK (by assumption) ?_))
    (try clear hG ops)
    (repeat (first | refine WC.seqK fun K hK => ?_ | refine WC.block ?_ | refine WC.regionG rfl fun ops hG => ?_))
    refine WL.po (PO.move (Ev.tmp rfl)) (Nat.le_of_ble_eq_true rfl) ?_
    refine WL.po (PO.lenSl Tryd.underlying22 (Ev.tmp rfl)) (Nat.le_of_ble_eq_true rfl) ?_
    refine WL.po (PO.bin (Ev.tmp rfl) Ev.const rfl) (Nat.le_of_ble_eq_true rfl) ?_
    refine WL.val (v' := .bool true) (congrArg Value.bool (by rw [k12b]; rfl)) ?_
    refine WL.po (PO.move (Ev.tmp rfl)) (Nat.le_of_ble_eq_true rfl) ?_
    refine WL.unG (GU.t (hG _ _ rfl) rfl) rfl ?_
    refine WL.po (PO.move (Ev.tmp rfl)) (Nat.le_of_ble_eq_true rfl) ?_
    refine WL.unG (GU.t (hG _ _ rfl) rfl) rfl ?_
    refine WL.po (PO.bin (Ev.tmp rfl) Ev.const rfl) (Nat.le_of_ble_eq_true rfl) ?_
    refine WL.po (PO.pickAnd rfl rfl) (Nat.le_of_ble_eq_true rfl) ?_
    refine WL.po (PO.move (Ev.tmp rfl)) (Nat.le_of_ble_eq_true rfl) ?_
    refine WL.unG (GU.t (hG _ _ rfl) rfl) rfl ?_
    refine WL.po (PO.move (Ev.tmp rfl)) (Nat.le_of_ble_eq_true rfl) ?_
    refine WL.unG (GU.t (hG _ _ rfl) rfl) rfl ?_
    refine WL.callP Ev.func (Evs.cons Ev.const Evs.nil) (spaces_ct 66 _ _ (by decide)) (Nat.le_of_ble_eq_true rfl) ?_
    refine WL.unG (GU.t (hG _ _ rfl) rfl) rfl ?_
    refine WL.po (PO.catS (Ev.tmp rfl) (Ev.tmp rfl) (by simp; omega)) (Nat.le_of_ble_eq_true rfl) ?_
    refine WL.unG (GU.t (hG _ _ rfl) rfl) rfl ?_
    refine WL.po (PO.catS (Ev.tmp rfl) Ev.const (by simp; omega)) (Nat.le_of_ble_eq_true rfl) ?_
    refine WL.unG (GU.t (hG _ _ rfl) rfl) rfl ?_
    refine WL.callP Ev.func (Evs.cons (Ev.tmp rfl) (Evs.cons Ev.const (Evs.cons Ev.const Evs.nil))) (failsE_ct hg k13 (by simp; omega) _) (Nat.le_of_ble_eq_true rfl) ?_
    refine WL.po (PO.pickAnd rfl rfl) (Nat.le_of_ble_eq_true rfl) ?_
    refine WL.po (PO.assign (Ev.tmp rfl)) (Nat.le_of_ble_eq_true rfl) ?_
    refine WL.nil (keepF (ts := [1, 2, 3, 7, 10]) rfl (toK (by assumption) ?_))
    (try clear hG ops)
    (repeat (first | refine WC.seqK fun K hK => ?_ | refine WC.block ?_ | refine WC.regionG rfl fun ops hG => ?_))
    refine WL.callK Ev.func (Evs.cons Ev.const Evs.nil) (rowsE_ct hg k14 (by decide) _) (Nat.le_of_ble_eq_true rfl) ?_
    rintro _ _ ⟨a108, c108, rfl, rfl⟩
    refine WL.po (PO.move (Ev.tmp rfl)) (Nat.le_of_ble_eq_true rfl) ?_
    refine WL.po (PO.extract (Ev.tmp rfl) rfl) (Nat.le_of_ble_eq_true rfl) ?_
    refine WL.po (PO.extract (Ev.tmp rfl) rfl) (Nat.le_of_ble_eq_true rfl) ?_
    refine WL.po (PO.extract (Ev.tmp rfl) rfl) (Nat.le_of_ble_eq_true rfl) ?_
    refine WL.po (PO.assign (Ev.tmp rfl)) (Nat.le_of_ble_eq_true rfl) ?_
    refine WL.po (PO.assign (Ev.tmp rfl)) (Nat.le_of_ble_eq_true rfl) ?_
    refine WL.nil (keepF (ts := [1, 2, 3, 4, 6, 7, 10]) rfl (toK (by assumption) ?_))
    (try clear hG ops)
    (repeat (first | refine WC.seqK fun K hK => ?_ | refine WC.block ?_ | refine WC.regionG rfl fun ops hG => ?_))
    refine WL.po (PO.move (Ev.tmp rfl)) (Nat.le_of_ble_eq_true rfl) ?_
    refine WL.po (PO.lenSl Tryd.underlying22 (Ev.tmp rfl)) (Nat.le_of_ble_eq_true rfl) ?_
    refine WL.po (PO.bin (Ev.tmp rfl) Ev.const rfl) (Nat.le_of_ble_eq_true rfl) ?_
    refine WL.po (PO.move (Ev.tmp rfl)) (Nat.le_of_ble_eq_true rfl) ?_
    refine WL.unG (GU.t (hG _ _ rfl) rfl) rfl ?_
    refine WL.po (PO.move (Ev.tmp rfl)) (Nat.le_of_ble_eq_true rfl) ?_
    refine WL.unG (GU.t (hG _ _ rfl) rfl) rfl ?_
    refine WL.po (PO.bin (Ev.tmp rfl) Ev.const rfl) (Nat.le_of_ble_eq_true rfl) ?_
    refine WL.po (PO.pickAnd rfl rfl) (Nat.le_of_ble_eq_true rfl) ?_
    refine WL.po (PO.move (Ev.tmp rfl)) (Nat.le_of_ble_eq_true rfl) ?_
    refine WL.unG (GU.t (hG _ _ rfl) rfl) rfl ?_
    refine WL.callP Ev.func (Evs.cons Ev.const Evs.nil) (CT.val (may_ct hg none 0 0 [] _ (Rd.nilF _ _ _ _) (fun _ h => by cases h)) (show Value.bool _ = .bool true from rfl)) (Nat.le_of_ble_eq_true rfl) ?_
    refine WL.po (PO.pickAnd rfl rfl) (Nat.le_of_ble_eq_true rfl) ?_
    refine WL.val (v' := .bool true) rfl ?_
    refine WL.po (PO.assign (Ev.tmp rfl)) (Nat.le_of_ble_eq_true rfl) ?_
    refine WL.nil (keepF (ts := [1, 2, 3, 7, 10, 11]) rfl (toK (by assumption) ?_))
    (try clear hG ops)
    (repeat (first | refine WC.seqK fun K hK => ?_ | refine WC.block ?_ | refine WC.regionG rfl fun ops hG => ?_))
    refine WL.po (PO.build Tryd.underlying34 rfl rfl rfl (EvP.cons Ev.const (EvP.cons Ev.const EvP.nil)) rfl) (Nat.le_of_ble_eq_true rfl) ?_
    refine WL.po (PO.build Tryd.underlying34 rfl rfl rfl (EvP.cons Ev.const (EvP.cons Ev.const (EvP.cons Ev.const EvP.nil))) rfl) (Nat.le_of_ble_eq_true rfl) ?_
    refine WL.po (PO.build Tryd.underlying34 rfl rfl rfl (EvP.cons Ev.const EvP.nil) rfl) (Nat.le_of_ble_eq_true rfl) ?_
    refine WL.po (PO.build Tryd.underlying34 rfl rfl rfl (EvP.cons Ev.const (EvP.cons Ev.const EvP.nil)) rfl) (Nat.le_of_ble_eq_true rfl) ?_
    refine WL.po (PO.build Tryd.underlying34 rfl rfl rfl (EvP.cons Ev.const (EvP.cons Ev.const EvP.nil)) rfl) (Nat.le_of_ble_eq_true rfl) ?_
    refine WL.po (PO.build Tryd.underlying34 rfl rfl rfl (EvP.cons Ev.const (EvP.cons Ev.const EvP.nil)) rfl) (Nat.le_of_ble_eq_true rfl) ?_
    refine WL.po (PO.build Tryd.underlying34 rfl rfl rfl (EvP.cons Ev.const (EvP.cons Ev.const EvP.nil)) rfl) (Nat.le_of_ble_eq_true rfl) ?_
    refine WL.po (PO.build Tryd.underlying34 rfl rfl rfl (EvP.cons Ev.const (EvP.cons Ev.const EvP.nil)) rfl) (Nat.le_of_ble_eq_true rfl) ?_
    refine WL.po (PO.move (Ev.tmp rfl)) (Nat.le_of_ble_eq_true rfl) ?_
    refine WL.po (PO.catS (Ev.tmp rfl) Ev.const (by simp; omega)) (Nat.le_of_ble_eq_true rfl) ?_
    refine WL.po (PO.build Tryd.underlying34 rfl rfl rfl (EvP.cons Ev.const (EvP.cons (Ev.tmp rfl) EvP.nil)) rfl) (Nat.le_of_ble_eq_true rfl) ?_
    refine WL.po (PO.build Tryd.underlying34 rfl rfl rfl (EvP.cons Ev.const (EvP.cons Ev.const EvP.nil)) rfl) (Nat.le_of_ble_eq_true rfl) ?_
    refine WL.po (PO.build Tryd.underlying34 rfl rfl rfl (EvP.cons Ev.const (EvP.cons Ev.const (EvP.cons Ev.const EvP.nil))) rfl) (Nat.le_of_ble_eq_true rfl) ?_
    refine WL.buildSlice EL22 rfl (EvP.cons (Ev.tmp rfl) (EvP.cons (Ev.tmp rfl) (EvP.cons (Ev.tmp rfl) (EvP.cons (Ev.tmp rfl) (EvP.cons (Ev.tmp rfl) (EvP.cons (Ev.tmp rfl) (EvP.cons (Ev.tmp rfl) (EvP.cons (Ev.tmp rfl) (EvP.cons (Ev.tmp rfl) (EvP.cons (Ev.tmp rfl) (EvP.cons (Ev.tmp rfl) EvP.nil))))))))))) rfl rfl (by decide) rfl (Nat.le_of_ble_eq_true rfl) fun b135 => ?_
    refine WL.po (PO.lenSl Tryd.underlying22 (Ev.tmp rfl)) (Nat.le_of_ble_eq_true rfl) ?_
    refine WL.po (PO.move Ev.const) (Nat.le_of_ble_eq_true rfl) ?_
    refine WL.nil (keepF (ts := [1, 2, 3, 7, 10, 11, 135, 136, 137]) rfl (toK (by assumption) ?_))
    (try clear hG ops)
    (repeat (first | refine WC.seqK fun K hK => ?_ | refine WC.block ?_ | refine WC.regionG rfl fun ops hG => ?_))
    refine WC.loopI [1, 2, 3, 7, 10, 135, 136] rfl (fun μ F' h' => ∃ k : Nat, (k ≤ 11) ∧ 11 - k = μ ∧ F' = [(11, .bool true), (137, .int .i64 k)] ∧ .pt b135 (.cells (fl encR badL).toArray 34 (0, 0)) :: h = h') (11 - 0) [(11, .bool true), (137, .int .i64 0)] (h0 := .pt b135 (.cells (fl encR badL).toArray 34 (0, 0)) :: h) ?_ (by (repeat (first | exact List.Sublist.refl _ | refine List.Sublist.cons_cons _ ?_ | apply List.Sublist.cons))) ⟨0, by omega, rfl, rfl, rfl⟩ ?_
    · (repeat (first | exact Sub.nil | refine Sub.cons rfl ?_ | refine Sub.consE rfl (by simp; done) ?_))
    rintro _ _ _ ⟨k, hk, rfl, rfl, rfl⟩
    refine WC.frm rfl ?_
    (repeat (first | refine WC.seqK fun K hK => ?_ | refine WC.block ?_ | refine WC.regionG rfl fun ops hG => ?_))
    refine WL.po (PO.bin (Ev.tmp rfl) (Ev.tmp rfl) rfl) (Nat.le_of_ble_eq_true rfl) ?_
    refine WL.nil (keepF (ts := [1, 2, 3, 7, 10, 11, 135, 136, 137, 138]) rfl (toK (by assumption) ?_))
    (try clear hG ops)
    (repeat (first | refine WC.seqK fun K hK => ?_ | refine WC.block ?_ | refine WC.regionG rfl fun ops hG => ?_))
    refine WC.cond (Ev.tmp rfl) (fun c138 => ?_) (fun c138 => ?_)
    · replace c138 := of_decide_eq_true c138
      obtain ⟨x, hx⟩ := get_some (l := badL) (k := k) (by show k < 11; omega)
      have hrd : Rd m (.pt b135 (.cells (fl encR badL).toArray 34 (0, 0)) :: h) (some ⟨b135, 0, none⟩) 11 11 3 (fl encR badL) := Rd.ofPt rfl (by decide) (List.Mem.head _)
      have hxm := List.mem_of_getElem? hx
      have hxb : mayP [x] = false := by simpa using List.all_eq_true.1 bad_all x hxm
      have hxl : ∀ y ∈ [x], y.text.length < 4294967281 := fun y hy => by
        rw [List.mem_singleton.1 hy]
        have := of_decide_eq_true (List.all_eq_true.1 bad_len x hxm)
        omega
      refine WC.skip (keepF (ts := [1, 2, 3, 7, 10, 11, 135, 136, 137]) rfl (toK (by assumption) ?_))
      (repeat (first | refine WC.seqK fun K hK => ?_ | refine WC.block ?_ | refine WC.regionG rfl fun ops hG => ?_))
      refine WL.po (PO.idx EL22.und EL22.size EL22.posz (Ev.tmp rfl) (Ev.tmp rfl) (by first | assumption | exact Rd.ofSl (by assumption) | exact Rd.ofPt rfl (by decide) (by (repeat (first | exact List.Mem.head _ | apply List.Mem.tail))) | exact Rd.mono (by assumption) (View.le.refl _) (by (repeat (first | exact List.Sublist.refl _ | refine List.Sublist.cons_cons _ ?_ | apply List.Sublist.cons))) | exact Rd.inRow (by (repeat (first | exact List.Mem.head _ | apply List.Mem.tail))) (by assumption) (by assumption) (by assumption)) rfl (by omega)) (Nat.le_of_ble_eq_true rfl) ?_
      refine WL.po (PO.loadFA Tryd.underlying34 rfl rfl encR_len (by first | assumption | exact Rd.ofSl (by assumption) | exact Rd.ofPt rfl (by decide) (by (repeat (first | exact List.Mem.head _ | apply List.Mem.tail))) | exact Rd.mono (by assumption) (View.le.refl _) (by (repeat (first | exact List.Sublist.refl _ | refine List.Sublist.cons_cons _ ?_ | apply List.Sublist.cons))) | exact Rd.inRow (by (repeat (first | exact List.Mem.head _ | apply List.Mem.tail))) (by assumption) (by assumption) (by assumption)) (Ev.tmp rfl) (by assumption) rfl rfl (Nat.succ_pos _)) (Nat.le_of_ble_eq_true rfl) ?_
      refine WL.alloc rfl rfl (Nat.le_of_ble_eq_true rfl) fun b13 => ?_
      refine WL.store rfl (Ev.tmp rfl) (Ev.tmp rfl) rfl rfl rfl rfl (by (repeat (first | exact Upd.here | apply Upd.next))) ?_
      refine WL.nil (keepF (ts := [1, 2, 3, 7, 10, 11, 13, 135, 136, 137]) rfl (toK (by assumption) ?_))
      (try clear hG ops)
      (repeat (first | refine WC.seqK fun K hK => ?_ | refine WC.block ?_ | refine WC.regionG rfl fun ops hG => ?_))
      refine WL.po (PO.move (Ev.tmp rfl)) (Nat.le_of_ble_eq_true rfl) ?_
      refine WL.po (PO.move (Ev.tmp rfl)) (Nat.le_of_ble_eq_true rfl) ?_
      refine WL.unG (GU.t (hG _ _ rfl) rfl) rfl ?_
      refine WL.po (PO.loadA Tryd.underlying34 rfl rfl (Ev.tmp rfl) (by (repeat (first | exact List.Mem.head _ | apply List.Mem.tail))) rfl) (Nat.le_of_ble_eq_true rfl) ?_
      refine WL.unG (GU.t (hG _ _ rfl) rfl) rfl ?_
      refine WL.buildSlice EL22 rfl (EvP.cons (Ev.tmp rfl) EvP.nil) rfl rfl (by decide) rfl (Nat.le_of_ble_eq_true rfl) fun b144 => ?_
      refine WL.unG (GU.t (hG _ _ rfl) rfl) rfl ?_
      refine WL.callP Ev.func (Evs.cons (Ev.tmp rfl) Evs.nil) (CT.val (may_ct hg _ 1 1 [x] _ (Rd.ofPt rfl (by decide) (by (repeat (first | exact List.Mem.head _ | apply List.Mem.tail)))) hxl) (congrArg Value.bool hxb)) (Nat.le_of_ble_eq_true rfl) ?_
      refine WL.unG (GU.t (hG _ _ rfl) rfl) rfl ?_
      refine WL.po (PO.not (Ev.tmp rfl)) (Nat.le_of_ble_eq_true rfl) ?_
      refine WL.po (PO.pickAnd rfl rfl) (Nat.le_of_ble_eq_true rfl) ?_
      refine WL.val (v' := .bool true) rfl ?_
      refine WL.po (PO.assign (Ev.tmp rfl)) (Nat.le_of_ble_eq_true rfl) ?_
      refine WL.nil (keepF (ts := [1, 2, 3, 7, 10, 11, 135, 136, 137]) rfl (toK (by assumption) ?_))
      (try clear hG ops)
      (repeat (first | refine WC.seqK fun K hK => ?_ | refine WC.block ?_ | refine WC.regionG rfl fun ops hG => ?_))
      refine WL.po (PO.addI (Ev.tmp rfl) Ev.const (by omega)) (Nat.le_of_ble_eq_true rfl) ?_
      refine WL.po (PO.move (Ev.tmp rfl)) (Nat.le_of_ble_eq_true rfl) ?_
      refine WL.nil (loopBackI (11 - (k + 1)) [(11, .bool true), (137, .int .i64 (k + 1))] (h'' := .pt b135 (.cells (fl encR badL).toArray 34 (0, 0)) :: h) (by omega) ?_ (by (repeat (first | exact Sub.nil | refine Sub.cons rfl ?_ | refine Sub.consE rfl (by simp; done) ?_))) (by (repeat (first | exact List.Sublist.refl _ | refine List.Sublist.cons_cons _ ?_ | apply List.Sublist.cons))) ⟨k + 1, by omega, rfl, rfl, rfl⟩)
      (repeat (first | exact Sub.nil | refine Sub.cons rfl ?_ | refine Sub.consE rfl (by simp; done) ?_))
    · replace c138 := of_decide_eq_false c138
      refine WC.exit (keepF (ts := [1, 2, 3, 7, 10, 11]) rfl (toK (by assumption) ?_))
      (repeat (first | refine WC.seqK fun K hK => ?_ | refine WC.block ?_ | refine WC.regionG rfl fun ops hG => ?_))
      refine WL.po (PO.move (Ev.tmp rfl)) (Nat.le_of_ble_eq_true rfl) ?_
      refine WL.po (PO.move (Ev.tmp rfl)) (Nat.le_of_ble_eq_true rfl) ?_
      refine WL.unG (GU.t (hG _ _ rfl) rfl) rfl ?_
      refine WL.po (PO.move (Ev.tmp rfl)) (Nat.le_of_ble_eq_true rfl) ?_
      refine WL.unG (GU.t (hG _ _ rfl) rfl) rfl ?_
      refine WL.po (PO.build Tryd.underlying34 rfl rfl rfl (EvP.cons Ev.const (EvP.cons (Ev.tmp rfl) EvP.nil)) rfl) (Nat.le_of_ble_eq_true rfl) ?_
      refine WL.unG (GU.t (hG _ _ rfl) rfl) rfl ?_
      refine WL.buildSlice EL22 rfl (EvP.cons (Ev.tmp rfl) EvP.nil) rfl rfl (by decide) rfl (Nat.le_of_ble_eq_true rfl) fun b153 => ?_
      refine WL.unG (GU.t (hG _ _ rfl) rfl) rfl ?_
      refine WL.callP Ev.func (Evs.cons (Ev.tmp rfl) Evs.nil) (CT.val (may_ct hg _ 1 1 [⟨65536, 0, longB⟩] _ (Rd.ofPt rfl (by decide) (by (repeat (first | exact List.Mem.head _ | apply List.Mem.tail)))) (by simp; omega)) (congrArg Value.bool k20)) (Nat.le_of_ble_eq_true rfl) ?_
      refine WL.po (PO.pickAnd rfl rfl) (Nat.le_of_ble_eq_true rfl) ?_
      refine WL.po (PO.move (Ev.tmp rfl)) (Nat.le_of_ble_eq_true rfl) ?_
      refine WL.unG (GU.t (hG _ _ rfl) rfl) rfl ?_
      refine WL.po (PO.build Tryd.underlying34 rfl rfl rfl (EvP.cons Ev.const (EvP.cons Ev.const EvP.nil)) rfl) (Nat.le_of_ble_eq_true rfl) ?_
      refine WL.unG (GU.t (hG _ _ rfl) rfl) rfl ?_
      refine WL.po (PO.build Tryd.underlying34 rfl rfl rfl (EvP.cons Ev.const (EvP.cons Ev.const EvP.nil)) rfl) (Nat.le_of_ble_eq_true rfl) ?_
      refine WL.unG (GU.t (hG _ _ rfl) rfl) rfl ?_
      refine WL.buildSlice EL22 rfl (EvP.cons (Ev.tmp rfl) (EvP.cons (Ev.tmp rfl) EvP.nil)) rfl rfl (by decide) rfl (Nat.le_of_ble_eq_true rfl) fun b159 => ?_
      refine WL.unG (GU.t (hG _ _ rfl) rfl) rfl ?_
      refine WL.callP Ev.func (Evs.cons (Ev.tmp rfl) Evs.nil) (CT.val (may_ct hg _ 2 2 [⟨2, 0, [97]⟩, ⟨2, 0, [97]⟩] _ (Rd.ofPt rfl (by decide) (by (repeat (first | exact List.Mem.head _ | apply List.Mem.tail)))) (by simp)) (congrArg Value.bool k21)) (Nat.le_of_ble_eq_true rfl) ?_
      refine WL.unG (GU.t (hG _ _ rfl) rfl) rfl ?_
      refine WL.po (PO.not (Ev.tmp rfl)) (Nat.le_of_ble_eq_true rfl) ?_
      refine WL.po (PO.pickAnd rfl rfl) (Nat.le_of_ble_eq_true rfl) ?_
      refine WL.po (PO.assign (Ev.tmp rfl)) (Nat.le_of_ble_eq_true rfl) ?_
      refine WL.nil (keepF (ts := [1, 3, 7, 10, 11]) rfl (toK (by assumption) ?_))
      (try clear hG ops)
      (repeat (first | refine WC.seqK fun K hK => ?_ | refine WC.block ?_ | refine WC.regionG rfl fun ops hG => ?_))
      refine WL.po (PO.move (Ev.tmp rfl)) (Nat.le_of_ble_eq_true rfl) ?_
      refine WL.po (PO.move (Ev.tmp rfl)) (Nat.le_of_ble_eq_true rfl) ?_
      refine WL.unG (GU.t (hG _ _ rfl) rfl) rfl ?_
      refine WL.po (PO.move (Ev.tmp rfl)) (Nat.le_of_ble_eq_true rfl) ?_
      refine WL.po (PO.pickAnd rfl rfl) (Nat.le_of_ble_eq_true rfl) ?_
      refine WL.po (PO.move (Ev.tmp rfl)) (Nat.le_of_ble_eq_true rfl) ?_
      refine WL.unG (GU.t (hG _ _ rfl) rfl) rfl ?_
      refine WL.po (PO.move (Ev.tmp rfl)) (Nat.le_of_ble_eq_true rfl) ?_
      refine WL.po (PO.pickAnd rfl rfl) (Nat.le_of_ble_eq_true rfl) ?_
      refine WL.po (PO.move (Ev.tmp rfl)) (Nat.le_of_ble_eq_true rfl) ?_
      refine WL.unG (GU.t (hG _ _ rfl) rfl) rfl ?_
      refine WL.po (PO.move (Ev.tmp rfl)) (Nat.le_of_ble_eq_true rfl) ?_
      refine WL.po (PO.pickAnd rfl rfl) (Nat.le_of_ble_eq_true rfl) ?_
      refine WL.po (PO.move (Ev.tmp rfl)) (Nat.le_of_ble_eq_true rfl) ?_
      refine WL.unG (GU.t (hG _ _ rfl) rfl) rfl ?_
      refine WL.po (PO.move (Ev.tmp rfl)) (Nat.le_of_ble_eq_true rfl) ?_
      refine WL.po (PO.pickAnd rfl rfl) (Nat.le_of_ble_eq_true rfl) ?_
      refine WL.po (PO.move (Ev.tmp rfl)) (Nat.le_of_ble_eq_true rfl) ?_
      refine WL.unG (GU.t (hG _ _ rfl) rfl) rfl ?_
      refine WL.callP Ev.func Evs.nil (works_ct hg _) (Nat.le_of_ble_eq_true rfl) ?_
      refine WL.po (PO.pickAnd rfl rfl) (Nat.le_of_ble_eq_true rfl) ?_
      refine WL.po (PO.assign (Ev.tmp rfl)) (Nat.le_of_ble_eq_true rfl) ?_
      refine WL.nil (keepF (ts := [0]) rfl (toK (by assumption) ?_))
      (try clear hG ops)
      refine WC.ret (end1 (h' := h) (.inl rfl) rfl (RV.tmp rfl) (View.le.refl m) (by (repeat (first | exact List.Sublist.refl _ | refine List.Sublist.cons_cons _ ?_ | apply List.Sublist.cons))) ?_)
      rfl
end Go.Proofs.YtmffmpadfpajcaaDoor

/- lex: the laws' examples, walked. -/
import Derived.Test.YtddnoaffkinkkaaDoorLexG
import Derived.KernelRfl
namespace Go.Proofs.YtddnoaffkinkkaaDoor
open Go.Eng Go.Lx Go.Ty
set_option maxRecDepth 100000
def aw1 : List Tok := [numT (-1), symT' [43], chrT 0]
def aw2 : List Tok := [namT [102], symT' [40], namT [97], symT' [44], namT [98], symT' [91], numT 1, symT' [93], symT' [41]]
def awS0 : B := [97, 32, 58, 61, 32, 98, 62, 60, 32, 35, 70, 70]
def awL0 : List Tok := [namT [97], symT' [58, 61], namT [98], symT' [62, 60], numT 255]
theorem awR0 : rdB awS0 awL0 = true := by decide +kernel
def awS1 : B := [39, 42, 110, 39, 32, 39, 42, 35, 48, 65, 39, 32, 39, 42, 39, 39]
def awL1 : List Tok := [chrT 10, chrT 10, chrT 39]
theorem awR1 : rdB awS1 awL1 = true := by decide +kernel
def awS2 : B := [99, 32, 33, 32, 45, 49]
def awL2 : List Tok := [namT [99], symT' [33], symT' [45], numT 1]
theorem awR2 : rdB awS2 awL2 = true := by decide +kernel
def awS3 : B := [73, 78, 84, 46, 120, 32, 73, 78, 84]
def awL3 : List Tok := [namT [73, 78, 84, 46, 120], ⟨2, 0, [73, 78, 84], 0⟩]
theorem awR3 : rdB awS3 awL3 = true := by decide +kernel
theorem awR4 : rdB [] [] = true := by decide +kernel
def awF0 : B := [120, 32, 32, 36]
theorem awE0 : flB awF0 3 = true := by decide +kernel
def awF1 : B := [35, 49, 50, 51, 52, 53, 54, 55, 56, 65]
theorem awE1 : flB awF1 0 = true := by decide +kernel
def awF2 : B := [97, 32, 50, 49, 52, 55, 52, 56, 51, 54, 52, 56]
theorem awE2 : flB awF2 2 = true := by decide +kernel
def awF3 : B := [39, 97, 98, 39]
theorem awE3 : flB awF3 0 = true := by decide +kernel
def awF4 : B := [120, 32, 58, 61, 32, 49, 50, 97, 98]
theorem awE4 : flB awF4 5 = true := by decide +kernel
theorem awT1 : textO aw1 = ([35, 70, 70, 70, 70, 70, 70, 70, 70, 32, 43, 32, 39, 42, 35, 48, 48, 39], 0) := by decide +kernel
theorem awT2 : textO aw2 = ([102, 40, 97, 44, 32, 98, 91, 49, 93, 41], 0) := by decide +kernel
theorem aw1_ok : TkL aw1 := by unfold TkL; decide +kernel
theorem aw2_ok : TkL aw2 := by unfold TkL; decide +kernel
theorem awake_ct (h : List Res) (m : View) (hg : Glob m) (hp : Pow m) : CT Tryd.prog 17 [] h m (Pure1 h (.bool true)) := by
  refine CT.body Tryd.call17 Tryd.func17 rfl Tryd.ntmps17 (Nat.le_of_ble_eq_true rfl) rfl ?_
  (repeat (first | refine WC.seqK fun K hK => ?_ | refine WC.block ?_ | refine WC.regionG rfl fun ops hG => ?_))
  refine WL.po (PO.assign Ev.const) (Nat.le_of_ble_eq_true rfl) ?_
  refine WL.nil (keepF (ts := []) rfl (toK (by assumption) ?_))
  (try clear hG ops)
  (repeat (first | refine WC.seqK fun K hK => ?_ | refine WC.block ?_ | refine WC.regionG rfl fun ops hG => ?_))
  refine WL.callP Ev.func (Evs.cons Ev.const Evs.nil) (number_ct _ _ _) (Nat.le_of_ble_eq_true rfl) ?_
  refine WL.callP Ev.func (Evs.cons Ev.const Evs.nil) (symbol_ct _ _ _) (Nat.le_of_ble_eq_true rfl) ?_
  refine WL.callP Ev.func (Evs.cons Ev.const Evs.nil) (char'_ct _ _ _) (Nat.le_of_ble_eq_true rfl) ?_
  refine WL.buildSlice EL28 rfl (EvP.cons (Ev.tmp rfl) (EvP.cons (Ev.tmp rfl) (EvP.cons (Ev.tmp rfl) EvP.nil))) rfl rfl (by decide) rfl (Nat.le_of_ble_eq_true rfl) fun b11 => ?_
  refine WL.callP Ev.func (Evs.cons (Ev.tmp rfl) Evs.nil) (CT.val (lxText_ct (some ⟨b11, 0, none⟩) 3 3 aw1 _ _ hg hp (Rd.ofPt rfl (by decide) (by (repeat (first | exact List.Mem.head _ | apply List.Mem.tail)))) aw1_ok) (by rw [awT1])) (Nat.le_of_ble_eq_true rfl) ?_
  refine WL.po (PO.move (Ev.tmp rfl)) (Nat.le_of_ble_eq_true rfl) ?_
  refine WL.po (PO.extract (Ev.tmp rfl) rfl) (Nat.le_of_ble_eq_true rfl) ?_
  refine WL.po (PO.extract (Ev.tmp rfl) rfl) (Nat.le_of_ble_eq_true rfl) ?_
  refine WL.po (PO.assign (Ev.tmp rfl)) (Nat.le_of_ble_eq_true rfl) ?_
  refine WL.po (PO.assign (Ev.tmp rfl)) (Nat.le_of_ble_eq_true rfl) ?_
  refine WL.nil (keepF (ts := [1, 2]) rfl (toK (by assumption) ?_))
  (try clear hG ops)
  (repeat (first | refine WC.seqK fun K hK => ?_ | refine WC.block ?_ | refine WC.regionG rfl fun ops hG => ?_))
  refine WL.callP Ev.func (Evs.cons Ev.const Evs.nil) (named_ct _ _ _) (Nat.le_of_ble_eq_true rfl) ?_
  refine WL.callP Ev.func (Evs.cons Ev.const Evs.nil) (symbol_ct _ _ _) (Nat.le_of_ble_eq_true rfl) ?_
  refine WL.callP Ev.func (Evs.cons Ev.const Evs.nil) (named_ct _ _ _) (Nat.le_of_ble_eq_true rfl) ?_
  refine WL.callP Ev.func (Evs.cons Ev.const Evs.nil) (symbol_ct _ _ _) (Nat.le_of_ble_eq_true rfl) ?_
  refine WL.callP Ev.func (Evs.cons Ev.const Evs.nil) (named_ct _ _ _) (Nat.le_of_ble_eq_true rfl) ?_
  refine WL.callP Ev.func (Evs.cons Ev.const Evs.nil) (symbol_ct _ _ _) (Nat.le_of_ble_eq_true rfl) ?_
  refine WL.callP Ev.func (Evs.cons Ev.const Evs.nil) (number_ct _ _ _) (Nat.le_of_ble_eq_true rfl) ?_
  refine WL.callP Ev.func (Evs.cons Ev.const Evs.nil) (symbol_ct _ _ _) (Nat.le_of_ble_eq_true rfl) ?_
  refine WL.callP Ev.func (Evs.cons Ev.const Evs.nil) (symbol_ct _ _ _) (Nat.le_of_ble_eq_true rfl) ?_
  refine WL.buildSlice EL28 rfl (EvP.cons (Ev.tmp rfl) (EvP.cons (Ev.tmp rfl) (EvP.cons (Ev.tmp rfl) (EvP.cons (Ev.tmp rfl) (EvP.cons (Ev.tmp rfl) (EvP.cons (Ev.tmp rfl) (EvP.cons (Ev.tmp rfl) (EvP.cons (Ev.tmp rfl) (EvP.cons (Ev.tmp rfl) EvP.nil))))))))) rfl rfl (by decide) rfl (Nat.le_of_ble_eq_true rfl) fun b25 => ?_
  refine WL.callP Ev.func (Evs.cons (Ev.tmp rfl) Evs.nil) (CT.val (lxText_ct (some ⟨b25, 0, none⟩) 9 9 aw2 _ _ hg hp (Rd.ofPt rfl (by decide) (by (repeat (first | exact List.Mem.head _ | apply List.Mem.tail)))) aw2_ok) (by rw [awT2])) (Nat.le_of_ble_eq_true rfl) ?_
  refine WL.po (PO.move (Ev.tmp rfl)) (Nat.le_of_ble_eq_true rfl) ?_
  refine WL.po (PO.extract (Ev.tmp rfl) rfl) (Nat.le_of_ble_eq_true rfl) ?_
  refine WL.po (PO.extract (Ev.tmp rfl) rfl) (Nat.le_of_ble_eq_true rfl) ?_
  refine WL.po (PO.assign (Ev.tmp rfl)) (Nat.le_of_ble_eq_true rfl) ?_
  refine WL.po (PO.assign (Ev.tmp rfl)) (Nat.le_of_ble_eq_true rfl) ?_
  refine WL.nil (keepF (ts := [1, 2, 3, 4]) rfl (toK (by assumption) ?_))
  (try clear hG ops)
  (repeat (first | refine WC.seqK fun K hK => ?_ | refine WC.block ?_ | refine WC.regionG rfl fun ops hG => ?_))
  refine WL.callP Ev.func (Evs.cons Ev.const Evs.nil) (named_ct _ _ _) (Nat.le_of_ble_eq_true rfl) ?_
  refine WL.callP Ev.func (Evs.cons Ev.const Evs.nil) (symbol_ct _ _ _) (Nat.le_of_ble_eq_true rfl) ?_
  refine WL.callP Ev.func (Evs.cons Ev.const Evs.nil) (named_ct _ _ _) (Nat.le_of_ble_eq_true rfl) ?_
  refine WL.callP Ev.func (Evs.cons Ev.const Evs.nil) (symbol_ct _ _ _) (Nat.le_of_ble_eq_true rfl) ?_
  refine WL.callP Ev.func (Evs.cons Ev.const Evs.nil) (number_ct _ _ _) (Nat.le_of_ble_eq_true rfl) ?_
  refine WL.buildSlice EL28 rfl (EvP.cons (Ev.tmp rfl) (EvP.cons (Ev.tmp rfl) (EvP.cons (Ev.tmp rfl) (EvP.cons (Ev.tmp rfl) (EvP.cons (Ev.tmp rfl) EvP.nil))))) rfl rfl (by decide) rfl (Nat.le_of_ble_eq_true rfl) fun b34 => ?_
  refine WL.callP Ev.func (Evs.cons Ev.const (Evs.cons (Ev.tmp rfl) Evs.nil)) (CT.argsE rfl (CT.val (reads_ct awS0 (some ⟨b34, 0, none⟩) 5 5 awL0 _ _ hg (by decide) (Rd.ofPt rfl (by decide) (by (repeat (first | exact List.Mem.head _ | apply List.Mem.tail))))) (by rw [awR0]))) (Nat.le_of_ble_eq_true rfl) ?_
  refine WL.po (PO.move (Ev.tmp rfl)) (Nat.le_of_ble_eq_true rfl) ?_
  refine WL.unG (GU.t (hG _ _ rfl) rfl) rfl ?_
  refine WL.callP Ev.func (Evs.cons Ev.const Evs.nil) (char'_ct _ _ _) (Nat.le_of_ble_eq_true rfl) ?_
  refine WL.unG (GU.t (hG _ _ rfl) rfl) rfl ?_
  refine WL.callP Ev.func (Evs.cons Ev.const Evs.nil) (char'_ct _ _ _) (Nat.le_of_ble_eq_true rfl) ?_
  refine WL.unG (GU.t (hG _ _ rfl) rfl) rfl ?_
  refine WL.callP Ev.func (Evs.cons Ev.const Evs.nil) (char'_ct _ _ _) (Nat.le_of_ble_eq_true rfl) ?_
  refine WL.unG (GU.t (hG _ _ rfl) rfl) rfl ?_
  refine WL.buildSlice EL28 rfl (EvP.cons (Ev.tmp rfl) (EvP.cons (Ev.tmp rfl) (EvP.cons (Ev.tmp rfl) EvP.nil))) rfl rfl (by decide) rfl (Nat.le_of_ble_eq_true rfl) fun b40 => ?_
  refine WL.unG (GU.t (hG _ _ rfl) rfl) rfl ?_
  refine WL.callP Ev.func (Evs.cons Ev.const (Evs.cons (Ev.tmp rfl) Evs.nil)) (CT.argsE rfl (CT.val (reads_ct awS1 (some ⟨b40, 0, none⟩) 3 3 awL1 _ _ hg (by decide) (Rd.ofPt rfl (by decide) (by (repeat (first | exact List.Mem.head _ | apply List.Mem.tail))))) (by rw [awR1]))) (Nat.le_of_ble_eq_true rfl) ?_
  refine WL.po (PO.pickAnd rfl rfl) (Nat.le_of_ble_eq_true rfl) ?_
  refine WL.po (PO.move (Ev.tmp rfl)) (Nat.le_of_ble_eq_true rfl) ?_
  refine WL.unG (GU.t (hG _ _ rfl) rfl) rfl ?_
  refine WL.callP Ev.func (Evs.cons Ev.const Evs.nil) (named_ct _ _ _) (Nat.le_of_ble_eq_true rfl) ?_
  refine WL.unG (GU.t (hG _ _ rfl) rfl) rfl ?_
  refine WL.callP Ev.func (Evs.cons Ev.const Evs.nil) (symbol_ct _ _ _) (Nat.le_of_ble_eq_true rfl) ?_
  refine WL.unG (GU.t (hG _ _ rfl) rfl) rfl ?_
  refine WL.callP Ev.func (Evs.cons Ev.const Evs.nil) (symbol_ct _ _ _) (Nat.le_of_ble_eq_true rfl) ?_
  refine WL.unG (GU.t (hG _ _ rfl) rfl) rfl ?_
  refine WL.callP Ev.func (Evs.cons Ev.const Evs.nil) (number_ct _ _ _) (Nat.le_of_ble_eq_true rfl) ?_
  refine WL.unG (GU.t (hG _ _ rfl) rfl) rfl ?_
  refine WL.buildSlice EL28 rfl (EvP.cons (Ev.tmp rfl) (EvP.cons (Ev.tmp rfl) (EvP.cons (Ev.tmp rfl) (EvP.cons (Ev.tmp rfl) EvP.nil)))) rfl rfl (by decide) rfl (Nat.le_of_ble_eq_true rfl) fun b48 => ?_
  refine WL.unG (GU.t (hG _ _ rfl) rfl) rfl ?_
  refine WL.callP Ev.func (Evs.cons Ev.const (Evs.cons (Ev.tmp rfl) Evs.nil)) (CT.argsE rfl (CT.val (reads_ct awS2 (some ⟨b48, 0, none⟩) 4 4 awL2 _ _ hg (by decide) (Rd.ofPt rfl (by decide) (by (repeat (first | exact List.Mem.head _ | apply List.Mem.tail))))) (by rw [awR2]))) (Nat.le_of_ble_eq_true rfl) ?_
  refine WL.po (PO.pickAnd rfl rfl) (Nat.le_of_ble_eq_true rfl) ?_
  refine WL.po (PO.move (Ev.tmp rfl)) (Nat.le_of_ble_eq_true rfl) ?_
  refine WL.unG (GU.t (hG _ _ rfl) rfl) rfl ?_
  refine WL.callP Ev.func (Evs.cons Ev.const Evs.nil) (named_ct _ _ _) (Nat.le_of_ble_eq_true rfl) ?_
  refine WL.unG (GU.t (hG _ _ rfl) rfl) rfl ?_
  refine WL.po (PO.build Tryd.underlying26 rfl rfl rfl (EvP.cons Ev.const (EvP.cons Ev.const EvP.nil)) rfl) (Nat.le_of_ble_eq_true rfl) ?_
  refine WL.unG (GU.t (hG _ _ rfl) rfl) rfl ?_
  refine WL.buildSlice EL28 rfl (EvP.cons (Ev.tmp rfl) (EvP.cons (Ev.tmp rfl) EvP.nil)) rfl rfl (by decide) rfl (Nat.le_of_ble_eq_true rfl) fun b54 => ?_
  refine WL.unG (GU.t (hG _ _ rfl) rfl) rfl ?_
  refine WL.callP Ev.func (Evs.cons Ev.const (Evs.cons (Ev.tmp rfl) Evs.nil)) (CT.argsE rfl (CT.val (reads_ct awS3 (some ⟨b54, 0, none⟩) 2 2 awL3 _ _ hg (by decide) (Rd.ofPt rfl (by decide) (by (repeat (first | exact List.Mem.head _ | apply List.Mem.tail))))) (by rw [awR3]))) (Nat.le_of_ble_eq_true rfl) ?_
  refine WL.po (PO.pickAnd rfl rfl) (Nat.le_of_ble_eq_true rfl) ?_
  refine WL.po (PO.move (Ev.tmp rfl)) (Nat.le_of_ble_eq_true rfl) ?_
  refine WL.unG (GU.t (hG _ _ rfl) rfl) rfl ?_
  refine WL.callP Ev.func (Evs.cons Ev.const (Evs.cons Ev.const Evs.nil)) (CT.argsE rfl (CT.val (reads_ct [] none 0 0 [] _ _ hg (by decide) (Rd.nilF encK 4 _ _)) (by rw [awR4]))) (Nat.le_of_ble_eq_true rfl) ?_
  refine WL.po (PO.pickAnd rfl rfl) (Nat.le_of_ble_eq_true rfl) ?_
  refine WL.po (PO.assign (Ev.tmp rfl)) (Nat.le_of_ble_eq_true rfl) ?_
  refine WL.nil (keepF (ts := [1, 2, 3, 4, 5]) rfl (toK (by assumption) ?_))
  (try clear hG ops)
  (repeat (first | refine WC.seqK fun K hK => ?_ | refine WC.block ?_ | refine WC.regionG rfl fun ops hG => ?_))
  refine WL.callP Ev.func (Evs.cons Ev.const (Evs.cons Ev.const Evs.nil)) (CT.argsE rfl (CT.val (fails_ct awF0 3 _ _ hg (by decide)) (by rw [awE0]))) (Nat.le_of_ble_eq_true rfl) ?_
  refine WL.po (PO.move (Ev.tmp rfl)) (Nat.le_of_ble_eq_true rfl) ?_
  refine WL.callG (GU.t (hG _ _ rfl) rfl) (fun hc => ⟨Ev.func, (Evs.cons Ev.const (Evs.cons Ev.const Evs.nil)), CT.argsE rfl (CT.val (fails_ct awF1 0 _ _ hg (by decide)) (by rw [awE1]))⟩) (Nat.le_of_ble_eq_true rfl) ?_
  refine WL.po (PO.pickAnd rfl rfl) (Nat.le_of_ble_eq_true rfl) ?_
  refine WL.po (PO.move (Ev.tmp rfl)) (Nat.le_of_ble_eq_true rfl) ?_
  refine WL.callG (GU.t (hG _ _ rfl) rfl) (fun hc => ⟨Ev.func, (Evs.cons Ev.const (Evs.cons Ev.const Evs.nil)), CT.argsE rfl (CT.val (fails_ct awF2 2 _ _ hg (by decide)) (by rw [awE2]))⟩) (Nat.le_of_ble_eq_true rfl) ?_
  refine WL.po (PO.pickAnd rfl rfl) (Nat.le_of_ble_eq_true rfl) ?_
  refine WL.po (PO.move (Ev.tmp rfl)) (Nat.le_of_ble_eq_true rfl) ?_
  refine WL.callG (GU.t (hG _ _ rfl) rfl) (fun hc => ⟨Ev.func, (Evs.cons Ev.const (Evs.cons Ev.const Evs.nil)), CT.argsE rfl (CT.val (fails_ct awF3 0 _ _ hg (by decide)) (by rw [awE3]))⟩) (Nat.le_of_ble_eq_true rfl) ?_
  refine WL.po (PO.pickAnd rfl rfl) (Nat.le_of_ble_eq_true rfl) ?_
  refine WL.po (PO.move (Ev.tmp rfl)) (Nat.le_of_ble_eq_true rfl) ?_
  refine WL.callG (GU.t (hG _ _ rfl) rfl) (fun hc => ⟨Ev.func, (Evs.cons Ev.const (Evs.cons Ev.const Evs.nil)), CT.argsE rfl (CT.val (fails_ct awF4 5 _ _ hg (by decide)) (by rw [awE4]))⟩) (Nat.le_of_ble_eq_true rfl) ?_
  refine WL.po (PO.pickAnd rfl rfl) (Nat.le_of_ble_eq_true rfl) ?_
  refine WL.po (PO.assign (Ev.tmp rfl)) (Nat.le_of_ble_eq_true rfl) ?_
  refine WL.nil (keepF (ts := [1, 2, 3, 4, 5, 6]) rfl (toK (by assumption) ?_))
  (try clear hG ops)
  (repeat (first | refine WC.seqK fun K hK => ?_ | refine WC.block ?_ | refine WC.regionG rfl fun ops hG => ?_))
  refine WL.po (PO.move (Ev.tmp rfl)) (Nat.le_of_ble_eq_true rfl) ?_
  refine WL.po (PO.move (Ev.tmp rfl)) (Nat.le_of_ble_eq_true rfl) ?_
  refine WL.poG (GU.t (hG _ _ rfl) rfl) (fun hc => PO.move (Ev.tmp rfl)) (Nat.le_of_ble_eq_true rfl) ?_
  refine WL.po (PO.pickAnd rfl rfl) (Nat.le_of_ble_eq_true rfl) ?_
  refine WL.po (PO.move (Ev.tmp rfl)) (Nat.le_of_ble_eq_true rfl) ?_
  refine WL.poG (GU.t (hG _ _ rfl) rfl) (fun hc => PO.move (Ev.tmp rfl)) (Nat.le_of_ble_eq_true rfl) ?_
  refine WL.poG (GU.t (hG _ _ rfl) rfl) (fun hc => PO.eqlS (Ev.gv rfl hc) Ev.const) (Nat.le_of_ble_eq_true rfl) ?_
  refine WL.po (PO.pickAnd rfl rfl) (Nat.le_of_ble_eq_true rfl) ?_
  refine WL.po (PO.move (Ev.tmp rfl)) (Nat.le_of_ble_eq_true rfl) ?_
  refine WL.poG (GU.t (hG _ _ rfl) rfl) (fun hc => PO.move (Ev.tmp rfl)) (Nat.le_of_ble_eq_true rfl) ?_
  refine WL.poG (GU.t (hG _ _ rfl) rfl) (fun hc => PO.bin (Ev.gv rfl hc) Ev.const rfl) (Nat.le_of_ble_eq_true rfl) ?_
  refine WL.po (PO.pickAnd rfl rfl) (Nat.le_of_ble_eq_true rfl) ?_
  refine WL.po (PO.move (Ev.tmp rfl)) (Nat.le_of_ble_eq_true rfl) ?_
  refine WL.poG (GU.t (hG _ _ rfl) rfl) (fun hc => PO.move (Ev.tmp rfl)) (Nat.le_of_ble_eq_true rfl) ?_
  refine WL.poG (GU.t (hG _ _ rfl) rfl) (fun hc => PO.eqlS (Ev.gv rfl hc) Ev.const) (Nat.le_of_ble_eq_true rfl) ?_
  refine WL.po (PO.pickAnd rfl rfl) (Nat.le_of_ble_eq_true rfl) ?_
  refine WL.po (PO.move (Ev.tmp rfl)) (Nat.le_of_ble_eq_true rfl) ?_
  refine WL.poG (GU.t (hG _ _ rfl) rfl) (fun hc => PO.move (Ev.tmp rfl)) (Nat.le_of_ble_eq_true rfl) ?_
  refine WL.poG (GU.t (hG _ _ rfl) rfl) (fun hc => PO.bin (Ev.gv rfl hc) Ev.const rfl) (Nat.le_of_ble_eq_true rfl) ?_
  refine WL.po (PO.pickAnd rfl rfl) (Nat.le_of_ble_eq_true rfl) ?_
  refine WL.po (PO.move (Ev.tmp rfl)) (Nat.le_of_ble_eq_true rfl) ?_
  refine WL.callG (GU.t (hG _ _ rfl) rfl) (fun hc => ⟨Ev.func, (Evs.cons Ev.const Evs.nil), CT.argsE rfl (name_ct [102, 114, 111, 109, 46, 104, 111, 115, 116] _ _ hg (by decide))⟩) (Nat.le_of_ble_eq_true rfl) ?_
  refine WL.po (PO.pickAnd rfl rfl) (Nat.le_of_ble_eq_true rfl) ?_
  refine WL.po (PO.move (Ev.tmp rfl)) (Nat.le_of_ble_eq_true rfl) ?_
  refine WL.callG (GU.t (hG _ _ rfl) rfl) (fun hc => ⟨Ev.func, (Evs.cons Ev.const Evs.nil), CT.argsE rfl (name_ct [83, 69, 81] _ _ hg (by decide))⟩) (Nat.le_of_ble_eq_true rfl) ?_
  refine WL.poG (GU.t (hG _ _ rfl) rfl) (fun hc => PO.not (Ev.gv rfl hc)) (Nat.le_of_ble_eq_true rfl) ?_
  refine WL.po (PO.pickAnd rfl rfl) (Nat.le_of_ble_eq_true rfl) ?_
  refine WL.po (PO.move (Ev.tmp rfl)) (Nat.le_of_ble_eq_true rfl) ?_
  refine WL.callG (GU.t (hG _ _ rfl) rfl) (fun hc => ⟨Ev.func, (Evs.cons Ev.const Evs.nil), CT.argsE rfl (key_ct [83, 101, 113] _ _ hg (by decide))⟩) (Nat.le_of_ble_eq_true rfl) ?_
  refine WL.poG (GU.t (hG _ _ rfl) rfl) (fun hc => PO.not (Ev.gv rfl hc)) (Nat.le_of_ble_eq_true rfl) ?_
  refine WL.po (PO.pickAnd rfl rfl) (Nat.le_of_ble_eq_true rfl) ?_
  refine WL.po (PO.move (Ev.tmp rfl)) (Nat.le_of_ble_eq_true rfl) ?_
  refine WL.callG (GU.t (hG _ _ rfl) rfl) (fun hc => ⟨Ev.func, (Evs.cons Ev.const Evs.nil), char'_ct _ _ _⟩) (Nat.le_of_ble_eq_true rfl) ?_
  refine WL.callG (GU.t (hG _ _ rfl) rfl) (fun hc => ⟨Ev.func, (Evs.cons (Ev.gv rfl hc) Evs.nil), lxMay_ct (chrT 256) _ _ hg (by decide)⟩) (Nat.le_of_ble_eq_true rfl) ?_
  refine WL.poG (GU.t (hG _ _ rfl) rfl) (fun hc => PO.not (Ev.gv rfl hc)) (Nat.le_of_ble_eq_true rfl) ?_
  refine WL.po (PO.pickAnd rfl rfl) (Nat.le_of_ble_eq_true rfl) ?_
  refine WL.po (PO.assign (Ev.tmp rfl)) (Nat.le_of_ble_eq_true rfl) ?_
  refine WL.nil (keepF (ts := [0]) rfl (toK (by assumption) ?_))
  (try clear hG ops)
  refine WC.ret (end1 (h' := h) (.inl rfl) rfl (RV.tmp rfl) (View.le.refl m) (by (repeat (first | exact List.Sublist.refl _ | refine List.Sublist.cons_cons _ ?_ | apply List.Sublist.cons))) ?_)
  exact ⟨congrArg Value.bool (by decide +kernel), rfl⟩
/-- A law answers true. -/
def Law : Value → View → List Res → Prop := fun v _ _ => v = .bool true
end Go.Proofs.YtddnoaffkinkkaaDoor

/- expr: reading, walked: expressions. -/
import Derived.Test.YtheejlbhmbbdjaaDoorExpQ
namespace Go.Proofs.YtheejlbhmbbdjaaDoor
open Go.Eng Go.Xp Go
open Go.Ty (Tok encK encK_len tokV)
open Go.Lx (mayK)
set_option maxRecDepth 100000
theorem op_ct' {m : View} (hg : Glob m) (b : Nat) (a : Option Addr) (c : Nat) (ts : List Tok) (k : Nat) (o : Int) (p z n : Nat) (t : Tok) (hn : z + 1 - p = n) (ht : t = nextT (ts.drop k)) (hp : p ≤ z ∧ z ≤ 100) (h0 : p ≠ 0) (h : List Res) (hk : Tks m h a c ts) (hkl : k ≤ ts.length) :
    CT Tryd.prog 63 [.pointer (some ⟨b, 0, none⟩), .int .u8 p, .int .u8 z] (rdrR b a c ts k o :: h) m
      (fun v _ h' => v = .int .u8 (opF t n p) ∧ h' = rdrR b a c ts (if opF t n p = 0 then k else k + 1 : Nat) o :: h) := by
  subst hn ht
  exact op_ct hg b a c ts k o p z hp h0 h hk hkl
theorem conv3_at {t : Tok} {i : Nat} (hi : i < 3) (hn : ∀ j < i, t ≠ markT (primP ((j + 1 : Nat) : Int))) (h : t = markT (primP ((i + 1 : Nat) : Int))) : conv3 t = i + 1 := by
  unfold conv3
  match i, hi with
  | 0, _ => exact if_pos h
  | 1, _ =>
    have n0 : t ≠ markT (primP 1) := hn 0 (by omega)
    rw [if_neg n0]
    exact if_pos h
  | 2, _ =>
    have n0 : t ≠ markT (primP 1) := hn 0 (by omega)
    have n1 : t ≠ markT (primP 2) := hn 1 (by omega)
    rw [if_neg n0, if_neg n1]
    exact if_pos h
theorem conv3_no {t : Tok} (hn : ∀ j < 3, t ≠ markT (primP ((j + 1 : Nat) : Int))) : conv3 t = 0 := by
  have n0 : t ≠ markT (primP 1) := hn 0 (by omega)
  have n1 : t ≠ markT (primP 2) := hn 1 (by omega)
  unfold conv3
  rw [if_neg n0, if_neg n1]
  exact if_neg (hn 2 (by omega))
section
variable {m : View} (hg : Glob m) (b : Nat) (a : Option Addr) (c : Nat) (ts : List Tok)
include hg
theorem exp {f : Nat} (hO : OPN m b a c ts f) (htn : ∀ k, (nextT (ts.drop k)).text.length ≤ 140737488355328) : EXP m b a c ts f := by
  intro h k hk hkl
  obtain ⟨t, ht⟩ : ∃ t, t = nextT (ts.drop k) := ⟨_, rfl⟩
  have hq : exprQ (insQ f) (ts.drop k) = if t = markT [83, 73, 90, 69] then (if (nextT (ts.drop (k + 1))).kind = 1 then .ok (sx 9 0 0 0 (nextT (ts.drop (k + 1))).text [], ts.drop (k + 1 + 1)) else .error 100)
    else if conv3 t ≠ 0 then unQ (fun x => sx 8 0 (conv3 t) 0 [] [x]) (opndQ (insQ f) (ts.drop (k + 1)))
    else if opF t 4 23 ≠ 0 then unQ (fun x => sx 6 (opF t 4 23) 0 0 [] [x]) (opndQ (insQ f) (ts.drop (k + 1)))
    else match opndQ (insQ f) (ts.drop k) with
      | .error e => .error e
      | .ok (a, r) => if opF (nextT r) 22 1 ≠ 0 then unQ (fun b => sx 7 (opF (nextT r) 22 1) 0 0 [] [a, b]) (opndQ (insQ f) r.tail) else .ok (a, r) := by
    rw [ht, ← tail_drop', ← tail_drop', ← tail_drop']
    rfl
  have hle := hk.le
  refine CX.body Tryd.call39 Tryd.func39 rfl Tryd.ntmps39 (leB rfl) rfl ?_
  (repeat (first | refine WC.seqK fun K hK => ?_ | refine WC.block ?_ | refine WC.regionG rfl fun ops hG => ?_))
  refine WL.alloc rfl rfl (leB rfl) fun b2 => ?_
  refine WL.nil (keepF (ts := [0, 2]) rfl (toK (by assumption) ?_))
  (try clear hG ops)
  (repeat (first | refine WC.seqK fun K hK => ?_ | refine WC.block ?_ | refine WC.regionG rfl fun ops hG => ?_))
  refine WL.po (PO.move (Ev.tmp rfl)) (leB rfl) ?_
  refine WL.callP Ev.func (Evs.cons (Ev.tmp rfl) Evs.nil) (next_ct hg b a c ts k (32 - f) _ (by (repeat (first | exact mem0 _ | apply memT))) (hk.mono (by (repeat (first | exact sub0 _ | exact subA _ _ | refine subC _ ?_ | apply subK | refine subT _ ?_))))) (leB rfl) ?_
  refine WL.alloc rfl rfl (leB rfl) fun b3 => ?_
  refine WL.store rfl (Ev.tmp rfl) (Ev.tmp rfl) rfl rfl rfl rfl (by (repeat (first | exact Upd.here | apply Upd.next))) ?_
  rw [← ht]
  refine WL.nil (keepF (ts := [0, 2, 3]) rfl (toK (by assumption) ?_))
  (try clear hG ops)
  (repeat (first | refine WC.seqK fun K hK => ?_ | refine WC.block ?_ | refine WC.regionG rfl fun ops hG => ?_))
  refine WC.drawS [1] (.op 0 (.op 1 .nil)) [2] _ [] mixed (fun _ _ _ _ _ h => h) [] (by kernel_rfl) ?_
  refine SR.po rfl rfl (PO.loadA Tryd.underlying36 rfl rfl (Ev.tmp rfl) (by (repeat (first | exact mem0 _ | apply memT))) rfl) (leB rfl) ?_
  refine SR.callP rfl rfl Ev.func (Evs.cons Ev.const Evs.nil) (fun fr => marked_ct hg _ (by decide) _) (leB rfl) ?_
  refine SR.nil rfl rfl ?_
  refine WL.po (PO.eqlA Tryd.underlying36 (by kernel_rfl) (by kernel_rfl) (Ev.tmp rfl) (Ev.tmp rfl) rfl) (leB rfl) ?_
  refine WL.nil (keepF (ts := [0, 2, 3, 13]) rfl (toK (by assumption) ?_))
  (try clear hG ops)
  (repeat (first | refine WC.seqK fun K hK => ?_ | refine WC.block ?_ | refine WC.regionG rfl fun ops hG => ?_))
  refine WC.cond (Ev.tmp rfl) (fun c13 => ?_) (fun c13 => ?_)
  · have d13 := eq_of_eqK c13
    rw [if_pos d13] at hq
    have hkl2 : k < ts.length := next_pos (by rw [← ht, d13]; rcases mark_kind [83, 73, 90, 69] with h | h <;> rw [h] <;> decide)
    (repeat (first | refine WC.seqK fun K hK => ?_ | refine WC.block ?_ | refine WC.regionG rfl fun ops hG => ?_))
    refine WL.po (PO.move (Ev.tmp rfl)) (leB rfl) ?_
    refine WL.po (PO.nilCheck (Ev.tmp rfl)) (leB rfl) ?_
    refine WL.po (PO.fieldAddr Tryd.underlying72 rfl (Nat.ne_of_beq_eq_false rfl) (Ev.tmp rfl)) (leB rfl) ?_
    refine WL.po (PO.load1 Tryd.underlying3 rfl (Ev.tmp rfl) (by (repeat (first | exact mem0 _ | apply memT))) rfl) (leB rfl) ?_
    refine WL.po (PO.addI (Ev.tmp rfl) Ev.const (by omega)) (leB rfl) ?_
    refine WL.po (PO.nilCheck (Ev.tmp rfl)) (leB rfl) ?_
    refine WL.po (PO.fieldAddr Tryd.underlying72 rfl (Nat.ne_of_beq_eq_false rfl) (Ev.tmp rfl)) (leB rfl) ?_
    refine WL.store rfl (Ev.tmp rfl) (Ev.tmp rfl) rfl rfl rfl rfl (by (repeat (first | exact Upd.here | apply Upd.next))) ?_
    refine WL.nil (keepF (ts := [0, 2, 3]) rfl (toK (by assumption) ?_))
    (try clear hG ops)
    (repeat (first | refine WC.seqK fun K hK => ?_ | refine WC.block ?_ | refine WC.regionG rfl fun ops hG => ?_))
    refine WL.po (PO.move (Ev.tmp rfl)) (leB rfl) ?_
    refine WL.callP Ev.func (Evs.cons (Ev.tmp rfl) Evs.nil) (next_ct hg b a c ts (k + 1) (32 - f) _ (by (repeat (first | exact mem0 _ | apply memT))) (hk.mono (by (repeat (first | exact sub0 _ | exact subA _ _ | refine subC _ ?_ | apply subK | refine subT _ ?_))))) (leB rfl) ?_
    refine WL.store rfl (Ev.tmp rfl) (Ev.tmp rfl) rfl rfl rfl rfl (by (repeat (first | exact Upd.here | apply Upd.next))) ?_
    refine WL.nil (keepF (ts := [0, 2, 3]) rfl (toK (by assumption) ?_))
    (try clear hG ops)
    (repeat (first | refine WC.seqK fun K hK => ?_ | refine WC.block ?_ | refine WC.regionG rfl fun ops hG => ?_))
    refine WL.po (PO.fieldAddr Tryd.underlying36 rfl (Nat.ne_of_beq_eq_false rfl) (Ev.tmp rfl)) (leB rfl) ?_
    refine WL.po (PO.load1 Tryd.underlying34 rfl (Ev.tmp rfl) (by (repeat (first | exact mem0 _ | apply memT))) rfl) (leB rfl) ?_
    refine WL.po (PO.bin (Ev.tmp rfl) Ev.const rfl) (leB rfl) ?_
    refine WL.nil (keepF (ts := [0, 2, 3, 25]) rfl (toK (by assumption) ?_))
    (try clear hG ops)
    (repeat (first | refine WC.seqK fun K hK => ?_ | refine WC.block ?_ | refine WC.regionG rfl fun ops hG => ?_))
    refine WC.cond (Ev.tmp rfl) (fun c25 => ?_) (fun c25 => ?_)
    · replace c25 := t_ne c25
      rw [if_neg c25] at hq
      (repeat (first | refine WC.seqK fun K hK => ?_ | refine WC.block ?_ | refine WC.regionG rfl fun ops hG => ?_))
      refine WL.po (PO.build Tryd.underlying68 rfl rfl rfl (EvP.cons Ev.const EvP.nil) rfl) (leB rfl) ?_
      refine WL.po (PO.makeIface Tryd.underlying68 (Ev.tmp rfl)) (leB rfl) ?_
      refine WL.panic (Ev.tmp rfl) (panX (P := Tryd.prog) (fn := Tryd.f39) (rdrR b a c ts (k + 1 : Nat) (32 - f) :: h) (View.le.refl m) (by (repeat (first | exact sub0 _ | exact subA _ _ | refine subC _ ?_ | apply subK | refine subT _ ?_))) ?_)
      exact ⟨_, _, _, hq, rfl, rfl⟩
    · replace c25 := f_ne c25
      rw [if_pos c25] at hq
      have hkl3 : k + 1 < ts.length := next_pos (by rw [c25]; decide)
      refine WC.skip (keepF (ts := [0, 2, 3]) rfl (toK (by assumption) ?_))
      (repeat (first | refine WC.seqK fun K hK => ?_ | refine WC.block ?_ | refine WC.regionG rfl fun ops hG => ?_))
      refine WL.po (PO.move (Ev.tmp rfl)) (leB rfl) ?_
      refine WL.po (PO.nilCheck (Ev.tmp rfl)) (leB rfl) ?_
      refine WL.po (PO.fieldAddr Tryd.underlying72 rfl (Nat.ne_of_beq_eq_false rfl) (Ev.tmp rfl)) (leB rfl) ?_
      refine WL.po (PO.load1 Tryd.underlying3 rfl (Ev.tmp rfl) (by (repeat (first | exact mem0 _ | apply memT))) rfl) (leB rfl) ?_
      refine WL.po (PO.addI (Ev.tmp rfl) Ev.const (by omega)) (leB rfl) ?_
      refine WL.po (PO.nilCheck (Ev.tmp rfl)) (leB rfl) ?_
      refine WL.po (PO.fieldAddr Tryd.underlying72 rfl (Nat.ne_of_beq_eq_false rfl) (Ev.tmp rfl)) (leB rfl) ?_
      refine WL.store rfl (Ev.tmp rfl) (Ev.tmp rfl) rfl rfl rfl rfl (by (repeat (first | exact Upd.here | apply Upd.next))) ?_
      refine WL.nil (keepF (ts := [2, 3]) rfl (toK (by assumption) ?_))
      (try clear hG ops)
      (repeat (first | refine WC.seqK fun K hK => ?_ | refine WC.block ?_ | refine WC.regionG rfl fun ops hG => ?_))
      refine WL.po (PO.fieldAddr Tryd.underlying36 rfl (Nat.ne_of_beq_eq_false rfl) (Ev.tmp rfl)) (leB rfl) ?_
      refine WL.po (PO.load1 Tryd.underlying9 rfl (Ev.tmp rfl) (by (repeat (first | exact mem0 _ | apply memT))) rfl) (leB rfl) ?_
      refine WL.po (PO.build Tryd.underlying27 rfl rfl rfl (EvP.cons Ev.const (EvP.cons (Ev.tmp rfl) EvP.nil)) rfl) (leB rfl) ?_
      refine WL.store rfl (Ev.tmp rfl) (Ev.tmp rfl) rfl rfl rfl rfl (by (repeat (first | exact Upd.here | apply Upd.next))) ?_
      refine WL.nil (keepF (ts := [2]) rfl (toK (by assumption) ?_))
      (try clear hG ops)
      refine WC.ret (toX (.inl rfl) (end1 (h' := rdrR b a c ts (k + 1 + 1 : Nat) (32 - f) :: h) (.inl rfl) rfl (RV.cellA Tryd.underlying27 rfl rfl rfl (by (repeat (first | exact mem0 _ | apply memT))) rfl) (View.le.refl m) (by (repeat (first | exact sub0 _ | exact subA _ _ | refine subC _ ?_ | apply subK | refine subT _ ?_))) ?_))
      exact ⟨rdrR b a c ts (k + 1 + 1 : Nat) (32 - f) :: [], rfl, _, k + 1 + 1, .mk 9 0 0 0 (nextT (ts.drop (k + 1))).text none 0 [], [], ⟨hq, by omega⟩, rfl, ⟨rfl, tok_leaf _ _ _ _ _ _ _, wf_leaf (by omega) (by omega) (by omega) (by omega) (htn (k + 1))⟩, rfl⟩
  · have d13 := ne_of_eqK c13
    rw [if_neg d13] at hq
    refine WC.skip (keepF (ts := [0, 2, 3]) rfl (toK (by assumption) ?_))
    (repeat (first | refine WC.seqK fun K hK => ?_ | refine WC.block ?_ | refine WC.regionG rfl fun ops hG => ?_))
    refine WL.po (PO.buildArr Tryd.underlying92 rfl rfl rfl (EvP.cons Ev.const (EvP.cons Ev.const (EvP.cons Ev.const EvP.nil))) rfl) (leB rfl) ?_
    refine WL.po (PO.move Ev.const) (leB rfl) ?_
    refine WL.nil (keepF (ts := [0, 2, 3, 38, 39]) rfl (toK (by assumption) ?_))
    (try clear hG ops)
    (repeat (first | refine WC.seqK fun K hK => ?_ | refine WC.block ?_ | refine WC.regionG rfl fun ops hG => ?_))
    refine WC.loopI [0, 2, 3, 38] rfl (fun μ F' h' => ∃ i : Nat, (i ≤ 3 ∧ ∀ j < i, t ≠ markT (primP ((j + 1 : Nat) : Int))) ∧ 3 - i = μ ∧ F' = [(39, .int .i64 i)] ∧ .pt b3 (.cells (encK t).toArray 36 (0, 0)) :: .pt b2 (.cells (exE (.mk 0 0 0 0 [] none 0 [])).toArray 27 (0, 0)) :: rdrR b a c ts k (32 - f) :: h = h') (3 - 0) [(39, .int .i64 0)] (h0 := .pt b3 (.cells (encK t).toArray 36 (0, 0)) :: .pt b2 (.cells (exE (.mk 0 0 0 0 [] none 0 [])).toArray 27 (0, 0)) :: rdrR b a c ts k (32 - f) :: h) ?_ (by (repeat (first | exact sub0 _ | exact subA _ _ | refine subC _ ?_ | apply subK | refine subT _ ?_))) ⟨0, ⟨by omega, fun j hj => absurd hj (Nat.not_lt_zero j)⟩, rfl, rfl, rfl⟩ ?_
    · (repeat (first | exact Sub.nil | refine Sub.cons rfl ?_ | refine Sub.consE rfl (by simp; done) ?_))
    rintro _ _ _ ⟨i, ⟨hi, hJ⟩, rfl, rfl, rfl⟩
    refine WC.frm rfl ?_
    (repeat (first | refine WC.seqK fun K hK => ?_ | refine WC.block ?_ | refine WC.regionG rfl fun ops hG => ?_))
    refine WL.po (PO.bin (Ev.tmp rfl) Ev.const rfl) (leB rfl) ?_
    refine WL.nil (keepF (ts := [0, 2, 3, 38, 39, 40]) rfl (toK (by assumption) ?_))
    (try clear hG ops)
    (repeat (first | refine WC.seqK fun K hK => ?_ | refine WC.block ?_ | refine WC.regionG rfl fun ops hG => ?_))
    refine WC.cond (Ev.tmp rfl) (fun c40 => ?_) (fun c40 => ?_)
    · replace c40 := of_decide_eq_true c40
      have hvi : ([.int .u8 1, .int .u8 2, .int .u8 3] : List Value)[i]? = some (.int .u8 ((i + 1 : Nat) : Int)) := by
        rcases (by omega : i = 0 ∨ i = 1 ∨ i = 2) with rfl | rfl | rfl <;> rfl
      have hpl := prim_len ((i + 1 : Nat) : Int)
      refine WC.skip (keepF (ts := [0, 2, 3, 38, 39]) rfl (toK (by assumption) ?_))
      (repeat (first | refine WC.seqK fun K hK => ?_ | refine WC.block ?_ | refine WC.regionG rfl fun ops hG => ?_))
      refine WL.po (PO.idxArr1 Tryd.underlying92 Tryd.underlying24 rfl rfl (Ev.tmp rfl) (Ev.tmp rfl) rfl (by omega) hvi) (leB rfl) ?_
      refine WL.po (PO.assign (Ev.tmp rfl)) (leB rfl) ?_
      refine WL.nil (keepF (ts := [0, 2, 3, 5, 38, 39]) rfl (toK (by assumption) ?_))
      (try clear hG ops)
      (repeat (first | refine WC.seqK fun K hK => ?_ | refine WC.block ?_ | refine WC.regionG rfl fun ops hG => ?_))
      refine WC.drawS [2, 3] (.op 0 (.op 1 (.op 2 (.op 3 .nil)))) [4] _ [] mixed (fun _ _ _ _ _ h => h) [] (by kernel_rfl) ?_
      refine SR.po rfl rfl (PO.loadA Tryd.underlying36 rfl rfl (Ev.tmp rfl) (by (repeat (first | exact mem0 _ | apply memT))) rfl) (leB rfl) ?_
      refine SR.po rfl rfl (PO.move (Ev.tmp rfl)) (leB rfl) ?_
      refine SR.callP rfl rfl Ev.func (Evs.cons (Ev.tmp rfl) Evs.nil) (fun fr => prim_ct _ _ _) (leB rfl) ?_
      refine SR.callP rfl rfl Ev.func (Evs.cons (Ev.tmp rfl) Evs.nil) (fun fr => marked_ct hg (primP ((i + 1 : Nat) : Int)) (by omega) _) (leB rfl) ?_
      refine SR.nil rfl rfl ?_
      refine WL.po (PO.eqlA Tryd.underlying36 (by kernel_rfl) (by kernel_rfl) (Ev.tmp rfl) (Ev.tmp rfl) rfl) (leB rfl) ?_
      refine WL.nil (keepF (ts := [0, 2, 3, 5, 38, 39, 46]) rfl (toK (by assumption) ?_))
      (try clear hG ops)
      (repeat (first | refine WC.seqK fun K hK => ?_ | refine WC.block ?_ | refine WC.regionG rfl fun ops hG => ?_))
      refine WC.cond (Ev.tmp rfl) (fun c46 => ?_) (fun c46 => ?_)
      · have d46 := eq_of_eqK c46
        have hc3 := conv3_at (by omega) hJ d46
        rw [hc3, if_pos (by omega)] at hq
        have hkl2 : k < ts.length := next_pos (by rw [← ht, d46]; rcases mark_kind (primP ((i + 1 : Nat) : Int)) with h | h <;> rw [h] <;> decide)
        (repeat (first | refine WC.seqK fun K hK => ?_ | refine WC.block ?_ | refine WC.regionG rfl fun ops hG => ?_))
        refine WL.po (PO.move (Ev.tmp rfl)) (leB rfl) ?_
        refine WL.po (PO.nilCheck (Ev.tmp rfl)) (leB rfl) ?_
        refine WL.po (PO.fieldAddr Tryd.underlying72 rfl (Nat.ne_of_beq_eq_false rfl) (Ev.tmp rfl)) (leB rfl) ?_
        refine WL.po (PO.load1 Tryd.underlying3 rfl (Ev.tmp rfl) (by (repeat (first | exact mem0 _ | apply memT))) rfl) (leB rfl) ?_
        refine WL.po (PO.addI (Ev.tmp rfl) Ev.const (by omega)) (leB rfl) ?_
        refine WL.po (PO.nilCheck (Ev.tmp rfl)) (leB rfl) ?_
        refine WL.po (PO.fieldAddr Tryd.underlying72 rfl (Nat.ne_of_beq_eq_false rfl) (Ev.tmp rfl)) (leB rfl) ?_
        refine WL.store rfl (Ev.tmp rfl) (Ev.tmp rfl) rfl rfl rfl rfl (by (repeat (first | exact Upd.here | apply Upd.next))) ?_
        refine WL.nil (keepF (ts := [0, 2, 5]) rfl (toK (by assumption) ?_))
        (try clear hG ops)
        (repeat (first | refine WC.seqK fun K hK => ?_ | refine WC.block ?_ | refine WC.regionG rfl fun ops hG => ?_))
        refine WL.po (PO.move (Ev.tmp rfl)) (leB rfl) ?_
        refine WL.po (PO.move (Ev.tmp rfl)) (leB rfl) ?_
        refine WL.perm (Del.perm (r := rdrR b a c ts (k + 1 : Nat) (32 - f)) (by (repeat (first | exact Del.here | apply Del.next)))) ?_
        refine WL.callX Ev.func (Evs.cons (Ev.tmp rfl) Evs.nil) (hO _ (k + 1) (hk.mono (by (repeat (first | exact sub0 _ | exact subA _ _ | refine subC _ ?_ | apply subK | refine subT _ ?_)))) (by omega)) (leB rfl) (fun v hv hx => ?_) fun v56 h56 hr56 => ?_
        · obtain ⟨e, k2, o2, hres, rfl, rfl⟩ := hx
          rw [hres] at hq
          exact panX (P := Tryd.prog) (fn := Tryd.f39) (rdrR b a c ts k2 o2 :: h) (View.le.refl m) (by (repeat (first | exact sub0 _ | exact subA _ _ | refine subC _ ?_ | apply subK | refine subT _ ?_))) ⟨_, _, _, hq, rfl, rfl⟩
        obtain ⟨hp56, rfl, x, k2, tx, bl, ⟨hres, hk2⟩, rfl, ⟨hst, hT, hW⟩, rfl⟩ := hr56
        refine WL.perm (h' := rdrR b a c ts k2 (32 - f) :: .pt b3 _ :: .pt b2 _ :: (bl ++ h)) ((perm_mid bl [_, _] h).cons _) ?_
        rw [hres] at hq
        refine WL.buildSlice EL25 rfl (EvP.cons (Ev.tmp rfl) EvP.nil) rfl rfl (by decide) rfl (leB rfl) fun b57 => ?_
        refine WL.po (PO.build Tryd.underlying27 rfl rfl rfl (EvP.cons Ev.const (EvP.cons (Ev.tmp rfl) (EvP.cons (Ev.tmp rfl) EvP.nil))) rfl) (leB rfl) ?_
        refine WL.store rfl (Ev.tmp rfl) (Ev.tmp rfl) rfl rfl rfl rfl (by (repeat (first | exact Upd.here | apply Upd.next))) ?_
        refine WL.perm (Del.perm (r := rdrR b a c ts k2 (32 - f)) (by (repeat (first | exact Del.here | apply Del.next)))) ?_
        refine WL.nil (keepF (ts := [2]) rfl (toK (by assumption) ?_))
        (try clear hG ops)
        refine WC.ret (toX (.inl rfl) (end1 (h' := rdrR b a c ts k2 (32 - f) :: .pt b57 (.cells (exE tx).toArray 27 (0, 0)) :: (bl ++ h)) (.inl rfl) rfl (RV.cellA Tryd.underlying27 rfl rfl rfl (by (repeat (first | exact mem0 _ | apply memT))) rfl) (View.le.refl m) (by (repeat (first | exact sub0 _ | exact subA _ _ | refine subC _ ?_ | apply subK | refine subT _ ?_))) ?_))
        exact ⟨rdrR b a c ts k2 (32 - f) :: .pt b57 (.cells (exE tx).toArray 27 (0, 0)) :: bl, rfl, _, k2, .mk 8 0 ((i + 1 : Nat) : Int) 0 [] (some ⟨b57, 0, none⟩) 1 [tx], .pt b57 (.cells (exE tx).toArray 27 (0, 0)) :: bl, ⟨hq, hk2⟩, rfl, ⟨by rw [← hst]; rfl, tok_one hT b57 _ _ _ _ _, wf_one hW (by omega) (by omega) (by omega) (by omega) (Nat.zero_le _)⟩, rfl⟩
      · have d46 := ne_of_eqK c46
        have hJ2 : ∀ j < i + 1, t ≠ markT (primP ((j + 1 : Nat) : Int)) := fun j hj => by
          rcases Nat.lt_succ_iff_lt_or_eq.1 hj with h | rfl
          · exact hJ j h
          · exact d46
        refine WC.skip (keepF (ts := [0, 2, 3, 38, 39]) rfl (toK (by assumption) ?_))
        (repeat (first | refine WC.seqK fun K hK => ?_ | refine WC.block ?_ | refine WC.regionG rfl fun ops hG => ?_))
        refine WL.po (PO.addI (Ev.tmp rfl) Ev.const (by omega)) (leB rfl) ?_
        refine WL.po (PO.move (Ev.tmp rfl)) (leB rfl) ?_
        refine WL.nil (loopBackI (3 - (i + 1)) [(39, .int .i64 (i + 1))] (h'' := .pt b3 (.cells (encK t).toArray 36 (0, 0)) :: .pt b2 (.cells (exE (.mk 0 0 0 0 [] none 0 [])).toArray 27 (0, 0)) :: rdrR b a c ts k (32 - f) :: h) (by omega) ?_ (by (repeat (first | exact Sub.nil | refine Sub.cons rfl ?_ | refine Sub.consE rfl (by simp; done) ?_))) (by (repeat (first | exact sub0 _ | exact subA _ _ | refine subC _ ?_ | apply subK | refine subT _ ?_))) ⟨i + 1, ⟨by omega, hJ2⟩, rfl, rfl, rfl⟩)
        (repeat (first | exact Sub.nil | refine Sub.cons rfl ?_ | refine Sub.consE rfl (by simp; done) ?_))
    · replace c40 := of_decide_eq_false c40
      have hc3 := conv3_no (t := t) (fun j hj => hJ j (by omega))
      rw [hc3, if_neg (by omega)] at hq
      refine WC.exit (keepF (ts := [0, 2]) rfl (toK (by assumption) ?_))
      (repeat (first | refine WC.seqK fun K hK => ?_ | refine WC.block ?_ | refine WC.regionG rfl fun ops hG => ?_))
      refine WL.po (PO.move (Ev.tmp rfl)) (leB rfl) ?_
      refine WL.perm (Del.perm (r := rdrR b a c ts k (32 - f)) (by (repeat (first | exact Del.here | apply Del.next)))) ?_
      refine WL.callK Ev.func (Evs.cons (Ev.tmp rfl) (Evs.cons Ev.const (Evs.cons Ev.const Evs.nil))) (op_ct' hg b a c ts k (32 - f) 23 26 4 t rfl ht (by decide) (by decide) _ (hk.mono (by (repeat (first | exact sub0 _ | exact subA _ _ | refine subC _ ?_ | apply subK | refine subT _ ?_)))) hkl) (leB rfl) ?_
      rintro _ _ ⟨rfl, rfl⟩
      refine WL.po (PO.assign (Ev.tmp rfl)) (leB rfl) ?_
      refine WL.nil (keepF (ts := [0, 2, 6]) rfl (toK (by assumption) ?_))
      (try clear hG ops)
      (repeat (first | refine WC.seqK fun K hK => ?_ | refine WC.block ?_ | refine WC.regionG rfl fun ops hG => ?_))
      refine WL.po (PO.move (Ev.tmp rfl)) (leB rfl) ?_
      refine WL.po (PO.bin (Ev.tmp rfl) Ev.const rfl) (leB rfl) ?_
      refine WL.nil (keepF (ts := [0, 2, 6, 63]) rfl (toK (by assumption) ?_))
      (try clear hG ops)
      (repeat (first | refine WC.seqK fun K hK => ?_ | refine WC.block ?_ | refine WC.regionG rfl fun ops hG => ?_))
      refine WC.cond (Ev.tmp rfl) (fun c63 => ?_) (fun c63 => ?_)
      · replace c63 := t_ne c63
        have d63 : opF t 4 23 ≠ 0 := by omega
        rw [if_pos d63] at hq
        rw [if_neg d63]
        have hkl2 : k < ts.length := next_pos (by rw [← ht]; exact opF_kind d63)
        have hob := opF_le t 4 23 d63
        (repeat (first | refine WC.seqK fun K hK => ?_ | refine WC.block ?_ | refine WC.regionG rfl fun ops hG => ?_))
        refine WL.po (PO.move (Ev.tmp rfl)) (leB rfl) ?_
        refine WL.po (PO.move (Ev.tmp rfl)) (leB rfl) ?_
        refine WL.callX Ev.func (Evs.cons (Ev.tmp rfl) Evs.nil) (hO _ (k + 1) (hk.mono (by (repeat (first | exact sub0 _ | exact subA _ _ | refine subC _ ?_ | apply subK | refine subT _ ?_)))) (by omega)) (leB rfl) (fun v hv hx => ?_) fun v66 h66 hr66 => ?_
        · obtain ⟨e, k2, o2, hres, rfl, rfl⟩ := hx
          rw [hres] at hq
          exact panX (P := Tryd.prog) (fn := Tryd.f39) (rdrR b a c ts k2 o2 :: h) (View.le.refl m) (by (repeat (first | exact sub0 _ | exact subA _ _ | refine subC _ ?_ | apply subK | refine subT _ ?_))) ⟨_, _, _, hq, rfl, rfl⟩
        obtain ⟨hp66, rfl, x, k2, tx, bl, ⟨hres, hk2⟩, rfl, ⟨hst, hT, hW⟩, rfl⟩ := hr66
        refine WL.perm (h' := rdrR b a c ts k2 (32 - f) :: .pt b3 _ :: .pt b2 _ :: (bl ++ h)) ((perm_mid bl [_, _] h).cons _) ?_
        rw [hres] at hq
        refine WL.buildSlice EL25 rfl (EvP.cons (Ev.tmp rfl) EvP.nil) rfl rfl (by decide) rfl (leB rfl) fun b67 => ?_
        refine WL.po (PO.build Tryd.underlying27 rfl rfl rfl (EvP.cons Ev.const (EvP.cons (Ev.tmp rfl) (EvP.cons (Ev.tmp rfl) EvP.nil))) rfl) (leB rfl) ?_
        refine WL.store rfl (Ev.tmp rfl) (Ev.tmp rfl) rfl rfl rfl rfl (by (repeat (first | exact Upd.here | apply Upd.next))) ?_
        refine WL.perm (Del.perm (r := rdrR b a c ts k2 (32 - f)) (by (repeat (first | exact Del.here | apply Del.next)))) ?_
        refine WL.nil (keepF (ts := [2]) rfl (toK (by assumption) ?_))
        (try clear hG ops)
        refine WC.ret (toX (.inl rfl) (end1 (h' := rdrR b a c ts k2 (32 - f) :: .pt b67 (.cells (exE tx).toArray 27 (0, 0)) :: (bl ++ h)) (.inl rfl) rfl (RV.cellA Tryd.underlying27 rfl rfl rfl (by (repeat (first | exact mem0 _ | apply memT))) rfl) (View.le.refl m) (by (repeat (first | exact sub0 _ | exact subA _ _ | refine subC _ ?_ | apply subK | refine subT _ ?_))) ?_))
        exact ⟨rdrR b a c ts k2 (32 - f) :: .pt b67 (.cells (exE tx).toArray 27 (0, 0)) :: bl, rfl, _, k2, .mk 6 (opF t 4 23) 0 0 [] (some ⟨b67, 0, none⟩) 1 [tx], .pt b67 (.cells (exE tx).toArray 27 (0, 0)) :: bl, ⟨hq, hk2⟩, rfl, ⟨by rw [← hst]; rfl, tok_one hT b67 _ _ _ _ _, wf_one hW (by omega) (by omega) (by omega) (by omega) (Nat.zero_le _)⟩, rfl⟩
      · replace c63 := f_ne c63
        have d63 : opF t 4 23 = 0 := by omega
        rw [if_neg (by omega)] at hq
        rw [if_pos d63]
        refine WC.skip (keepF (ts := [0, 2]) rfl (toK (by assumption) ?_))
        (repeat (first | refine WC.seqK fun K hK => ?_ | refine WC.block ?_ | refine WC.regionG rfl fun ops hG => ?_))
        refine WL.po (PO.move (Ev.tmp rfl)) (leB rfl) ?_
        refine WL.callX Ev.func (Evs.cons (Ev.tmp rfl) Evs.nil) (hO _ k (hk.mono (by (repeat (first | exact sub0 _ | exact subA _ _ | refine subC _ ?_ | apply subK | refine subT _ ?_)))) hkl) (leB rfl) (fun v hv hx => ?_) fun v70 h70 hr70 => ?_
        · obtain ⟨e, k2, o2, hres, rfl, rfl⟩ := hx
          rw [hres] at hq
          exact panX (P := Tryd.prog) (fn := Tryd.f39) (rdrR b a c ts k2 o2 :: h) (View.le.refl m) (by (repeat (first | exact sub0 _ | exact subA _ _ | refine subC _ ?_ | apply subK | refine subT _ ?_))) ⟨_, _, _, hq, rfl, rfl⟩
        obtain ⟨hp70, rfl, x, k2, tx, bl, ⟨hres, hk2⟩, rfl, ⟨hst, hT, hW⟩, rfl⟩ := hr70
        refine WL.perm (h' := rdrR b a c ts k2 (32 - f) :: .pt b3 _ :: .pt b2 _ :: (bl ++ h)) ((perm_mid bl [_, _] h).cons _) ?_
        rw [hres] at hq
        refine WL.alloc rfl rfl (leB rfl) fun b7 => ?_
        refine WL.store rfl (Ev.tmp rfl) (Ev.tmp rfl) rfl rfl rfl rfl (by (repeat (first | exact Upd.here | apply Upd.next))) ?_
        refine WL.nil (keepF (ts := [0, 2, 7]) rfl (toK (by assumption) ?_))
        (try clear hG ops)
        (repeat (first | refine WC.seqK fun K hK => ?_ | refine WC.block ?_ | refine WC.regionG rfl fun ops hG => ?_))
        refine WL.po (PO.move (Ev.tmp rfl)) (leB rfl) ?_
        refine WL.perm (Del.perm (r := rdrR b a c ts k2 (32 - f)) (by (repeat (first | exact Del.here | apply Del.next)))) ?_
        obtain ⟨t2, ht2⟩ : ∃ t2, t2 = nextT (ts.drop k2) := ⟨_, rfl⟩
        replace hq := hq.trans (show _ = if opF (nextT (ts.drop k2)) 22 1 ≠ 0 then unQ (fun b => sx 7 (opF (nextT (ts.drop k2)) 22 1) 0 0 [] [x, b]) (opndQ (insQ f) (ts.drop k2).tail) else .ok (x, ts.drop k2) from rfl)
        rw [← ht2, tail_drop'] at hq
        refine WL.callK Ev.func (Evs.cons (Ev.tmp rfl) (Evs.cons Ev.const (Evs.cons Ev.const Evs.nil))) (op_ct' hg b a c ts k2 (32 - f) 1 22 22 t2 rfl ht2 (by decide) (by decide) _ (hk.mono (by (repeat (first | exact sub0 _ | exact subA _ _ | refine subC _ ?_ | apply subK | refine subT _ ?_)))) hk2) (leB rfl) ?_
        rintro _ _ ⟨rfl, rfl⟩
        refine WL.po (PO.assign (Ev.tmp rfl)) (leB rfl) ?_
        refine WL.nil (keepF (ts := [0, 2, 7, 8]) rfl (toK (by assumption) ?_))
        (try clear hG ops)
        (repeat (first | refine WC.seqK fun K hK => ?_ | refine WC.block ?_ | refine WC.regionG rfl fun ops hG => ?_))
        refine WL.po (PO.move (Ev.tmp rfl)) (leB rfl) ?_
        refine WL.po (PO.bin (Ev.tmp rfl) Ev.const rfl) (leB rfl) ?_
        refine WL.nil (keepF (ts := [0, 2, 7, 8, 74]) rfl (toK (by assumption) ?_))
        (try clear hG ops)
        (repeat (first | refine WC.seqK fun K hK => ?_ | refine WC.block ?_ | refine WC.regionG rfl fun ops hG => ?_))
        refine WC.cond (Ev.tmp rfl) (fun c74 => ?_) (fun c74 => ?_)
        · replace c74 := t_ne c74
          have d74 : opF t2 22 1 ≠ 0 := by omega
          rw [if_pos d74] at hq
          rw [if_neg d74]
          have hkl4 : k2 < ts.length := next_pos (by rw [← ht2]; exact opF_kind d74)
          have hob := opF_le t2 22 1 d74
          (repeat (first | refine WC.seqK fun K hK => ?_ | refine WC.block ?_ | refine WC.regionG rfl fun ops hG => ?_))
          refine WC.drawS [3] (.op 0 (.op 1 (.op 2 (.op 3 .nil)))) [4, 5, 6] _ [_] mixed (fun _ _ _ _ _ h => h) [0] (by kernel_rfl) ?_
          refine SR.po rfl rfl (PO.move (Ev.tmp rfl)) (leB rfl) ?_
          refine SR.po rfl rfl (PO.loadA Tryd.underlying27 rfl rfl (Ev.tmp rfl) (by (repeat (first | exact mem0 _ | apply memT))) rfl) (leB rfl) ?_
          refine SR.po rfl rfl (PO.move (Ev.tmp rfl)) (leB rfl) ?_
          refine SR.callX rfl rfl Ev.func (Evs.cons (Ev.tmp rfl) Evs.nil) (fun fr => hO _ (k2 + 1) (Tks.mono hk (subl_fr (by (repeat (first | exact sub0 _ | exact subA _ _ | refine subC _ ?_ | apply subK | refine subT _ ?_))) fr)) (by omega)) (leB rfl) (fun fr v hv hx => ?_) fun v78 h78 hr78 => ?_
          · obtain ⟨e, k3, o2, hres2, rfl, rfl⟩ := hx
            rw [hres2] at hq
            exact panX (P := Tryd.prog) (fn := Tryd.f39) (rdrR b a c ts k3 o2 :: h) (View.le.refl m) (List.Sublist.cons_cons _ (subl_fr (by (repeat (first | exact sub0 _ | exact subA _ _ | refine subC _ ?_ | apply subK | refine subT _ ?_))) fr)) ⟨_, _, _, hq, rfl, rfl⟩
          obtain ⟨y, k3, ty, bl2, ⟨hres2, hk3⟩, rfl, ⟨hst2, hT2, hW2⟩, rfl⟩ := hr78
          rw [hres2] at hq
          refine SR.nilP (H := rdrR b a c ts k3 (32 - f) :: .pt b7 (.cells (exE tx).toArray 27 (0, 0)) :: .pt b3 (.cells (encK t).toArray 36 (0, 0)) :: .pt b2 (.cells (exE (.mk 0 0 0 0 [] none 0 [])).toArray 27 (0, 0)) :: ((bl2 ++ bl) ++ h)) rfl (by rw [List.append_assoc]; exact (perm_mid bl2 [_, _, _] (bl ++ h)).cons _) ?_
          refine WL.buildSlice EL25 rfl (EvP.cons (Ev.tmp rfl) (EvP.cons (Ev.tmp rfl) EvP.nil)) rfl rfl (by decide) rfl (leB rfl) fun b79 => ?_
          refine WL.po (PO.build Tryd.underlying27 rfl rfl rfl (EvP.cons Ev.const (EvP.cons (Ev.tmp rfl) (EvP.cons (Ev.tmp rfl) EvP.nil))) rfl) (leB rfl) ?_
          refine WL.store rfl (Ev.tmp rfl) (Ev.tmp rfl) rfl rfl rfl rfl (by (repeat (first | exact Upd.here | apply Upd.next))) ?_
          refine WL.perm (Del.perm (r := rdrR b a c ts k3 (32 - f)) (by (repeat (first | exact Del.here | apply Del.next)))) ?_
          refine WL.nil (keepF (ts := [2]) rfl (toK (by assumption) ?_))
          (try clear hG ops)
          refine WC.ret (toX (.inl rfl) (end1 (h' := rdrR b a c ts k3 (32 - f) :: .pt b79 (.cells (exE tx ++ exE ty).toArray 27 (0, 0)) :: ((bl2 ++ bl) ++ h)) (.inl rfl) rfl (RV.cellA Tryd.underlying27 rfl rfl rfl (by (repeat (first | exact mem0 _ | apply memT))) rfl) (View.le.refl m) (by (repeat (first | exact sub0 _ | exact subA _ _ | refine subC _ ?_ | apply subK | refine subT _ ?_))) ?_))
          exact ⟨rdrR b a c ts k3 (32 - f) :: .pt b79 (.cells (exE tx ++ exE ty).toArray 27 (0, 0)) :: (bl2 ++ bl), rfl, _, k3, .mk 7 (opF t2 22 1) 0 0 [] (some ⟨b79, 0, none⟩) 2 [tx, ty], .pt b79 (.cells (exE tx ++ exE ty).toArray 27 (0, 0)) :: (bl2 ++ bl), ⟨hq, hk3⟩, rfl, ⟨by rw [← hst, ← hst2]; rfl, tok_two hT hT2 b79 _ _ _ _ _, wf_two hW hW2 (by omega) (by omega) (by omega) (by omega) (Nat.zero_le _)⟩, rfl⟩
        · replace c74 := f_ne c74
          have d74 : opF t2 22 1 = 0 := by omega
          rw [if_neg (by omega)] at hq
          rw [if_pos d74]
          refine WC.skip (keepF (ts := [2, 7]) rfl (toK (by assumption) ?_))
          (repeat (first | refine WC.seqK fun K hK => ?_ | refine WC.block ?_ | refine WC.regionG rfl fun ops hG => ?_))
          refine WL.po (PO.loadA Tryd.underlying27 rfl rfl (Ev.tmp rfl) (by (repeat (first | exact mem0 _ | apply memT))) rfl) (leB rfl) ?_
          refine WL.store rfl (Ev.tmp rfl) (Ev.tmp rfl) rfl rfl rfl rfl (by (repeat (first | exact Upd.here | apply Upd.next))) ?_
          refine WL.nil (keepF (ts := [2]) rfl (toK (by assumption) ?_))
          (try clear hG ops)
          refine WC.ret (toX (.inl rfl) (end1 (h' := rdrR b a c ts k2 (32 - f) :: (bl ++ h)) (.inl rfl) rfl (RV.cellA Tryd.underlying27 rfl rfl rfl (by (repeat (first | exact mem0 _ | apply memT))) rfl) (View.le.refl m) (by (repeat (first | exact sub0 _ | exact subA _ _ | refine subC _ ?_ | apply subK | refine subT _ ?_))) ?_))
          exact ⟨rdrR b a c ts k2 (32 - f) :: bl, rfl, x, k2, tx, bl, ⟨hq, hk2⟩, rfl, ⟨hst, hT, hW⟩, rfl⟩
end
theorem all_cx {m : View} (hg : Glob m) (b : Nat) (a : Option Addr) (c : Nat) (ts : List Tok) (htn : ∀ k, (-2147483648 ≤ (nextT (ts.drop k)).n ∧ (nextT (ts.drop k)).n ≤ 2147483647) ∧ (nextT (ts.drop k)).text.length ≤ 140737488355328) :
    ∀ f, f ≤ 32 → INS m b a c ts f ∧ EXP m b a c ts f
  | 0, _ => ⟨ins0 b a c ts, exp hg b a c ts (opn hg b a c ts (ins0 b a c ts) htn) fun k => (htn k).2⟩
  | f + 1, hf => by
    have ih := all_cx hg b a c ts htn f (by omega)
    have hI := ins1 hg b a c ts (by omega) ih.2
    exact ⟨hI, exp hg b a c ts (opn hg b a c ts hI htn) fun k => (htn k).2⟩
end Go.Proofs.YtheejlbhmbbdjaaDoor

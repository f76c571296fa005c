/- expr: reading, walked: the next token, take, operator. -/
import Derived.Test.YtheejlbhmbbdjaaDoorExpG
import Derived.Test.YtheejlbhmbbdjaaDoorExpN
import Derived.Test.YtheejlbhmbbdjaaDoorLexC
namespace Go.Proofs.YtheejlbhmbbdjaaDoor
open Go.Eng Go.Xp Go
open Go.Ty (Tok encK encK_len tokV)
open Go.Lx (mayK)
set_option maxRecDepth 100000
theorem subl_fr {h hs : List Res} (q : h.Sublist hs) (fr : List Res) : h.Sublist (fr ++ hs) := q.trans (List.sublist_append_right fr hs)
abbrev rdrR (b : Nat) (a : Option Addr) (c : Nat) (ts : List Tok) (k : Int) (o : Int) : Res := .pt b (.cells [.slice a ts.length c, .int .i64 k, .int .i64 o].toArray 72 (0, 0))
/-- The tokens that are read. -/
structure Tks (m : View) (h : List Res) (a : Option Addr) (c : Nat) (ts : List Tok) : Prop where
  rd : Rd m h a ts.length c 4 (fl encK ts)
  le : ts.length ≤ 1000000
  tx : ∀ t ∈ ts, t.text.length ≤ 140737488355328
theorem Tks.mono {m : View} {h h' : List Res} {a : Option Addr} {c : Nat} {ts : List Tok} (q : Tks m h a c ts) (s : h.Sublist h') : Tks m h' a c ts := ⟨q.rd.mono (View.le.refl m) s, q.le, q.tx⟩
theorem next_ct {m : View} (hg : Glob m) (b : Nat) (a : Option Addr) (c : Nat) (ts : List Tok) (k : Nat) (o : Int) (h : List Res) (hr : rdrR b a c ts k o ∈ h) (hk : Tks m h a c ts) : CT Tryd.prog 61 [.pointer (some ⟨b, 0, none⟩)] h m (Pure1 h (tokV (nextT (ts.drop k)))) := by
  have hrd := hk.rd
  have hle := hk.le
  obtain ⟨t, ht⟩ : ∃ t, t = ts.getD k zeroT := ⟨_, rfl⟩
  have hel : k < ts.length → ts[k]? = some t := fun hq => by rw [ht, List.getD_eq_getElem?_getD, List.getElem?_eq_getElem hq]; rfl
  have htx : t.text.length ≤ 140737488355328 := by
    rcases Nat.lt_or_ge k ts.length with hq | hq
    · exact hk.tx t (List.mem_of_getElem? (hel hq))
    · rw [ht, List.getD_eq_getElem?_getD, List.getElem?_eq_none hq]; decide
  refine CT.body Tryd.call61 Tryd.func61 rfl Tryd.ntmps61 (leB rfl) rfl ?_
  (repeat (first | refine WC.seqK fun K hK => ?_ | refine WC.block ?_ | refine WC.regionG rfl fun ops hG => ?_))
  refine WL.alloc rfl rfl (leB rfl) fun b2 => ?_
  refine WL.nil (keepF (ts := [0, 2]) rfl (toK (by assumption) ?_))
  (try clear hG ops)
  (repeat (first | refine WC.seqK fun K hK => ?_ | refine WC.block ?_ | refine WC.regionG rfl fun ops hG => ?_))
  refine WC.drawS [] (.op 0 (.op 1 (.op 2 (.op 3 (.op 4 (.op 5 (.op 6 (.op 7 (.op 8 (.op 9 (.op 10 (.op 11 (.op 12 (.op 13 (.op 14 (.op 15 (.op 16 (.op 17 (.op 18 .nil))))))))))))))))))) [19, 20, 21, 22, 23] _ [] mixed (fun _ _ _ _ _ h => h) [] (by kernel_rfl) ?_
  refine SR.po rfl rfl (PO.move (Ev.tmp rfl)) (leB rfl) ?_
  refine SR.po rfl rfl (PO.nilCheck (Ev.tmp rfl)) (leB rfl) ?_
  refine SR.po rfl rfl (PO.fieldAddr Tryd.underlying72 rfl (Nat.ne_of_beq_eq_false rfl) (Ev.tmp rfl)) (leB rfl) ?_
  refine SR.po rfl rfl (PO.load1 Tryd.underlying3 rfl (Ev.tmp rfl) (List.mem_cons_of_mem _ hr) rfl) (leB rfl) ?_
  refine SR.po rfl rfl (PO.move (Ev.tmp rfl)) (leB rfl) ?_
  refine SR.po rfl rfl (PO.nilCheck (Ev.tmp rfl)) (leB rfl) ?_
  refine SR.po rfl rfl (PO.fieldAddr Tryd.underlying72 rfl (Nat.ne_of_beq_eq_false rfl) (Ev.tmp rfl)) (leB rfl) ?_
  refine SR.po rfl rfl (PO.load1 Tryd.underlying28 rfl (Ev.tmp rfl) (List.mem_cons_of_mem _ hr) rfl) (leB rfl) ?_
  refine SR.po rfl rfl (PO.lenSl Tryd.underlying28 (Ev.tmp rfl)) (leB rfl) ?_
  refine SR.po rfl rfl (PO.bin (Ev.tmp rfl) (Ev.tmp rfl) rfl) (leB rfl) ?_
  refine SR.po rfl rfl (PO.move (Ev.tmp rfl)) (leB rfl) ?_
  refine SR.poG rfl rfl (GU.f rfl rfl) (fun hc => PO.move (Ev.tmp rfl)) (leB rfl) ?_
  refine SR.poG rfl rfl (GU.f rfl rfl) (fun hc => PO.nilCheck (Ev.gv rfl hc)) (leB rfl) ?_
  refine SR.poG rfl rfl (GU.f rfl rfl) (fun hc => PO.fieldAddr Tryd.underlying72 rfl (Nat.ne_of_beq_eq_false rfl) (Ev.gv rfl hc)) (leB rfl) ?_
  refine SR.poG rfl rfl (GU.f rfl rfl) (fun hc => PO.load1 Tryd.underlying28 rfl (Ev.gv rfl hc) (List.mem_cons_of_mem _ hr) rfl) (leB rfl) ?_
  refine SR.poG rfl rfl (GU.f rfl rfl) (fun hc => PO.move (Ev.tmp rfl)) (leB rfl) ?_
  refine SR.poG rfl rfl (GU.f rfl rfl) (fun hc => PO.nilCheck (Ev.gv rfl hc)) (leB rfl) ?_
  refine SR.poG rfl rfl (GU.f rfl rfl) (fun hc => PO.fieldAddr Tryd.underlying72 rfl (Nat.ne_of_beq_eq_false rfl) (Ev.gv rfl hc)) (leB rfl) ?_
  refine SR.poG rfl rfl (GU.f rfl rfl) (fun hc => PO.load1 Tryd.underlying3 rfl (Ev.gv rfl hc) (List.mem_cons_of_mem _ hr) rfl) (leB rfl) ?_
  refine SR.nil rfl rfl ?_
  refine WL.poG (GU.f rfl rfl) (fun hc => PO.idx EL28.und EL28.size EL28.posz (Ev.gv rfl hc) (Ev.gv rfl hc) (by first | assumption | exact Rd.ofSl (by assumption) | exact Rd.ofPt rfl (by decide) (by (repeat (first | exact mem0 _ | apply memT))) | exact Rd.mono (by assumption) (View.le.refl _) (by (repeat (first | exact sub0 _ | exact subA _ _ | refine subC _ ?_ | apply subK | refine subT _ ?_))) | exact Rd.inRow (by (repeat (first | exact mem0 _ | apply memT))) (by assumption) (by assumption) (by assumption)) rfl (by simp at hc; omega)) (leB rfl) ?_
  refine WL.poG (GU.f rfl rfl) (fun hc => PO.loadFA Tryd.underlying36 rfl rfl encK_len (by first | assumption | exact Rd.ofSl (by assumption) | exact Rd.ofPt rfl (by decide) (by (repeat (first | exact mem0 _ | apply memT))) | exact Rd.mono (by assumption) (View.le.refl _) (by (repeat (first | exact sub0 _ | exact subA _ _ | refine subC _ ?_ | apply subK | refine subT _ ?_))) | exact Rd.inRow (by (repeat (first | exact mem0 _ | apply memT))) (by assumption) (by assumption) (by assumption)) (Ev.gv rfl hc) (hel (by simp at hc; omega)) rfl rfl (Nat.succ_pos _)) (leB rfl) ?_
  refine WL.callG (GU.f rfl rfl) (fun hc => ⟨Ev.func, (Evs.cons (Ev.gv rfl hc) Evs.nil), lxMay_ct t _ _ hg htx⟩) (leB rfl) ?_
  refine WL.poG (GU.f rfl rfl) (fun hc => PO.not (Ev.gv rfl hc)) (leB rfl) ?_
  refine WL.po (PO.pickOr rfl rfl) (leB rfl) ?_
  refine WL.nil (keepF (ts := [0, 2, 27]) rfl (toK (by assumption) ?_))
  (try clear hG ops)
  (repeat (first | refine WC.seqK fun K hK => ?_ | refine WC.block ?_ | refine WC.regionG rfl fun ops hG => ?_))
  refine WC.cond (Ev.tmp rfl) (fun c27 => ?_) (fun c27 => ?_)
  · have hz : nextT (ts.drop k) = zeroT := by
      rcases Nat.lt_or_ge k ts.length with hq | hq
      · rw [drop_at (hel hq), next_cons]
        have h1 : decide ((k : Int) ≥ (ts.length : Int)) = false := decide_eq_false (by omega)
        rw [h1] at c27
        have h2 : mayK t = false := by simpa using c27
        rw [h2]
        rfl
      · rw [List.drop_eq_nil_of_le hq]; rfl
    (repeat (first | refine WC.seqK fun K hK => ?_ | refine WC.block ?_ | refine WC.regionG rfl fun ops hG => ?_))
    refine WL.po (PO.build Tryd.underlying36 rfl rfl rfl EvP.nil rfl) (leB rfl) ?_
    refine WL.store rfl (Ev.tmp rfl) (Ev.tmp rfl) rfl rfl rfl rfl (by (repeat (first | exact Upd.here | apply Upd.next))) ?_
    refine WL.nil (keepF (ts := [2]) rfl (toK (by assumption) ?_))
    (try clear hG ops)
    refine WC.ret (end1 (h' := h) (.inl rfl) rfl (RV.cellA Tryd.underlying36 rfl rfl rfl (by (repeat (first | exact mem0 _ | apply memT))) rfl) (View.le.refl m) (by (repeat (first | exact sub0 _ | exact subA _ _ | refine subC _ ?_ | apply subK | refine subT _ ?_))) ?_)
    exact ⟨by rw [hz]; rfl, rfl⟩
  · have hq : k < ts.length := by
      rcases Nat.lt_or_ge k ts.length with hq | hq
      · exact hq
      · have h1 : decide ((k : Int) ≥ (ts.length : Int)) = true := decide_eq_true (by omega)
        rw [h1] at c27
        cases c27
    have hx := hel hq
    have hz : nextT (ts.drop k) = { t with at_ := 0 } := by
      have h1 : decide ((k : Int) ≥ (ts.length : Int)) = false := decide_eq_false (by omega)
      rw [h1] at c27
      have h2 : mayK t = true := by simpa using c27
      rw [drop_at hx, next_cons, h2]
      rfl
    refine WC.skip (keepF (ts := [0, 2]) rfl (toK (by assumption) ?_))
    (repeat (first | refine WC.seqK fun K hK => ?_ | refine WC.block ?_ | refine WC.regionG rfl fun ops hG => ?_))
    refine WC.drawS [10] (.op 0 (.op 1 (.op 2 (.op 3 (.op 4 (.op 5 (.op 6 (.op 7 (.op 8 (.op 9 (.op 10 .nil))))))))))) [11] _ [] mixed (fun _ _ _ _ _ h => h) [] (by kernel_rfl) ?_
    refine SR.po rfl rfl (PO.move (Ev.tmp rfl)) (leB rfl) ?_
    refine SR.po rfl rfl (PO.nilCheck (Ev.tmp rfl)) (leB rfl) ?_
    refine SR.po rfl rfl (PO.fieldAddr Tryd.underlying72 rfl (Nat.ne_of_beq_eq_false rfl) (Ev.tmp rfl)) (leB rfl) ?_
    refine SR.po rfl rfl (PO.load1 Tryd.underlying28 rfl (Ev.tmp rfl) (List.mem_cons_of_mem _ hr) rfl) (leB rfl) ?_
    refine SR.po rfl rfl (PO.move (Ev.tmp rfl)) (leB rfl) ?_
    refine SR.po rfl rfl (PO.nilCheck (Ev.tmp rfl)) (leB rfl) ?_
    refine SR.po rfl rfl (PO.fieldAddr Tryd.underlying72 rfl (Nat.ne_of_beq_eq_false rfl) (Ev.tmp rfl)) (leB rfl) ?_
    refine SR.po rfl rfl (PO.load1 Tryd.underlying3 rfl (Ev.tmp rfl) (List.mem_cons_of_mem _ hr) rfl) (leB rfl) ?_
    refine SR.po rfl rfl (PO.idx EL28.und EL28.size EL28.posz (Ev.tmp rfl) (Ev.tmp rfl) (by first | assumption | exact Rd.ofSl (by assumption) | exact Rd.ofPt rfl (by decide) (by (repeat (first | exact mem0 _ | apply memT))) | exact Rd.mono (by assumption) (View.le.refl _) (by (repeat (first | exact sub0 _ | exact subA _ _ | refine subC _ ?_ | apply subK | refine subT _ ?_))) | exact Rd.inRow (by (repeat (first | exact mem0 _ | apply memT))) (by assumption) (by assumption) (by assumption)) rfl (by omega)) (leB rfl) ?_
    refine SR.po rfl rfl (PO.loadFA Tryd.underlying36 rfl rfl encK_len (by first | assumption | exact Rd.ofSl (by assumption) | exact Rd.ofPt rfl (by decide) (by (repeat (first | exact mem0 _ | apply memT))) | exact Rd.mono (by assumption) (View.le.refl _) (by (repeat (first | exact sub0 _ | exact subA _ _ | refine subC _ ?_ | apply subK | refine subT _ ?_))) | exact Rd.inRow (by (repeat (first | exact mem0 _ | apply memT))) (by assumption) (by assumption) (by assumption)) (Ev.tmp rfl) (by assumption) rfl rfl (Nat.succ_pos _)) (leB rfl) ?_
    refine SR.alloc rfl rfl rfl rfl (leB rfl) fun b3 => ?_
    refine SR.nil rfl rfl ?_
    refine WL.store rfl (Ev.tmp rfl) (Ev.tmp rfl) rfl rfl rfl rfl (by (repeat (first | exact Upd.here | apply Upd.next))) ?_
    refine WL.nil (keepF (ts := [2, 3]) rfl (toK (by assumption) ?_))
    (try clear hG ops)
    (repeat (first | refine WC.seqK fun K hK => ?_ | refine WC.block ?_ | refine WC.regionG rfl fun ops hG => ?_))
    refine WL.po (PO.fieldAddr Tryd.underlying36 rfl (Nat.ne_of_beq_eq_false rfl) (Ev.tmp rfl)) (leB rfl) ?_
    refine WL.store rfl (Ev.tmp rfl) Ev.const rfl rfl rfl rfl (by (repeat (first | exact Upd.here | apply Upd.next))) ?_
    refine WL.nil (keepF (ts := [2, 3]) rfl (toK (by assumption) ?_))
    (try clear hG ops)
    (repeat (first | refine WC.seqK fun K hK => ?_ | refine WC.block ?_ | refine WC.regionG rfl fun ops hG => ?_))
    refine WL.po (PO.loadA Tryd.underlying36 rfl rfl (Ev.tmp rfl) (by (repeat (first | exact mem0 _ | apply memT))) rfl) (leB rfl) ?_
    refine WL.store rfl (Ev.tmp rfl) (Ev.tmp rfl) rfl rfl rfl rfl (by (repeat (first | exact Upd.here | apply Upd.next))) ?_
    refine WL.nil (keepF (ts := [2]) rfl (toK (by assumption) ?_))
    (try clear hG ops)
    refine WC.ret (end1 (h' := h) (.inl rfl) rfl (RV.cellA Tryd.underlying36 rfl rfl rfl (by (repeat (first | exact mem0 _ | apply memT))) rfl) (View.le.refl m) (by (repeat (first | exact sub0 _ | exact subA _ _ | refine subC _ ?_ | apply subK | refine subT _ ?_))) ?_)
    exact ⟨by rw [hz]; rfl, rfl⟩
abbrev failV (e : Int) : Value := .iface 68 (.agg #[.int .i64 e])
theorem eq_of_eqK {t u : Tok} (h : Go.Ty.eqK t u = true) : t = u := (Go.Ty.eqK_iff t u).1 h
theorem ne_of_eqK {t u : Tok} (h : Go.Ty.eqK t u = false) : t ≠ u := fun q => by rw [(Go.Ty.eqK_iff t u).2 q] at h; cases h
theorem next_pos {k : Nat} {ts : List Tok} (h : (nextT (ts.drop k)).kind ≠ 0) : k < ts.length := drop_ne (next_kind h)
theorem take_cx {m : View} (hg : Glob m) (b : Nat) (a : Option Addr) (c : Nat) (ts : List Tok) (k : Nat) (o : Int) (u : Tok) (h : List Res) (hk : Tks m h a c ts) (hkl : k ≤ ts.length) :
    CX Tryd.prog 92 [.pointer (some ⟨b, 0, none⟩), tokV u] (rdrR b a c ts k o :: h) m (fun _ _ h' => nextT (ts.drop k) = u ∧ h' = rdrR b a c ts (k + 1 : Nat) o :: h) (fun v h' => nextT (ts.drop k) ≠ u ∧ v = failV 100 ∧ h' = rdrR b a c ts k o :: h) := by
  have hle := hk.le
  refine CX.body Tryd.call92 Tryd.func92 rfl Tryd.ntmps92 (leB rfl) rfl ?_
  (repeat (first | refine WC.seqK fun K hK => ?_ | refine WC.block ?_ | refine WC.regionG rfl fun ops hG => ?_))
  refine WL.box (Ev.tmp rfl) rfl (leB rfl) fun b3 => ?_
  refine WL.nil (keepF (ts := [0, 3]) rfl (toK (by assumption) ?_))
  (try clear hG ops)
  (repeat (first | refine WC.seqK fun K hK => ?_ | refine WC.block ?_ | refine WC.regionG rfl fun ops hG => ?_))
  refine WC.drawS [1] (.op 0 (.op 2 (.op 1 .nil))) [3] _ [] mixed (fun _ _ _ _ _ h => h) [] (by kernel_rfl) ?_
  refine SR.po rfl rfl (PO.move (Ev.tmp rfl)) (leB rfl) ?_
  refine SR.po rfl rfl (PO.loadA Tryd.underlying36 rfl rfl (Ev.tmp rfl) (by (repeat (first | exact mem0 _ | apply memT))) rfl) (leB rfl) ?_
  refine SR.callP rfl rfl Ev.func (Evs.cons (Ev.tmp rfl) Evs.nil) (fun fr => next_ct hg b a c ts k o _ (List.mem_append_right fr (by (repeat (first | exact mem0 _ | apply memT)))) (Tks.mono hk (subl_fr (by (repeat (first | exact sub0 _ | exact subA _ _ | refine subC _ ?_ | apply subK | refine subT _ ?_))) fr))) (leB rfl) ?_
  refine SR.nil rfl rfl ?_
  refine WL.po (PO.neqA Tryd.underlying36 (by kernel_rfl) (by kernel_rfl) (Ev.tmp rfl) (Ev.tmp rfl) rfl) (leB rfl) ?_
  refine WL.nil (keepF (ts := [0, 7]) rfl (toK (by assumption) ?_))
  (try clear hG ops)
  (repeat (first | refine WC.seqK fun K hK => ?_ | refine WC.block ?_ | refine WC.regionG rfl fun ops hG => ?_))
  refine WC.cond (Ev.tmp rfl) (fun c7 => ?_) (fun c7 => ?_)
  · have d7 : Go.Ty.eqK (nextT (ts.drop k)) u = false := by have c7' : (!Go.Ty.eqK (nextT (ts.drop k)) u) = true := c7; simpa using c7'
    (repeat (first | refine WC.seqK fun K hK => ?_ | refine WC.block ?_ | refine WC.regionG rfl fun ops hG => ?_))
    refine WL.po (PO.build Tryd.underlying68 rfl rfl rfl (EvP.cons Ev.const EvP.nil) rfl) (leB rfl) ?_
    refine WL.po (PO.makeIface Tryd.underlying68 (Ev.tmp rfl)) (leB rfl) ?_
    refine WL.panic (Ev.tmp rfl) (panX (P := Tryd.prog) (fn := Tryd.f92) (rdrR b a c ts k o :: h) (View.le.refl m) (by (repeat (first | exact sub0 _ | exact subA _ _ | refine subC _ ?_ | apply subK | refine subT _ ?_))) ?_)
    exact ⟨ne_of_eqK d7, rfl, rfl⟩
  · have d7 : Go.Ty.eqK (nextT (ts.drop k)) u = true := by have c7' : (!Go.Ty.eqK (nextT (ts.drop k)) u) = false := c7; simpa using c7'
    refine WC.skip (keepF (ts := [0]) rfl (toK (by assumption) ?_))
    (repeat (first | refine WC.seqK fun K hK => ?_ | refine WC.block ?_ | refine WC.regionG rfl fun ops hG => ?_))
    refine WL.po (PO.move (Ev.tmp rfl)) (leB rfl) ?_
    refine WL.po (PO.nilCheck (Ev.tmp rfl)) (leB rfl) ?_
    refine WL.po (PO.fieldAddr Tryd.underlying72 rfl (Nat.ne_of_beq_eq_false rfl) (Ev.tmp rfl)) (leB rfl) ?_
    refine WL.po (PO.load1 Tryd.underlying3 rfl (Ev.tmp rfl) (by (repeat (first | exact mem0 _ | apply memT))) rfl) (leB rfl) ?_
    refine WL.po (PO.addI (Ev.tmp rfl) Ev.const (by omega)) (leB rfl) ?_
    refine WL.po (PO.nilCheck (Ev.tmp rfl)) (leB rfl) ?_
    refine WL.po (PO.fieldAddr Tryd.underlying72 rfl (Nat.ne_of_beq_eq_false rfl) (Ev.tmp rfl)) (leB rfl) ?_
    refine WL.store rfl (Ev.tmp rfl) (Ev.tmp rfl) rfl rfl rfl rfl (by (repeat (first | exact Upd.here | apply Upd.next))) ?_
    refine WL.nil (toX (.inr rfl) (end0 (h' := rdrR b a c ts (k + 1 : Nat) o :: h) (.inr rfl) rfl  (View.le.refl m) (by (repeat (first | exact sub0 _ | exact subA _ _ | refine subC _ ?_ | apply subK | refine subT _ ?_))) ?_))
    exact ⟨eq_of_eqK d7, rfl⟩
theorem opF_step (t : Tok) (n o : Nat) : opF t (n + 1) o = if t = operT o then o else opF t n (o + 1) := rfl
theorem op_ct {m : View} (hg : Glob m) (b : Nat) (a : Option Addr) (c : Nat) (ts : List Tok) (k : Nat) (o : Int) (p z : Nat) (hp : p ≤ z ∧ z ≤ 100) (h0 : p ≠ 0) (h : List Res) (hk : Tks m h a c ts) (hkl : k ≤ ts.length) :
    CT Tryd.prog 63 [.pointer (some ⟨b, 0, none⟩), .int .u8 p, .int .u8 z] (rdrR b a c ts k o :: h) m
      (fun v _ h' => v = .int .u8 (opF (nextT (ts.drop k)) (z + 1 - p) p) ∧ h' = rdrR b a c ts (if opF (nextT (ts.drop k)) (z + 1 - p) p = 0 then k else k + 1 : Nat) o :: h) := by
  have hle := hk.le
  obtain ⟨t, ht⟩ : ∃ t, t = nextT (ts.drop k) := ⟨_, rfl⟩
  refine CT.body Tryd.call63 Tryd.func63 rfl Tryd.ntmps63 (leB rfl) rfl ?_
  (repeat (first | refine WC.seqK fun K hK => ?_ | refine WC.block ?_ | refine WC.regionG rfl fun ops hG => ?_))
  refine WL.po (PO.assign Ev.const) (leB rfl) ?_
  refine WL.nil (keepF (ts := [0, 1, 2]) rfl (toK (by assumption) ?_))
  (try clear hG ops)
  (repeat (first | refine WC.seqK fun K hK => ?_ | refine WC.block ?_ | refine WC.regionG rfl fun ops hG => ?_))
  refine WL.po (PO.move (Ev.tmp rfl)) (leB rfl) ?_
  refine WL.callP Ev.func (Evs.cons (Ev.tmp rfl) Evs.nil) (next_ct hg b a c ts k o _ (by (repeat (first | exact mem0 _ | apply memT))) (hk.mono (by (repeat (first | exact sub0 _ | exact subA _ _ | refine subC _ ?_ | apply subK | refine subT _ ?_))))) (leB rfl) ?_
  refine WL.alloc rfl rfl (leB rfl) fun b7 => ?_
  refine WL.store rfl (Ev.tmp rfl) (Ev.tmp rfl) rfl rfl rfl rfl (by (repeat (first | exact Upd.here | apply Upd.next))) ?_
  rw [← ht]
  refine WL.nil (keepF (ts := [0, 1, 2, 7]) rfl (toK (by assumption) ?_))
  (try clear hG ops)
  (repeat (first | refine WC.seqK fun K hK => ?_ | refine WC.block ?_ | refine WC.regionG rfl fun ops hG => ?_))
  refine WL.po (PO.move (Ev.tmp rfl)) (leB rfl) ?_
  refine WL.po (PO.assign (Ev.tmp rfl)) (leB rfl) ?_
  refine WL.nil (keepF (ts := [0, 2, 7, 8]) rfl (toK (by assumption) ?_))
  (try clear hG ops)
  (repeat (first | refine WC.seqK fun K hK => ?_ | refine WC.block ?_ | refine WC.regionG rfl fun ops hG => ?_))
  refine WC.loopI [0, 2, 7] rfl (fun μ F' h' => ∃ j : Nat, ((p ≤ j ∧ j ≤ z + 1) ∧ opF t (z + 1 - p) p = opF t (z + 1 - j) j) ∧ z + 1 - j = μ ∧ F' = [(8, .int .u8 j)] ∧ .pt b7 (.cells (encK t).toArray 36 (0, 0)) :: rdrR b a c ts k o :: h = h') (z + 1 - p) [(8, .int .u8 p)] (h0 := .pt b7 (.cells (encK t).toArray 36 (0, 0)) :: rdrR b a c ts k o :: h) ?_ (by (repeat (first | exact sub0 _ | exact subA _ _ | refine subC _ ?_ | apply subK | refine subT _ ?_))) ⟨p, ⟨⟨by omega, by omega⟩, rfl⟩, rfl, rfl, rfl⟩ ?_
  · (repeat (first | exact Sub.nil | refine Sub.cons rfl ?_ | refine Sub.consE rfl (by simp; done) ?_))
  rintro _ _ _ ⟨j, ⟨hj, hJ⟩, rfl, rfl, rfl⟩
  refine WC.frm rfl ?_
  (repeat (first | refine WC.seqK fun K hK => ?_ | refine WC.block ?_ | refine WC.regionG rfl fun ops hG => ?_))
  refine WL.po (PO.move (Ev.tmp rfl)) (leB rfl) ?_
  refine WL.po (PO.move (Ev.tmp rfl)) (leB rfl) ?_
  refine WL.po (PO.bin (Ev.tmp rfl) (Ev.tmp rfl) rfl) (leB rfl) ?_
  refine WL.nil (keepF (ts := [0, 2, 7, 8, 14]) rfl (toK (by assumption) ?_))
  (try clear hG ops)
  (repeat (first | refine WC.seqK fun K hK => ?_ | refine WC.block ?_ | refine WC.regionG rfl fun ops hG => ?_))
  refine WC.cond (Ev.tmp rfl) (fun c14 => ?_) (fun c14 => ?_)
  · replace c14 := of_decide_eq_true c14
    obtain ⟨n, hn⟩ : ∃ n, z + 1 - j = n + 1 := ⟨z - j, by omega⟩
    have hn2 : z + 1 - (j + 1) = n := by omega
    rw [hn, opF_step] at hJ
    refine WC.skip (keepF (ts := [0, 2, 7, 8]) rfl (toK (by assumption) ?_))
    (repeat (first | refine WC.seqK fun K hK => ?_ | refine WC.block ?_ | refine WC.regionG rfl fun ops hG => ?_))
    refine WC.drawS [2] (.op 0 (.op 1 (.op 2 .nil))) [3] _ [] mixed (fun _ _ _ _ _ h => h) [] (by kernel_rfl) ?_
    refine SR.po rfl rfl (PO.loadA Tryd.underlying36 rfl rfl (Ev.tmp rfl) (by (repeat (first | exact mem0 _ | apply memT))) rfl) (leB rfl) ?_
    refine SR.po rfl rfl (PO.move (Ev.tmp rfl)) (leB rfl) ?_
    refine SR.callP rfl rfl Ev.func (Evs.cons (Ev.tmp rfl) Evs.nil) (fun fr => operator_ct hg j (by omega) _) (leB rfl) ?_
    refine SR.nil rfl rfl ?_
    refine WL.po (PO.eqlA Tryd.underlying36 (by kernel_rfl) (by kernel_rfl) (Ev.tmp rfl) (Ev.tmp rfl) rfl) (leB rfl) ?_
    refine WL.nil (keepF (ts := [0, 2, 7, 8, 20]) rfl (toK (by assumption) ?_))
    (try clear hG ops)
    (repeat (first | refine WC.seqK fun K hK => ?_ | refine WC.block ?_ | refine WC.regionG rfl fun ops hG => ?_))
    refine WC.cond (Ev.tmp rfl) (fun c20 => ?_) (fun c20 => ?_)
    · have d20 : t = operT j := eq_of_eqK c20
      rw [if_pos d20] at hJ
      (repeat (first | refine WC.seqK fun K hK => ?_ | refine WC.block ?_ | refine WC.regionG rfl fun ops hG => ?_))
      refine WL.po (PO.move (Ev.tmp rfl)) (leB rfl) ?_
      refine WL.po (PO.nilCheck (Ev.tmp rfl)) (leB rfl) ?_
      refine WL.po (PO.fieldAddr Tryd.underlying72 rfl (Nat.ne_of_beq_eq_false rfl) (Ev.tmp rfl)) (leB rfl) ?_
      refine WL.po (PO.load1 Tryd.underlying3 rfl (Ev.tmp rfl) (by (repeat (first | exact mem0 _ | apply memT))) rfl) (leB rfl) ?_
      refine WL.po (PO.addI (Ev.tmp rfl) Ev.const (by omega)) (leB rfl) ?_
      refine WL.po (PO.nilCheck (Ev.tmp rfl)) (leB rfl) ?_
      refine WL.po (PO.fieldAddr Tryd.underlying72 rfl (Nat.ne_of_beq_eq_false rfl) (Ev.tmp rfl)) (leB rfl) ?_
      refine WL.store rfl (Ev.tmp rfl) (Ev.tmp rfl) rfl rfl rfl rfl (by (repeat (first | exact Upd.here | apply Upd.next))) ?_
      refine WL.nil (keepF (ts := [8]) rfl (toK (by assumption) ?_))
      (try clear hG ops)
      (repeat (first | refine WC.seqK fun K hK => ?_ | refine WC.block ?_ | refine WC.regionG rfl fun ops hG => ?_))
      refine WL.po (PO.move (Ev.tmp rfl)) (leB rfl) ?_
      refine WL.po (PO.assign (Ev.tmp rfl)) (leB rfl) ?_
      refine WL.nil (keepF (ts := [6]) rfl (toK (by assumption) ?_))
      (try clear hG ops)
      refine WC.ret (end1 (h' := rdrR b a c ts (k + 1 : Nat) o :: h) (.inl rfl) rfl (RV.tmp rfl) (View.le.refl m) (by (repeat (first | exact sub0 _ | exact subA _ _ | refine subC _ ?_ | apply subK | refine subT _ ?_))) ?_)
      rw [← ht, hJ, if_neg (by omega)]; exact ⟨rfl, rfl⟩
    · have d20 : t ≠ operT j := ne_of_eqK c20
      rw [if_neg d20] at hJ
      refine WC.skip (keepF (ts := [0, 2, 7, 8]) rfl (toK (by assumption) ?_))
      (repeat (first | refine WC.seqK fun K hK => ?_ | refine WC.block ?_ | refine WC.regionG rfl fun ops hG => ?_))
      refine WL.po (PO.move (Ev.tmp rfl)) (leB rfl) ?_
      refine WL.po (PO.bin (Ev.tmp rfl) Ev.const rfl) (leB rfl) ?_
      refine WL.val (v' := .int .u8 (j + 1 : Nat)) (congrArg (Value.int .u8) (by unfold IntKind.wrap; simp [IntKind.bits, IntKind.signed]; omega)) ?_
      refine WL.po (PO.assign (Ev.tmp rfl)) (leB rfl) ?_
      refine WL.nil (loopBackI (z + 1 - (j + 1)) [(8, .int .u8 (j + 1))] (h'' := .pt b7 (.cells (encK t).toArray 36 (0, 0)) :: rdrR b a c ts k o :: h) (by omega) ?_ (by (repeat (first | exact Sub.nil | refine Sub.cons rfl ?_ | refine Sub.consE rfl (by simp; done) ?_))) (by (repeat (first | exact sub0 _ | exact subA _ _ | refine subC _ ?_ | apply subK | refine subT _ ?_))) ⟨j + 1, ⟨⟨by omega, by omega⟩, by rw [hn2]; exact hJ⟩, rfl, rfl, rfl⟩)
      (repeat (first | exact Sub.nil | refine Sub.cons rfl ?_ | refine Sub.consE rfl (by simp; done) ?_))
  · replace c14 := of_decide_eq_false c14
    rw [show z + 1 - j = 0 by omega] at hJ
    replace hJ : opF t (z + 1 - p) p = 0 := hJ
    refine WC.exit (keepF (ts := []) rfl (toK (by assumption) ?_))
    (repeat (first | refine WC.seqK fun K hK => ?_ | refine WC.block ?_ | refine WC.regionG rfl fun ops hG => ?_))
    refine WL.po (PO.assign Ev.const) (leB rfl) ?_
    refine WL.nil (keepF (ts := [6]) rfl (toK (by assumption) ?_))
    (try clear hG ops)
    refine WC.ret (end1 (h' := rdrR b a c ts k o :: h) (.inl rfl) rfl (RV.tmp rfl) (View.le.refl m) (by (repeat (first | exact sub0 _ | exact subA _ _ | refine subC _ ?_ | apply subK | refine subT _ ?_))) ?_)
    rw [← ht, hJ, if_pos rfl]; exact ⟨rfl, rfl⟩
end Go.Proofs.YtheejlbhmbbdjaaDoor

/- expr: the front of tokens, walked. -/
import Derived.Test.YtheejlbhmbbdjaaDoorExpS
import Derived.Test.YtheejlbhmbbdjaaDoorExpN
namespace Go.Proofs.YtheejlbhmbbdjaaDoor
open Go.Eng Go.Xp Go
open Go.Ty (Tok encK encK_len tokV)
open Go.Lx (mayK)
set_option maxRecDepth 100000
abbrev ptV (b : Nat) : Value := .pointer (some ⟨b, 0, none⟩)
theorem rec_ret (b0 b1 b2 : Nat) (h : List Res) (m : View) : DefC Tryd.prog 38 [ptV b0, ptV b1, ptV b2] .returning m h h := by
  refine defC_of Tryd.func38 rfl rfl Tryd.ntmps38 (leB rfl) rfl (leB rfl) (leB rfl) (rec_none rfl) rfl ?_
  (repeat (first | refine WC.seqK fun K hK => ?_ | refine WC.block ?_ | refine WC.regionG rfl fun ops hG => ?_))
  refine WL.po (PO.move (Ev.tmp rfl)) (leB rfl) ?_
  refine WL.po (PO.neqNilN Tryd.underlying20 (Ev.tmp rfl) rfl) (leB rfl) ?_
  refine WL.nil (keepF (ts := [0, 1, 2, 3, 8]) rfl (toK (by assumption) ?_))
  (try clear hG ops)
  (repeat (first | refine WC.seqK fun K hK => ?_ | refine WC.block ?_ | refine WC.regionG rfl fun ops hG => ?_))
  refine WC.cond (Ev.tmp rfl) (fun c8 => ?_) (fun c8 => ?_)
  · cases c8
  · refine WC.skip (rec_end (h2 := h) (.inr rfl) rfl (by (repeat (first | exact sub0 _ | exact subA _ _ | refine subC _ ?_ | apply subK | refine subT _ ?_))))
abbrev r3 (b0 b1 b2 : Nat) (e : Ex) (k n : Int) (h : List Res) : List Res := .pt b0 (.cells (exE e).toArray 27 (0, 0)) :: .pt b1 (.cells [Value.int .i64 k].toArray 3 (0, 0)) :: .pt b2 (.cells [Value.int .i64 n].toArray 29 (0, 0)) :: h
theorem rec_pan (b0 b1 b2 : Nat) (h : List Res) (m : View) (x : Ex) (k n e : Int) : DefC Tryd.prog 38 [ptV b0, ptV b1, ptV b2] (.panicking [{ v := failV e, recovered := false }]) m (r3 b0 b1 b2 x k n h) (r3 b0 b1 b2 zeroE 0 e h) := by
  refine defC_of Tryd.func38 rfl rfl Tryd.ntmps38 (leB rfl) rfl (leB rfl) (leB rfl) rec_some (settle_rec _) ?_
  (repeat (first | refine WC.seqK fun K hK => ?_ | refine WC.block ?_ | refine WC.regionG rfl fun ops hG => ?_))
  refine WL.po (PO.move (Ev.tmp rfl)) (leB rfl) ?_
  refine WL.po (PO.neqNilS Tryd.underlying20 (Ev.tmp rfl) rfl) (leB rfl) ?_
  refine WL.nil (keepF (ts := [0, 1, 2, 3, 8]) rfl (toK (by assumption) ?_))
  (try clear hG ops)
  (repeat (first | refine WC.seqK fun K hK => ?_ | refine WC.block ?_ | refine WC.regionG rfl fun ops hG => ?_))
  refine WC.cond (Ev.tmp rfl) (fun c8 => ?_) (fun c8 => ?_)
  · (repeat (first | refine WC.seqK fun K hK => ?_ | refine WC.block ?_ | refine WC.regionG rfl fun ops hG => ?_))
    refine WL.po (PO.move (Ev.tmp rfl)) (leB rfl) ?_
    refine WL.po (PO.typeAssertOk Tryd.underlying68 (Ev.tmp rfl)) (leB rfl) ?_
    refine WL.po (PO.move (Ev.tmp rfl)) (leB rfl) ?_
    refine WL.po (PO.extract (Ev.tmp rfl) rfl) (leB rfl) ?_
    refine WL.po (PO.extract (Ev.tmp rfl) rfl) (leB rfl) ?_
    refine WL.alloc rfl rfl (leB rfl) fun b4 => ?_
    refine WL.store rfl (Ev.tmp rfl) (Ev.tmp rfl) rfl rfl rfl rfl (by (repeat (first | exact Upd.here | apply Upd.next))) ?_
    refine WL.po (PO.assign (Ev.tmp rfl)) (leB rfl) ?_
    refine WL.nil (keepF (ts := [0, 1, 2, 3, 4, 5]) rfl (toK (by assumption) ?_))
    (try clear hG ops)
    (repeat (first | refine WC.seqK fun K hK => ?_ | refine WC.block ?_ | refine WC.regionG rfl fun ops hG => ?_))
    refine WL.po (PO.move (Ev.tmp rfl)) (leB rfl) ?_
    refine WL.po (PO.not (Ev.tmp rfl)) (leB rfl) ?_
    refine WL.nil (keepF (ts := [0, 1, 2, 3, 4, 15]) rfl (toK (by assumption) ?_))
    (try clear hG ops)
    (repeat (first | refine WC.seqK fun K hK => ?_ | refine WC.block ?_ | refine WC.regionG rfl fun ops hG => ?_))
    refine WC.cond (Ev.tmp rfl) (fun c15 => ?_) (fun c15 => ?_)
    · cases c15
    · refine WC.skip (keepF (ts := [0, 1, 2, 4]) rfl (toK (by assumption) ?_))
      (repeat (first | refine WC.seqK fun K hK => ?_ | refine WC.block ?_ | refine WC.regionG rfl fun ops hG => ?_))
      refine WC.take (r := .pt b1 _) (by (repeat (first | exact Del.here | apply Del.next))) ?_
      refine WC.take (r := .pt b0 _) (by (repeat (first | exact Del.here | apply Del.next))) ?_
      refine WC.drawS [3, 4] (.op 0 (.op 1 (.op 2 (.op 3 (.op 4 .nil))))) [5] _ [_, _] mixed (fun _ _ _ _ _ h => absurd h.1 (by rintro (q | q) <;> cases q)) [] (by kernel_rfl) ?_
      refine SR.po rfl rfl (PO.build Tryd.underlying27 rfl rfl rfl EvP.nil rfl) (leB rfl) ?_
      refine SR.po rfl rfl (PO.fieldAddr Tryd.underlying68 rfl (Nat.ne_of_beq_eq_false rfl) (Ev.tmp rfl)) (leB rfl) ?_
      refine SR.po rfl rfl (PO.load1 Tryd.underlying29 rfl (Ev.tmp rfl) (by (repeat (first | exact mem0 _ | apply memT))) rfl) (leB rfl) ?_
      refine SR.store rfl rfl rfl (Ev.tmp rfl) (Ev.tmp rfl) rfl rfl rfl rfl (by (repeat (first | exact Upd.here | apply Upd.next))) ?_
      refine SR.store rfl rfl rfl (Ev.tmp rfl) Ev.const rfl rfl rfl rfl (by (repeat (first | exact Upd.here | apply Upd.next))) ?_
      refine SR.nil rfl rfl ?_
      refine WL.store rfl (Ev.tmp rfl) (Ev.tmp rfl) rfl rfl rfl rfl (by (repeat (first | exact Upd.here | apply Upd.next))) ?_
      refine WL.nil (rec_end (h2 := r3 b0 b1 b2 zeroE 0 e h) (.inr rfl) rfl (by (repeat (first | exact sub0 _ | exact subA _ _ | refine subC _ ?_ | apply subK | refine subT _ ?_))))
  · cases c8
theorem _root_.Go.Eng.WC.noPan {P : Program} {c : Code} {Q : Exit → Act → World → Prop} {n : Cx} {F : Fm} {h : List Res} {m : View} (k : WC P c (noPan Q) n F h m) : WC P c Q n F h m :=
  .mk fun a w ha hs => wpIn_mono (k.e a w ha hs) fun e _ _ q => by cases e <;> first | exact q | exact (q : False).elim
theorem front_of {ts : List Tok} {x : Ex} {k : Nat} (h : exprQ (insQ 32) ts = .ok (x, ts.drop k)) (hk : k ≤ ts.length) : frontP ts = if mayE x then .ok (x, k) else .error 3 := by
  have h2 : exprP ts = .ok (x, ts.drop k) := h
  unfold frontP
  rw [h2]
  show (if mayE x then Except.ok (x, ts.length - (ts.drop k).length) else .error 3) = _
  rw [List.length_drop, show ts.length - (ts.length - k) = k by omega]
theorem front_ct {m : View} (hg : Glob m) (a : Option Addr) (c : Nat) (ts : List Tok) (h : List Res) (hk : Tks m h a c ts) (htn : ∀ k, (-2147483648 ≤ (nextT (ts.drop k)).n ∧ (nextT (ts.drop k)).n ≤ 2147483647) ∧ (nextT (ts.drop k)).text.length ≤ 140737488355328) :
    CT Tryd.prog 15 [.slice a ts.length c] h m (fun v _ h' => (∃ (x : Ex) (k : Nat) (t : Ex) (bl : List Res), (frontP ts = .ok (x, k) ∧ k ≤ ts.length) ∧ v = .tuple #[exV t, .int .i64 k, .int .i64 0] ∧ (strip t = x ∧ TOk m bl t ∧ Wf t) ∧ h' = bl ++ h) ∨
      (∃ e : Int, frontP ts = .error e ∧ v = .tuple #[exV zeroE, .int .i64 0, .int .i64 e] ∧ h' = h)) := by
  have hE := (all_cx hg · a c ts htn 32 (by omega))
  refine CT.bodyD Tryd.call15 Tryd.func15 rfl Tryd.ntmps15 (leB rfl) rfl ?_
  (repeat (first | refine WC.seqK fun K hK => ?_ | refine WC.block ?_ | refine WC.regionG rfl fun ops hG => ?_))
  refine WL.alloc rfl rfl (leB rfl) fun b2 => ?_
  refine WL.alloc rfl rfl (leB rfl) fun b3 => ?_
  refine WL.alloc rfl rfl (leB rfl) fun b4 => ?_
  refine WL.nil (keepF (ts := [0, 2, 3, 4]) rfl (toK (by assumption) ?_))
  (try clear hG ops)
  (repeat (first | refine WC.seqK fun K hK => ?_ | refine WC.block ?_))
  refine WC.regionY rfl fun ops hG => ?_
  refine WY.po rfl (PO.makeFunc Evs.nil (Evs.cons (Ev.tmp rfl) (Evs.cons (Ev.tmp rfl) (Evs.cons (Ev.tmp rfl) Evs.nil)))) (leB rfl) ?_
  refine WY.defer rfl (Ev.tmp rfl) ?_
  refine (keepF (ts := [0, 2, 3, 4]) rfl (toK (by assumption) ?_))
  (repeat (first | refine WC.seqK fun K hK => ?_ | refine WC.block ?_ | refine WC.regionG rfl fun ops hG => ?_))
  refine WL.po (PO.move (Ev.tmp rfl)) (leB rfl) ?_
  refine WL.po (PO.build Tryd.underlying72 rfl rfl rfl (EvP.cons (Ev.tmp rfl) EvP.nil) rfl) (leB rfl) ?_
  refine WL.box (Ev.tmp rfl) rfl (leB rfl) fun b9 => ?_
  refine WL.po (PO.assign (Ev.tmp rfl)) (leB rfl) ?_
  refine WL.nil (keepF (ts := [2, 3, 4, 5]) rfl (toK (by assumption) ?_))
  (try clear hG ops)
  (repeat (first | refine WC.seqK fun K hK => ?_ | refine WC.block ?_ | refine WC.regionG rfl fun ops hG => ?_))
  refine WL.po (PO.move (Ev.tmp rfl)) (leB rfl) ?_
  refine WL.callX Ev.func (Evs.cons (Ev.tmp rfl) Evs.nil) ((hE b9).2 _ 0 (hk.mono (by (repeat (first | exact sub0 _ | exact subA _ _ | refine subC _ ?_ | apply subK | refine subT _ ?_)))) (by omega)) (leB rfl) (fun v hv hx => ?_) fun v11 h11 hr11 => ?_
  · obtain ⟨e, k2, o2, hres, rfl, rfl⟩ := hx
    intro a1 w1 ha1 hs1
    have hs2 : St m (r3 b2 b3 b4 zeroE 0 0 h) w1 := (hs1.sub (List.sublist_cons_self _ _)).perm ((List.perm_middle (l₁ := [_, _])).trans ((List.Perm.swap _ _ _).cons _))
    have hfe : frontP ts = .error e := by
      have h2 : exprP ts = .error e := hres
      unfold frontP
      rw [h2]
    exact pan3D (P := Tryd.prog) (fn := Tryd.f15) (h' := h) rfl Tryd.call38 (rec_pan b2 b3 b4 h m zeroE 0 0 e) rfl (RV.cellA Tryd.underlying27 rfl rfl rfl (by (repeat (first | exact mem0 _ | apply memT))) rfl) (RV.cell1 Tryd.underlying3 rfl rfl (by (repeat (first | exact mem0 _ | apply memT))) rfl) (RV.cell1 Tryd.underlying29 rfl rfl (by (repeat (first | exact mem0 _ | apply memT))) rfl) (View.le.refl m) (by (repeat (first | exact sub0 _ | exact subA _ _ | refine subC _ ?_ | apply subK | refine subT _ ?_))) (.inr ⟨e, hfe, rfl, rfl⟩) a1 w1 ha1 hs2
  obtain ⟨hp11, rfl, x, k2, tx, bl, ⟨hres, hk2⟩, rfl, ⟨hst, hT, hW⟩, rfl⟩ := hr11
  refine WL.perm (h' := rdrR b9 a c ts k2 (32 - (32 : Nat)) :: .pt b4 _ :: .pt b3 _ :: .pt b2 _ :: (bl ++ h)) ((perm_mid bl [_, _, _] h).cons _) ?_
  have hfr := front_of hres hk2
  refine WL.store rfl (Ev.tmp rfl) (Ev.tmp rfl) rfl rfl rfl rfl (by (repeat (first | exact Upd.here | apply Upd.next))) ?_
  refine WL.nil (keepF (ts := [2, 3, 4, 5]) rfl (toK (by assumption) ?_))
  (try clear hG ops)
  (repeat (first | refine WC.seqK fun K hK => ?_ | refine WC.block ?_ | refine WC.regionG rfl fun ops hG => ?_))
  refine WL.po (PO.loadA Tryd.underlying27 rfl rfl (Ev.tmp rfl) (by (repeat (first | exact mem0 _ | apply memT))) rfl) (leB rfl) ?_
  refine WL.callP Ev.func (Evs.cons (Ev.tmp rfl) Evs.nil) (may_ct hg tx _ (hT.mono ((List.sublist_append_left bl h).trans (by (repeat (first | exact sub0 _ | exact subA _ _ | refine subC _ ?_ | apply subK | refine subT _ ?_))))) hW) (leB rfl) ?_
  refine WL.po (PO.not (Ev.tmp rfl)) (leB rfl) ?_
  refine WL.nil (keepF (ts := [2, 3, 4, 5, 14]) rfl (toK (by assumption) ?_))
  (try clear hG ops)
  (repeat (first | refine WC.seqK fun K hK => ?_ | refine WC.block ?_ | refine WC.regionG rfl fun ops hG => ?_))
  refine WC.cond (Ev.tmp rfl) (fun c14 => ?_) (fun c14 => ?_)
  · have d14 : mayE x = false := by rw [← hst, may_strip]; simpa using c14
    rw [d14] at hfr
    (repeat (first | refine WC.seqK fun K hK => ?_ | refine WC.block ?_ | refine WC.regionG rfl fun ops hG => ?_))
    refine WL.po (PO.build Tryd.underlying27 rfl rfl rfl EvP.nil rfl) (leB rfl) ?_
    refine WL.store rfl (Ev.tmp rfl) (Ev.tmp rfl) rfl rfl rfl rfl (by (repeat (first | exact Upd.here | apply Upd.next))) ?_
    refine WL.store rfl (Ev.tmp rfl) Ev.const rfl rfl rfl rfl (by (repeat (first | exact Upd.here | apply Upd.next))) ?_
    refine WL.store rfl (Ev.tmp rfl) Ev.const rfl rfl rfl rfl (by (repeat (first | exact Upd.here | apply Upd.next))) ?_
    refine WL.nil (keepF (ts := [2, 3, 4]) rfl (toK (by assumption) ?_))
    (try clear hG ops)
    refine WC.ret (end3D (h' := h) (.inl rfl) rfl Tryd.call38 (rec_ret _ _ _ _ _) rfl (RV.cellA Tryd.underlying27 rfl rfl rfl (by (repeat (first | exact mem0 _ | apply memT))) rfl) (RV.cell1 Tryd.underlying3 rfl rfl (by (repeat (first | exact mem0 _ | apply memT))) rfl) (RV.cell1 Tryd.underlying29 rfl rfl (by (repeat (first | exact mem0 _ | apply memT))) rfl) (View.le.refl m) (by (repeat (first | exact sub0 _ | exact subA _ _ | refine subC _ ?_ | apply subK | refine subT _ ?_))) ?_)
    exact .inr ⟨3, hfr, rfl, rfl⟩
  · have d14 : mayE x = true := by rw [← hst, may_strip]; simpa using c14
    rw [d14] at hfr
    refine WC.skip (keepF (ts := [2, 3, 4, 5]) rfl (toK (by assumption) ?_))
    (repeat (first | refine WC.seqK fun K hK => ?_ | refine WC.block ?_ | refine WC.regionG rfl fun ops hG => ?_))
    refine WC.noPan ?_
    refine WC.take (r := .pt b2 _) (by (repeat (first | exact Del.here | apply Del.next))) ?_
    refine WC.drawS [0, 5] (.op 1 (.op 2 (.op 3 (.op 4 (.op 0 (.op 5 .nil)))))) [6, 7] _ [_] mixed (fun _ _ _ _ _ h => h) [] (by kernel_rfl) ?_
    refine SR.po rfl rfl (PO.move (Ev.tmp rfl)) (leB rfl) ?_
    refine SR.po rfl rfl (PO.nilCheck (Ev.tmp rfl)) (leB rfl) ?_
    refine SR.po rfl rfl (PO.fieldAddr Tryd.underlying72 rfl (Nat.ne_of_beq_eq_false rfl) (Ev.tmp rfl)) (leB rfl) ?_
    refine SR.po rfl rfl (PO.load1 Tryd.underlying3 rfl (Ev.tmp rfl) (by (repeat (first | exact mem0 _ | apply memT))) rfl) (leB rfl) ?_
    refine SR.poE rfl rfl (fun fr => PO.loadA Tryd.underlying27 rfl rfl (Ev.tmp rfl) (List.mem_append_right _ (by (repeat (first | exact mem0 _ | apply memT)))) rfl) (leB rfl) ?_
    refine SR.store rfl rfl rfl (Ev.tmp rfl) (Ev.tmp rfl) rfl rfl rfl rfl (by (repeat (first | exact Upd.here | apply Upd.next))) ?_
    refine SR.nil rfl rfl ?_
    refine WL.store rfl (Ev.tmp rfl) (Ev.tmp rfl) rfl rfl rfl rfl (by (repeat (first | exact Upd.here | apply Upd.next))) ?_
    refine WL.store rfl (Ev.tmp rfl) Ev.const rfl rfl rfl rfl (by (repeat (first | exact Upd.here | apply Upd.next))) ?_
    refine WL.nil (keepF (ts := [2, 3, 4]) rfl (toK (by assumption) ?_))
    (try clear hG ops)
    refine WC.ret (end3D (h' := bl ++ h) (.inl rfl) rfl Tryd.call38 (rec_ret _ _ _ _ _) rfl (RV.cellA Tryd.underlying27 rfl rfl rfl (by (repeat (first | exact mem0 _ | apply memT))) rfl) (RV.cell1 Tryd.underlying3 rfl rfl (by (repeat (first | exact mem0 _ | apply memT))) rfl) (RV.cell1 Tryd.underlying29 rfl rfl (by (repeat (first | exact mem0 _ | apply memT))) rfl) (View.le.refl m) (by (repeat (first | exact sub0 _ | exact subA _ _ | refine subC _ ?_ | apply subK | refine subT _ ?_))) ?_)
    exact .inl ⟨x, k2, tx, bl, ⟨hfr, hk2⟩, rfl, ⟨hst, hT, hW⟩, rfl⟩
theorem frontF_ct {m : View} (hg : Glob m) (a : Option Addr) (c : Nat) (ts : List Tok) (h : List Res) (hk : Tks m h a c ts) (htn : ∀ t ∈ ts, -2147483648 ≤ t.n ∧ t.n ≤ 2147483647) :
    CT Tryd.prog 15 [.slice a ts.length c] h m (fun v _ h' => ∃ (t : Ex) (bl : List Res), v = .tuple #[exV t, .int .i64 (frontN ts : Nat), .int .i64 (frontE ts)] ∧ (strip t = frontX ts ∧ TOk m bl t ∧ Wf t) ∧ h' = bl ++ h) := by
  have hz : ∀ k, (-2147483648 ≤ (nextT (ts.drop k)).n ∧ (nextT (ts.drop k)).n ≤ 2147483647) ∧ (nextT (ts.drop k)).text.length ≤ 140737488355328 := fun k => by
    cases hd : ts.drop k with
    | nil => exact ⟨by decide, by decide⟩
    | cons u r =>
      have hu : u ∈ ts := List.mem_of_mem_drop (by rw [hd]; exact List.Mem.head _)
      rw [next_cons]
      split
      · exact ⟨htn u hu, hk.tx u hu⟩
      · exact ⟨by decide, by decide⟩
  have h1 := front_ct hg a c ts h hk hz
  refine ⟨h1.enter, fun w hs => Calls.mono (h1.calls w hs) ?_⟩
  rintro e w' ⟨v, m', h', rfl, hle, hst, ⟨x, k, t, bl, ⟨hf, hk2⟩, rfl, hT, rfl⟩ | ⟨er, hf, rfl, rfl⟩⟩
  · exact ⟨_, m', _, rfl, hle, hst, t, bl, by unfold frontN frontE; rw [hf], by unfold frontX; rw [hf]; exact hT, rfl⟩
  · exact ⟨_, m', _, rfl, hle, hst, zeroE, [], by unfold frontN frontE; rw [hf]; rfl, by unfold frontX; rw [hf]; exact ⟨rfl, tok_leaf _ _ _ _ _ _ _, wf_leaf (by omega) (by omega) (by omega) (by omega) (Nat.zero_le _)⟩, rfl⟩
theorem tokF_of {m : View} {f : FuncId} {e : Ex} {h : List Res} (c : CT Tryd.prog f [exV e] h m (fun v _ h' => (mayE e = true ∧ ∃ a c, v = .tuple #[.slice a (writeE e).length c, .int .i64 0] ∧ h' = .row (.slice a (writeE e).length c) 36 4 (writeE e).length (fl encK (writeE e)) :: h) ∨ (mayE e = false ∧ v = .tuple #[.slice none 0 0, .int .i64 2] ∧ h' = h))) :
    CT Tryd.prog f [exV e] h m (fun v _ h' => ∃ a c, v = .tuple #[.slice a (tokP e).length c, .int .i64 (tokErr e)] ∧ h' = .row (.slice a (tokP e).length c) 36 4 (tokP e).length (fl encK (tokP e)) :: h) := by
  refine ⟨c.enter, fun w hs => Calls.mono (c.calls w hs) ?_⟩
  rintro _ w' ⟨v, m', h', rfl, hle, hst, ⟨hm, a, c, rfl, rfl⟩ | ⟨hm, rfl, rfl⟩⟩
  · exact ⟨_, m', _, rfl, hle, hst, a, c, by unfold tokP tokErr; rw [hm]; rfl, by unfold tokP; rw [hm]; rfl⟩
  · exact ⟨_, m', _, rfl, hle, hst.addNil 36 4, none, 0, by unfold tokP tokErr; rw [hm]; rfl, by unfold tokP; rw [hm]; rfl⟩
theorem tokF_ct {m : View} (hg : Glob m) (e : Ex) (h : List Res) (hT : TOk m h e) (hW : Wf e) : CT Tryd.prog 9 [exV e] h m (fun v _ h' => ∃ a c, v = .tuple #[.slice a (tokP e).length c, .int .i64 (tokErr e)] ∧ h' = .row (.slice a (tokP e).length c) 36 4 (tokP e).length (fl encK (tokP e)) :: h) := tokF_of (tokens_ct hg e h hT hW)
end Go.Proofs.YtheejlbhmbbdjaaDoor

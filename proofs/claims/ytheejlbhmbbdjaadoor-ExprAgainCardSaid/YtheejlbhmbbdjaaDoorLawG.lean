/- expr: ExprAgain. -/
import Derived.Test.YtheejlbhmbbdjaaDoorExpO
import Derived.Test.YtheejlbhmbbdjaaDoorExpK
import Derived.Test.YtheejlbhmbbdjaaDoorLexR0
namespace Go.Proofs.YtheejlbhmbbdjaaDoor
open Go.Eng Go.Xp Go
open Go.Ty (Tok encK encK_len tokV)
open Go.Lx (mayK)
set_option maxRecDepth 100000
theorem again_law {m : View} (hg : Glob m) (hp : Pow m) (a : Option Addr) (k c : Nat) (l : List Tok) (h : List Res) (hr : Rd m h a k c 4 (fl encK l)) (hL : TkL l) : CT Tryd.prog 6 [.slice a k c] h m Law := by
  have hl := hr.lenF encK_len (by decide)
  subst hl
  have hmx := hr.mx
  have hle := hr.le
  obtain ⟨ls, hls⟩ : ∃ ls, ls = l.take 100 := ⟨_, rfl⟩
  have hn : ls.length = min 100 l.length := by rw [hls, List.length_take]
  obtain ⟨a2, ha2⟩ : ∃ a2, a2 = sl1 a 0 c 4 := ⟨_, rfl⟩
  have hr2 : Rd m h a2 ls.length c 4 (fl encK ls) := by
    have := hr.takeF encK_len (j := min 100 l.length) (by omega)
    rwa [← hn, show l.take ls.length = ls by rw [hn, hls, ← List.take_eq_take_min], ← ha2] at this
  have hLs : TkL ls := fun x hx => hL x (List.mem_of_mem_take (hls ▸ hx))
  have hN := front_le (ts := ls)
  refine CT.body Tryd.call6 Tryd.func6 rfl Tryd.ntmps6 (leB rfl) rfl ?_
  (repeat (first | refine WC.seqK fun K hK => ?_ | refine WC.block ?_ | refine WC.regionG rfl fun ops hG => ?_))
  refine WL.po (PO.assign Ev.const) (leB rfl) ?_
  refine WL.nil (keepF (ts := [0]) rfl (toK (by assumption) ?_))
  (try clear hG ops)
  (repeat (first | refine WC.seqK fun K hK => ?_ | refine WC.block ?_ | refine WC.regionG rfl fun ops hG => ?_))
  refine WL.po (PO.move (Ev.tmp rfl)) (leB rfl) ?_
  refine WL.po (PO.move (Ev.tmp rfl)) (leB rfl) ?_
  refine WL.po (PO.lenSl Tryd.underlying28 (Ev.tmp rfl)) (leB rfl) ?_
  refine WL.po (PO.min (Ev.tmp rfl) Ev.const) (leB rfl) ?_
  refine WL.po (PO.sliceH EL28.und EL28.size (Ev.tmp rfl) (Ev.tmp rfl) (u := ls.length) (by split <;> omega) (by omega)) (leB rfl) ?_
  rw [← ha2]
  refine WL.po (PO.assign (Ev.tmp rfl)) (leB rfl) ?_
  refine WL.nil (keepF (ts := [0]) rfl (toK (by assumption) ?_))
  (try clear hG ops)
  (repeat (first | refine WC.seqK fun K hK => ?_ | refine WC.block ?_ | refine WC.regionG rfl fun ops hG => ?_))
  refine WL.po (PO.move (Ev.tmp rfl)) (leB rfl) ?_
  refine WL.callK Ev.func (Evs.cons (Ev.tmp rfl) Evs.nil) (frontF_ct hg a2 c ls _ (tks_of (hr2.mono (View.le.refl m) (by (repeat (first | exact sub0 _ | exact subA _ _ | refine subC _ ?_ | apply subK | refine subT _ ?_)))) (by omega) hLs) (fun t ht => (hLs t ht).1)) (leB rfl) ?_
  rintro _ _ ⟨tx, bl, rfl, ⟨hst, hTx, hWx⟩, rfl⟩
  refine WL.po (PO.move (Ev.tmp rfl)) (leB rfl) ?_
  refine WL.po (PO.extract (Ev.tmp rfl) rfl) (leB rfl) ?_
  refine WL.po (PO.extract (Ev.tmp rfl) rfl) (leB rfl) ?_
  refine WL.po (PO.extract (Ev.tmp rfl) rfl) (leB rfl) ?_
  refine WL.alloc rfl rfl (leB rfl) fun b3 => ?_
  refine WL.store rfl (Ev.tmp rfl) (Ev.tmp rfl) rfl rfl rfl rfl (by (repeat (first | exact Upd.here | apply Upd.next))) ?_
  refine WL.po (PO.assign (Ev.tmp rfl)) (leB rfl) ?_
  refine WL.po (PO.assign (Ev.tmp rfl)) (leB rfl) ?_
  refine WL.nil (keepF (ts := [0, 3, 4, 5]) rfl (toK (by assumption) ?_))
  (try clear hG ops)
  (repeat (first | refine WC.seqK fun K hK => ?_ | refine WC.block ?_ | refine WC.regionG rfl fun ops hG => ?_))
  refine WL.po (PO.move (Ev.tmp rfl)) (leB rfl) ?_
  refine WL.po (PO.bin (Ev.tmp rfl) Ev.const rfl) (leB rfl) ?_
  refine WL.nil (keepF (ts := [0, 3, 4, 5, 26]) rfl (toK (by assumption) ?_))
  (try clear hG ops)
  (repeat (first | refine WC.seqK fun K hK => ?_ | refine WC.block ?_ | refine WC.regionG rfl fun ops hG => ?_))
  refine WC.cond (Ev.tmp rfl) (fun c26 => ?_) (fun c26 => ?_)
  · replace c26 := t_ne c26
    have hf : (frontE ls = 100 ∨ frontE ls = 3) ∧ frontN ls = 0 ∧ tx.k = 0 := by
      have hk : tx.k = (frontX ls).k := by rw [← hst, strip_k]
      rw [hk]
      unfold frontE at c26 ⊢
      unfold frontN frontX
      cases hq : frontP ls with
      | ok w => rw [hq] at c26; exact absurd rfl c26
      | error e => exact ⟨front_er hq, rfl, rfl⟩
    (repeat (first | refine WC.seqK fun K hK => ?_ | refine WC.block ?_ | refine WC.regionG rfl fun ops hG => ?_))
    refine WL.po (PO.move (Ev.tmp rfl)) (leB rfl) ?_
    refine WL.po (PO.bin (Ev.tmp rfl) Ev.const rfl) (leB rfl) ?_
    refine WL.po (PO.move (Ev.tmp rfl)) (leB rfl) ?_
    refine WL.poG (GU.t (hG _ _ rfl) rfl) (fun hc => PO.fieldAddr Tryd.underlying27 rfl (Nat.ne_of_beq_eq_false rfl) (Ev.tmp rfl)) (leB rfl) ?_
    refine WL.poG (GU.t (hG _ _ rfl) rfl) (fun hc => PO.load1 Tryd.underlying22 rfl (Ev.gv rfl hc) (by (repeat (first | exact mem0 _ | apply memT))) rfl) (leB rfl) ?_
    refine WL.poG (GU.t (hG _ _ rfl) rfl) (fun hc => PO.bin (Ev.gv rfl hc) Ev.const rfl) (leB rfl) ?_
    refine WL.po (PO.pickAnd rfl rfl) (leB rfl) ?_
    refine WL.po (PO.move (Ev.tmp rfl)) (leB rfl) ?_
    refine WL.poG (GU.t (hG _ _ rfl) rfl) (fun hc => PO.move (Ev.tmp rfl)) (leB rfl) ?_
    refine WL.poG (GU.t (hG _ _ rfl) rfl) (fun hc => PO.bin (Ev.gv rfl hc) Ev.const rfl) (leB rfl) ?_
    refine WL.poG (GU.t (hG _ _ rfl) rfl) (fun hc => PO.move (Ev.gv rfl hc)) (leB rfl) ?_
    refine WL.poG (GU.nf (hG _ _ rfl) rfl) (fun hc => PO.move (Ev.tmp rfl)) (leB rfl) ?_
    refine WL.poG (GU.nf (hG _ _ rfl) rfl) (fun hc => PO.bin (Ev.gv rfl hc) Ev.const rfl) (leB rfl) ?_
    refine WL.poG (GU.t (hG _ _ rfl) rfl) (fun hc => PO.pickOrN hc rfl rfl) (leB rfl) ?_
    refine WL.po (PO.pickAnd rfl rfl) (leB rfl) ?_
    refine WL.po (PO.move (Ev.tmp rfl)) (leB rfl) ?_
    refine WL.callG (GU.t (hG _ _ rfl) rfl) (fun hc => ⟨Ev.func, Evs.nil, works_ct hg hp _⟩) (leB rfl) ?_
    refine WL.po (PO.pickAnd rfl rfl) (leB rfl) ?_
    refine WL.po (PO.assign (Ev.tmp rfl)) (leB rfl) ?_
    refine WL.nil (keepF (ts := [2]) rfl (toK (by assumption) ?_))
    (try clear hG ops)
    refine WC.ret (end1 (h' := h) (.inl rfl) rfl (RV.tmp rfl) (View.le.refl m) (by (repeat (first | exact sub0 _ | exact subA _ _ | refine subC _ ?_ | apply subK | refine subT _ ?_))) ?_)
    exact congrArg Value.bool (by rw [hf.2.1, hf.2.2]; rcases hf.1 with h | h <;> rw [h] <;> rfl)
  · replace c26 := f_ne c26
    obtain ⟨x, k, hfp⟩ : ∃ x k, frontP ls = .ok (x, k) := by
      unfold frontE at c26
      cases hq : frontP ls with
      | ok w => exact ⟨w.1, w.2, rfl⟩
      | error e =>
        rw [hq] at c26
        rcases front_er hq with h | h <;> (rw [h] at c26; cases c26)
    obtain ⟨⟨hk, hm⟩, hw, hag⟩ := front_ok hfp
    have hfN : frontN ls = k := by unfold frontN; rw [hfp]
    have hfX : strip tx = x := by rw [hst]; unfold frontX; rw [hfp]
    have hmt : mayE tx = true := by rw [← may_strip, hfX]; exact hm
    have hgN : frontN (ls.take k) = k := by unfold frontN; rw [hag]
    have hgE : frontE (ls.take k) = 0 := by unfold frontE; rw [hag]
    have hgX : frontX (ls.take k) = x := by unfold frontX; rw [hag]
    have hjN : frontN (ls.take (k - 1)) ≤ k - 1 := Nat.le_trans front_le (by rw [List.length_take]; omega)
    have htl := tokP_len tx
    have htw : tokP tx = writeE x := by rw [← hfX, write_strip]; unfold tokP; rw [hmt]; rfl
    have hte : tokErr tx = 0 := by unfold tokErr; rw [hmt]; rfl
    have hFt := (may_good hmt).1
    have htm : ∀ u ∈ tokP tx, mayK u = true := fun u hu => by rw [htw, ← hfX, write_strip] at hu; exact (write_may tx hFt hWx u hu).1
    obtain ⟨u, hu, hum⟩ : ∃ u, (tokP tx)[0]? = some u ∧ mayK u = true := by
      have hpos : (tokP tx).length ≠ 0 := by rw [htw, ← hfX, write_strip]; exact write_pos tx hFt
      obtain ⟨u, hu⟩ := get_some (l := tokP tx) (k := 0) (by omega)
      exact ⟨u, hu, htm u (List.mem_of_getElem? hu)⟩
    have hupos : 0 < (tokP tx).length := (List.getElem?_eq_some_iff.1 hu).1
    have hul := Go.Lx.may_len hum
    obtain ⟨a3, ha3⟩ : ∃ a3, a3 = sl1 a2 0 c 4 := ⟨_, rfl⟩
    have hl3 : (ls.take k).length = k := by rw [List.length_take]; omega
    have hl4 : (ls.take (k - 1)).length = k - 1 := by rw [List.length_take]; omega
    have hr3 : Rd m h a3 (ls.take k).length c 4 (fl encK (ls.take k)) := by rw [hl3, ha3]; exact hr2.takeF encK_len (by omega)
    have hr4 : Rd m h a3 (ls.take (k - 1)).length c 4 (fl encK (ls.take (k - 1))) := by rw [hl4, ha3]; exact hr2.takeF encK_len (by omega)
    have hL3 : TkL (ls.take k) := fun x hx => hLs x (List.mem_of_mem_take hx)
    have hL4 : TkL (ls.take (k - 1)) := fun x hx => hLs x (List.mem_of_mem_take hx)
    rw [hfN]
    refine WC.skip (keepF (ts := [0, 3, 4]) rfl (toK (by assumption) ?_))
    (repeat (first | refine WC.seqK fun K hK => ?_ | refine WC.block ?_ | refine WC.regionG rfl fun ops hG => ?_))
    refine WL.po (PO.move (Ev.tmp rfl)) (leB rfl) ?_
    refine WL.po (PO.bin (Ev.tmp rfl) Ev.const rfl) (leB rfl) ?_
    refine WL.po (PO.move (Ev.tmp rfl)) (leB rfl) ?_
    refine WL.poG (GU.f (hG _ _ rfl) rfl) (fun hc => PO.move (Ev.tmp rfl)) (leB rfl) ?_
    refine WL.poG (GU.f (hG _ _ rfl) rfl) (fun hc => PO.move (Ev.tmp rfl)) (leB rfl) ?_
    refine WL.poG (GU.f (hG _ _ rfl) rfl) (fun hc => PO.lenSl Tryd.underlying28 (Ev.gv rfl hc)) (leB rfl) ?_
    refine WL.poG (GU.f (hG _ _ rfl) rfl) (fun hc => PO.bin (Ev.gv rfl hc) (Ev.gv rfl hc) rfl) (leB rfl) ?_
    refine WL.po (PO.pickOr rfl rfl) (leB rfl) ?_
    refine WL.po (PO.move (Ev.tmp rfl)) (leB rfl) ?_
    refine WL.poG (GU.f (hG _ _ rfl) rfl) (fun hc => PO.loadA Tryd.underlying27 rfl rfl (Ev.tmp rfl) (by (repeat (first | exact mem0 _ | apply memT))) rfl) (leB rfl) ?_
    refine WL.callG (GU.f (hG _ _ rfl) rfl) (fun hc => ⟨Ev.func, (Evs.cons (Ev.gv rfl hc) Evs.nil), may_ct hg tx _ (hTx.mono ((List.sublist_append_left bl h).trans (by (repeat (first | exact sub0 _ | exact subA _ _ | refine subC _ ?_ | apply subK | refine subT _ ?_))))) hWx⟩) (leB rfl) ?_
    refine WL.poG (GU.f (hG _ _ rfl) rfl) (fun hc => PO.not (Ev.gv rfl hc)) (leB rfl) ?_
    refine WL.po (PO.pickOr rfl rfl) (leB rfl) ?_
    refine WL.nil (keepF (ts := [0, 3, 4, 57]) rfl (toK (by assumption) ?_))
    (try clear hG ops)
    (repeat (first | refine WC.seqK fun K hK => ?_ | refine WC.block ?_ | refine WC.regionG rfl fun ops hG => ?_))
    refine WC.cond (Ev.tmp rfl) (fun c57 => ?_) (fun c57 => ?_)
    · rw [hmt] at c57
      simp at c57
      omega
    · refine WC.skip (keepF (ts := [0, 3, 4]) rfl (toK (by assumption) ?_))
      (repeat (first | refine WC.seqK fun K hK => ?_ | refine WC.block ?_ | refine WC.regionG rfl fun ops hG => ?_))
      refine WL.po (PO.move (Ev.tmp rfl)) (leB rfl) ?_
      refine WL.po (PO.move (Ev.tmp rfl)) (leB rfl) ?_
      refine WL.po (PO.sliceH EL28.und EL28.size (Ev.tmp rfl) (Ev.tmp rfl) (u := k) rfl (by omega)) (leB rfl) ?_
      rw [← ha3]
      refine WL.val (v' := .slice a3 (ls.take k).length c) (by rw [hl3]) ?_
      refine WL.callK Ev.func (Evs.cons (Ev.tmp rfl) Evs.nil) (frontF_ct hg a3 c (ls.take k) _ (tks_of (hr3.mono (View.le.refl m) (by (repeat (first | exact sub0 _ | exact subA _ _ | refine subC _ ?_ | apply subK | refine subT _ ?_)))) (by omega) hL3) (fun t ht => (hL3 t ht).1)) (leB rfl) ?_
      rintro _ _ ⟨ty, bl2, rfl, ⟨hst2, hTy, hWy⟩, rfl⟩
      refine WL.perm (perm_mid bl2 [_] (bl ++ h)) ?_
      rw [hgN, hgE]
      refine WL.po (PO.move (Ev.tmp rfl)) (leB rfl) ?_
      refine WL.po (PO.extract (Ev.tmp rfl) rfl) (leB rfl) ?_
      refine WL.po (PO.extract (Ev.tmp rfl) rfl) (leB rfl) ?_
      refine WL.po (PO.extract (Ev.tmp rfl) rfl) (leB rfl) ?_
      refine WL.alloc rfl rfl (leB rfl) fun b6 => ?_
      refine WL.store rfl (Ev.tmp rfl) (Ev.tmp rfl) rfl rfl rfl rfl (by (repeat (first | exact Upd.here | apply Upd.next))) ?_
      refine WL.po (PO.assign (Ev.tmp rfl)) (leB rfl) ?_
      refine WL.po (PO.assign (Ev.tmp rfl)) (leB rfl) ?_
      refine WL.nil (keepF (ts := [0, 3, 4, 6, 7, 8]) rfl (toK (by assumption) ?_))
      (try clear hG ops)
      (repeat (first | refine WC.seqK fun K hK => ?_ | refine WC.block ?_ | refine WC.regionG rfl fun ops hG => ?_))
      refine WL.po (PO.move (Ev.tmp rfl)) (leB rfl) ?_
      refine WL.po (PO.move (Ev.tmp rfl)) (leB rfl) ?_
      refine WL.po (PO.subI (Ev.tmp rfl) Ev.const (by omega)) (leB rfl) ?_
      refine WL.val (v' := .int .i64 ((k - 1 : Nat) : Int)) (congrArg (Value.int .i64) (by omega)) ?_
      refine WL.po (PO.sliceH EL28.und EL28.size (Ev.tmp rfl) (Ev.tmp rfl) (u := k - 1) rfl (by omega)) (leB rfl) ?_
      rw [← ha3]
      refine WL.val (v' := .slice a3 (ls.take (k - 1)).length c) (by rw [hl4]) ?_
      refine WL.callK Ev.func (Evs.cons (Ev.tmp rfl) Evs.nil) (frontF_ct hg a3 c (ls.take (k - 1)) _ (tks_of (hr4.mono (View.le.refl m) (by (repeat (first | exact sub0 _ | exact subA _ _ | refine subC _ ?_ | apply subK | refine subT _ ?_)))) (by omega) hL4) (fun t ht => (hL4 t ht).1)) (leB rfl) ?_
      rintro _ _ ⟨tz, bl3, rfl, ⟨hst3, hTz, hWz⟩, rfl⟩
      refine WL.perm (perm_mid bl3 [_, _] (bl2 ++ (bl ++ h))) ?_
      refine WL.po (PO.move (Ev.tmp rfl)) (leB rfl) ?_
      refine WL.po (PO.extract (Ev.tmp rfl) rfl) (leB rfl) ?_
      refine WL.po (PO.extract (Ev.tmp rfl) rfl) (leB rfl) ?_
      refine WL.po (PO.extract (Ev.tmp rfl) rfl) (leB rfl) ?_
      refine WL.alloc rfl rfl (leB rfl) fun b9 => ?_
      refine WL.store rfl (Ev.tmp rfl) (Ev.tmp rfl) rfl rfl rfl rfl (by (repeat (first | exact Upd.here | apply Upd.next))) ?_
      refine WL.po (PO.assign (Ev.tmp rfl)) (leB rfl) ?_
      refine WL.po (PO.assign (Ev.tmp rfl)) (leB rfl) ?_
      refine WL.nil (keepF (ts := [3, 4, 6, 7, 8, 10, 11]) rfl (toK (by assumption) ?_))
      (try clear hG ops)
      (repeat (first | refine WC.seqK fun K hK => ?_ | refine WC.block ?_ | refine WC.regionG rfl fun ops hG => ?_))
      refine WL.po (PO.loadA Tryd.underlying27 rfl rfl (Ev.tmp rfl) (by (repeat (first | exact mem0 _ | apply memT))) rfl) (leB rfl) ?_
      refine WL.callK Ev.func (Evs.cons (Ev.tmp rfl) Evs.nil) (tokF_ct hg tx _ (hTx.mono ((List.sublist_append_left bl h).trans (by (repeat (first | exact sub0 _ | exact subA _ _ | refine subC _ ?_ | apply subK | refine subT _ ?_))))) hWx) (leB rfl) ?_
      rintro _ _ ⟨a77, c77, rfl, rfl⟩
      refine WL.knowRow (a := a77) (by (repeat (first | exact mem0 _ | apply memT))) fun p77 q77 r77 => ?_
      rw [hte]
      refine WL.po (PO.move (Ev.tmp rfl)) (leB rfl) ?_
      refine WL.po (PO.extract (Ev.tmp rfl) rfl) (leB rfl) ?_
      refine WL.po (PO.extract (Ev.tmp rfl) rfl) (leB rfl) ?_
      refine WL.po (PO.assign (Ev.tmp rfl)) (leB rfl) ?_
      refine WL.po (PO.assign (Ev.tmp rfl)) (leB rfl) ?_
      refine WL.nil (keepF (ts := [3, 4, 6, 7, 8, 10, 11, 12, 13]) rfl (toK (by assumption) ?_))
      (try clear hG ops)
      (repeat (first | refine WC.seqK fun K hK => ?_ | refine WC.block ?_ | refine WC.regionG rfl fun ops hG => ?_))
      refine WL.po (PO.move (Ev.tmp rfl)) (leB rfl) ?_
      refine WL.po (PO.bin (Ev.tmp rfl) Ev.const rfl) (leB rfl) ?_
      refine WL.po (PO.move (Ev.tmp rfl)) (leB rfl) ?_
      refine WL.poG (GU.t (hG _ _ rfl) rfl) (fun hc => PO.move (Ev.tmp rfl)) (leB rfl) ?_
      refine WL.poG (GU.t (hG _ _ rfl) rfl) (fun hc => PO.move (Ev.tmp rfl)) (leB rfl) ?_
      refine WL.poG (GU.t (hG _ _ rfl) rfl) (fun hc => PO.bin (Ev.gv rfl hc) (Ev.gv rfl hc) rfl) (leB rfl) ?_
      refine WL.po (PO.pickAnd rfl rfl) (leB rfl) ?_
      refine WL.po (PO.move (Ev.tmp rfl)) (leB rfl) ?_
      refine WL.poG (GU.t (hG _ _ rfl) rfl) (fun hc => PO.loadA Tryd.underlying27 rfl rfl (Ev.tmp rfl) (by (repeat (first | exact mem0 _ | apply memT))) rfl) (leB rfl) ?_
      refine WL.poG (GU.t (hG _ _ rfl) rfl) (fun hc => PO.loadA Tryd.underlying27 rfl rfl (Ev.tmp rfl) (by (repeat (first | exact mem0 _ | apply memT))) rfl) (leB rfl) ?_
      refine WL.callG (GU.t (hG _ _ rfl) rfl) (fun hc => ⟨Ev.func, (Evs.cons (Ev.gv rfl hc) (Evs.cons (Ev.gv rfl hc) Evs.nil)), sameR_ct tx ty _ _ (hTx.mono ((List.sublist_append_left bl h).trans (by (repeat (first | exact sub0 _ | exact subA _ _ | refine subC _ ?_ | apply subK | refine subT _ ?_))))) (hTy.mono ((List.sublist_append_left bl2 (bl ++ h)).trans (by (repeat (first | exact sub0 _ | exact subA _ _ | refine subC _ ?_ | apply subK | refine subT _ ?_)))))⟩) (leB rfl) ?_
      refine WL.po (PO.pickAnd rfl rfl) (leB rfl) ?_
      refine WL.po (PO.move (Ev.tmp rfl)) (leB rfl) ?_
      refine WL.poG (GU.t (hG _ _ rfl) rfl) (fun hc => PO.move (Ev.tmp rfl)) (leB rfl) ?_
      refine WL.poG (GU.t (hG _ _ rfl) rfl) (fun hc => PO.bin (Ev.gv rfl hc) Ev.const rfl) (leB rfl) ?_
      refine WL.poG (GU.t (hG _ _ rfl) rfl) (fun hc => PO.move (Ev.gv rfl hc)) (leB rfl) ?_
      refine WL.poG (GU.nf (hG _ _ rfl) rfl) (fun hc => PO.move (Ev.tmp rfl)) (leB rfl) ?_
      refine WL.poG (GU.nf (hG _ _ rfl) rfl) (fun hc => PO.move (Ev.tmp rfl)) (leB rfl) ?_
      refine WL.poG (GU.nf (hG _ _ rfl) rfl) (fun hc => PO.bin (Ev.gv rfl hc) (Ev.gv rfl hc) rfl) (leB rfl) ?_
      refine WL.poG (GU.t (hG _ _ rfl) rfl) (fun hc => PO.pickOrN hc rfl rfl) (leB rfl) ?_
      refine WL.po (PO.pickAnd rfl rfl) (leB rfl) ?_
      refine WL.po (PO.move (Ev.tmp rfl)) (leB rfl) ?_
      refine WL.poG (GU.t (hG _ _ rfl) rfl) (fun hc => PO.move (Ev.tmp rfl)) (leB rfl) ?_
      refine WL.poG (GU.t (hG _ _ rfl) rfl) (fun hc => PO.bin (Ev.gv rfl hc) Ev.const rfl) (leB rfl) ?_
      refine WL.po (PO.pickAnd rfl rfl) (leB rfl) ?_
      refine WL.po (PO.move (Ev.tmp rfl)) (leB rfl) ?_
      refine WL.poG (GU.t (hG _ _ rfl) rfl) (fun hc => PO.move (Ev.tmp rfl)) (leB rfl) ?_
      refine WL.poG (GU.t (hG _ _ rfl) rfl) (fun hc => PO.lenSl Tryd.underlying28 (Ev.gv rfl hc)) (leB rfl) ?_
      refine WL.poG (GU.t (hG _ _ rfl) rfl) (fun hc => PO.move (Ev.tmp rfl)) (leB rfl) ?_
      refine WL.poG (GU.t (hG _ _ rfl) rfl) (fun hc => PO.bin (Ev.gv rfl hc) (Ev.gv rfl hc) rfl) (leB rfl) ?_
      refine WL.po (PO.pickAnd rfl rfl) (leB rfl) ?_
      refine WL.po (PO.move (Ev.tmp rfl)) (leB rfl) ?_
      refine WL.poG (GU.t (hG _ _ rfl) rfl) (fun hc => PO.move (Ev.tmp rfl)) (leB rfl) ?_
      refine WL.poG (GU.t (hG _ _ rfl) rfl) (fun hc => PO.idx EL28.und EL28.size EL28.posz (Ev.gv rfl hc) Ev.const (by first | assumption | exact Rd.ofSl (by assumption) | exact Rd.ofPt rfl (by decide) (by (repeat (first | exact mem0 _ | apply memT))) | exact Rd.mono (by assumption) (View.le.refl _) (by (repeat (first | exact sub0 _ | exact subA _ _ | refine subC _ ?_ | apply subK | refine subT _ ?_))) | exact Rd.inRow (by (repeat (first | exact mem0 _ | apply memT))) (by assumption) (by assumption) (by assumption)) rfl (q := 0) hupos) (leB rfl) ?_
      refine WL.poG (GU.t (hG _ _ rfl) rfl) (fun hc => PO.loadFA Tryd.underlying36 rfl rfl encK_len (by first | assumption | exact Rd.ofSl (by assumption) | exact Rd.ofPt rfl (by decide) (by (repeat (first | exact mem0 _ | apply memT))) | exact Rd.mono (by assumption) (View.le.refl _) (by (repeat (first | exact sub0 _ | exact subA _ _ | refine subC _ ?_ | apply subK | refine subT _ ?_))) | exact Rd.inRow (by (repeat (first | exact mem0 _ | apply memT))) (by assumption) (by assumption) (by assumption)) (Ev.gv rfl hc) hu rfl rfl (Nat.succ_pos _)) (leB rfl) ?_
      refine WL.callG (GU.t (hG _ _ rfl) rfl) (fun hc => ⟨Ev.func, (Evs.cons (Ev.gv rfl hc) Evs.nil), rMay_ct u _ _ (by omega)⟩) (leB rfl) ?_
      refine WL.po (PO.pickAnd rfl rfl) (leB rfl) ?_
      refine WL.po (PO.move (Ev.tmp rfl)) (leB rfl) ?_
      refine WL.callG (GU.t (hG _ _ rfl) rfl) (fun hc => ⟨Ev.func, Evs.nil, works_ct hg hp _⟩) (leB rfl) ?_
      refine WL.po (PO.pickAnd rfl rfl) (leB rfl) ?_
      refine WL.po (PO.assign (Ev.tmp rfl)) (leB rfl) ?_
      refine WL.nil (keepF (ts := [2]) rfl (toK (by assumption) ?_))
      (try clear hG ops)
      refine WC.ret (end1 (h' := h) (.inl rfl) rfl (RV.tmp rfl) (View.le.refl m) (by (repeat (first | exact sub0 _ | exact subA _ _ | refine subC _ ?_ | apply subK | refine subT _ ?_))) ?_)
      exact congrArg Value.bool (by simp; exact ⟨⟨⟨(same_strip tx ty).2 (hfX.trans (hgX.symm.trans hst2.symm)), .inr (by omega)⟩, by rw [htw]; exact hw⟩, hum⟩)
end Go.Proofs.YtheejlbhmbbdjaaDoor

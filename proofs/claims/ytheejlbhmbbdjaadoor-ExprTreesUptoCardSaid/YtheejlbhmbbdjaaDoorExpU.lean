/- expr: the laws' helpers, walked. -/
import Derived.Test.YtheejlbhmbbdjaaDoorExpT
import Derived.Test.YtheejlbhmbbdjaaDoorExpC
import Derived.Test.YtheejlbhmbbdjaaDoorExpE
import Derived.Test.YtheejlbhmbbdjaaDoorLexG0
namespace Go.Proofs.YtheejlbhmbbdjaaDoor
open Go.Eng Go.Xp Go
open Go.Ty (Tok encK encK_len tokV)
open Go.Lx (mayK lexO textO)
set_option maxRecDepth 100000
theorem lex_bounds (s : B) : (lexO s).1.length ≤ 256 ∧ ∀ x ∈ (lexO s).1, mayK x = true ∧ (-2147483648 ≤ x.n ∧ x.n ≤ 2147483647) := by
  obtain ⟨l, z, e, h⟩ : ∃ l z e, lexO s = (l, z, e) := ⟨_, _, _, rfl⟩
  rw [h]
  by_cases he : e = 0
  · subst he
    obtain ⟨h1, h2, -⟩ := Go.Lx.lexO_ok h
    have h3 := Go.Lx.lx_len s 0 l h2
    exact ⟨by show l.length ≤ 256; omega, Go.Lx.lx_may s 0 l h2 (by omega)⟩
  · have h1 := Go.Lx.lexO_no h he
    subst h1
    exact ⟨Nat.zero_le _, fun x hx => (List.not_mem_nil hx).elim⟩
theorem tks_lex {m : View} {h : List Res} {a : Option Addr} {c : Nat} {s : B} (r : Rd m h a (lexO s).1.length c 4 (fl encK (lexO s).1)) : Tks m h a c (lexO s).1 :=
  ⟨r, by have := (lex_bounds s).1; omega, fun t ht => by have := Go.Lx.may_len ((lex_bounds s).2 t ht).1; omega⟩
theorem nameX_ct (s : B) (h : List Res) (m : View) : CT Tryd.prog 21 [str s] h m (Pure1 h (exV (sx 4 0 0 0 s []))) := by
  refine CT.body Tryd.call21 Tryd.func21 rfl Tryd.ntmps21 (leB rfl) rfl ?_
  (repeat (first | refine WC.seqK fun K hK => ?_ | refine WC.block ?_ | refine WC.regionG rfl fun ops hG => ?_))
  refine WL.alloc rfl rfl (leB rfl) fun b2 => ?_
  refine WL.nil (keepF (ts := [0, 2]) rfl (toK (by assumption) ?_))
  (try clear hG ops)
  (repeat (first | refine WC.seqK fun K hK => ?_ | refine WC.block ?_ | refine WC.regionG rfl fun ops hG => ?_))
  refine WL.po (PO.move (Ev.tmp rfl)) (leB rfl) ?_
  refine WL.po (PO.build Tryd.underlying27 rfl rfl rfl (EvP.cons Ev.const (EvP.cons (Ev.tmp rfl) EvP.nil)) rfl) (leB rfl) ?_
  refine WL.store rfl (Ev.tmp rfl) (Ev.tmp rfl) rfl rfl rfl rfl (by (repeat (first | exact Upd.here | apply Upd.next))) ?_
  refine WL.nil (keepF (ts := [2]) rfl (toK (by assumption) ?_))
  (try clear hG ops)
  refine WC.ret (end1 (h' := h) (.inl rfl) rfl (RV.cellA Tryd.underlying27 rfl rfl rfl (by (repeat (first | exact mem0 _ | apply memT))) rfl) (View.le.refl m) (by (repeat (first | exact sub0 _ | exact subA _ _ | refine subC _ ?_ | apply subK | refine subT _ ?_))) ?_)
  exact ⟨rfl, rfl⟩
abbrev twoX (o : Int) (x y : Ex) (b : Nat) : Ex := .mk 7 o 0 0 [] (some ⟨b, 0, none⟩) 2 [x, y]
abbrev twoR (x y : Ex) (b : Nat) : Res := .pt b (.cells (exE x ++ exE y).toArray 27 (0, 0))
theorem two_ct (o : Int) (x y : Ex) (h : List Res) (m : View) : CT Tryd.prog 22 [.int .u8 o, exV x, exV y] h m (fun v _ h' => ∃ b, v = exV (twoX o x y b) ∧ h' = twoR x y b :: h) := by
  refine CT.body Tryd.call22 Tryd.func22 rfl Tryd.ntmps22 (leB rfl) rfl ?_
  (repeat (first | refine WC.seqK fun K hK => ?_ | refine WC.block ?_ | refine WC.regionG rfl fun ops hG => ?_))
  refine WL.box (Ev.tmp rfl) rfl (leB rfl) fun b4 => ?_
  refine WL.box (Ev.tmp rfl) rfl (leB rfl) fun b5 => ?_
  refine WL.alloc rfl rfl (leB rfl) fun b6 => ?_
  refine WL.nil (keepF (ts := [0, 4, 5, 6]) rfl (toK (by assumption) ?_))
  (try clear hG ops)
  (repeat (first | refine WC.seqK fun K hK => ?_ | refine WC.block ?_ | refine WC.regionG rfl fun ops hG => ?_))
  refine WL.po (PO.move (Ev.tmp rfl)) (leB rfl) ?_
  refine WL.po (PO.loadA Tryd.underlying27 rfl rfl (Ev.tmp rfl) (by (repeat (first | exact mem0 _ | apply memT))) rfl) (leB rfl) ?_
  refine WL.po (PO.loadA Tryd.underlying27 rfl rfl (Ev.tmp rfl) (by (repeat (first | exact mem0 _ | apply memT))) rfl) (leB rfl) ?_
  refine WL.buildSlice EL25 rfl (EvP.cons (Ev.tmp rfl) (EvP.cons (Ev.tmp rfl) EvP.nil)) rfl rfl (by decide) rfl (leB rfl) fun b10 => ?_
  refine WL.po (PO.build Tryd.underlying27 rfl rfl rfl (EvP.cons Ev.const (EvP.cons (Ev.tmp rfl) (EvP.cons (Ev.tmp rfl) EvP.nil))) rfl) (leB rfl) ?_
  refine WL.store rfl (Ev.tmp rfl) (Ev.tmp rfl) rfl rfl rfl rfl (by (repeat (first | exact Upd.here | apply Upd.next))) ?_
  refine WL.nil (keepF (ts := [6]) rfl (toK (by assumption) ?_))
  (try clear hG ops)
  refine WC.ret (end1 (h' := twoR x y b10 :: h) (.inl rfl) rfl (RV.cellA Tryd.underlying27 rfl rfl rfl (by (repeat (first | exact mem0 _ | apply memT))) rfl) (View.le.refl m) (by (repeat (first | exact sub0 _ | exact subA _ _ | refine subC _ ?_ | apply subK | refine subT _ ?_))) ?_)
  exact ⟨b10, rfl, rfl⟩
def readsP (line : B) (want : Ex) (n : Int) : Bool := ((((lexO line).2.2 == 0) && (frontE (lexO line).1 == 0)) && ((frontN (lexO line).1 : Int) == n)) && sameE (frontX (lexO line).1) want
theorem same_of {x y w : Ex} (h : strip x = strip y) : sameE x w = sameE y w := by rw [Bool.eq_iff_iff, same_strip, same_strip, h]
theorem stripS (e : Ex) : strip (strip e) = strip e := by
  refine Ex.ind (p := fun e => strip (strip e) = strip e) (fun e ih => ?_) e
  rw [strip_eq (strip e), l_strip, List.map_map]
  rw [strip_eq e]
  show Ex.mk e.k e.o e.t e.n e.s none 0 _ = _
  congr 1
  exact List.map_congr_left fun x hx => ih x hx
theorem reads_ct {m : View} (hg : Glob m) (line : B) (hl : line.length ≤ 1000) (want : Ex) (n : Int) (h : List Res) (hT : TOk m h want) : CT Tryd.prog 20 [str line, exV want, .int .i64 n] h m (Pure1 h (.bool (readsP line want n))) := by
  have hb := lex_bounds line
  refine CT.body Tryd.call20 Tryd.func20 rfl Tryd.ntmps20 (leB rfl) rfl ?_
  (repeat (first | refine WC.seqK fun K hK => ?_ | refine WC.block ?_ | refine WC.regionG rfl fun ops hG => ?_))
  refine WL.box (Ev.tmp rfl) rfl (leB rfl) fun b4 => ?_
  refine WL.po (PO.assign Ev.const) (leB rfl) ?_
  refine WL.nil (keepF (ts := [0, 2, 4]) rfl (toK (by assumption) ?_))
  (try clear hG ops)
  (repeat (first | refine WC.seqK fun K hK => ?_ | refine WC.block ?_ | refine WC.regionG rfl fun ops hG => ?_))
  refine WL.po (PO.move (Ev.tmp rfl)) (leB rfl) ?_
  refine WL.callK Ev.func (Evs.cons (Ev.tmp rfl) Evs.nil) (lxTokens_ct line _ _ hg (by omega)) (leB rfl) ?_
  rintro _ _ ⟨a15, c15, rfl, rfl⟩
  refine WL.knowRow (a := a15) (by (repeat (first | exact mem0 _ | apply memT))) fun p15 q15 r15 => ?_
  refine WL.po (PO.move (Ev.tmp rfl)) (leB rfl) ?_
  refine WL.po (PO.extract (Ev.tmp rfl) rfl) (leB rfl) ?_
  refine WL.po (PO.extract (Ev.tmp rfl) rfl) (leB rfl) ?_
  refine WL.po (PO.extract (Ev.tmp rfl) rfl) (leB rfl) ?_
  refine WL.po (PO.assign (Ev.tmp rfl)) (leB rfl) ?_
  refine WL.po (PO.assign (Ev.tmp rfl)) (leB rfl) ?_
  refine WL.po (PO.assign (Ev.tmp rfl)) (leB rfl) ?_
  refine WL.nil (keepF (ts := [2, 4, 7, 9]) rfl (toK (by assumption) ?_))
  (try clear hG ops)
  (repeat (first | refine WC.seqK fun K hK => ?_ | refine WC.block ?_ | refine WC.regionG rfl fun ops hG => ?_))
  refine WL.po (PO.move (Ev.tmp rfl)) (leB rfl) ?_
  refine WL.callK Ev.func (Evs.cons (Ev.tmp rfl) Evs.nil) (frontF_ct hg a15 c15 (lexO line).1 _ (tks_lex (Rd.inRow (List.Mem.head _) r15 p15 q15)) (fun t ht => (hb.2 t ht).2)) (leB rfl) ?_
  rintro _ _ ⟨tx, bl, rfl, ⟨hst, hTx, hWx⟩, rfl⟩
  refine WL.perm ((perm_mid bl [_, _] h)) ?_
  refine WL.po (PO.move (Ev.tmp rfl)) (leB rfl) ?_
  refine WL.po (PO.extract (Ev.tmp rfl) rfl) (leB rfl) ?_
  refine WL.po (PO.extract (Ev.tmp rfl) rfl) (leB rfl) ?_
  refine WL.po (PO.extract (Ev.tmp rfl) rfl) (leB rfl) ?_
  refine WL.alloc rfl rfl (leB rfl) fun b10 => ?_
  refine WL.store rfl (Ev.tmp rfl) (Ev.tmp rfl) rfl rfl rfl rfl (by (repeat (first | exact Upd.here | apply Upd.next))) ?_
  refine WL.po (PO.assign (Ev.tmp rfl)) (leB rfl) ?_
  refine WL.po (PO.assign (Ev.tmp rfl)) (leB rfl) ?_
  refine WL.nil (keepF (ts := [2, 4, 9, 10, 11, 12]) rfl (toK (by assumption) ?_))
  (try clear hG ops)
  (repeat (first | refine WC.seqK fun K hK => ?_ | refine WC.block ?_ | refine WC.regionG rfl fun ops hG => ?_))
  refine WL.po (PO.move (Ev.tmp rfl)) (leB rfl) ?_
  refine WL.po (PO.bin (Ev.tmp rfl) Ev.const rfl) (leB rfl) ?_
  refine WL.po (PO.move (Ev.tmp rfl)) (leB rfl) ?_
  refine WL.poG (GU.t (hG _ _ rfl) rfl) (fun hc => PO.move (Ev.tmp rfl)) (leB rfl) ?_
  refine WL.poG (GU.t (hG _ _ rfl) rfl) (fun hc => PO.bin (Ev.gv rfl hc) Ev.const rfl) (leB rfl) ?_
  refine WL.po (PO.pickAnd rfl rfl) (leB rfl) ?_
  refine WL.po (PO.move (Ev.tmp rfl)) (leB rfl) ?_
  refine WL.poG (GU.t (hG _ _ rfl) rfl) (fun hc => PO.move (Ev.tmp rfl)) (leB rfl) ?_
  refine WL.poG (GU.t (hG _ _ rfl) rfl) (fun hc => PO.move (Ev.tmp rfl)) (leB rfl) ?_
  refine WL.poG (GU.t (hG _ _ rfl) rfl) (fun hc => PO.bin (Ev.gv rfl hc) (Ev.gv rfl hc) rfl) (leB rfl) ?_
  refine WL.po (PO.pickAnd rfl rfl) (leB rfl) ?_
  refine WL.po (PO.move (Ev.tmp rfl)) (leB rfl) ?_
  refine WL.poG (GU.t (hG _ _ rfl) rfl) (fun hc => PO.loadA Tryd.underlying27 rfl rfl (Ev.tmp rfl) (by (repeat (first | exact mem0 _ | apply memT))) rfl) (leB rfl) ?_
  refine WL.poG (GU.t (hG _ _ rfl) rfl) (fun hc => PO.loadA Tryd.underlying27 rfl rfl (Ev.tmp rfl) (by (repeat (first | exact mem0 _ | apply memT))) rfl) (leB rfl) ?_
  refine WL.callG (GU.t (hG _ _ rfl) rfl) (fun hc => ⟨Ev.func, (Evs.cons (Ev.gv rfl hc) (Evs.cons (Ev.gv rfl hc) Evs.nil)), sameR_ct tx want _ _ (hTx.mono ((List.sublist_append_left bl h).trans (by (repeat (first | exact sub0 _ | exact subA _ _ | refine subC _ ?_ | apply subK | refine subT _ ?_))))) (hT.mono (by (repeat (first | exact sub0 _ | exact subA _ _ | refine subC _ ?_ | apply subK | refine subT _ ?_))))⟩) (leB rfl) ?_
  refine WL.po (PO.pickAnd rfl rfl) (leB rfl) ?_
  refine WL.po (PO.assign (Ev.tmp rfl)) (leB rfl) ?_
  refine WL.nil (keepF (ts := [6]) rfl (toK (by assumption) ?_))
  (try clear hG ops)
  refine WC.ret (end1 (h' := h) (.inl rfl) rfl (RV.tmp rfl) (View.le.refl m) (by (repeat (first | exact sub0 _ | exact subA _ _ | refine subC _ ?_ | apply subK | refine subT _ ?_))) ?_)
  exact ⟨by unfold readsP; rw [same_of (show strip (frontX (lexO line).1) = strip tx by rw [← hst, stripS])], rfl⟩
def failsP (line : B) (want : Int) : Bool := ((((lexO line).2.2 == 0) && (frontE (lexO line).1 == want)) && ((frontN (lexO line).1 : Int) == 0)) && ((frontX (lexO line).1).k == 0)
theorem fails_ct {m : View} (hg : Glob m) (line : B) (hl : line.length ≤ 1000) (want : Int) (h : List Res) : CT Tryd.prog 23 [str line, .int .i64 want] h m (Pure1 h (.bool (failsP line want))) := by
  have hb := lex_bounds line
  refine CT.body Tryd.call23 Tryd.func23 rfl Tryd.ntmps23 (leB rfl) rfl ?_
  (repeat (first | refine WC.seqK fun K hK => ?_ | refine WC.block ?_ | refine WC.regionG rfl fun ops hG => ?_))
  refine WL.po (PO.assign Ev.const) (leB rfl) ?_
  refine WL.nil (keepF (ts := [0, 1]) rfl (toK (by assumption) ?_))
  (try clear hG ops)
  (repeat (first | refine WC.seqK fun K hK => ?_ | refine WC.block ?_ | refine WC.regionG rfl fun ops hG => ?_))
  refine WL.po (PO.move (Ev.tmp rfl)) (leB rfl) ?_
  refine WL.callK Ev.func (Evs.cons (Ev.tmp rfl) Evs.nil) (lxTokens_ct line _ _ hg (by omega)) (leB rfl) ?_
  rintro _ _ ⟨a13, c13, rfl, rfl⟩
  refine WL.knowRow (a := a13) (by (repeat (first | exact mem0 _ | apply memT))) fun p13 q13 r13 => ?_
  refine WL.po (PO.move (Ev.tmp rfl)) (leB rfl) ?_
  refine WL.po (PO.extract (Ev.tmp rfl) rfl) (leB rfl) ?_
  refine WL.po (PO.extract (Ev.tmp rfl) rfl) (leB rfl) ?_
  refine WL.po (PO.extract (Ev.tmp rfl) rfl) (leB rfl) ?_
  refine WL.po (PO.assign (Ev.tmp rfl)) (leB rfl) ?_
  refine WL.po (PO.assign (Ev.tmp rfl)) (leB rfl) ?_
  refine WL.po (PO.assign (Ev.tmp rfl)) (leB rfl) ?_
  refine WL.nil (keepF (ts := [1, 5, 7]) rfl (toK (by assumption) ?_))
  (try clear hG ops)
  (repeat (first | refine WC.seqK fun K hK => ?_ | refine WC.block ?_ | refine WC.regionG rfl fun ops hG => ?_))
  refine WL.po (PO.move (Ev.tmp rfl)) (leB rfl) ?_
  refine WL.callK Ev.func (Evs.cons (Ev.tmp rfl) Evs.nil) (frontF_ct hg a13 c13 (lexO line).1 _ (tks_lex (Rd.inRow (List.Mem.head _) r13 p13 q13)) (fun t ht => (hb.2 t ht).2)) (leB rfl) ?_
  rintro _ _ ⟨tx, bl, rfl, ⟨hst, hTx, hWx⟩, rfl⟩
  refine WL.perm ((perm_mid bl [_] h)) ?_
  refine WL.po (PO.move (Ev.tmp rfl)) (leB rfl) ?_
  refine WL.po (PO.extract (Ev.tmp rfl) rfl) (leB rfl) ?_
  refine WL.po (PO.extract (Ev.tmp rfl) rfl) (leB rfl) ?_
  refine WL.po (PO.extract (Ev.tmp rfl) rfl) (leB rfl) ?_
  refine WL.alloc rfl rfl (leB rfl) fun b8 => ?_
  refine WL.store rfl (Ev.tmp rfl) (Ev.tmp rfl) rfl rfl rfl rfl (by (repeat (first | exact Upd.here | apply Upd.next))) ?_
  refine WL.po (PO.assign (Ev.tmp rfl)) (leB rfl) ?_
  refine WL.po (PO.assign (Ev.tmp rfl)) (leB rfl) ?_
  refine WL.nil (keepF (ts := [1, 7, 8, 9, 10]) rfl (toK (by assumption) ?_))
  (try clear hG ops)
  (repeat (first | refine WC.seqK fun K hK => ?_ | refine WC.block ?_ | refine WC.regionG rfl fun ops hG => ?_))
  refine WL.po (PO.move (Ev.tmp rfl)) (leB rfl) ?_
  refine WL.po (PO.bin (Ev.tmp rfl) Ev.const rfl) (leB rfl) ?_
  refine WL.po (PO.move (Ev.tmp rfl)) (leB rfl) ?_
  refine WL.poG (GU.t (hG _ _ rfl) rfl) (fun hc => PO.move (Ev.tmp rfl)) (leB rfl) ?_
  refine WL.poG (GU.t (hG _ _ rfl) rfl) (fun hc => PO.move (Ev.tmp rfl)) (leB rfl) ?_
  refine WL.poG (GU.t (hG _ _ rfl) rfl) (fun hc => PO.bin (Ev.gv rfl hc) (Ev.gv rfl hc) rfl) (leB rfl) ?_
  refine WL.po (PO.pickAnd rfl rfl) (leB rfl) ?_
  refine WL.po (PO.move (Ev.tmp rfl)) (leB rfl) ?_
  refine WL.poG (GU.t (hG _ _ rfl) rfl) (fun hc => PO.move (Ev.tmp rfl)) (leB rfl) ?_
  refine WL.poG (GU.t (hG _ _ rfl) rfl) (fun hc => PO.bin (Ev.gv rfl hc) Ev.const rfl) (leB rfl) ?_
  refine WL.po (PO.pickAnd rfl rfl) (leB rfl) ?_
  refine WL.po (PO.move (Ev.tmp rfl)) (leB rfl) ?_
  refine WL.poG (GU.t (hG _ _ rfl) rfl) (fun hc => PO.fieldAddr Tryd.underlying27 rfl (Nat.ne_of_beq_eq_false rfl) (Ev.tmp rfl)) (leB rfl) ?_
  refine WL.poG (GU.t (hG _ _ rfl) rfl) (fun hc => PO.load1 Tryd.underlying22 rfl (Ev.gv rfl hc) (by (repeat (first | exact mem0 _ | apply memT))) rfl) (leB rfl) ?_
  refine WL.poG (GU.t (hG _ _ rfl) rfl) (fun hc => PO.bin (Ev.gv rfl hc) Ev.const rfl) (leB rfl) ?_
  refine WL.po (PO.pickAnd rfl rfl) (leB rfl) ?_
  refine WL.po (PO.assign (Ev.tmp rfl)) (leB rfl) ?_
  refine WL.nil (keepF (ts := [4]) rfl (toK (by assumption) ?_))
  (try clear hG ops)
  refine WC.ret (end1 (h' := h) (.inl rfl) rfl (RV.tmp rfl) (View.le.refl m) (by (repeat (first | exact sub0 _ | exact subA _ _ | refine subC _ ?_ | apply subK | refine subT _ ?_))) ?_)
  exact ⟨by unfold failsP; rw [← hst, strip_k], rfl⟩
theorem two_cx (o : Int) (x y : Ex) (hp t : List Res) (m : View) : CX Tryd.prog 22 [.int .u8 o, exV x, exV y] (hp ++ t) m (fun v _ h' => ∃ hp', h' = hp' ++ t ∧ ∃ b, v = exV (twoX o x y b) ∧ hp' = twoR x y b :: hp) (fun _ _ => False) :=
  (CX.ofCT (X := fun _ _ => False) (two_ct o x y (hp ++ t) m)).mono (fun _ _ _ ⟨b, e1, e2⟩ => ⟨twoR x y b :: hp, e2, b, e1, rfl⟩) (fun _ _ h => h)
abbrev nmX (s : B) : Ex := sx 4 0 0 0 s []
abbrev oneX : Ex := sx 1 0 0 1 [] []
def prodX : Ex := sx 7 3 0 0 [] [sx 7 1 0 0 [] [nmX [97], oneX], sx 5 0 0 0 [118] [nmX [105]]]
def prodT : List Tok := [symT [40], nameT [97], symT [43], numT 1, symT [41], symT [42], nameT [118], symT [91], nameT [105], symT [93]]
def prodS : B := [40, 97, 32, 43, 32, 49, 41, 32, 42, 32, 118, 91, 105, 93]
theorem prod_tok : tokP prodX = prodT ∧ tokErr prodX = 0 := by decide +kernel
theorem prod_text : textO prodT = (prodS, 0) := by decide +kernel
theorem prod_tkl : TkL prodT := by unfold TkL; decide +kernel
theorem err_strip (e : Ex) : tokErr (strip e) = tokErr e := by unfold tokErr; rw [may_strip]
theorem reads1 : readsP [97, 32, 45, 32, 98, 32, 45, 32, 99] (sx 7 2 0 0 [] [nmX [97], nmX [98]]) 3 = true := by decide +kernel
theorem reads2 : readsP [40, 40, 97, 41, 41] (nmX [97]) 5 = true := by decide +kernel
theorem fails1 : failsP [97, 32, 43, 32, 41] 100 = true := by decide +kernel
theorem same_strip2 (x w : Ex) : sameE x (strip w) = sameE x w := by rw [Bool.eq_iff_iff, same_strip, same_strip, stripS]
theorem reads_strip (line : B) (w : Ex) (n : Int) : readsP line (strip w) n = readsP line w n := by unfold readsP; rw [same_strip2]
theorem works_ct {m : View} (hg : Glob m) (hp : Go.Proofs.YtheejlbhmbbdjaaDoor.Pow m) (h : List Res) : CT Tryd.prog 12 [] h m (Pure1 h (.bool true)) := by
  refine CT.body Tryd.call12 Tryd.func12 rfl Tryd.ntmps12 (leB rfl) rfl ?_
  (repeat (first | refine WC.seqK fun K hK => ?_ | refine WC.block ?_ | refine WC.regionG rfl fun ops hG => ?_))
  refine WL.po (PO.assign Ev.const) (leB rfl) ?_
  refine WL.nil (keepF (ts := []) rfl (toK (by assumption) ?_))
  (try clear hG ops)
  (repeat (first | refine WC.seqK fun K hK => ?_ | refine WC.block ?_ | refine WC.regionG rfl fun ops hG => ?_))
  refine WL.po (PO.build Tryd.underlying27 rfl rfl rfl (EvP.cons Ev.const (EvP.cons Ev.const EvP.nil)) rfl) (leB rfl) ?_
  refine WL.alloc rfl rfl (leB rfl) fun b1 => ?_
  refine WL.store rfl (Ev.tmp rfl) (Ev.tmp rfl) rfl rfl rfl rfl (by (repeat (first | exact Upd.here | apply Upd.next))) ?_
  refine WL.nil (keepF (ts := [1]) rfl (toK (by assumption) ?_))
  (try clear hG ops)
  (repeat (first | refine WC.seqK fun K hK => ?_ | refine WC.block ?_ | refine WC.regionG rfl fun ops hG => ?_))
  refine WC.drawL [0, 2, 3, 4, 6] (.op 1 (.op 0 (.op 2 (.op 3 (.op 4 (.op 5 (.op 6 .nil))))))) [8] [(7, 2)] _ [] mixed (fun _ _ _ _ _ h => h) [] (by kernel_rfl) (Fls.cons rfl rfl rfl (leB rfl) rfl Fls.nil) rfl ?_
  refine SR.po rfl rfl (PO.loadA Tryd.underlying27 rfl rfl (Ev.tmp rfl) (by (repeat (first | exact mem0 _ | apply memT))) rfl) (leB rfl) ?_
  refine SR.callP rfl rfl Ev.func (Evs.cons Ev.const Evs.nil) (fun fr => nameX_ct _ _ _) (leB rfl) ?_
  refine SR.callX rfl rfl Ev.func (Evs.cons Ev.const (Evs.cons (Ev.tmp rfl) (Evs.cons (Ev.tmp rfl) Evs.nil))) (fun fr => two_cx 1 (nmX [97]) oneX [] _ _) (leB rfl) (fun fr v hv hx => ?_) fun v10 h10 hr10 => ?_
  · exact hx.elim
  obtain ⟨b10, rfl, rfl⟩ := hr10
  refine SR.callP rfl rfl Ev.func (Evs.cons Ev.const Evs.nil) (fun fr => nameX_ct _ _ _) (leB rfl) ?_
  refine SR.buildSlice rfl rfl EL25 rfl (EvP.cons (Ev.tmp rfl) EvP.nil) rfl rfl (by decide) rfl (leB rfl) fun b12 => ?_
  refine SR.po rfl rfl (PO.build Tryd.underlying27 rfl rfl rfl (EvP.cons Ev.const (EvP.cons Ev.const (EvP.cons (Ev.tmp rfl) EvP.nil))) rfl) (leB rfl) ?_
  refine SR.callX rfl rfl Ev.func (Evs.cons Ev.const (Evs.cons (Ev.tmp rfl) (Evs.cons (Ev.tmp rfl) Evs.nil))) (fun fr => two_cx 3 (twoX 1 (nmX [97]) oneX b10) (.mk 5 0 0 0 [118] (some ⟨b12, 0, none⟩) 1 [nmX [105]]) [_, _] _ _) (leB rfl) (fun fr v hv hx => ?_) fun v14 h14 hr14 => ?_
  · exact hx.elim
  obtain ⟨b14, rfl, rfl⟩ := hr14
  refine SR.nilF rfl rfl fun b2 => ?_
  refine WL.store rfl (Ev.tmp rfl) (Ev.tmp rfl) rfl rfl rfl rfl (by (repeat (first | exact Upd.here | apply Upd.next))) ?_
  refine WL.nil (keepF (ts := [2]) rfl (toK (by assumption) ?_))
  (try clear hG ops)
  (repeat (first | refine WC.seqK fun K hK => ?_ | refine WC.block ?_ | refine WC.regionG rfl fun ops hG => ?_))
  obtain ⟨pr, hpr⟩ : ∃ pr, pr = twoX 3 (twoX 1 (nmX [97]) oneX b10) (.mk 5 0 0 0 [118] (some ⟨b12, 0, none⟩) 1 [nmX [105]]) b14 := ⟨_, rfl⟩
  have hs1 : strip pr = prodX := by rw [hpr]; rfl
  have hT : TOk m [twoR (twoX 1 (nmX [97]) oneX b10) (.mk 5 0 0 0 [118] (some ⟨b12, 0, none⟩) 1 [nmX [105]]) b14, .pt b12 (.cells (exE (nmX [105])).toArray 27 (0, 0)), twoR (nmX [97]) oneX b10] pr := by
    rw [hpr]
    exact tok_two (tok_two (tok_leaf m [] _ _ _ _ _) (tok_leaf m [] _ _ _ _ _) b10 _ _ _ _ _) (tok_one (tok_leaf m [] _ _ _ _ _) b12 _ _ _ _ _) b14 _ _ _ _ _
  have hT2 : TOk m (twoR (twoX 1 (nmX [97]) oneX b10) (.mk 5 0 0 0 [118] (some ⟨b12, 0, none⟩) 1 [nmX [105]]) b14 :: .pt b12 (.cells (exE (nmX [105])).toArray 27 (0, 0)) :: twoR (nmX [97]) oneX b10 :: h) pr := hT.mono (List.sublist_append_left [_, _, _] h)
  have hW : Wf pr := by
    rw [hpr]
    exact wf_two (wf_two (wf_leaf (by decide) (by decide) (by decide) (by decide) (by decide)) (wf_leaf (by decide) (by decide) (by decide) (by decide) (by decide)) (by decide) (by decide) (by decide) (by decide) (by decide)) (wf_one (wf_leaf (by decide) (by decide) (by decide) (by decide) (by decide)) (by decide) (by decide) (by decide) (by decide) (by decide)) (by decide) (by decide) (by decide) (by decide) (by decide)
  have hcnt : cntE pr = 6 := by rw [hpr]; rfl
  have htk : ∀ h', TOk m h' pr → CT Tryd.prog 9 [exV pr] h' m (fun v _ h'' => ∃ a c, v = .tuple #[.slice a prodT.length c, .int .i64 0] ∧ h'' = .row (.slice a prodT.length c) 36 4 prodT.length (fl encK prodT) :: h') := fun h' q => by
    have := tokF_ct hg pr h' q hW
    rw [← tok_strip, ← err_strip, hs1, prod_tok.1, prod_tok.2] at this
    exact this
  have htx : ∀ (a : Option Addr) (c : Nat) (h' : List Res), Rd m h' a prodT.length c 4 (fl encK prodT) → CT Tryd.prog 17 [.slice a prodT.length c] h' m (Pure1 h' (.tuple #[str prodS, .int .i64 0])) := fun a c h' q => by
    have := lxText_ct a _ c prodT h' m hg hp q prod_tkl
    rw [prod_text] at this
    exact this
  refine WL.po (PO.loadA Tryd.underlying27 rfl rfl (Ev.tmp rfl) (by (repeat (first | exact mem0 _ | apply memT))) rfl) (leB rfl) ?_
  refine WL.val (v' := exV pr) (by rw [hpr]; rfl) ?_
  refine WL.callK Ev.func (Evs.cons (Ev.tmp rfl) Evs.nil) (htk _ (hT2.mono (by (repeat (first | exact sub0 _ | exact subA _ _ | refine subC _ ?_ | apply subK | refine subT _ ?_))))) (leB rfl) ?_
  rintro _ _ ⟨a17, c17, rfl, rfl⟩
  refine WL.knowRow (a := a17) (by (repeat (first | exact mem0 _ | apply memT))) fun p17 q17 r17 => ?_
  refine WL.po (PO.move (Ev.tmp rfl)) (leB rfl) ?_
  refine WL.po (PO.extract (Ev.tmp rfl) rfl) (leB rfl) ?_
  refine WL.po (PO.extract (Ev.tmp rfl) rfl) (leB rfl) ?_
  refine WL.po (PO.assign (Ev.tmp rfl)) (leB rfl) ?_
  refine WL.po (PO.assign (Ev.tmp rfl)) (leB rfl) ?_
  refine WL.nil (keepF (ts := [2, 3, 4]) rfl (toK (by assumption) ?_))
  (try clear hG ops)
  (repeat (first | refine WC.seqK fun K hK => ?_ | refine WC.block ?_ | refine WC.regionG rfl fun ops hG => ?_))
  refine WL.po (PO.move (Ev.tmp rfl)) (leB rfl) ?_
  refine WL.callP Ev.func (Evs.cons (Ev.tmp rfl) Evs.nil) (htx a17 c17 _ (by first | assumption | exact Rd.ofSl (by assumption) | exact Rd.ofPt rfl (by decide) (by (repeat (first | exact mem0 _ | apply memT))) | exact Rd.mono (by assumption) (View.le.refl _) (by (repeat (first | exact sub0 _ | exact subA _ _ | refine subC _ ?_ | apply subK | refine subT _ ?_))) | exact Rd.inRow (by (repeat (first | exact mem0 _ | apply memT))) (by assumption) (by assumption) (by assumption))) (leB rfl) ?_
  refine WL.po (PO.move (Ev.tmp rfl)) (leB rfl) ?_
  refine WL.po (PO.extract (Ev.tmp rfl) rfl) (leB rfl) ?_
  refine WL.po (PO.extract (Ev.tmp rfl) rfl) (leB rfl) ?_
  refine WL.po (PO.assign (Ev.tmp rfl)) (leB rfl) ?_
  refine WL.po (PO.assign (Ev.tmp rfl)) (leB rfl) ?_
  refine WL.nil (keepF (ts := [2, 4, 5, 6]) rfl (toK (by assumption) ?_))
  (try clear hG ops)
  (repeat (first | refine WC.seqK fun K hK => ?_ | refine WC.block ?_ | refine WC.regionG rfl fun ops hG => ?_))
  refine WL.po (PO.move (Ev.tmp rfl)) (leB rfl) ?_
  refine WL.po (PO.bin (Ev.tmp rfl) Ev.const rfl) (leB rfl) ?_
  refine WL.po (PO.move (Ev.tmp rfl)) (leB rfl) ?_
  refine WL.unG (GU.t (hG _ _ rfl) rfl) rfl ?_
  refine WL.po (PO.move (Ev.tmp rfl)) (leB rfl) ?_
  refine WL.unG (GU.t (hG _ _ rfl) rfl) rfl ?_
  refine WL.po (PO.bin (Ev.tmp rfl) Ev.const rfl) (leB rfl) ?_
  refine WL.po (PO.pickAnd rfl rfl) (leB rfl) ?_
  refine WL.po (PO.move (Ev.tmp rfl)) (leB rfl) ?_
  refine WL.unG (GU.t (hG _ _ rfl) rfl) rfl ?_
  refine WL.po (PO.move (Ev.tmp rfl)) (leB rfl) ?_
  refine WL.unG (GU.t (hG _ _ rfl) rfl) rfl ?_
  refine WL.po (PO.eqlS (Ev.tmp rfl) Ev.const) (leB rfl) ?_
  refine WL.po (PO.pickAnd rfl rfl) (leB rfl) ?_
  refine WL.po (PO.move (Ev.tmp rfl)) (leB rfl) ?_
  refine WL.unG (GU.t (hG _ _ rfl) rfl) rfl ?_
  refine WL.callP Ev.func (Evs.cons Ev.const Evs.nil) (nameX_ct _ _ _) (leB rfl) ?_
  refine WL.unG (GU.t (hG _ _ rfl) rfl) rfl ?_
  refine WL.callP Ev.func (Evs.cons Ev.const Evs.nil) (nameX_ct _ _ _) (leB rfl) ?_
  refine WL.unG (GU.t (hG _ _ rfl) rfl) rfl ?_
  refine WL.callK Ev.func (Evs.cons Ev.const (Evs.cons (Ev.tmp rfl) (Evs.cons (Ev.tmp rfl) Evs.nil))) (two_ct 2 (nmX [97]) (nmX [98]) _ _) (leB rfl) ?_
  rintro _ _ ⟨b38, rfl, rfl⟩
  refine WL.unG (GU.t (hG _ _ rfl) rfl) rfl ?_
  refine WL.callP Ev.func (Evs.cons Ev.const (Evs.cons (Ev.tmp rfl) (Evs.cons Ev.const Evs.nil))) (CT.val (reads_ct hg [97, 32, 45, 32, 98, 32, 45, 32, 99] (by decide) (twoX 2 (nmX [97]) (nmX [98]) b38) 3 _ ((tok_two (tok_leaf m [] _ _ _ _ _) (tok_leaf m [] _ _ _ _ _) b38 _ _ _ _ _).mono (List.Sublist.cons_cons _ (List.nil_sublist _)))) (congrArg Value.bool ((reads_strip _ _ _).symm.trans reads1))) (leB rfl) ?_
  refine WL.po (PO.pickAnd rfl rfl) (leB rfl) ?_
  refine WL.po (PO.move (Ev.tmp rfl)) (leB rfl) ?_
  refine WL.unG (GU.t (hG _ _ rfl) rfl) rfl ?_
  refine WL.callP Ev.func (Evs.cons Ev.const Evs.nil) (nameX_ct _ _ _) (leB rfl) ?_
  refine WL.unG (GU.t (hG _ _ rfl) rfl) rfl ?_
  refine WL.callP Ev.func (Evs.cons Ev.const (Evs.cons (Ev.tmp rfl) (Evs.cons Ev.const Evs.nil))) (CT.val (reads_ct hg [40, 40, 97, 41, 41] (by decide) (nmX [97]) 5 _ (tok_leaf m _ _ _ _ _ _)) (congrArg Value.bool reads2)) (leB rfl) ?_
  refine WL.po (PO.pickAnd rfl rfl) (leB rfl) ?_
  refine WL.po (PO.move (Ev.tmp rfl)) (leB rfl) ?_
  refine WL.unG (GU.t (hG _ _ rfl) rfl) rfl ?_
  refine WL.callP Ev.func (Evs.cons Ev.const (Evs.cons Ev.const Evs.nil)) (CT.val (fails_ct hg [97, 32, 43, 32, 41] (by decide) 100 _) (congrArg Value.bool fails1)) (leB rfl) ?_
  refine WL.po (PO.pickAnd rfl rfl) (leB rfl) ?_
  refine WL.po (PO.move (Ev.tmp rfl)) (leB rfl) ?_
  refine WL.unG (GU.t (hG _ _ rfl) rfl) rfl ?_
  refine WL.po (PO.loadA Tryd.underlying27 rfl rfl (Ev.tmp rfl) (by (repeat (first | exact mem0 _ | apply memT))) rfl) (leB rfl) ?_
  refine WL.val (v' := exV pr) (by rw [hpr]; rfl) ?_
  refine WL.unG (GU.t (hG _ _ rfl) rfl) rfl ?_
  refine WL.callP Ev.func (Evs.cons (Ev.tmp rfl) Evs.nil) (CT.val (size_ct pr _ _ (hT2.mono (by (repeat (first | exact sub0 _ | exact subA _ _ | refine subC _ ?_ | apply subK | refine subT _ ?_)))) (by omega)) (show Value.int .i64 (cntE pr : Nat) = .int .i64 6 by rw [hcnt]; rfl)) (leB rfl) ?_
  refine WL.unG (GU.t (hG _ _ rfl) rfl) rfl ?_
  refine WL.po (PO.bin (Ev.tmp rfl) Ev.const rfl) (leB rfl) ?_
  refine WL.po (PO.pickAnd rfl rfl) (leB rfl) ?_
  refine WL.po (PO.assign (Ev.tmp rfl)) (leB rfl) ?_
  refine WL.nil (keepF (ts := [0]) rfl (toK (by assumption) ?_))
  (try clear hG ops)
  refine WC.ret (end1 (h' := h) (.inl rfl) rfl (RV.tmp rfl) (View.le.refl m) (by (repeat (first | exact sub0 _ | exact subA _ _ | refine subC _ ?_ | apply subK | refine subT _ ?_))) ?_)
  exact ⟨rfl, rfl⟩
end Go.Proofs.YtheejlbhmbbdjaaDoor

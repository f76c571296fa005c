/- expr: reading, walked: brackets, operands. -/
import Derived.Test.YtheejlbhmbbdjaaDoorExpP
import Derived.Test.YtheejlbhmbbdjaaDoorEng18
namespace Go.Proofs.YtheejlbhmbbdjaaDoor
open Go.Eng Go.Xp Go
open Go.Ty (Tok encK encK_len tokV)
open Go.Lx (mayK)
set_option maxRecDepth 100000
abbrev PROk (m : View) (b : Nat) (a : Option Addr) (c : Nat) (ts : List Tok) (o : Int) (res : PRes) (v : Value) (hp : List Res) : Prop :=
  ∃ (x : Ex) (k' : Nat) (t : Ex) (bl : List Res), (res = .ok (x, ts.drop k') ∧ k' ≤ ts.length) ∧ v = exV t ∧ (strip t = x ∧ TOk m bl t ∧ Wf t) ∧ hp = rdrR b a c ts k' o :: bl
abbrev PErr (b : Nat) (a : Option Addr) (c : Nat) (ts : List Tok) (res : PRes) (v : Value) (h h' : List Res) : Prop :=
  ∃ (e k o : Int), res = .error e ∧ v = failV e ∧ h' = rdrR b a c ts k o :: h
abbrev PCX (m : View) (f : FuncId) (args : List Value) (b : Nat) (a : Option Addr) (c : Nat) (ts : List Tok) (k : Nat) (o : Int) (res : PRes) (h : List Res) : Prop :=
  CX Tryd.prog f args (rdrR b a c ts k o :: h) m (fun v _ h' => ∃ hp, h' = hp ++ h ∧ PROk m b a c ts o res v hp) (fun v h' => PErr b a c ts res v h h')
theorem tail_drop' (ts : List Tok) (k : Nat) : (ts.drop k).tail = ts.drop (k + 1) := by rw [List.tail_drop]
theorem tok_leaf (m : View) (bl : List Res) (k o t n : Int) (s : B) : TOk m bl (.mk k o t n s none 0 []) := .mk (Rd.nilF exE 6 m bl) (fun _ hx => (List.not_mem_nil hx).elim)
theorem tok_one {m : View} {bl : List Res} {x : Ex} (q : TOk m bl x) (b : Nat) (k o t n : Int) (s : B) : TOk m (.pt b (.cells (exE x).toArray 27 (0, 0)) :: bl) (.mk k o t n s (some ⟨b, 0, none⟩) 1 [x]) :=
    .mk (Rd.ofPt rfl (by show 1 ≤ _; decide) (List.Mem.head _)) (fun y hy => by rw [List.mem_singleton] at hy; subst hy; exact q.mono (List.sublist_cons_self _ _))
theorem tok_two {m : View} {bl bl2 : List Res} {x y : Ex} (q : TOk m bl x) (r : TOk m bl2 y) (b : Nat) (k o t n : Int) (s : B) : TOk m (.pt b (.cells (exE x ++ exE y).toArray 27 (0, 0)) :: (bl2 ++ bl)) (.mk k o t n s (some ⟨b, 0, none⟩) 2 [x, y]) :=
    .mk (Rd.ofPt rfl (by show 2 ≤ _; decide) (List.Mem.head _)) (fun z hz => by
    rcases List.mem_cons.1 hz with rfl | hz
    · exact q.mono ((List.sublist_append_right _ _).cons _)
    · rw [List.mem_singleton] at hz
      subst hz
      exact r.mono ((List.sublist_append_left _ _).cons _))
theorem wf_one {x : Ex} (q : Wf x) {k o t n : Int} {s : B} {a : Option Addr} {c : Nat} (hk : 0 ≤ k ∧ k ≤ 255) (ho : 0 ≤ o ∧ o ≤ 255) (ht : 0 ≤ t ∧ t ≤ 255) (hn : -2147483648 ≤ n ∧ n ≤ 2147483647) (hs : s.length ≤ 140737488355328) : Wf (.mk k o t n s a c [x]) :=
  .mk hk ho ht hn hs fun y hy => by rw [List.mem_singleton] at hy; subst hy; exact q
theorem wf_two {x y : Ex} (q : Wf x) (r : Wf y) {k o t n : Int} {s : B} {a : Option Addr} {c : Nat} (hk : 0 ≤ k ∧ k ≤ 255) (ho : 0 ≤ o ∧ o ≤ 255) (ht : 0 ≤ t ∧ t ≤ 255) (hn : -2147483648 ≤ n ∧ n ≤ 2147483647) (hs : s.length ≤ 140737488355328) : Wf (.mk k o t n s a c [x, y]) :=
  .mk hk ho ht hn hs fun z hz => by
    rcases List.mem_cons.1 hz with rfl | hz
    · exact q
    · rw [List.mem_singleton] at hz
      subst hz
      exact r
theorem wf_leaf {k o t n : Int} {s : B} (hk : 0 ≤ k ∧ k ≤ 255) (ho : 0 ≤ o ∧ o ≤ 255) (ht : 0 ≤ t ∧ t ≤ 255) (hn : -2147483648 ≤ n ∧ n ≤ 2147483647) (hs : s.length ≤ 140737488355328) : Wf (.mk k o t n s none 0 []) :=
  .mk hk ho ht hn hs fun _ hx => (List.not_mem_nil hx).elim
section
variable {m : View} (hg : Glob m) (b : Nat) (a : Option Addr) (c : Nat) (ts : List Tok)
abbrev INS (m : View) (b : Nat) (a : Option Addr) (c : Nat) (ts : List Tok) (f : Nat) : Prop := ∀ (h : List Res) (k : Nat) (o s : B), Tks m h a c ts → k ≤ ts.length → PCX m 83 [.pointer (some ⟨b, 0, none⟩), str o, str s] b a c ts k (32 - f) (insQ f o s (ts.drop k)) h
abbrev OPN (m : View) (b : Nat) (a : Option Addr) (c : Nat) (ts : List Tok) (f : Nat) : Prop := ∀ (h : List Res) (k : Nat), Tks m h a c ts → k ≤ ts.length → PCX m 62 [.pointer (some ⟨b, 0, none⟩)] b a c ts k (32 - f) (opndQ (insQ f) (ts.drop k)) h
abbrev EXP (m : View) (b : Nat) (a : Option Addr) (c : Nat) (ts : List Tok) (f : Nat) : Prop := ∀ (h : List Res) (k : Nat), Tks m h a c ts → k ≤ ts.length → PCX m 39 [.pointer (some ⟨b, 0, none⟩)] b a c ts k (32 - f) (exprQ (insQ f) (ts.drop k)) h
theorem ins0 : INS m b a c ts 0 := by
  intro h k o s hk hkl
  refine CX.body Tryd.call83 Tryd.func83 rfl Tryd.ntmps83 (leB rfl) rfl ?_
  (repeat (first | refine WC.seqK fun K hK => ?_ | refine WC.block ?_ | refine WC.regionG rfl fun ops hG => ?_))
  refine WL.alloc rfl rfl (leB rfl) fun b6 => ?_
  refine WL.nil (keepF (ts := [0, 1, 2, 6]) rfl (toK (by assumption) ?_))
  (try clear hG ops)
  (repeat (first | refine WC.seqK fun K hK => ?_ | refine WC.block ?_ | refine WC.regionG rfl fun ops hG => ?_))
  refine WL.po (PO.move (Ev.tmp rfl)) (leB rfl) ?_
  refine WL.po (PO.nilCheck (Ev.tmp rfl)) (leB rfl) ?_
  refine WL.po (PO.fieldAddr Tryd.underlying72 rfl (Nat.ne_of_beq_eq_false rfl) (Ev.tmp rfl)) (leB rfl) ?_
  refine WL.po (PO.load1 Tryd.underlying3 rfl (Ev.tmp rfl) (by (repeat (first | exact mem0 _ | apply memT))) rfl) (leB rfl) ?_
  refine WL.po (PO.bin (Ev.tmp rfl) Ev.const rfl) (leB rfl) ?_
  refine WL.nil (keepF (ts := [0, 1, 2, 6, 12]) rfl (toK (by assumption) ?_))
  (try clear hG ops)
  (repeat (first | refine WC.seqK fun K hK => ?_ | refine WC.block ?_ | refine WC.regionG rfl fun ops hG => ?_))
  refine WC.cond (Ev.tmp rfl) (fun c12 => ?_) (fun c12 => ?_)
  · replace c12 := t_eq c12
    (repeat (first | refine WC.seqK fun K hK => ?_ | refine WC.block ?_ | refine WC.regionG rfl fun ops hG => ?_))
    refine WL.po (PO.build Tryd.underlying68 rfl rfl rfl (EvP.cons Ev.const EvP.nil) rfl) (leB rfl) ?_
    refine WL.po (PO.makeIface Tryd.underlying68 (Ev.tmp rfl)) (leB rfl) ?_
    refine WL.panic (Ev.tmp rfl) (panX (P := Tryd.prog) (fn := Tryd.f83) (rdrR b a c ts k 32 :: h) (View.le.refl m) (by (repeat (first | exact sub0 _ | exact subA _ _ | refine subC _ ?_ | apply subK | refine subT _ ?_))) ?_)
    exact ⟨_, _, _, rfl, rfl, rfl⟩
  · cases c12
include hg
theorem ins1 {f : Nat} (hf : f < 32) (hE : EXP m b a c ts f) : INS m b a c ts (f + 1) := by
  intro h k o s hk hkl
  have hq : insQ (f + 1) o s (ts.drop k) = if nextT (ts.drop k) = symT o then (match exprQ (insQ f) (ts.drop (k + 1)) with
      | .error e => .error e
      | .ok (x, r) => if nextT r = symT s then .ok (x, r.tail) else .error 100) else .error 100 := by rw [← tail_drop']; rfl
  refine CX.body Tryd.call83 Tryd.func83 rfl Tryd.ntmps83 (leB rfl) rfl ?_
  (repeat (first | refine WC.seqK fun K hK => ?_ | refine WC.block ?_ | refine WC.regionG rfl fun ops hG => ?_))
  refine WL.alloc rfl rfl (leB rfl) fun b6 => ?_
  refine WL.nil (keepF (ts := [0, 1, 2, 6]) rfl (toK (by assumption) ?_))
  (try clear hG ops)
  (repeat (first | refine WC.seqK fun K hK => ?_ | refine WC.block ?_ | refine WC.regionG rfl fun ops hG => ?_))
  refine WL.po (PO.move (Ev.tmp rfl)) (leB rfl) ?_
  refine WL.po (PO.nilCheck (Ev.tmp rfl)) (leB rfl) ?_
  refine WL.po (PO.fieldAddr Tryd.underlying72 rfl (Nat.ne_of_beq_eq_false rfl) (Ev.tmp rfl)) (leB rfl) ?_
  refine WL.po (PO.load1 Tryd.underlying3 rfl (Ev.tmp rfl) (by (repeat (first | exact mem0 _ | apply memT))) rfl) (leB rfl) ?_
  refine WL.po (PO.bin (Ev.tmp rfl) Ev.const rfl) (leB rfl) ?_
  refine WL.nil (keepF (ts := [0, 1, 2, 6, 12]) rfl (toK (by assumption) ?_))
  (try clear hG ops)
  (repeat (first | refine WC.seqK fun K hK => ?_ | refine WC.block ?_ | refine WC.regionG rfl fun ops hG => ?_))
  refine WC.cond (Ev.tmp rfl) (fun c12 => ?_) (fun c12 => ?_)
  · replace c12 := t_eq c12
    omega
  · replace c12 := f_eq c12
    refine WC.skip (keepF (ts := [0, 1, 2, 6]) rfl (toK (by assumption) ?_))
    (repeat (first | refine WC.seqK fun K hK => ?_ | refine WC.block ?_ | refine WC.regionG rfl fun ops hG => ?_))
    refine WL.po (PO.move (Ev.tmp rfl)) (leB rfl) ?_
    refine WL.po (PO.nilCheck (Ev.tmp rfl)) (leB rfl) ?_
    refine WL.po (PO.fieldAddr Tryd.underlying72 rfl (Nat.ne_of_beq_eq_false rfl) (Ev.tmp rfl)) (leB rfl) ?_
    refine WL.po (PO.load1 Tryd.underlying3 rfl (Ev.tmp rfl) (by (repeat (first | exact mem0 _ | apply memT))) rfl) (leB rfl) ?_
    refine WL.po (PO.addI (Ev.tmp rfl) Ev.const (by omega)) (leB rfl) ?_
    refine WL.val (v' := .int .i64 (32 - (f : Int))) (congrArg (Value.int .i64) (by omega)) ?_
    refine WL.po (PO.nilCheck (Ev.tmp rfl)) (leB rfl) ?_
    refine WL.po (PO.fieldAddr Tryd.underlying72 rfl (Nat.ne_of_beq_eq_false rfl) (Ev.tmp rfl)) (leB rfl) ?_
    refine WL.store rfl (Ev.tmp rfl) (Ev.tmp rfl) rfl rfl rfl rfl (by (repeat (first | exact Upd.here | apply Upd.next))) ?_
    refine WL.nil (keepF (ts := [0, 1, 2, 6]) rfl (toK (by assumption) ?_))
    (try clear hG ops)
    (repeat (first | refine WC.seqK fun K hK => ?_ | refine WC.block ?_ | refine WC.regionG rfl fun ops hG => ?_))
    refine WL.po (PO.move (Ev.tmp rfl)) (leB rfl) ?_
    refine WL.po (PO.move (Ev.tmp rfl)) (leB rfl) ?_
    refine WL.callP Ev.func (Evs.cons (Ev.tmp rfl) Evs.nil) (sym_ct _ _ _) (leB rfl) ?_
    refine WL.perm (Del.perm (r := rdrR b a c ts k (32 - f)) (by (repeat (first | exact Del.here | apply Del.next)))) ?_
    refine WL.callX Ev.func (Evs.cons (Ev.tmp rfl) (Evs.cons (Ev.tmp rfl) Evs.nil)) (take_cx hg b a c ts k (32 - f) (symT o) _ (hk.mono (by (repeat (first | exact sub0 _ | exact subA _ _ | refine subC _ ?_ | apply subK | refine subT _ ?_)))) hkl) (leB rfl) (fun v hv hx => ?_) fun v25 h25 hr25 => ?_
    · obtain ⟨hx1, rfl, rfl⟩ := hx
      rw [if_neg hx1] at hq
      exact panX (P := Tryd.prog) (fn := Tryd.f83) (rdrR b a c ts k (32 - f) :: h) (View.le.refl m) (by (repeat (first | exact sub0 _ | exact subA _ _ | refine subC _ ?_ | apply subK | refine subT _ ?_))) ⟨_, _, _, hq, rfl, rfl⟩
    obtain ⟨hn25, rfl⟩ := hr25
    refine WL.nil (keepF (ts := [0, 2, 6]) rfl (toK (by assumption) ?_))
    (try clear hG ops)
    (repeat (first | refine WC.seqK fun K hK => ?_ | refine WC.block ?_ | refine WC.regionG rfl fun ops hG => ?_))
    have hkl2 : k < ts.length := next_pos (by rw [hn25]; exact (by decide : (5 : Int) ≠ 0))
    rw [if_pos hn25] at hq
    refine WL.po (PO.move (Ev.tmp rfl)) (leB rfl) ?_
    refine WL.callX Ev.func (Evs.cons (Ev.tmp rfl) Evs.nil) (hE _ (k + 1) (hk.mono (by (repeat (first | exact sub0 _ | exact subA _ _ | refine subC _ ?_ | apply subK | refine subT _ ?_)))) (by omega)) (leB rfl) (fun v hv hx => ?_) fun v27 h27 hr27 => ?_
    · obtain ⟨e, k2, o2, hres, rfl, rfl⟩ := hx
      rw [hres] at hq
      exact panX (P := Tryd.prog) (fn := Tryd.f83) (rdrR b a c ts k2 o2 :: h) (View.le.refl m) (by (repeat (first | exact sub0 _ | exact subA _ _ | refine subC _ ?_ | apply subK | refine subT _ ?_))) ⟨_, _, _, hq, rfl, rfl⟩
    obtain ⟨hp27, rfl, x, k2, t, bl, ⟨hres, hk2⟩, rfl, ⟨hst, hT, hW⟩, rfl⟩ := hr27
    refine WL.perm (h' := rdrR b a c ts k2 (32 - f) :: .pt b6 _ :: (bl ++ h)) (List.Perm.cons _ List.perm_middle) ?_
    rw [hres] at hq
    refine WL.alloc rfl rfl (leB rfl) fun b7 => ?_
    refine WL.store rfl (Ev.tmp rfl) (Ev.tmp rfl) rfl rfl rfl rfl (by (repeat (first | exact Upd.here | apply Upd.next))) ?_
    refine WL.nil (keepF (ts := [0, 2, 6, 7]) rfl (toK (by assumption) ?_))
    (try clear hG ops)
    (repeat (first | refine WC.seqK fun K hK => ?_ | refine WC.block ?_ | refine WC.regionG rfl fun ops hG => ?_))
    refine WL.po (PO.move (Ev.tmp rfl)) (leB rfl) ?_
    refine WL.po (PO.move (Ev.tmp rfl)) (leB rfl) ?_
    refine WL.callP Ev.func (Evs.cons (Ev.tmp rfl) Evs.nil) (sym_ct _ _ _) (leB rfl) ?_
    refine WL.perm (Del.perm (r := rdrR b a c ts k2 (32 - f)) (by (repeat (first | exact Del.here | apply Del.next)))) ?_
    refine WL.callX Ev.func (Evs.cons (Ev.tmp rfl) (Evs.cons (Ev.tmp rfl) Evs.nil)) (take_cx hg b a c ts k2 (32 - f) (symT s) _ (hk.mono (by (repeat (first | exact sub0 _ | exact subA _ _ | refine subC _ ?_ | apply subK | refine subT _ ?_)))) hk2) (leB rfl) (fun v hv hx => ?_) fun v31 h31 hr31 => ?_
    · obtain ⟨hx1, rfl, rfl⟩ := hx
      replace hq := hq.trans (if_neg hx1)
      exact panX (P := Tryd.prog) (fn := Tryd.f83) (rdrR b a c ts k2 (32 - f) :: h) (View.le.refl m) (by (repeat (first | exact sub0 _ | exact subA _ _ | refine subC _ ?_ | apply subK | refine subT _ ?_))) ⟨_, _, _, hq, rfl, rfl⟩
    obtain ⟨hn31, rfl⟩ := hr31
    refine WL.nil (keepF (ts := [0, 6, 7]) rfl (toK (by assumption) ?_))
    (try clear hG ops)
    (repeat (first | refine WC.seqK fun K hK => ?_ | refine WC.block ?_ | refine WC.regionG rfl fun ops hG => ?_))
    have hkl3 : k2 < ts.length := next_pos (by rw [hn31]; exact (by decide : (5 : Int) ≠ 0))
    replace hq := hq.trans (if_pos hn31)
    rw [tail_drop'] at hq
    refine WL.po (PO.move (Ev.tmp rfl)) (leB rfl) ?_
    refine WL.po (PO.nilCheck (Ev.tmp rfl)) (leB rfl) ?_
    refine WL.po (PO.fieldAddr Tryd.underlying72 rfl (Nat.ne_of_beq_eq_false rfl) (Ev.tmp rfl)) (leB rfl) ?_
    refine WL.po (PO.load1 Tryd.underlying3 rfl (Ev.tmp rfl) (by (repeat (first | exact mem0 _ | apply memT))) rfl) (leB rfl) ?_
    refine WL.po (PO.subI (Ev.tmp rfl) Ev.const (by omega)) (leB rfl) ?_
    refine WL.val (v' := .int .i64 (32 - ((f + 1 : Nat) : Int))) (congrArg (Value.int .i64) (by omega)) ?_
    refine WL.po (PO.nilCheck (Ev.tmp rfl)) (leB rfl) ?_
    refine WL.po (PO.fieldAddr Tryd.underlying72 rfl (Nat.ne_of_beq_eq_false rfl) (Ev.tmp rfl)) (leB rfl) ?_
    refine WL.store rfl (Ev.tmp rfl) (Ev.tmp rfl) rfl rfl rfl rfl (by (repeat (first | exact Upd.here | apply Upd.next))) ?_
    refine WL.nil (keepF (ts := [6, 7]) rfl (toK (by assumption) ?_))
    (try clear hG ops)
    (repeat (first | refine WC.seqK fun K hK => ?_ | refine WC.block ?_ | refine WC.regionG rfl fun ops hG => ?_))
    refine WL.po (PO.loadA Tryd.underlying27 rfl rfl (Ev.tmp rfl) (by (repeat (first | exact mem0 _ | apply memT))) rfl) (leB rfl) ?_
    refine WL.store rfl (Ev.tmp rfl) (Ev.tmp rfl) rfl rfl rfl rfl (by (repeat (first | exact Upd.here | apply Upd.next))) ?_
    refine WL.nil (keepF (ts := [6]) rfl (toK (by assumption) ?_))
    (try clear hG ops)
    refine WC.ret (toX (.inl rfl) (end1 (h' := rdrR b a c ts (k2 + 1 : Nat) (32 - ((f + 1 : Nat) : Int)) :: (bl ++ h)) (.inl rfl) rfl (RV.cellA Tryd.underlying27 rfl rfl rfl (by (repeat (first | exact mem0 _ | apply memT))) rfl) (View.le.refl m) (by (repeat (first | exact sub0 _ | exact subA _ _ | refine subC _ ?_ | apply subK | refine subT _ ?_))) ?_))
    exact ⟨rdrR b a c ts (k2 + 1 : Nat) (32 - ((f + 1 : Nat) : Int)) :: bl, rfl, x, k2 + 1, t, bl, ⟨hq, by omega⟩, rfl, ⟨hst, hT, hW⟩, rfl⟩
theorem opn {f : Nat} (hI : INS m b a c ts f) (htn : ∀ k, (-2147483648 ≤ (nextT (ts.drop k)).n ∧ (nextT (ts.drop k)).n ≤ 2147483647) ∧ (nextT (ts.drop k)).text.length ≤ 140737488355328) : OPN m b a c ts f := by
  intro h k hk hkl
  obtain ⟨t, ht⟩ : ∃ t, t = nextT (ts.drop k) := ⟨_, rfl⟩
  have hq : opndQ (insQ f) (ts.drop k) = if t.kind = 3 then .ok (sx 1 0 0 t.n [] [], ts.drop (k + 1)) else if t.kind = 4 then .ok (sx 2 0 0 t.n [] [], ts.drop (k + 1))
    else if t = markT [70, 65, 76, 83, 69] then .ok (sx 3 0 0 0 [] [], ts.drop (k + 1)) else if t = markT [84, 82, 85, 69] then .ok (sx 3 0 0 1 [] [], ts.drop (k + 1))
    else if t.kind = 1 then (if nextT (ts.drop (k + 1)) = symT [91] then (match insQ f [91] [93] (ts.drop (k + 1)) with
      | .ok (x, r) => .ok (sx 5 0 0 0 t.text [x], r)
      | .error e => .error e) else .ok (sx 4 0 0 0 t.text [], ts.drop (k + 1)))
    else if t = symT [40] then insQ f [40] [41] (ts.drop k) else .error 100 := by rw [ht, ← tail_drop']; rfl
  have hle := hk.le
  obtain ⟨htn1, htx1⟩ := htn k
  rw [← ht] at htn1 htx1
  refine CX.body Tryd.call62 Tryd.func62 rfl Tryd.ntmps62 (leB rfl) rfl ?_
  (repeat (first | refine WC.seqK fun K hK => ?_ | refine WC.block ?_ | refine WC.regionG rfl fun ops hG => ?_))
  refine WL.alloc rfl rfl (leB rfl) fun b2 => ?_
  refine WL.nil (keepF (ts := [0, 2]) rfl (toK (by assumption) ?_))
  (try clear hG ops)
  (repeat (first | refine WC.seqK fun K hK => ?_ | refine WC.block ?_ | refine WC.regionG rfl fun ops hG => ?_))
  refine WL.po (PO.move (Ev.tmp rfl)) (leB rfl) ?_
  refine WL.callP Ev.func (Evs.cons (Ev.tmp rfl) Evs.nil) (next_ct hg b a c ts k (32 - f) _ (by (repeat (first | exact mem0 _ | apply memT))) (hk.mono (by (repeat (first | exact sub0 _ | exact subA _ _ | refine subC _ ?_ | apply subK | refine subT _ ?_))))) (leB rfl) ?_
  refine WL.alloc rfl rfl (leB rfl) fun b3 => ?_
  refine WL.store rfl (Ev.tmp rfl) (Ev.tmp rfl) rfl rfl rfl rfl (by (repeat (first | exact Upd.here | apply Upd.next))) ?_
  rw [← ht]
  refine WL.nil (keepF (ts := [0, 2, 3]) rfl (toK (by assumption) ?_))
  (try clear hG ops)
  (repeat (first | refine WC.seqK fun K hK => ?_ | refine WC.block ?_ | refine WC.regionG rfl fun ops hG => ?_))
  refine WL.po (PO.fieldAddr Tryd.underlying36 rfl (Nat.ne_of_beq_eq_false rfl) (Ev.tmp rfl)) (leB rfl) ?_
  refine WL.po (PO.load1 Tryd.underlying34 rfl (Ev.tmp rfl) (by (repeat (first | exact mem0 _ | apply memT))) rfl) (leB rfl) ?_
  refine WL.po (PO.bin (Ev.tmp rfl) Ev.const rfl) (leB rfl) ?_
  refine WL.po (PO.assign (Ev.tmp rfl)) (leB rfl) ?_
  refine WL.nil (keepF (ts := [0, 2, 3, 6]) rfl (toK (by assumption) ?_))
  (try clear hG ops)
  (repeat (first | refine WC.seqK fun K hK => ?_ | refine WC.block ?_ | refine WC.regionG rfl fun ops hG => ?_))
  refine WC.cond (Ev.tmp rfl) (fun c6 => ?_) (fun c6 => ?_)
  · replace c6 := t_eq c6
    rw [if_pos c6] at hq
    have hkl2 : k < ts.length := next_pos (by rw [← ht, c6]; decide)
    (repeat (first | refine WC.seqK fun K hK => ?_ | refine WC.block ?_ | refine WC.regionG rfl fun ops hG => ?_))
    refine WL.po (PO.move (Ev.tmp rfl)) (leB rfl) ?_
    refine WL.po (PO.nilCheck (Ev.tmp rfl)) (leB rfl) ?_
    refine WL.po (PO.fieldAddr Tryd.underlying72 rfl (Nat.ne_of_beq_eq_false rfl) (Ev.tmp rfl)) (leB rfl) ?_
    refine WL.po (PO.load1 Tryd.underlying3 rfl (Ev.tmp rfl) (by (repeat (first | exact mem0 _ | apply memT))) rfl) (leB rfl) ?_
    refine WL.po (PO.addI (Ev.tmp rfl) Ev.const (by omega)) (leB rfl) ?_
    refine WL.po (PO.nilCheck (Ev.tmp rfl)) (leB rfl) ?_
    refine WL.po (PO.fieldAddr Tryd.underlying72 rfl (Nat.ne_of_beq_eq_false rfl) (Ev.tmp rfl)) (leB rfl) ?_
    refine WL.store rfl (Ev.tmp rfl) (Ev.tmp rfl) rfl rfl rfl rfl (by (repeat (first | exact Upd.here | apply Upd.next))) ?_
    refine WL.nil (keepF (ts := [2, 3]) rfl (toK (by assumption) ?_))
    (try clear hG ops)
    (repeat (first | refine WC.seqK fun K hK => ?_ | refine WC.block ?_ | refine WC.regionG rfl fun ops hG => ?_))
    refine WL.po (PO.fieldAddr Tryd.underlying36 rfl (Nat.ne_of_beq_eq_false rfl) (Ev.tmp rfl)) (leB rfl) ?_
    refine WL.po (PO.load1 Tryd.underlying21 rfl (Ev.tmp rfl) (by (repeat (first | exact mem0 _ | apply memT))) rfl) (leB rfl) ?_
    refine WL.po (PO.build Tryd.underlying27 rfl rfl rfl (EvP.cons Ev.const (EvP.cons (Ev.tmp rfl) EvP.nil)) rfl) (leB rfl) ?_
    refine WL.store rfl (Ev.tmp rfl) (Ev.tmp rfl) rfl rfl rfl rfl (by (repeat (first | exact Upd.here | apply Upd.next))) ?_
    refine WL.nil (keepF (ts := [2]) rfl (toK (by assumption) ?_))
    (try clear hG ops)
    refine WC.ret (toX (.inl rfl) (end1 (h' := rdrR b a c ts (k + 1 : Nat) (32 - f) :: h) (.inl rfl) rfl (RV.cellA Tryd.underlying27 rfl rfl rfl (by (repeat (first | exact mem0 _ | apply memT))) rfl) (View.le.refl m) (by (repeat (first | exact sub0 _ | exact subA _ _ | refine subC _ ?_ | apply subK | refine subT _ ?_))) ?_))
    exact ⟨rdrR b a c ts (k + 1 : Nat) (32 - f) :: [], rfl, _, k + 1, .mk 1 0 0 t.n [] none 0 [], [], ⟨hq, by omega⟩, rfl, ⟨rfl, tok_leaf _ _ _ _ _ _ _, wf_leaf (by omega) (by omega) (by omega) htn1 (Nat.zero_le _)⟩, rfl⟩
  · replace c6 := f_eq c6
    rw [if_neg c6] at hq
    (repeat (first | refine WC.seqK fun K hK => ?_ | refine WC.block ?_ | refine WC.regionG rfl fun ops hG => ?_))
    refine WL.po (PO.fieldAddr Tryd.underlying36 rfl (Nat.ne_of_beq_eq_false rfl) (Ev.tmp rfl)) (leB rfl) ?_
    refine WL.po (PO.load1 Tryd.underlying34 rfl (Ev.tmp rfl) (by (repeat (first | exact mem0 _ | apply memT))) rfl) (leB rfl) ?_
    refine WL.po (PO.bin (Ev.tmp rfl) Ev.const rfl) (leB rfl) ?_
    refine WL.po (PO.assign (Ev.tmp rfl)) (leB rfl) ?_
    refine WL.nil (keepF (ts := [0, 2, 3, 20]) rfl (toK (by assumption) ?_))
    (try clear hG ops)
    (repeat (first | refine WC.seqK fun K hK => ?_ | refine WC.block ?_ | refine WC.regionG rfl fun ops hG => ?_))
    refine WC.cond (Ev.tmp rfl) (fun c20 => ?_) (fun c20 => ?_)
    · replace c20 := t_eq c20
      rw [if_pos c20] at hq
      have hkl2 : k < ts.length := next_pos (by rw [← ht, c20]; decide)
      (repeat (first | refine WC.seqK fun K hK => ?_ | refine WC.block ?_ | refine WC.regionG rfl fun ops hG => ?_))
      refine WL.po (PO.move (Ev.tmp rfl)) (leB rfl) ?_
      refine WL.po (PO.nilCheck (Ev.tmp rfl)) (leB rfl) ?_
      refine WL.po (PO.fieldAddr Tryd.underlying72 rfl (Nat.ne_of_beq_eq_false rfl) (Ev.tmp rfl)) (leB rfl) ?_
      refine WL.po (PO.load1 Tryd.underlying3 rfl (Ev.tmp rfl) (by (repeat (first | exact mem0 _ | apply memT))) rfl) (leB rfl) ?_
      refine WL.po (PO.addI (Ev.tmp rfl) Ev.const (by omega)) (leB rfl) ?_
      refine WL.po (PO.nilCheck (Ev.tmp rfl)) (leB rfl) ?_
      refine WL.po (PO.fieldAddr Tryd.underlying72 rfl (Nat.ne_of_beq_eq_false rfl) (Ev.tmp rfl)) (leB rfl) ?_
      refine WL.store rfl (Ev.tmp rfl) (Ev.tmp rfl) rfl rfl rfl rfl (by (repeat (first | exact Upd.here | apply Upd.next))) ?_
      refine WL.nil (keepF (ts := [2, 3]) rfl (toK (by assumption) ?_))
      (try clear hG ops)
      (repeat (first | refine WC.seqK fun K hK => ?_ | refine WC.block ?_ | refine WC.regionG rfl fun ops hG => ?_))
      refine WL.po (PO.fieldAddr Tryd.underlying36 rfl (Nat.ne_of_beq_eq_false rfl) (Ev.tmp rfl)) (leB rfl) ?_
      refine WL.po (PO.load1 Tryd.underlying21 rfl (Ev.tmp rfl) (by (repeat (first | exact mem0 _ | apply memT))) rfl) (leB rfl) ?_
      refine WL.po (PO.build Tryd.underlying27 rfl rfl rfl (EvP.cons Ev.const (EvP.cons (Ev.tmp rfl) EvP.nil)) rfl) (leB rfl) ?_
      refine WL.store rfl (Ev.tmp rfl) (Ev.tmp rfl) rfl rfl rfl rfl (by (repeat (first | exact Upd.here | apply Upd.next))) ?_
      refine WL.nil (keepF (ts := [2]) rfl (toK (by assumption) ?_))
      (try clear hG ops)
      refine WC.ret (toX (.inl rfl) (end1 (h' := rdrR b a c ts (k + 1 : Nat) (32 - f) :: h) (.inl rfl) rfl (RV.cellA Tryd.underlying27 rfl rfl rfl (by (repeat (first | exact mem0 _ | apply memT))) rfl) (View.le.refl m) (by (repeat (first | exact sub0 _ | exact subA _ _ | refine subC _ ?_ | apply subK | refine subT _ ?_))) ?_))
      exact ⟨rdrR b a c ts (k + 1 : Nat) (32 - f) :: [], rfl, _, k + 1, .mk 2 0 0 t.n [] none 0 [], [], ⟨hq, by omega⟩, rfl, ⟨rfl, tok_leaf _ _ _ _ _ _ _, wf_leaf (by omega) (by omega) (by omega) htn1 (Nat.zero_le _)⟩, rfl⟩
    · replace c20 := f_eq c20
      rw [if_neg c20] at hq
      (repeat (first | refine WC.seqK fun K hK => ?_ | refine WC.block ?_ | refine WC.regionG rfl fun ops hG => ?_))
      refine WC.drawS [1] (.op 0 (.op 1 .nil)) [2, 3] _ [] mixed (fun _ _ _ _ _ h => h) [] (by kernel_rfl) ?_
      refine SR.po rfl rfl (PO.loadA Tryd.underlying36 rfl rfl (Ev.tmp rfl) (by (repeat (first | exact mem0 _ | apply memT))) rfl) (leB rfl) ?_
      refine SR.callP rfl rfl Ev.func (Evs.cons Ev.const Evs.nil) (fun fr => marked_ct hg _ (by decide) _) (leB rfl) ?_
      refine SR.nil rfl rfl ?_
      refine WL.po (PO.eqlA Tryd.underlying36 (by kernel_rfl) (by kernel_rfl) (Ev.tmp rfl) (Ev.tmp rfl) rfl) (leB rfl) ?_
      refine WL.po (PO.assign (Ev.tmp rfl)) (leB rfl) ?_
      refine WL.nil (keepF (ts := [0, 2, 3, 34]) rfl (toK (by assumption) ?_))
      (try clear hG ops)
      (repeat (first | refine WC.seqK fun K hK => ?_ | refine WC.block ?_ | refine WC.regionG rfl fun ops hG => ?_))
      refine WC.cond (Ev.tmp rfl) (fun c34 => ?_) (fun c34 => ?_)
      · have d34 := eq_of_eqK c34
        rw [if_pos d34] at hq
        have hkl2 : k < ts.length := next_pos (by rw [← ht, d34]; rcases mark_kind [70, 65, 76, 83, 69] with h | h <;> rw [h] <;> decide)
        (repeat (first | refine WC.seqK fun K hK => ?_ | refine WC.block ?_ | refine WC.regionG rfl fun ops hG => ?_))
        refine WL.po (PO.move (Ev.tmp rfl)) (leB rfl) ?_
        refine WL.po (PO.nilCheck (Ev.tmp rfl)) (leB rfl) ?_
        refine WL.po (PO.fieldAddr Tryd.underlying72 rfl (Nat.ne_of_beq_eq_false rfl) (Ev.tmp rfl)) (leB rfl) ?_
        refine WL.po (PO.load1 Tryd.underlying3 rfl (Ev.tmp rfl) (by (repeat (first | exact mem0 _ | apply memT))) rfl) (leB rfl) ?_
        refine WL.po (PO.addI (Ev.tmp rfl) Ev.const (by omega)) (leB rfl) ?_
        refine WL.po (PO.nilCheck (Ev.tmp rfl)) (leB rfl) ?_
        refine WL.po (PO.fieldAddr Tryd.underlying72 rfl (Nat.ne_of_beq_eq_false rfl) (Ev.tmp rfl)) (leB rfl) ?_
        refine WL.store rfl (Ev.tmp rfl) (Ev.tmp rfl) rfl rfl rfl rfl (by (repeat (first | exact Upd.here | apply Upd.next))) ?_
        refine WL.nil (keepF (ts := [2]) rfl (toK (by assumption) ?_))
        (try clear hG ops)
        (repeat (first | refine WC.seqK fun K hK => ?_ | refine WC.block ?_ | refine WC.regionG rfl fun ops hG => ?_))
        refine WL.po (PO.build Tryd.underlying27 rfl rfl rfl (EvP.cons Ev.const EvP.nil) rfl) (leB rfl) ?_
        refine WL.store rfl (Ev.tmp rfl) (Ev.tmp rfl) rfl rfl rfl rfl (by (repeat (first | exact Upd.here | apply Upd.next))) ?_
        refine WL.nil (keepF (ts := [2]) rfl (toK (by assumption) ?_))
        (try clear hG ops)
        refine WC.ret (toX (.inl rfl) (end1 (h' := rdrR b a c ts (k + 1 : Nat) (32 - f) :: h) (.inl rfl) rfl (RV.cellA Tryd.underlying27 rfl rfl rfl (by (repeat (first | exact mem0 _ | apply memT))) rfl) (View.le.refl m) (by (repeat (first | exact sub0 _ | exact subA _ _ | refine subC _ ?_ | apply subK | refine subT _ ?_))) ?_))
        exact ⟨rdrR b a c ts (k + 1 : Nat) (32 - f) :: [], rfl, _, k + 1, .mk 3 0 0 0 [] none 0 [], [], ⟨hq, by omega⟩, rfl, ⟨rfl, tok_leaf _ _ _ _ _ _ _, wf_leaf (by omega) (by omega) (by omega) (by omega) (Nat.zero_le _)⟩, rfl⟩
      · have d34 := ne_of_eqK c34
        rw [if_neg d34] at hq
        (repeat (first | refine WC.seqK fun K hK => ?_ | refine WC.block ?_ | refine WC.regionG rfl fun ops hG => ?_))
        refine WC.drawS [1] (.op 0 (.op 1 .nil)) [2, 3] _ [] mixed (fun _ _ _ _ _ h => h) [] (by kernel_rfl) ?_
        refine SR.po rfl rfl (PO.loadA Tryd.underlying36 rfl rfl (Ev.tmp rfl) (by (repeat (first | exact mem0 _ | apply memT))) rfl) (leB rfl) ?_
        refine SR.callP rfl rfl Ev.func (Evs.cons Ev.const Evs.nil) (fun fr => marked_ct hg _ (by decide) _) (leB rfl) ?_
        refine SR.nil rfl rfl ?_
        refine WL.po (PO.eqlA Tryd.underlying36 (by kernel_rfl) (by kernel_rfl) (Ev.tmp rfl) (Ev.tmp rfl) rfl) (leB rfl) ?_
        refine WL.po (PO.assign (Ev.tmp rfl)) (leB rfl) ?_
        refine WL.nil (keepF (ts := [0, 2, 3, 46]) rfl (toK (by assumption) ?_))
        (try clear hG ops)
        (repeat (first | refine WC.seqK fun K hK => ?_ | refine WC.block ?_ | refine WC.regionG rfl fun ops hG => ?_))
        refine WC.cond (Ev.tmp rfl) (fun c46 => ?_) (fun c46 => ?_)
        · have d46 := eq_of_eqK c46
          rw [if_pos d46] at hq
          have hkl2 : k < ts.length := next_pos (by rw [← ht, d46]; rcases mark_kind [84, 82, 85, 69] with h | h <;> rw [h] <;> decide)
          (repeat (first | refine WC.seqK fun K hK => ?_ | refine WC.block ?_ | refine WC.regionG rfl fun ops hG => ?_))
          refine WL.po (PO.move (Ev.tmp rfl)) (leB rfl) ?_
          refine WL.po (PO.nilCheck (Ev.tmp rfl)) (leB rfl) ?_
          refine WL.po (PO.fieldAddr Tryd.underlying72 rfl (Nat.ne_of_beq_eq_false rfl) (Ev.tmp rfl)) (leB rfl) ?_
          refine WL.po (PO.load1 Tryd.underlying3 rfl (Ev.tmp rfl) (by (repeat (first | exact mem0 _ | apply memT))) rfl) (leB rfl) ?_
          refine WL.po (PO.addI (Ev.tmp rfl) Ev.const (by omega)) (leB rfl) ?_
          refine WL.po (PO.nilCheck (Ev.tmp rfl)) (leB rfl) ?_
          refine WL.po (PO.fieldAddr Tryd.underlying72 rfl (Nat.ne_of_beq_eq_false rfl) (Ev.tmp rfl)) (leB rfl) ?_
          refine WL.store rfl (Ev.tmp rfl) (Ev.tmp rfl) rfl rfl rfl rfl (by (repeat (first | exact Upd.here | apply Upd.next))) ?_
          refine WL.nil (keepF (ts := [2]) rfl (toK (by assumption) ?_))
          (try clear hG ops)
          (repeat (first | refine WC.seqK fun K hK => ?_ | refine WC.block ?_ | refine WC.regionG rfl fun ops hG => ?_))
          refine WL.po (PO.build Tryd.underlying27 rfl rfl rfl (EvP.cons Ev.const (EvP.cons Ev.const EvP.nil)) rfl) (leB rfl) ?_
          refine WL.store rfl (Ev.tmp rfl) (Ev.tmp rfl) rfl rfl rfl rfl (by (repeat (first | exact Upd.here | apply Upd.next))) ?_
          refine WL.nil (keepF (ts := [2]) rfl (toK (by assumption) ?_))
          (try clear hG ops)
          refine WC.ret (toX (.inl rfl) (end1 (h' := rdrR b a c ts (k + 1 : Nat) (32 - f) :: h) (.inl rfl) rfl (RV.cellA Tryd.underlying27 rfl rfl rfl (by (repeat (first | exact mem0 _ | apply memT))) rfl) (View.le.refl m) (by (repeat (first | exact sub0 _ | exact subA _ _ | refine subC _ ?_ | apply subK | refine subT _ ?_))) ?_))
          exact ⟨rdrR b a c ts (k + 1 : Nat) (32 - f) :: [], rfl, _, k + 1, .mk 3 0 0 1 [] none 0 [], [], ⟨hq, by omega⟩, rfl, ⟨rfl, tok_leaf _ _ _ _ _ _ _, wf_leaf (by omega) (by omega) (by omega) (by omega) (Nat.zero_le _)⟩, rfl⟩
        · have d46 := ne_of_eqK c46
          rw [if_neg d46] at hq
          (repeat (first | refine WC.seqK fun K hK => ?_ | refine WC.block ?_ | refine WC.regionG rfl fun ops hG => ?_))
          refine WL.po (PO.fieldAddr Tryd.underlying36 rfl (Nat.ne_of_beq_eq_false rfl) (Ev.tmp rfl)) (leB rfl) ?_
          refine WL.po (PO.load1 Tryd.underlying34 rfl (Ev.tmp rfl) (by (repeat (first | exact mem0 _ | apply memT))) rfl) (leB rfl) ?_
          refine WL.po (PO.bin (Ev.tmp rfl) Ev.const rfl) (leB rfl) ?_
          refine WL.po (PO.assign (Ev.tmp rfl)) (leB rfl) ?_
          refine WL.nil (keepF (ts := [0, 2, 3, 58]) rfl (toK (by assumption) ?_))
          (try clear hG ops)
          (repeat (first | refine WC.seqK fun K hK => ?_ | refine WC.block ?_ | refine WC.regionG rfl fun ops hG => ?_))
          refine WC.cond (Ev.tmp rfl) (fun c58 => ?_) (fun c58 => ?_)
          · replace c58 := t_eq c58
            rw [if_pos c58] at hq
            have hkl2 : k < ts.length := next_pos (by rw [← ht, c58]; decide)
            (repeat (first | refine WC.seqK fun K hK => ?_ | refine WC.block ?_ | refine WC.regionG rfl fun ops hG => ?_))
            refine WL.po (PO.move (Ev.tmp rfl)) (leB rfl) ?_
            refine WL.po (PO.nilCheck (Ev.tmp rfl)) (leB rfl) ?_
            refine WL.po (PO.fieldAddr Tryd.underlying72 rfl (Nat.ne_of_beq_eq_false rfl) (Ev.tmp rfl)) (leB rfl) ?_
            refine WL.po (PO.load1 Tryd.underlying3 rfl (Ev.tmp rfl) (by (repeat (first | exact mem0 _ | apply memT))) rfl) (leB rfl) ?_
            refine WL.po (PO.addI (Ev.tmp rfl) Ev.const (by omega)) (leB rfl) ?_
            refine WL.po (PO.nilCheck (Ev.tmp rfl)) (leB rfl) ?_
            refine WL.po (PO.fieldAddr Tryd.underlying72 rfl (Nat.ne_of_beq_eq_false rfl) (Ev.tmp rfl)) (leB rfl) ?_
            refine WL.store rfl (Ev.tmp rfl) (Ev.tmp rfl) rfl rfl rfl rfl (by (repeat (first | exact Upd.here | apply Upd.next))) ?_
            refine WL.nil (keepF (ts := [0, 2, 3]) rfl (toK (by assumption) ?_))
            (try clear hG ops)
            (repeat (first | refine WC.seqK fun K hK => ?_ | refine WC.block ?_ | refine WC.regionG rfl fun ops hG => ?_))
            refine WL.po (PO.move (Ev.tmp rfl)) (leB rfl) ?_
            refine WL.callP Ev.func (Evs.cons (Ev.tmp rfl) Evs.nil) (next_ct hg b a c ts (k + 1) (32 - f) _ (by (repeat (first | exact mem0 _ | apply memT))) (hk.mono (by (repeat (first | exact sub0 _ | exact subA _ _ | refine subC _ ?_ | apply subK | refine subT _ ?_))))) (leB rfl) ?_
            refine WL.callP Ev.func (Evs.cons Ev.const Evs.nil) (sym_ct _ _ _) (leB rfl) ?_
            refine WL.po (PO.eqlA Tryd.underlying36 (by kernel_rfl) (by kernel_rfl) (Ev.tmp rfl) (Ev.tmp rfl) rfl) (leB rfl) ?_
            refine WL.nil (keepF (ts := [0, 2, 3, 72]) rfl (toK (by assumption) ?_))
            (try clear hG ops)
            (repeat (first | refine WC.seqK fun K hK => ?_ | refine WC.block ?_ | refine WC.regionG rfl fun ops hG => ?_))
            refine WC.cond (Ev.tmp rfl) (fun c72 => ?_) (fun c72 => ?_)
            · have d72 := eq_of_eqK c72
              rw [if_pos d72] at hq
              (repeat (first | refine WC.seqK fun K hK => ?_ | refine WC.block ?_ | refine WC.regionG rfl fun ops hG => ?_))
              refine WC.take (r := rdrR b a c ts (k + 1 : Nat) (32 - f)) (by (repeat (first | exact Del.here | apply Del.next))) ?_
              refine WC.drawS [3, 4] (.op 0 (.op 1 (.op 2 (.op 3 (.op 4 .nil))))) [5, 6] _ [_] mixed (fun _ _ _ _ _ h => h) [] (by kernel_rfl) ?_
              refine SR.po rfl rfl (PO.fieldAddr Tryd.underlying36 rfl (Nat.ne_of_beq_eq_false rfl) (Ev.tmp rfl)) (leB rfl) ?_
              refine SR.po rfl rfl (PO.load1 Tryd.underlying9 rfl (Ev.tmp rfl) (by (repeat (first | exact mem0 _ | apply memT))) rfl) (leB rfl) ?_
              refine SR.po rfl rfl (PO.move (Ev.tmp rfl)) (leB rfl) ?_
              refine SR.callX rfl rfl Ev.func (Evs.cons (Ev.tmp rfl) (Evs.cons Ev.const (Evs.cons Ev.const Evs.nil))) (fun fr => hI _ (k + 1) [91] [93] (Tks.mono hk (subl_fr (by (repeat (first | exact sub0 _ | exact subA _ _ | refine subC _ ?_ | apply subK | refine subT _ ?_))) fr)) (by omega)) (leB rfl) (fun fr v hv hx => ?_) fun v76 h76 hr76 => ?_
              · obtain ⟨e, k2, o2, hres, rfl, rfl⟩ := hx
                rw [hres] at hq
                exact panX (P := Tryd.prog) (fn := Tryd.f62) (rdrR b a c ts k2 o2 :: h) (View.le.refl m) (List.Sublist.cons_cons _ (subl_fr (by (repeat (first | exact sub0 _ | exact subA _ _ | refine subC _ ?_ | apply subK | refine subT _ ?_))) fr)) ⟨_, _, _, hq, rfl, rfl⟩
              obtain ⟨x, k2, tx, bl, ⟨hres, hk2⟩, rfl, ⟨hst, hT, hW⟩, rfl⟩ := hr76
              rw [hres] at hq
              refine SR.buildSlice rfl rfl EL25 rfl (EvP.cons (Ev.tmp rfl) EvP.nil) rfl rfl (by decide) rfl (leB rfl) fun b77 => ?_
              refine SR.nilP (H := rdrR b a c ts k2 (32 - f) :: .pt b77 (.cells (exE tx).toArray 27 (0, 0)) :: .pt b3 (.cells (encK t).toArray 36 (0, 0)) :: .pt b2 (.cells (exE (.mk 0 0 0 0 [] none 0 [])).toArray 27 (0, 0)) :: (bl ++ h)) rfl ((List.Perm.swap _ _ _).trans (((perm_mid bl [_, _] h).cons _).cons _)) ?_
              refine WL.po (PO.build Tryd.underlying27 rfl rfl rfl (EvP.cons Ev.const (EvP.cons (Ev.tmp rfl) (EvP.cons (Ev.tmp rfl) EvP.nil))) rfl) (leB rfl) ?_
              refine WL.store rfl (Ev.tmp rfl) (Ev.tmp rfl) rfl rfl rfl rfl (by (repeat (first | exact Upd.here | apply Upd.next))) ?_
              refine WL.nil (keepF (ts := [2]) rfl (toK (by assumption) ?_))
              (try clear hG ops)
              refine WC.ret (toX (.inl rfl) (end1 (h' := rdrR b a c ts k2 (32 - f) :: .pt b77 (.cells (exE tx).toArray 27 (0, 0)) :: (bl ++ h)) (.inl rfl) rfl (RV.cellA Tryd.underlying27 rfl rfl rfl (by (repeat (first | exact mem0 _ | apply memT))) rfl) (View.le.refl m) (by (repeat (first | exact sub0 _ | exact subA _ _ | refine subC _ ?_ | apply subK | refine subT _ ?_))) ?_))
              exact ⟨rdrR b a c ts k2 (32 - f) :: .pt b77 (.cells (exE tx).toArray 27 (0, 0)) :: bl, rfl, _, k2, .mk 5 0 0 0 t.text (some ⟨b77, 0, none⟩) 1 [tx], .pt b77 (.cells (exE tx).toArray 27 (0, 0)) :: bl, ⟨hq, hk2⟩, rfl, ⟨by rw [← hst]; rfl, tok_one hT b77 _ _ _ _ _, wf_one hW (by omega) (by omega) (by omega) (by omega) htx1⟩, rfl⟩
            · have d72 := ne_of_eqK c72
              rw [if_neg d72] at hq
              refine WC.skip (keepF (ts := [2, 3]) rfl (toK (by assumption) ?_))
              (repeat (first | refine WC.seqK fun K hK => ?_ | refine WC.block ?_ | refine WC.regionG rfl fun ops hG => ?_))
              refine WL.po (PO.fieldAddr Tryd.underlying36 rfl (Nat.ne_of_beq_eq_false rfl) (Ev.tmp rfl)) (leB rfl) ?_
              refine WL.po (PO.load1 Tryd.underlying9 rfl (Ev.tmp rfl) (by (repeat (first | exact mem0 _ | apply memT))) rfl) (leB rfl) ?_
              refine WL.po (PO.build Tryd.underlying27 rfl rfl rfl (EvP.cons Ev.const (EvP.cons (Ev.tmp rfl) EvP.nil)) rfl) (leB rfl) ?_
              refine WL.store rfl (Ev.tmp rfl) (Ev.tmp rfl) rfl rfl rfl rfl (by (repeat (first | exact Upd.here | apply Upd.next))) ?_
              refine WL.nil (keepF (ts := [2]) rfl (toK (by assumption) ?_))
              (try clear hG ops)
              refine WC.ret (toX (.inl rfl) (end1 (h' := rdrR b a c ts (k + 1 : Nat) (32 - f) :: h) (.inl rfl) rfl (RV.cellA Tryd.underlying27 rfl rfl rfl (by (repeat (first | exact mem0 _ | apply memT))) rfl) (View.le.refl m) (by (repeat (first | exact sub0 _ | exact subA _ _ | refine subC _ ?_ | apply subK | refine subT _ ?_))) ?_))
              exact ⟨rdrR b a c ts (k + 1 : Nat) (32 - f) :: [], rfl, _, k + 1, .mk 4 0 0 0 t.text none 0 [], [], ⟨hq, by omega⟩, rfl, ⟨rfl, tok_leaf _ _ _ _ _ _ _, wf_leaf (by omega) (by omega) (by omega) (by omega) htx1⟩, rfl⟩
          · replace c58 := f_eq c58
            rw [if_neg c58] at hq
            (repeat (first | refine WC.seqK fun K hK => ?_ | refine WC.block ?_ | refine WC.regionG rfl fun ops hG => ?_))
            refine WC.drawS [1] (.op 0 (.op 1 .nil)) [2, 3] _ [] mixed (fun _ _ _ _ _ h => h) [] (by kernel_rfl) ?_
            refine SR.po rfl rfl (PO.loadA Tryd.underlying36 rfl rfl (Ev.tmp rfl) (by (repeat (first | exact mem0 _ | apply memT))) rfl) (leB rfl) ?_
            refine SR.callP rfl rfl Ev.func (Evs.cons Ev.const Evs.nil) (fun fr => sym_ct _ _ _) (leB rfl) ?_
            refine SR.nil rfl rfl ?_
            refine WL.po (PO.eqlA Tryd.underlying36 (by kernel_rfl) (by kernel_rfl) (Ev.tmp rfl) (Ev.tmp rfl) rfl) (leB rfl) ?_
            refine WL.po (PO.assign (Ev.tmp rfl)) (leB rfl) ?_
            refine WL.nil (keepF (ts := [0, 2, 82]) rfl (toK (by assumption) ?_))
            (try clear hG ops)
            (repeat (first | refine WC.seqK fun K hK => ?_ | refine WC.block ?_ | refine WC.regionG rfl fun ops hG => ?_))
            refine WC.cond (Ev.tmp rfl) (fun c82 => ?_) (fun c82 => ?_)
            · have d82 := eq_of_eqK c82
              rw [if_pos d82] at hq
              (repeat (first | refine WC.seqK fun K hK => ?_ | refine WC.block ?_ | refine WC.regionG rfl fun ops hG => ?_))
              refine WL.po (PO.move (Ev.tmp rfl)) (leB rfl) ?_
              refine WL.perm (Del.perm (r := rdrR b a c ts k (32 - f)) (by (repeat (first | exact Del.here | apply Del.next)))) ?_
              refine WL.callX Ev.func (Evs.cons (Ev.tmp rfl) (Evs.cons Ev.const (Evs.cons Ev.const Evs.nil))) (hI _ k [40] [41] (hk.mono (by (repeat (first | exact sub0 _ | exact subA _ _ | refine subC _ ?_ | apply subK | refine subT _ ?_)))) hkl) (leB rfl) (fun v hv hx => ?_) fun v87 h87 hr87 => ?_
              · obtain ⟨e, k2, o2, hres, rfl, rfl⟩ := hx
                rw [hres] at hq
                exact panX (P := Tryd.prog) (fn := Tryd.f62) (rdrR b a c ts k2 o2 :: h) (View.le.refl m) (by (repeat (first | exact sub0 _ | exact subA _ _ | refine subC _ ?_ | apply subK | refine subT _ ?_))) ⟨_, _, _, hq, rfl, rfl⟩
              obtain ⟨hp87, rfl, x, k2, tx, bl, ⟨hres, hk2⟩, rfl, ⟨hst, hT, hW⟩, rfl⟩ := hr87
              refine WL.perm (h' := rdrR b a c ts k2 (32 - f) :: .pt b3 _ :: .pt b2 _ :: (bl ++ h)) ((perm_mid bl [_, _] h).cons _) ?_
              rw [hres] at hq
              refine WL.store rfl (Ev.tmp rfl) (Ev.tmp rfl) rfl rfl rfl rfl (by (repeat (first | exact Upd.here | apply Upd.next))) ?_
              refine WL.nil (keepF (ts := [2]) rfl (toK (by assumption) ?_))
              (try clear hG ops)
              refine WC.ret (toX (.inl rfl) (end1 (h' := rdrR b a c ts k2 (32 - f) :: (bl ++ h)) (.inl rfl) rfl (RV.cellA Tryd.underlying27 rfl rfl rfl (by (repeat (first | exact mem0 _ | apply memT))) rfl) (View.le.refl m) (by (repeat (first | exact sub0 _ | exact subA _ _ | refine subC _ ?_ | apply subK | refine subT _ ?_))) ?_))
              exact ⟨rdrR b a c ts k2 (32 - f) :: bl, rfl, x, k2, tx, bl, ⟨hq, hk2⟩, rfl, ⟨hst, hT, hW⟩, rfl⟩
            · have d82 := ne_of_eqK c82
              rw [if_neg d82] at hq
              refine WC.skip (keepF (ts := [2]) rfl (toK (by assumption) ?_))
              (repeat (first | refine WC.seqK fun K hK => ?_ | refine WC.block ?_ | refine WC.regionG rfl fun ops hG => ?_))
              refine WL.po (PO.build Tryd.underlying68 rfl rfl rfl (EvP.cons Ev.const EvP.nil) rfl) (leB rfl) ?_
              refine WL.po (PO.makeIface Tryd.underlying68 (Ev.tmp rfl)) (leB rfl) ?_
              refine WL.panic (Ev.tmp rfl) (panX (P := Tryd.prog) (fn := Tryd.f62) (rdrR b a c ts k (32 - f) :: h) (View.le.refl m) (by (repeat (first | exact sub0 _ | exact subA _ _ | refine subC _ ?_ | apply subK | refine subT _ ?_))) ?_)
              exact ⟨_, _, _, hq, rfl, rfl⟩
end
end Go.Proofs.YtheejlbhmbbdjaaDoor

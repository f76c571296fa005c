/- types: the tokens of a type, walked. -/
import Derived.Test.YtcejocfjienpfaaDoorTypC
import Derived.Test.YtcejocfjienpfaaDoorTypN
namespace Go.Proofs.YtcejocfjienpfaaDoor
open Go.Eng Go.Lx Go.Ty
set_option maxRecDepth 100000
def TkR (h : List Res) (b : Nat) (L : List Tok) : Value → View → List Res → Prop := fun v _ h' => ∃ a c, v = .tuple #[] ∧ h' = .pt b (.cells [Value.slice a L.length c].toArray 25 (0, 0)) :: .row (.slice a L.length c) 53 4 L.length (fl encK L) :: h
theorem add_ct (kd : Int) (s : B) (k : Int) (b : Nat) (a : Option Addr) (c : Nat) (L L' : List Tok) (h : List Res) (m : View) (hL : L.length ≤ 100) (e : L ++ [⟨kd, 0, s, IntKind.i32.wrap k⟩] = L') :
    CT Tryd.prog 33 [.int .u8 kd, str s, .int .i64 k, .pointer (some ⟨b, 0, none⟩)] (.pt b (.cells [Value.slice a L.length c].toArray 25 (0, 0)) :: .row (.slice a L.length c) 53 4 L.length (fl encK L) :: h) m
      (TkR h b L') := by
  subst e
  refine CT.body Tryd.call33 Tryd.func33 rfl Tryd.ntmps33 (Nat.le_of_ble_eq_true rfl) rfl ?_
  (repeat (first | refine WC.seqK fun K hK => ?_ | refine WC.block ?_ | refine WC.regionG rfl fun ops hG => ?_))
  refine WL.knowRow (a := a) (by (repeat (first | exact List.Mem.head _ | apply List.Mem.tail))) fun p q r => ?_
  refine WL.po (PO.load1 Tryd.underlying25 rfl (Ev.tmp rfl) (by (repeat (first | exact List.Mem.head _ | apply List.Mem.tail))) rfl) (Nat.le_of_ble_eq_true rfl) ?_
  refine WL.po (PO.move (Ev.tmp rfl)) (Nat.le_of_ble_eq_true rfl) ?_
  refine WL.po (PO.move (Ev.tmp rfl)) (Nat.le_of_ble_eq_true rfl) ?_
  refine WL.po (PO.move (Ev.tmp rfl)) (Nat.le_of_ble_eq_true rfl) ?_
  refine WL.po (PO.conv Tryd.underlying3 Tryd.underlying21 (Ev.tmp rfl)) (Nat.le_of_ble_eq_true rfl) ?_
  refine WL.po (PO.build Tryd.underlying53 rfl rfl rfl (EvP.cons (Ev.tmp rfl) (EvP.cons (Ev.tmp rfl) (EvP.cons (Ev.tmp rfl) EvP.nil))) rfl) (Nat.le_of_ble_eq_true rfl) ?_
  refine WL.buildSlice EL25 rfl (EvP.cons (Ev.tmp rfl) EvP.nil) rfl rfl (by decide) rfl (Nat.le_of_ble_eq_true rfl) fun b13 => ?_
  refine WL.appendE EL25 (Ev.tmp rfl) (Ev.tmp rfl) (by first | assumption | exact Rd.ofSl (by assumption) | exact Rd.ofPt rfl (by decide) (by (repeat (first | exact List.Mem.head _ | apply List.Mem.tail))) | exact Rd.mono (by assumption) (View.le.refl _) (by (repeat (first | exact List.Sublist.refl _ | refine List.Sublist.cons_cons _ ?_ | apply List.Sublist.cons))) | exact Rd.inRow (by (repeat (first | exact List.Mem.head _ | apply List.Mem.tail))) (by assumption) (by assumption) (by assumption)) (by first | exact one_of rfl | exact fl_ones (fun _ => rfl) _) rfl (fl_snoc (enc := encK) _ (⟨kd, 0, s, IntKind.i32.wrap k⟩)) (by omega) (by omega) (fun v' => by (repeat (first | exact Upd.here | apply Upd.next))) (Nat.le_of_ble_eq_true rfl) fun a14 c14 => ?_
  refine WL.store rfl (Ev.tmp rfl) (Ev.tmp rfl) rfl rfl rfl rfl (by (repeat (first | exact Upd.here | apply Upd.next))) ?_
  refine WL.nil (end0 (h' := .pt b (.cells [Value.slice a14 (L.length + 1) c14].toArray 25 (0, 0)) :: .row (.slice a14 (L.length + 1) c14) 53 4 (L.length + 1) (fl encK (L ++ [⟨kd, 0, s, IntKind.i32.wrap k⟩])) :: h) (.inr rfl) rfl  (View.le.refl m) (by (repeat (first | exact List.Sublist.refl _ | refine List.Sublist.cons_cons _ ?_ | apply List.Sublist.cons))) ?_)
  exact ⟨a14, c14, rfl, by rw [List.length_append]; rfl⟩
def TokR (h : List Res) (p : List Tok × Int) : Value → View → List Res → Prop := fun v _ h' => ∃ a c, v = .tuple #[.slice a p.1.length c, .int .i64 p.2] ∧ h' = .row (.slice a p.1.length c) 53 4 p.1.length (fl encK p.1) :: h
theorem tokens_ct (t : Ty) (h : List Res) (m : View) (hg : Glob m) (hs : t.proto.length ≤ 9223372036854775807) : CT Tryd.prog 11 [tyV t] h m (TokR h (tokens t)) := by
  refine CT.body Tryd.call11 Tryd.func11 rfl Tryd.ntmps11 (Nat.le_of_ble_eq_true rfl) rfl ?_
  (repeat (first | refine WC.seqK fun K hK => ?_ | refine WC.block ?_ | refine WC.regionG rfl fun ops hG => ?_))
  refine WL.box (Ev.tmp rfl) rfl (Nat.le_of_ble_eq_true rfl) fun b1 => ?_
  refine WL.po (PO.assign Ev.const) (Nat.le_of_ble_eq_true rfl) ?_
  refine WL.po (PO.assign Ev.const) (Nat.le_of_ble_eq_true rfl) ?_
  refine WL.nil (keepF (ts := [1]) rfl (toK (by assumption) ?_))
  (try clear hG ops)
  (repeat (first | refine WC.seqK fun K hK => ?_ | refine WC.block ?_ | refine WC.regionG rfl fun ops hG => ?_))
  refine WL.po (PO.loadA Tryd.underlying24 rfl rfl (Ev.tmp rfl) (by (repeat (first | exact List.Mem.head _ | apply List.Mem.tail))) rfl) (Nat.le_of_ble_eq_true rfl) ?_
  refine WL.callP Ev.func (Evs.cons (Ev.tmp rfl) Evs.nil) (may_ct t _ _ hg hs) (Nat.le_of_ble_eq_true rfl) ?_
  refine WL.po (PO.not (Ev.tmp rfl)) (Nat.le_of_ble_eq_true rfl) ?_
  refine WL.nil (keepF (ts := [1, 12]) rfl (toK (by assumption) ?_))
  (try clear hG ops)
  (repeat (first | refine WC.seqK fun K hK => ?_ | refine WC.block ?_ | refine WC.regionG rfl fun ops hG => ?_))
  refine WC.cond (Ev.tmp rfl) (fun c12 => ?_) (fun c12 => ?_)
  · have d12 : may t = false := by simpa using c12
    (repeat (first | refine WC.seqK fun K hK => ?_ | refine WC.block ?_ | refine WC.regionG rfl fun ops hG => ?_))
    refine WL.po (PO.assign Ev.const) (Nat.le_of_ble_eq_true rfl) ?_
    refine WL.addNil 53 4 ?_
    refine WL.po (PO.assign Ev.const) (Nat.le_of_ble_eq_true rfl) ?_
    refine WL.nil (keepF (ts := [2, 3]) rfl (toK (by assumption) ?_))
    (try clear hG ops)
    refine WC.ret (end2 (h' := .row (.slice none 0 0) 53 4 0 [] :: h) (.inl rfl) rfl (RV.tmp rfl) (RV.tmp rfl) (View.le.refl m) (by (repeat (first | exact List.Sublist.refl _ | refine List.Sublist.cons_cons _ ?_ | apply List.Sublist.cons))) ?_)
    exact ⟨none, 0, by rw [tokens_no d12]; rfl, by rw [tokens_no d12]; rfl⟩
  · have d12 : may t = true := by simpa using c12
    refine WC.skip (keepF (ts := [1]) rfl (toK (by assumption) ?_))
    (repeat (first | refine WC.seqK fun K hK => ?_ | refine WC.block ?_ | refine WC.regionG rfl fun ops hG => ?_))
    refine WL.alloc rfl rfl (Nat.le_of_ble_eq_true rfl) fun b4 => ?_
    refine WL.addNil 53 4 ?_
    refine WL.take (r := .pt b4 (.cells [Value.slice none 0 0].toArray 25 (0, 0))) (by (repeat (first | exact Del.here | apply Del.next))) ?_
    refine WL.nil (keepF (ts := [1, 4]) rfl (toK (by assumption) ?_))
    (try clear hG ops)
    (repeat (first | refine WC.seqK fun K hK => ?_ | refine WC.block ?_ | refine WC.regionG rfl fun ops hG => ?_))
    refine WL.po (PO.makeFunc Evs.nil (Evs.cons (Ev.tmp rfl) Evs.nil)) (Nat.le_of_ble_eq_true rfl) ?_
    refine WL.po (PO.assign (Ev.tmp rfl)) (Nat.le_of_ble_eq_true rfl) ?_
    refine WL.nil (keepF (ts := [1, 4, 5]) rfl (toK (by assumption) ?_))
    (try clear hG ops)
    (repeat (first | refine WC.seqK fun K hK => ?_ | refine WC.block ?_ | refine WC.regionG rfl fun ops hG => ?_))
    generalize hD : dimT t = D
    have hDl : D.length ≤ 3 := hD ▸ dimT_le t
    refine WL.po (PO.fieldAddr Tryd.underlying24 rfl (Nat.ne_of_beq_eq_false rfl) (Ev.tmp rfl)) (Nat.le_of_ble_eq_true rfl) ?_
    refine WL.po (PO.load1 Tryd.underlying3 rfl (Ev.tmp rfl) (by (repeat (first | exact List.Mem.head _ | apply List.Mem.tail))) rfl) (Nat.le_of_ble_eq_true rfl) ?_
    refine WL.po (PO.bin (Ev.tmp rfl) Ev.const rfl) (Nat.le_of_ble_eq_true rfl) ?_
    refine WL.nil (keepF (ts := [1, 4, 5, 16]) rfl (toK (by assumption) ?_))
    (try clear hG ops)
    (repeat refine WC.seqK fun K hK => ?_)
    refine WC.cutK (by assumption) [1, 4, 5] rfl (fun F' h' => ∃ a : Option Addr, ∃ c : Nat, (True) ∧ F' = [] ∧ .pt b4 (.cells [Value.slice a D.length c].toArray 25 (0, 0)) :: .row (.slice a D.length c) 53 4 D.length (fl encK D) :: .pt b1 (.cells (cellT t).toArray 24 (0, 0)) :: h = h') ?_ ?_
    · (repeat (first | refine WC.seqK fun K hK => ?_ | refine WC.block ?_ | refine WC.regionG rfl fun ops hG => ?_))
      refine WC.cond (Ev.tmp rfl) (fun c16 => ?_) (fun c16 => ?_)
      · (repeat (first | refine WC.seqK fun K hK => ?_ | refine WC.block ?_ | refine WC.regionG rfl fun ops hG => ?_))
        refine WL.po (PO.move (Ev.tmp rfl)) (Nat.le_of_ble_eq_true rfl) ?_
        refine WL.callK (Ev.tmp rfl) (Evs.cons Ev.const (Evs.cons Ev.const (Evs.cons Ev.const Evs.nil))) (add_ct 5 lb 0 b4 none 0 [] [symT lb] _ _ (by decide) rfl) (Nat.le_of_ble_eq_true rfl) ?_
        rintro _ _ ⟨a18, p18, rfl, rfl⟩
        refine WL.nil (keepF (ts := [1, 4, 5]) rfl (toK (by assumption) ?_))
        (try clear hG ops)
        (repeat (first | refine WC.seqK fun K hK => ?_ | refine WC.block ?_ | refine WC.regionG rfl fun ops hG => ?_))
        refine WL.po (PO.move (Ev.tmp rfl)) (Nat.le_of_ble_eq_true rfl) ?_
        refine WL.po (PO.fieldAddr Tryd.underlying24 rfl (Nat.ne_of_beq_eq_false rfl) (Ev.tmp rfl)) (Nat.le_of_ble_eq_true rfl) ?_
        refine WL.po (PO.load1 Tryd.underlying3 rfl (Ev.tmp rfl) (by (repeat (first | exact List.Mem.head _ | apply List.Mem.tail))) rfl) (Nat.le_of_ble_eq_true rfl) ?_
        refine WL.callK (Ev.tmp rfl) (Evs.cons Ev.const (Evs.cons Ev.const (Evs.cons (Ev.tmp rfl) Evs.nil))) (add_ct 3 [] t.dim b4 a18 p18 [symT lb] [symT lb, ⟨3, 0, [], t.dim⟩] _ _ (by decide) (by rw [wrap_dim d12]; rfl)) (Nat.le_of_ble_eq_true rfl) ?_
        rintro _ _ ⟨a22, p22, rfl, rfl⟩
        refine WL.nil (keepF (ts := [1, 4, 5]) rfl (toK (by assumption) ?_))
        (try clear hG ops)
        (repeat (first | refine WC.seqK fun K hK => ?_ | refine WC.block ?_ | refine WC.regionG rfl fun ops hG => ?_))
        refine WL.po (PO.move (Ev.tmp rfl)) (Nat.le_of_ble_eq_true rfl) ?_
        refine WL.callK (Ev.tmp rfl) (Evs.cons Ev.const (Evs.cons Ev.const (Evs.cons Ev.const Evs.nil))) (add_ct 5 rb 0 b4 a22 p22 [symT lb, ⟨3, 0, [], t.dim⟩] D _ _ (by simp) (by rw [← hD]; unfold dimT; rw [c16]; rfl)) (Nat.le_of_ble_eq_true rfl) ?_
        rintro _ _ ⟨a24, p24, rfl, rfl⟩
        refine WL.nil (meetI [] (h'' := .pt b4 (.cells [Value.slice a24 D.length p24].toArray 25 (0, 0)) :: .row (.slice a24 D.length p24) 53 4 D.length (fl encK D) :: .pt b1 (.cells (cellT t).toArray 24 (0, 0)) :: h) ?_ (by (repeat (first | exact Sub.nil | refine Sub.cons rfl ?_ | refine Sub.consE rfl (by simp; done) ?_))) (by (repeat (first | exact List.Sublist.refl _ | refine List.Sublist.cons_cons _ ?_ | apply List.Sublist.cons))) ⟨a24, p24, by trivial, rfl, rfl⟩)
        (repeat (first | exact Sub.nil | refine Sub.cons rfl ?_ | refine Sub.consE rfl (by simp; done) ?_))
      · have e16 : D = [] := by rw [← hD]; unfold dimT; rw [c16]; rfl
        refine WC.resE (h' := .pt b4 (.cells [Value.slice none D.length 0].toArray 25 (0, 0)) :: .row (.slice none D.length 0) 53 4 D.length (fl encK D) :: .pt b1 (.cells (cellT t).toArray 24 (0, 0)) :: h) (by rw [e16]; rfl) ?_
        refine WC.skip (meetI [] (h'' := .pt b4 (.cells [Value.slice none D.length 0].toArray 25 (0, 0)) :: .row (.slice none D.length 0) 53 4 D.length (fl encK D) :: .pt b1 (.cells (cellT t).toArray 24 (0, 0)) :: h) ?_ (by (repeat (first | exact Sub.nil | refine Sub.cons rfl ?_ | refine Sub.consE rfl (by simp; done) ?_))) (by (repeat (first | exact List.Sublist.refl _ | refine List.Sublist.cons_cons _ ?_ | apply List.Sublist.cons))) ⟨none, 0, by trivial, rfl, rfl⟩)
        (repeat (first | exact Sub.nil | refine Sub.cons rfl ?_ | refine Sub.consE rfl (by simp; done) ?_))
    rintro _ _ ⟨a, c, hJ, rfl, rfl⟩
    refine WC.frm rfl ?_
    (repeat (first | refine WC.seqK fun K hK => ?_ | refine WC.block ?_ | refine WC.regionG rfl fun ops hG => ?_))
    generalize hE : D ++ chanT t = E
    have hEl : E.length ≤ 5 := by rw [← hE, List.length_append]; have := chanT_le t; omega
    refine WL.po (PO.fieldAddr Tryd.underlying24 rfl (Nat.ne_of_beq_eq_false rfl) (Ev.tmp rfl)) (Nat.le_of_ble_eq_true rfl) ?_
    refine WL.po (PO.load1 Tryd.underlying22 rfl (Ev.tmp rfl) (by (repeat (first | exact List.Mem.head _ | apply List.Mem.tail))) rfl) (Nat.le_of_ble_eq_true rfl) ?_
    refine WL.po (PO.assign (Ev.tmp rfl)) (Nat.le_of_ble_eq_true rfl) ?_
    refine WL.nil (keepF (ts := [1, 4, 5, 6]) rfl (toK (by assumption) ?_))
    (try clear hG ops)
    (repeat (first | refine WC.seqK fun K hK => ?_ | refine WC.block ?_ | refine WC.regionG rfl fun ops hG => ?_))
    refine WL.po (PO.move (Ev.tmp rfl)) (Nat.le_of_ble_eq_true rfl) ?_
    refine WL.po (PO.bin (Ev.tmp rfl) Ev.const rfl) (Nat.le_of_ble_eq_true rfl) ?_
    refine WL.nil (keepF (ts := [1, 4, 5, 6, 28]) rfl (toK (by assumption) ?_))
    (try clear hG ops)
    (repeat refine WC.seqK fun K hK => ?_)
    refine WC.cutK (by assumption) [1, 4, 5] rfl (fun F' h' => ∃ a' : Option Addr, ∃ c' : Nat, (True) ∧ F' = [(6, .int .u8 (baseT t))] ∧ .pt b4 (.cells [Value.slice a' E.length c'].toArray 25 (0, 0)) :: .row (.slice a' E.length c') 53 4 E.length (fl encK E) :: .pt b1 (.cells (cellT t).toArray 24 (0, 0)) :: h = h') ?_ ?_
    · (repeat (first | refine WC.seqK fun K hK => ?_ | refine WC.block ?_ | refine WC.regionG rfl fun ops hG => ?_))
      refine WC.cond (Ev.tmp rfl) (fun c28 => ?_) (fun c28 => ?_)
      · (repeat (first | refine WC.seqK fun K hK => ?_ | refine WC.block ?_ | refine WC.regionG rfl fun ops hG => ?_))
        refine WL.po (PO.move (Ev.tmp rfl)) (Nat.le_of_ble_eq_true rfl) ?_
        refine WL.callK (Ev.tmp rfl) (Evs.cons Ev.const (Evs.cons Ev.const (Evs.cons Ev.const Evs.nil))) (add_ct 2 cCHAN 0 b4 a c D (D ++ [keyT cCHAN]) _ _ (by omega) rfl) (Nat.le_of_ble_eq_true rfl) ?_
        rintro _ _ ⟨a30, p30, rfl, rfl⟩
        refine WL.nil (keepF (ts := [1, 4, 5]) rfl (toK (by assumption) ?_))
        (try clear hG ops)
        (repeat (first | refine WC.seqK fun K hK => ?_ | refine WC.block ?_ | refine WC.regionG rfl fun ops hG => ?_))
        refine WL.po (PO.move (Ev.tmp rfl)) (Nat.le_of_ble_eq_true rfl) ?_
        refine WL.callK (Ev.tmp rfl) (Evs.cons Ev.const (Evs.cons Ev.const (Evs.cons Ev.const Evs.nil))) (add_ct 2 cOF 0 b4 a30 p30 (D ++ [keyT cCHAN]) E _ _ (by simp; omega) (by rw [← hE]; unfold chanT; rw [c28]; simp; rfl)) (Nat.le_of_ble_eq_true rfl) ?_
        rintro _ _ ⟨a32, p32, rfl, rfl⟩
        refine WL.nil (keepF (ts := [1, 4, 5]) rfl (toK (by assumption) ?_))
        (try clear hG ops)
        (repeat (first | refine WC.seqK fun K hK => ?_ | refine WC.block ?_ | refine WC.regionG rfl fun ops hG => ?_))
        refine WL.po (PO.fieldAddr Tryd.underlying24 rfl (Nat.ne_of_beq_eq_false rfl) (Ev.tmp rfl)) (Nat.le_of_ble_eq_true rfl) ?_
        refine WL.po (PO.load1 Tryd.underlying22 rfl (Ev.tmp rfl) (by (repeat (first | exact List.Mem.head _ | apply List.Mem.tail))) rfl) (Nat.le_of_ble_eq_true rfl) ?_
        refine WL.po (PO.assign (Ev.tmp rfl)) (Nat.le_of_ble_eq_true rfl) ?_
        refine WL.nil (meetI [(6, .int .u8 (baseT t))] (h'' := .pt b4 (.cells [Value.slice a32 E.length p32].toArray 25 (0, 0)) :: .row (.slice a32 E.length p32) 53 4 E.length (fl encK E) :: .pt b1 (.cells (cellT t).toArray 24 (0, 0)) :: h) ?_ (by (repeat (first | exact Sub.nil | refine Sub.cons rfl ?_ | refine Sub.consE rfl (by simp; done) ?_))) (by (repeat (first | exact List.Sublist.refl _ | refine List.Sublist.cons_cons _ ?_ | apply List.Sublist.cons))) ⟨a32, p32, by trivial, rfl, rfl⟩)
        refine Sub.consE rfl (congrArg (Value.int .u8) (by unfold baseT; rw [c28]; rfl)) ?_
        (repeat (first | exact Sub.nil | refine Sub.cons rfl ?_ | refine Sub.consE rfl (by simp; done) ?_))
      · have e28 : E = D := by rw [← hE]; unfold chanT; rw [c28]; simp
        refine WC.resE (h' := .pt b4 (.cells [Value.slice a E.length c].toArray 25 (0, 0)) :: .row (.slice a E.length c) 53 4 E.length (fl encK E) :: .pt b1 (.cells (cellT t).toArray 24 (0, 0)) :: h) (by rw [e28]) ?_
        refine WC.skip (meetI [(6, .int .u8 (baseT t))] (h'' := .pt b4 (.cells [Value.slice a E.length c].toArray 25 (0, 0)) :: .row (.slice a E.length c) 53 4 E.length (fl encK E) :: .pt b1 (.cells (cellT t).toArray 24 (0, 0)) :: h) ?_ (by (repeat (first | exact Sub.nil | refine Sub.cons rfl ?_ | refine Sub.consE rfl (by simp; done) ?_))) (by (repeat (first | exact List.Sublist.refl _ | refine List.Sublist.cons_cons _ ?_ | apply List.Sublist.cons))) ⟨a, c, by trivial, rfl, rfl⟩)
        refine Sub.consE rfl (congrArg (Value.int .u8) (by unfold baseT; rw [c28]; rfl)) ?_
        (repeat (first | exact Sub.nil | refine Sub.cons rfl ?_ | refine Sub.consE rfl (by simp; done) ?_))
    rintro _ _ ⟨a', c', hJ, rfl, rfl⟩
    refine WC.frm rfl ?_
    (repeat (first | refine WC.seqK fun K hK => ?_ | refine WC.block ?_ | refine WC.regionG rfl fun ops hG => ?_))
    refine WL.po (PO.move (Ev.tmp rfl)) (Nat.le_of_ble_eq_true rfl) ?_
    refine WL.callP Ev.func (Evs.cons (Ev.tmp rfl) Evs.nil) (word_ct _ _ _ hg) (Nat.le_of_ble_eq_true rfl) ?_
    refine WL.po (PO.move (Ev.tmp rfl)) (Nat.le_of_ble_eq_true rfl) ?_
    refine WL.po (PO.extract (Ev.tmp rfl) rfl) (Nat.le_of_ble_eq_true rfl) ?_
    refine WL.po (PO.extract (Ev.tmp rfl) rfl) (Nat.le_of_ble_eq_true rfl) ?_
    refine WL.po (PO.extract (Ev.tmp rfl) rfl) (Nat.le_of_ble_eq_true rfl) ?_
    refine WL.po (PO.assign (Ev.tmp rfl)) (Nat.le_of_ble_eq_true rfl) ?_
    refine WL.po (PO.assign (Ev.tmp rfl)) (Nat.le_of_ble_eq_true rfl) ?_
    refine WL.po (PO.assign (Ev.tmp rfl)) (Nat.le_of_ble_eq_true rfl) ?_
    refine WL.nil (keepF (ts := [1, 4, 5, 7, 9]) rfl (toK (by assumption) ?_))
    (try clear hG ops)
    (repeat (first | refine WC.seqK fun K hK => ?_ | refine WC.block ?_ | refine WC.regionG rfl fun ops hG => ?_))
    refine WL.po (PO.move (Ev.tmp rfl)) (Nat.le_of_ble_eq_true rfl) ?_
    refine WL.po (PO.assign (Ev.tmp rfl)) (Nat.le_of_ble_eq_true rfl) ?_
    refine WL.nil (keepF (ts := [1, 4, 5, 7, 43]) rfl (toK (by assumption) ?_))
    (try clear hG ops)
    (repeat (first | refine WC.seqK fun K hK => ?_ | refine WC.block ?_ | refine WC.regionG rfl fun ops hG => ?_))
    refine WC.cond (Ev.tmp rfl) (fun c43 => ?_) (fun c43 => ?_)
    · (repeat (first | refine WC.seqK fun K hK => ?_ | refine WC.block ?_ | refine WC.regionG rfl fun ops hG => ?_))
      refine WL.po (PO.move (Ev.tmp rfl)) (Nat.le_of_ble_eq_true rfl) ?_
      refine WL.po (PO.move (Ev.tmp rfl)) (Nat.le_of_ble_eq_true rfl) ?_
      refine WL.callK (Ev.tmp rfl) (Evs.cons Ev.const (Evs.cons (Ev.tmp rfl) (Evs.cons Ev.const Evs.nil))) (add_ct 2 (wordS (baseT t)).1 0 b4 a' c' E (toks t) _ _ (by omega) (by unfold toks; rw [hD, hE]; unfold lastT; rw [c43]; rfl)) (Nat.le_of_ble_eq_true rfl) ?_
      rintro _ _ ⟨a47, p47, rfl, rfl⟩
      refine WL.nil (keepF (ts := [4]) rfl (toK (by assumption) ?_))
      (try clear hG ops)
      (repeat (first | refine WC.seqK fun K hK => ?_ | refine WC.block ?_ | refine WC.regionG rfl fun ops hG => ?_))
      refine WL.po (PO.load1 Tryd.underlying25 rfl (Ev.tmp rfl) (by (repeat (first | exact List.Mem.head _ | apply List.Mem.tail))) rfl) (Nat.le_of_ble_eq_true rfl) ?_
      refine WL.po (PO.assign (Ev.tmp rfl)) (Nat.le_of_ble_eq_true rfl) ?_
      refine WL.po (PO.assign Ev.const) (Nat.le_of_ble_eq_true rfl) ?_
      refine WL.nil (keepF (ts := [2, 3]) rfl (toK (by assumption) ?_))
      (try clear hG ops)
      refine WC.ret (end2 (h' := .row (.slice a47 (toks t).length p47) 53 4 (toks t).length (fl encK (toks t)) :: h) (.inl rfl) rfl (RV.tmp rfl) (RV.tmp rfl) (View.le.refl m) (by (repeat (first | exact List.Sublist.refl _ | refine List.Sublist.cons_cons _ ?_ | apply List.Sublist.cons))) ?_)
      exact ⟨a47, p47, by rw [tokens_yes d12], by rw [tokens_yes d12]⟩
    · (repeat (first | refine WC.seqK fun K hK => ?_ | refine WC.block ?_ | refine WC.regionG rfl fun ops hG => ?_))
      refine WL.po (PO.fieldAddr Tryd.underlying24 rfl (Nat.ne_of_beq_eq_false rfl) (Ev.tmp rfl)) (Nat.le_of_ble_eq_true rfl) ?_
      refine WL.po (PO.load1 Tryd.underlying9 rfl (Ev.tmp rfl) (by (repeat (first | exact List.Mem.head _ | apply List.Mem.tail))) rfl) (Nat.le_of_ble_eq_true rfl) ?_
      refine WL.po (PO.neqS (Ev.tmp rfl) Ev.const) (Nat.le_of_ble_eq_true rfl) ?_
      refine WL.po (PO.assign (Ev.tmp rfl)) (Nat.le_of_ble_eq_true rfl) ?_
      refine WL.nil (keepF (ts := [1, 4, 5, 48]) rfl (toK (by assumption) ?_))
      (try clear hG ops)
      (repeat (first | refine WC.seqK fun K hK => ?_ | refine WC.block ?_ | refine WC.regionG rfl fun ops hG => ?_))
      refine WC.cond (Ev.tmp rfl) (fun c48 => ?_) (fun c48 => ?_)
      · (repeat (first | refine WC.seqK fun K hK => ?_ | refine WC.block ?_ | refine WC.regionG rfl fun ops hG => ?_))
        refine WL.po (PO.move (Ev.tmp rfl)) (Nat.le_of_ble_eq_true rfl) ?_
        refine WL.po (PO.fieldAddr Tryd.underlying24 rfl (Nat.ne_of_beq_eq_false rfl) (Ev.tmp rfl)) (Nat.le_of_ble_eq_true rfl) ?_
        refine WL.po (PO.load1 Tryd.underlying9 rfl (Ev.tmp rfl) (by (repeat (first | exact List.Mem.head _ | apply List.Mem.tail))) rfl) (Nat.le_of_ble_eq_true rfl) ?_
        refine WL.callK (Ev.tmp rfl) (Evs.cons Ev.const (Evs.cons (Ev.tmp rfl) (Evs.cons Ev.const Evs.nil))) (add_ct 1 t.proto 0 b4 a' c' E (toks t) _ _ (by omega) (by unfold toks; rw [hD, hE]; unfold lastT; rw [c43, c48]; rfl)) (Nat.le_of_ble_eq_true rfl) ?_
        rintro _ _ ⟨a55, p55, rfl, rfl⟩
        refine WL.nil (keepF (ts := [4]) rfl (toK (by assumption) ?_))
        (try clear hG ops)
        (repeat (first | refine WC.seqK fun K hK => ?_ | refine WC.block ?_ | refine WC.regionG rfl fun ops hG => ?_))
        refine WL.po (PO.load1 Tryd.underlying25 rfl (Ev.tmp rfl) (by (repeat (first | exact List.Mem.head _ | apply List.Mem.tail))) rfl) (Nat.le_of_ble_eq_true rfl) ?_
        refine WL.po (PO.assign (Ev.tmp rfl)) (Nat.le_of_ble_eq_true rfl) ?_
        refine WL.po (PO.assign Ev.const) (Nat.le_of_ble_eq_true rfl) ?_
        refine WL.nil (keepF (ts := [2, 3]) rfl (toK (by assumption) ?_))
        (try clear hG ops)
        refine WC.ret (end2 (h' := .row (.slice a55 (toks t).length p55) 53 4 (toks t).length (fl encK (toks t)) :: h) (.inl rfl) rfl (RV.tmp rfl) (RV.tmp rfl) (View.le.refl m) (by (repeat (first | exact List.Sublist.refl _ | refine List.Sublist.cons_cons _ ?_ | apply List.Sublist.cons))) ?_)
        exact ⟨a55, p55, by rw [tokens_yes d12], by rw [tokens_yes d12]⟩
      · (repeat (first | refine WC.seqK fun K hK => ?_ | refine WC.block ?_ | refine WC.regionG rfl fun ops hG => ?_))
        refine WL.po (PO.move (Ev.tmp rfl)) (Nat.le_of_ble_eq_true rfl) ?_
        refine WL.callK (Ev.tmp rfl) (Evs.cons Ev.const (Evs.cons Ev.const (Evs.cons Ev.const Evs.nil))) (add_ct 2 cTIMER 0 b4 a' c' E (toks t) _ _ (by omega) (by unfold toks; rw [hD, hE]; unfold lastT; rw [c43, c48]; rfl)) (Nat.le_of_ble_eq_true rfl) ?_
        rintro _ _ ⟨a42, p42, rfl, rfl⟩
        refine WL.nil (keepF (ts := [4]) rfl (toK (by assumption) ?_))
        (try clear hG ops)
        (repeat (first | refine WC.seqK fun K hK => ?_ | refine WC.block ?_ | refine WC.regionG rfl fun ops hG => ?_))
        refine WL.po (PO.load1 Tryd.underlying25 rfl (Ev.tmp rfl) (by (repeat (first | exact List.Mem.head _ | apply List.Mem.tail))) rfl) (Nat.le_of_ble_eq_true rfl) ?_
        refine WL.po (PO.assign (Ev.tmp rfl)) (Nat.le_of_ble_eq_true rfl) ?_
        refine WL.po (PO.assign Ev.const) (Nat.le_of_ble_eq_true rfl) ?_
        refine WL.nil (keepF (ts := [2, 3]) rfl (toK (by assumption) ?_))
        (try clear hG ops)
        refine WC.ret (end2 (h' := .row (.slice a42 (toks t).length p42) 53 4 (toks t).length (fl encK (toks t)) :: h) (.inl rfl) rfl (RV.tmp rfl) (RV.tmp rfl) (View.le.refl m) (by (repeat (first | exact List.Sublist.refl _ | refine List.Sublist.cons_cons _ ?_ | apply List.Sublist.cons))) ?_)
        exact ⟨a42, p42, by rw [tokens_yes d12], by rw [tokens_yes d12]⟩
end Go.Proofs.YtcejocfjienpfaaDoor

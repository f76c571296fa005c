/- The laws: Puts, Gets, Sums. -/
import Derived.Test.YtdfobghpbbohdaaObjD
import Derived.Test.YtdfobghpbbohdaaEng7
namespace Go.Proofs.Ytdfobghpbbohdaa
open Go.Eng Go.Obj

def putB (code : List UInt8) (e a b : Int) : List UInt8 := if mayB code.length e a b then enc code e.toNat a.toNat b.toNat else []
def putE (code : List UInt8) (e a b : Int) : Int := if mayB code.length e a b then 0 else 2
theorem putE_eq (code : List UInt8) (e a b : Int) : (putE code e a b == 0) = mayB code.length e a b := by unfold putE; split <;> simp_all
def PutR' (h : List Res) (code : List UInt8) (e a b : Int) : Value → View → List Res → Prop := fun v _ h' =>
  ∃ s c, v = .tuple #[.slice s (putB code e a b).length c, .int .i64 (putE code e a b)] ∧ h' = .row (.slice s (putB code e a b).length c) 5 1 (putB code e a b).length (bv (putB code e a b)) :: h
theorem PutR.out {f : FuncId} {args : List Value} {h : List Res} {m : View} {code : List UInt8} {e a b : Int} (c : CT Try.prog f args h m (PutR h code e a b)) : CT Try.prog f args h m (PutR' h code e a b) :=
  c.conv fun v m' h' w _ hst hR => by
    rcases hR with ⟨hm, rfl, rfl⟩ | ⟨hm, a', c', rfl, rfl⟩
    · refine ⟨m', _, View.le.refl m', hst.addNil 5 1, none, 0, ?_, ?_⟩
      · simp [putB, putE, hm]
      · simp [putB, hm, bv]
    · refine ⟨m', _, View.le.refl m', hst, a', c', ?_, ?_⟩
      · simp [putB, putE, hm, enc_len]
      · simp [putB, hm, enc_len]

def goC (bs : List UInt8) : List UInt8 := if isE bs then gC bs else []
def goE (bs : List UInt8) : Int := if isE bs then gE bs else 0
def goA (bs : List UInt8) : Int := if isE bs then gA bs else 0
def goB (bs : List UInt8) : Int := if isE bs then gB bs else 0
def goR (bs : List UInt8) : Int := if isE bs then 0 else 270
def GetR' (h : List Res) (bs : List UInt8) : Value → View → List Res → Prop := fun v _ h' =>
  ∃ s c, v = .tuple #[obV s (goC bs).length c (goE bs) (goA bs) (goB bs), .int .i64 (goR bs)] ∧ h' = .row (.slice s (goC bs).length c) 5 1 (goC bs).length (bv (goC bs)) :: h
theorem GetR.out {f : FuncId} {args : List Value} {h : List Res} {m : View} {bs : List UInt8} (c : CT Try.prog f args h m (GetR h bs)) : CT Try.prog f args h m (GetR' h bs) :=
  c.conv fun v m' h' w _ hst hR => by
    rcases hR with ⟨hm, rfl, rfl⟩ | ⟨hm, a', c', rfl, rfl⟩
    · refine ⟨m', _, View.le.refl m', hst.addNil 5 1, none, 0, ?_, ?_⟩
      · simp [goC, goE, goA, goB, goR, hm]
      · simp [goC, hm, bv]
    · refine ⟨m', _, View.le.refl m', hst, a', c', ?_, ?_⟩
      · simp [goC, goE, goA, goB, goR, hm]
      · simp [goC, hm]

/-- A law answers true. -/
def Law : Value → View → List Res → Prop := fun v _ _ => v = .bool true

theorem sums_law (s : Option Addr) (n c : Nat) (bs : List UInt8) (h : List Res) (m : View) (h1 : Rd m h s n c 1 (bv bs)) : CT Try.prog 5 [.slice s n c] h m Law := by
  refine CT.body Try.call5 Try.func5 rfl Try.ntmps5 (Nat.le_of_ble_eq_true rfl) rfl ?_
  (repeat (first | refine WC.seqK fun K hK => ?_ | refine WC.block ?_ | refine WC.regionG rfl fun ops hG => ?_))
  refine WL.po (PO.assign Ev.const) (Nat.le_of_ble_eq_true rfl) ?_
  refine WL.nil (keepF (ts := [0, 2]) rfl (toK (by assumption) ?_)); (try clear hG ops)
  (repeat (first | refine WC.seqK fun K hK => ?_ | refine WC.block ?_ | refine WC.regionG rfl fun ops hG => ?_))
  refine WL.po (PO.move (Ev.tmp rfl)) (Nat.le_of_ble_eq_true rfl) ?_
  refine WL.call1 Ev.func (Evs.cons (Ev.tmp rfl) Evs.nil) (sum_ct _ _ _ bs _ _ h1) (Nat.le_of_ble_eq_true rfl) fun m1 hm1 => ?_
  refine WL.po (PO.move (Ev.tmp rfl)) (Nat.le_of_ble_eq_true rfl) ?_
  refine WL.call1 Ev.func (Evs.cons (Ev.tmp rfl) Evs.nil) (sumR_ct _ _ _ bs _ _ (h1.mono hm1 (by (repeat (first | exact List.Sublist.refl _ | refine List.Sublist.cons_cons _ ?_ | apply List.Sublist.cons))))) (Nat.le_of_ble_eq_true rfl) fun m2 hm2 => ?_
  refine WL.po (PO.bin (Ev.tmp rfl) (Ev.tmp rfl) rfl) (Nat.le_of_ble_eq_true rfl) ?_
  refine WL.po (PO.move (Ev.tmp rfl)) (Nat.le_of_ble_eq_true rfl) ?_
  refine WL.callT (v := .bool true) (hG _ _ rfl) rfl (fun hc => ⟨Ev.func, Evs.nil, awake_ct _ _⟩) (Nat.le_of_ble_eq_true rfl) fun m3 hm3 => ?_
  refine WL.po (PO.pickAnd rfl rfl) (Nat.le_of_ble_eq_true rfl) ?_
  refine WL.po (PO.assign (Ev.tmp rfl)) (Nat.le_of_ble_eq_true rfl) ?_
  refine WL.nil (keepF (ts := [0, 2]) rfl (toK (by assumption) ?_)); (try clear hG ops)
  exact WC.ret (end1 (h' := h) (.inl rfl) rfl (RV.tmp rfl) (hm1.trans (hm2.trans hm3)) (by (repeat (first | exact List.Sublist.refl _ | refine List.Sublist.cons_cons _ ?_ | apply List.Sublist.cons))) (by simp [Law]))

theorem gets_law (s : Option Addr) (n c : Nat) (bs : List UInt8) (h : List Res) (m : View) (h1 : Rd m h s n c 1 (bv bs)) (hb : n ≤ 140737488355328) : CT Try.prog 4 [.slice s n c] h m Law := by
  refine CT.body Try.call4 Try.func4 rfl Try.ntmps4 (Nat.le_of_ble_eq_true rfl) rfl ?_
  (repeat (first | refine WC.seqK fun K hK => ?_ | refine WC.block ?_ | refine WC.regionG rfl fun ops hG => ?_))
  refine WL.po (PO.assign Ev.const) (Nat.le_of_ble_eq_true rfl) ?_
  refine WL.nil (keepF (ts := [0, 2, 3, 4, 5, 6]) rfl (toK (by assumption) ?_)); (try clear hG ops)
  (repeat (first | refine WC.seqK fun K hK => ?_ | refine WC.block ?_ | refine WC.regionG rfl fun ops hG => ?_))
  refine WL.po (PO.move (Ev.tmp rfl)) (Nat.le_of_ble_eq_true rfl) ?_
  refine WL.call Ev.func (Evs.cons (Ev.tmp rfl) Evs.nil) (clone_ct _ _ _ bs _ _ h1 hb) (Nat.le_of_ble_eq_true rfl) ?_
  rintro _ m1 _ hm1 ⟨a1, c1, rfl, rfl⟩
  refine WL.knowRow (a := a1) (by (repeat (first | exact List.Mem.head _ | apply List.Mem.tail))) fun hk1 hk2 hk3 => ?_
  refine WL.call Ev.func (Evs.cons (Ev.tmp rfl) Evs.nil) (GetR.out (get_ct a1 n c1 bs _ _ (Rd.ofRow hk3 hk1 hk2 (by (repeat (first | exact List.Mem.head _ | apply List.Mem.tail)))))) (Nat.le_of_ble_eq_true rfl) ?_
  rintro _ m2 _ hm2 ⟨a2, c2, rfl, rfl⟩
  refine WL.po (PO.move (Ev.tmp rfl)) (Nat.le_of_ble_eq_true rfl) ?_
  refine WL.po (PO.extract (Ev.tmp rfl) rfl) (Nat.le_of_ble_eq_true rfl) ?_
  refine WL.po (PO.extract (Ev.tmp rfl) rfl) (Nat.le_of_ble_eq_true rfl) ?_
  refine WL.alloc rfl rfl (Nat.le_of_ble_eq_true rfl) fun b3 => ?_
  refine WL.store rfl (Ev.tmp rfl) (Ev.tmp rfl) rfl rfl rfl rfl (by (repeat (first | exact Upd.here | apply Upd.next))) ?_
  refine WL.po (PO.assign (Ev.tmp rfl)) (Nat.le_of_ble_eq_true rfl) ?_
  refine WL.nil (keepF (ts := [0, 2, 3, 4, 5, 6]) rfl (toK (by assumption) ?_)); (try clear hG ops)
  (repeat (first | refine WC.seqK fun K hK => ?_ | refine WC.block ?_ | refine WC.regionG rfl fun ops hG => ?_))
  refine WL.po (PO.move (Ev.tmp rfl)) (Nat.le_of_ble_eq_true rfl) ?_
  refine WL.call Ev.func (Evs.cons (Ev.tmp rfl) Evs.nil) (GetR.out (getR_ct s n c bs _ _ (h1.mono (hm1.trans hm2) (by (repeat (first | exact List.Sublist.refl _ | refine List.Sublist.cons_cons _ ?_ | apply List.Sublist.cons)))))) (Nat.le_of_ble_eq_true rfl) ?_
  rintro _ m3 _ hm3 ⟨a3, c3, rfl, rfl⟩
  refine WL.po (PO.move (Ev.tmp rfl)) (Nat.le_of_ble_eq_true rfl) ?_
  refine WL.po (PO.extract (Ev.tmp rfl) rfl) (Nat.le_of_ble_eq_true rfl) ?_
  refine WL.po (PO.extract (Ev.tmp rfl) rfl) (Nat.le_of_ble_eq_true rfl) ?_
  refine WL.alloc rfl rfl (Nat.le_of_ble_eq_true rfl) fun b5 => ?_
  refine WL.store rfl (Ev.tmp rfl) (Ev.tmp rfl) rfl rfl rfl rfl (by (repeat (first | exact Upd.here | apply Upd.next))) ?_
  refine WL.po (PO.assign (Ev.tmp rfl)) (Nat.le_of_ble_eq_true rfl) ?_
  refine WL.nil (keepF (ts := [0, 2, 3, 4, 5, 6]) rfl (toK (by assumption) ?_)); (try clear hG ops)
  (repeat (first | refine WC.seqK fun K hK => ?_ | refine WC.block ?_ | refine WC.regionG rfl fun ops hG => ?_))
  refine WL.po (PO.loadA Try.underlying24 rfl rfl (Ev.tmp rfl) (by (repeat (first | exact List.Mem.head _ | apply List.Mem.tail))) rfl) (Nat.le_of_ble_eq_true rfl) ?_
  refine WL.po (PO.loadA Try.underlying24 rfl rfl (Ev.tmp rfl) (by (repeat (first | exact List.Mem.head _ | apply List.Mem.tail))) rfl) (Nat.le_of_ble_eq_true rfl) ?_
  refine WL.knowRow (a := a2) (by (repeat (first | exact List.Mem.head _ | apply List.Mem.tail))) fun hk4 hk5 hk6 => ?_
  refine WL.knowRow (a := a3) (by (repeat (first | exact List.Mem.head _ | apply List.Mem.tail))) fun hk7 hk8 hk9 => ?_
  refine WL.call1 Ev.func (Evs.cons (Ev.tmp rfl) (Evs.cons (Ev.tmp rfl) Evs.nil)) (same_ct _ _ _ _ _ _ _ _ _ _ _ _ _ _ _ _ (Rd.ofRow hk6 hk4 hk5 (by (repeat (first | exact List.Mem.head _ | apply List.Mem.tail)))) (Rd.ofRow hk9 hk7 hk8 (by (repeat (first | exact List.Mem.head _ | apply List.Mem.tail))))) (Nat.le_of_ble_eq_true rfl) fun m4 hm4 => ?_
  refine WL.po (PO.move (Ev.tmp rfl)) (Nat.le_of_ble_eq_true rfl) ?_
  refine WL.poT (hG _ _ rfl) rfl (fun hc => PO.move (Ev.tmp rfl)) (Nat.le_of_ble_eq_true rfl) ?_
  refine WL.poT (hG _ _ rfl) rfl (fun hc => PO.move (Ev.tmp rfl)) (Nat.le_of_ble_eq_true rfl) ?_
  refine WL.poT (hG _ _ rfl) rfl (fun hc => PO.bin (Ev.gv rfl hc) (Ev.gv rfl hc) rfl) (Nat.le_of_ble_eq_true rfl) ?_
  refine WL.po (PO.pickAnd rfl rfl) (Nat.le_of_ble_eq_true rfl) ?_
  refine WL.po (PO.move (Ev.tmp rfl)) (Nat.le_of_ble_eq_true rfl) ?_
  refine WL.callT (v := .bool true) (hG _ _ rfl) rfl (fun hc => ⟨Ev.func, Evs.nil, awake_ct _ _⟩) (Nat.le_of_ble_eq_true rfl) fun m5 hm5 => ?_
  refine WL.po (PO.pickAnd rfl rfl) (Nat.le_of_ble_eq_true rfl) ?_
  refine WL.po (PO.assign (Ev.tmp rfl)) (Nat.le_of_ble_eq_true rfl) ?_
  refine WL.nil (keepF (ts := [0, 2, 3, 4, 5, 6]) rfl (toK (by assumption) ?_)); (try clear hG ops)
  exact WC.ret (end1 (h' := h) (.inl rfl) rfl (RV.tmp rfl) (hm1.trans (hm2.trans (hm3.trans (hm4.trans hm5)))) (by (repeat (first | exact List.Sublist.refl _ | refine List.Sublist.cons_cons _ ?_ | apply List.Sublist.cons))) (by simp [Law]))

theorem puts_law (s : Option Addr) (c : Nat) (code : List UInt8) (e a b : Int) (h : List Res) (m : View) (h1 : Rd m h s code.length c 1 (bv code)) (hb : code.length ≤ 140737488355328) : CT Try.prog 3 [obV s code.length c e a b] h m Law := by
  refine CT.body Try.call3 Try.func3 rfl Try.ntmps3 (Nat.le_of_ble_eq_true rfl) rfl ?_
  (repeat (first | refine WC.seqK fun K hK => ?_ | refine WC.block ?_ | refine WC.regionG rfl fun ops hG => ?_))
  refine WL.box (Ev.tmp rfl) rfl (Nat.le_of_ble_eq_true rfl) fun b1 => ?_
  refine WL.po (PO.assign Ev.const) (Nat.le_of_ble_eq_true rfl) ?_
  refine WL.nil (keepF (ts := [0, 1, 2, 3, 4, 5, 6, 7]) rfl (toK (by assumption) ?_)); (try clear hG ops)
  (repeat (first | refine WC.seqK fun K hK => ?_ | refine WC.block ?_ | refine WC.regionG rfl fun ops hG => ?_))
  refine WL.po (PO.loadA Try.underlying24 rfl rfl (Ev.tmp rfl) (by (repeat (first | exact List.Mem.head _ | apply List.Mem.tail))) rfl) (Nat.le_of_ble_eq_true rfl) ?_
  refine WL.call Ev.func (Evs.cons (Ev.tmp rfl) Evs.nil) (own_ct _ _ _ code _ _ _ _ _ h1.cons hb) (Nat.le_of_ble_eq_true rfl) ?_
  rintro _ m1 _ hm1 ⟨a1, c1, rfl, rfl⟩
  refine WL.alloc rfl rfl (Nat.le_of_ble_eq_true rfl) fun b3 => ?_
  refine WL.store rfl (Ev.tmp rfl) (Ev.tmp rfl) rfl rfl rfl rfl (by (repeat (first | exact Upd.here | apply Upd.next))) ?_
  refine WL.nil (keepF (ts := [0, 1, 2, 3, 4, 5, 6, 7]) rfl (toK (by assumption) ?_)); (try clear hG ops)
  (repeat (first | refine WC.seqK fun K hK => ?_ | refine WC.block ?_ | refine WC.regionG rfl fun ops hG => ?_))
  refine WL.po (PO.loadA Try.underlying24 rfl rfl (Ev.tmp rfl) (by (repeat (first | exact List.Mem.head _ | apply List.Mem.tail))) rfl) (Nat.le_of_ble_eq_true rfl) ?_
  refine WL.knowRow (a := a1) (by (repeat (first | exact List.Mem.head _ | apply List.Mem.tail))) fun hk1 hk2 hk3 => ?_
  refine WL.call Ev.func (Evs.cons (Ev.tmp rfl) Evs.nil) (PutR.out (put_ct a1 c1 code e a b _ _ (Rd.ofRow hk3 hk1 hk2 (by (repeat (first | exact List.Mem.head _ | apply List.Mem.tail)))))) (Nat.le_of_ble_eq_true rfl) ?_
  rintro _ m2 _ hm2 ⟨a2, c2, rfl, rfl⟩
  refine WL.po (PO.move (Ev.tmp rfl)) (Nat.le_of_ble_eq_true rfl) ?_
  refine WL.po (PO.extract (Ev.tmp rfl) rfl) (Nat.le_of_ble_eq_true rfl) ?_
  refine WL.po (PO.extract (Ev.tmp rfl) rfl) (Nat.le_of_ble_eq_true rfl) ?_
  refine WL.po (PO.assign (Ev.tmp rfl)) (Nat.le_of_ble_eq_true rfl) ?_
  refine WL.po (PO.assign (Ev.tmp rfl)) (Nat.le_of_ble_eq_true rfl) ?_
  refine WL.nil (keepF (ts := [0, 1, 2, 3, 4, 5, 6, 7]) rfl (toK (by assumption) ?_)); (try clear hG ops)
  (repeat (first | refine WC.seqK fun K hK => ?_ | refine WC.block ?_ | refine WC.regionG rfl fun ops hG => ?_))
  refine WL.po (PO.loadA Try.underlying24 rfl rfl (Ev.tmp rfl) (by (repeat (first | exact List.Mem.head _ | apply List.Mem.tail))) rfl) (Nat.le_of_ble_eq_true rfl) ?_
  refine WL.call Ev.func (Evs.cons (Ev.tmp rfl) Evs.nil) (PutR.out (putR_ct s c code e a b _ _ (h1.mono (hm1.trans hm2) (by (repeat (first | exact List.Sublist.refl _ | refine List.Sublist.cons_cons _ ?_ | apply List.Sublist.cons)))))) (Nat.le_of_ble_eq_true rfl) ?_
  rintro _ m3 _ hm3 ⟨a3, c3, rfl, rfl⟩
  refine WL.po (PO.move (Ev.tmp rfl)) (Nat.le_of_ble_eq_true rfl) ?_
  refine WL.po (PO.extract (Ev.tmp rfl) rfl) (Nat.le_of_ble_eq_true rfl) ?_
  refine WL.po (PO.extract (Ev.tmp rfl) rfl) (Nat.le_of_ble_eq_true rfl) ?_
  refine WL.po (PO.assign (Ev.tmp rfl)) (Nat.le_of_ble_eq_true rfl) ?_
  refine WL.po (PO.assign (Ev.tmp rfl)) (Nat.le_of_ble_eq_true rfl) ?_
  refine WL.nil (keepF (ts := [0, 1, 2, 3, 4, 5, 6, 7]) rfl (toK (by assumption) ?_)); (try clear hG ops)
  (repeat (first | refine WC.seqK fun K hK => ?_ | refine WC.block ?_ | refine WC.regionG rfl fun ops hG => ?_))
  refine WC.knowRow (a := a2) (by (repeat (first | exact List.Mem.head _ | apply List.Mem.tail))) fun hk4 hk5 hk6 => ?_
  refine WC.knowRow (a := a3) (by (repeat (first | exact List.Mem.head _ | apply List.Mem.tail))) fun hk7 hk8 hk9 => ?_
  refine WC.drawS [1, 3, 8, 20, 23] [0, 2, 1, 3, 4, 5, 6, 7, 8, 9, 10, 11, 12, 13, 14, 15, 16, 17, 18, 19, 20, 21, 22, 23, 24] [25] (_ :: _) [] mixed (by kernel_rfl) ?_
  refine SR.po rfl rfl (PO.loadA Try.underlying24 rfl rfl (Ev.tmp rfl) (by (repeat (first | exact List.Mem.head _ | apply List.Mem.tail))) rfl) (Nat.le_of_ble_eq_true rfl) ?_
  refine SR.po rfl rfl (PO.loadA Try.underlying24 rfl rfl (Ev.tmp rfl) (by (repeat (first | exact List.Mem.head _ | apply List.Mem.tail))) rfl) (Nat.le_of_ble_eq_true rfl) ?_
  refine SR.call1 rfl rfl Ev.func (Evs.cons (Ev.tmp rfl) Evs.nil) (fun fr => may_ct _ _ _ _ _ _ _ _) (Nat.le_of_ble_eq_true rfl) fun m4 hm4 => ?_
  refine SR.call1 rfl rfl Ev.func (Evs.cons (Ev.tmp rfl) Evs.nil) (fun fr => mayR_ct _ _ _ _ _ _ _ _) (Nat.le_of_ble_eq_true rfl) fun m5 hm5 => ?_
  refine SR.po rfl rfl (PO.eqlB Try.underlying4 (Ev.tmp rfl) (Ev.tmp rfl)) (Nat.le_of_ble_eq_true rfl) ?_
  refine SR.po rfl rfl (PO.move (Ev.tmp rfl)) (Nat.le_of_ble_eq_true rfl) ?_
  refine SR.poT rfl rfl rfl rfl (fun hc => PO.move (Ev.tmp rfl)) (Nat.le_of_ble_eq_true rfl) ?_
  refine SR.poT rfl rfl rfl rfl (fun hc => PO.move (Ev.tmp rfl)) (Nat.le_of_ble_eq_true rfl) ?_
  refine SR.callT (v := .bool true) rfl rfl rfl rfl (fun hc => ⟨Ev.func, Evs.cons (Ev.gv rfl hc) (Evs.cons (Ev.gv rfl hc) Evs.nil), fun fr => (equal_ct _ _ _ _ _ _ _ _ _ _ (Rd.fr (Rd.ofRow hk6 hk4 hk5 (by (repeat (first | exact List.Mem.head _ | apply List.Mem.tail)))) fr) (Rd.fr (Rd.ofRow hk9 hk7 hk8 (by (repeat (first | exact List.Mem.head _ | apply List.Mem.tail)))) fr)).val (by simp)⟩) (Nat.le_of_ble_eq_true rfl) fun m6 hm6 => ?_
  refine SR.po rfl rfl (PO.pickAnd rfl rfl) (Nat.le_of_ble_eq_true rfl) ?_
  refine SR.po rfl rfl (PO.move (Ev.tmp rfl)) (Nat.le_of_ble_eq_true rfl) ?_
  refine SR.poT rfl rfl rfl rfl (fun hc => PO.move (Ev.tmp rfl)) (Nat.le_of_ble_eq_true rfl) ?_
  refine SR.poT rfl rfl rfl rfl (fun hc => PO.move (Ev.tmp rfl)) (Nat.le_of_ble_eq_true rfl) ?_
  refine SR.poT rfl rfl rfl rfl (fun hc => PO.bin (Ev.gv rfl hc) (Ev.gv rfl hc) rfl) (Nat.le_of_ble_eq_true rfl) ?_
  refine SR.po rfl rfl (PO.pickAnd rfl rfl) (Nat.le_of_ble_eq_true rfl) ?_
  refine SR.po rfl rfl (PO.move (Ev.tmp rfl)) (Nat.le_of_ble_eq_true rfl) ?_
  refine SR.poT rfl rfl rfl rfl (fun hc => PO.fieldAddr Try.underlying24 rfl (Nat.ne_of_beq_eq_false rfl) (Ev.tmp rfl)) (Nat.le_of_ble_eq_true rfl) ?_
  refine SR.poT rfl rfl rfl rfl (fun hc => PO.load1 Try.underlying22 rfl (Ev.gv rfl hc) (by (repeat (first | exact List.Mem.head _ | apply List.Mem.tail))) rfl) (Nat.le_of_ble_eq_true rfl) ?_
  refine SR.poT rfl rfl rfl rfl (fun hc => PO.fieldAddr Try.underlying24 rfl (Nat.ne_of_beq_eq_false rfl) (Ev.tmp rfl)) (Nat.le_of_ble_eq_true rfl) ?_
  refine SR.poT rfl rfl rfl rfl (fun hc => PO.load1 Try.underlying22 rfl (Ev.gv rfl hc) (by (repeat (first | exact List.Mem.head _ | apply List.Mem.tail))) rfl) (Nat.le_of_ble_eq_true rfl) ?_
  refine SR.callT (v := .bool true) rfl rfl rfl rfl (fun hc => ⟨Ev.func, Evs.cons (Ev.gv rfl hc) (Evs.cons (Ev.gv rfl hc) Evs.nil), fun fr => (equal_ct _ _ _ _ _ _ _ _ _ _ (Rd.fr (Rd.ofRow hk3 hk1 hk2 (by (repeat (first | exact List.Mem.head _ | apply List.Mem.tail)))) fr) (Rd.fr (h1.mono (hm1.trans (hm2.trans (hm3.trans (hm4.trans (hm5.trans hm6))))) (by (repeat (first | exact List.Sublist.refl _ | refine List.Sublist.cons_cons _ ?_ | apply List.Sublist.cons)))) fr)).val (by simp)⟩) (Nat.le_of_ble_eq_true rfl) fun m7 hm7 => ?_
  refine SR.po rfl rfl (PO.pickAnd rfl rfl) (Nat.le_of_ble_eq_true rfl) ?_
  refine SR.po rfl rfl (PO.move (Ev.tmp rfl)) (Nat.le_of_ble_eq_true rfl) ?_
  refine SR.callT (v := .bool true) rfl rfl rfl rfl (fun hc => ⟨Ev.func, Evs.nil, fun fr => awake_ct _ _⟩) (Nat.le_of_ble_eq_true rfl) fun m8 hm8 => ?_
  refine SR.po rfl rfl (PO.pickAnd rfl rfl) (Nat.le_of_ble_eq_true rfl) ?_
  refine SR.nil rfl rfl ?_
  refine WL.po (PO.assign (Ev.tmp rfl)) (Nat.le_of_ble_eq_true rfl) ?_
  refine WL.nil (keepF (ts := [0, 1, 2, 3, 4, 5, 6, 7]) rfl (toK (by assumption) ?_)); (try clear hG ops)
  exact WC.ret (end1 (h' := h) (.inl rfl) rfl (RV.tmp rfl) (hm1.trans (hm2.trans (hm3.trans (hm4.trans (hm5.trans (hm6.trans (hm7.trans hm8))))))) (by (repeat (first | exact List.Sublist.refl _ | refine List.Sublist.cons_cons _ ?_ | apply List.Sublist.cons))) (by simp [Law]))
end Go.Proofs.Ytdfobghpbbohdaa

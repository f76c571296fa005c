/- The law Back. -/
import Derived.Test.YtdfobghpbbohdaaObjE
namespace Go.Proofs.Ytdfobghpbbohdaa
open Go.Eng Go.Obj

theorem enc_drop8 (code : List UInt8) (e a b : Nat) : (enc code e a b).drop 8 = le4 e ++ (le4 a ++ (le4 b ++ (code ++ le4 (crc (body code e a b)).toNat))) := by
  unfold enc; generalize (crc (body code e a b)).toNat = k; simp [body, magic, le4]
theorem enc_drop12 (code : List UInt8) (e a b : Nat) : (enc code e a b).drop 12 = le4 a ++ (le4 b ++ (code ++ le4 (crc (body code e a b)).toNat)) := by
  unfold enc; generalize (crc (body code e a b)).toNat = k; simp [body, magic, le4]
theorem enc_drop16 (code : List UInt8) (e a b : Nat) : (enc code e a b).drop 16 = le4 b ++ (code ++ le4 (crc (body code e a b)).toNat) := by
  unfold enc; generalize (crc (body code e a b)).toNat = k; simp [body, magic, le4]
theorem enc_drop20 (code : List UInt8) (e a b : Nat) : (enc code e a b).drop 20 = code ++ le4 (crc (body code e a b)).toNat := by
  unfold enc; generalize (crc (body code e a b)).toNat = k; simp [body, magic, le4]
theorem gC_enc (code : List UInt8) (e a b : Nat) : gC (enc code e a b) = code := by
  unfold gC
  rw [enc_drop20, enc_len]
  simp
theorem gE_enc (code : List UInt8) (e a b : Nat) (h : e < 4294967296) : gE (enc code e a b) = e := by unfold gE; rw [enc_drop8, rd4_le4 _ h]
theorem gA_enc (code : List UInt8) (e a b : Nat) (h : a < 4294967296) : gA (enc code e a b) = a := by unfold gA; rw [enc_drop12, rd4_le4 _ h]
theorem gB_enc (code : List UInt8) (e a b : Nat) (h : b < 4294967296) : gB (enc code e a b) = b := by unfold gB; rw [enc_drop16, rd4_le4 _ h]

/-- Get gives back what Put was given. -/
theorem back_enc {code : List UInt8} {e a b : Int} (h : mayB code.length e a b = true) :
    isE (putB code e a b) = true ∧ goC (putB code e a b) = code ∧ goE (putB code e a b) = e ∧ goA (putB code e a b) = a ∧ goB (putB code e a b) = b ∧ goR (putB code e a b) = 0 ∧ (putB code e a b).length = code.length + 24 := by
  obtain ⟨q1, q2, q3, q4, q5, q6, q7, q8⟩ := mayB_spec h
  have e0 : putB code e a b = enc code e.toNat a.toNat b.toNat := by simp [putB, h]
  have e1 := gC_enc code e.toNat a.toNat b.toNat
  have e2 : (gE (enc code e.toNat a.toNat b.toNat) : Int) = e := by rw [gE_enc _ _ _ _ (by omega)]; omega
  have e3 : (gA (enc code e.toNat a.toNat b.toNat) : Int) = a := by rw [gA_enc _ _ _ _ (by omega)]; omega
  have e4 : (gB (enc code e.toNat a.toNat b.toNat) : Int) = b := by rw [gB_enc _ _ _ _ (by omega)]; omega
  have hl := enc_len code e.toNat a.toNat b.toNat
  have hE : isE (enc code e.toNat a.toNat b.toNat) = true := by
    unfold isE fits
    rw [e1, e2, e3, e4, h, hl, gE_enc _ _ _ _ (by omega), gA_enc _ _ _ _ (by omega), gB_enc _ _ _ _ (by omega), decide_eq_true (by omega), decide_eq_true (by omega)]
    simp
  rw [e0]
  refine ⟨hE, ?_, ?_, ?_, ?_, ?_, hl⟩
  · rw [goC, if_pos hE, e1]
  · rw [goE, if_pos hE, e2]
  · rw [goA, if_pos hE, e3]
  · rw [goB, if_pos hE, e4]
  · rw [goR, if_pos hE]
/-- Put gives back what Get was given. -/
theorem back_get {bs : List UInt8} (h : isE bs = true) : putE (goC bs) (goE bs) (goA bs) (goB bs) = 0 ∧ putB (goC bs) (goE bs) (goA bs) (goB bs) = bs := by
  have h' := h
  unfold isE fits at h'
  simp only [Bool.and_eq_true, beq_iff_eq] at h'
  obtain ⟨-, -, hm, he⟩ := h'
  simp only [goC, goE, goA, goB, if_pos h, putE, putB, hm, Int.toNat_natCast]
  exact ⟨rfl, he.symm⟩
theorem goR_ne {bs : List UInt8} : (goR bs != 0) = !isE bs := by unfold goR; split <;> simp_all

theorem back_law (s : Option Addr) (c : Nat) (code : List UInt8) (e a b : Int) (s' : Option Addr) (n c' : Nat) (bs : List UInt8) (h : List Res) (m : View) (h1 : Rd m h s code.length c 1 (bv code)) (h2 : Rd m h s' n c' 1 (bv bs)) :
    CT Try.prog 6 [obV s code.length c e a b, .slice s' n c'] h m Law := by
  refine CT.body Try.call6 Try.func6 rfl Try.ntmps6 (Nat.le_of_ble_eq_true rfl) rfl ?_
  (repeat (first | refine WC.seqK fun K hK => ?_ | refine WC.block ?_ | refine WC.regionG rfl fun ops hG => ?_))
  refine WL.box (Ev.tmp rfl) rfl (Nat.le_of_ble_eq_true rfl) fun b2 => ?_
  refine WL.po (PO.assign Ev.const) (Nat.le_of_ble_eq_true rfl) ?_
  refine WL.nil (keepF (ts := [0, 1, 2, 4, 5, 6, 7, 8, 9, 10, 11, 12, 22, 24, 46, 53]) rfl (toK (by assumption) ?_)); (try clear hG ops)
  (repeat (first | refine WC.seqK fun K hK => ?_ | refine WC.block ?_ | refine WC.regionG rfl fun ops hG => ?_))
  refine WL.po (PO.loadA Try.underlying24 rfl rfl (Ev.tmp rfl) (by (repeat (first | exact List.Mem.head _ | apply List.Mem.tail))) rfl) (Nat.le_of_ble_eq_true rfl) ?_
  refine WL.call Ev.func (Evs.cons (Ev.tmp rfl) Evs.nil) (PutR.out (put_ct s c code e a b _ _ h1.cons)) (Nat.le_of_ble_eq_true rfl) ?_
  rintro _ m1 _ hm1 ⟨a1, c1, rfl, rfl⟩
  refine WL.po (PO.move (Ev.tmp rfl)) (Nat.le_of_ble_eq_true rfl) ?_
  refine WL.po (PO.extract (Ev.tmp rfl) rfl) (Nat.le_of_ble_eq_true rfl) ?_
  refine WL.po (PO.extract (Ev.tmp rfl) rfl) (Nat.le_of_ble_eq_true rfl) ?_
  refine WL.po (PO.assign (Ev.tmp rfl)) (Nat.le_of_ble_eq_true rfl) ?_
  refine WL.po (PO.assign (Ev.tmp rfl)) (Nat.le_of_ble_eq_true rfl) ?_
  refine WL.nil (keepF (ts := [0, 1, 2, 4, 5, 6, 7, 8, 9, 10, 11, 12, 22, 24, 46, 53]) rfl (toK (by assumption) ?_)); (try clear hG ops)
  (repeat (first | refine WC.seqK fun K hK => ?_ | refine WC.block ?_ | refine WC.regionG rfl fun ops hG => ?_))
  refine WL.po (PO.move (Ev.tmp rfl)) (Nat.le_of_ble_eq_true rfl) ?_
  refine WL.po (PO.bin (Ev.tmp rfl) Ev.const rfl) (Nat.le_of_ble_eq_true rfl) ?_
  refine WL.po (PO.loadA Try.underlying24 rfl rfl (Ev.tmp rfl) (by (repeat (first | exact List.Mem.head _ | apply List.Mem.tail))) rfl) (Nat.le_of_ble_eq_true rfl) ?_
  refine WL.call1 Ev.func (Evs.cons (Ev.tmp rfl) Evs.nil) (may_ct _ _ _ _ _ _ _ _) (Nat.le_of_ble_eq_true rfl) fun m2 hm2 => ?_
  refine WL.po (PO.neqB Try.underlying4 (Ev.tmp rfl) (Ev.tmp rfl)) (Nat.le_of_ble_eq_true rfl) ?_
  refine WL.nil (keepF (ts := [0, 1, 2, 4, 5, 6, 7, 8, 9, 10, 11, 12, 22, 24, 46, 53]) rfl (toK (by assumption) ?_)); (try clear hG ops)
  (repeat (first | refine WC.seqK fun K hK => ?_ | refine WC.block ?_ | refine WC.regionG rfl fun ops hG => ?_))
  have hm12 := hm1.trans hm2
  refine WC.cond (Ev.tmp rfl) (fun hc => absurd hc (by rw [putE_eq]; simp)) (fun _ => ?_)
  refine WC.skip (keepF (ts := [0, 1, 2, 4, 5, 6, 7, 8, 9, 10, 11, 12, 22, 24, 46, 53]) rfl (toK (by assumption) ?_))
  refine WC.seqK fun K0 hK0 => ?_
  (repeat (first | refine WC.seqK fun K hK => ?_ | refine WC.block ?_ | refine WC.regionG rfl fun ops hG => ?_))
  refine WL.po (PO.move (Ev.tmp rfl)) (Nat.le_of_ble_eq_true rfl) ?_
  refine WL.po (PO.bin (Ev.tmp rfl) Ev.const rfl) (Nat.le_of_ble_eq_true rfl) ?_
  refine WL.nil (keepF (ts := [0, 1, 2, 4, 5, 6, 7, 8, 9, 10, 11, 12, 22, 24, 46, 53]) rfl (toK (by assumption) ?_)); (try clear hG ops)
  have hrest : ∀ m', m2.le m' → ∀ f w, Fr 79 [(1, .slice s' n c')] f → St m' h w → K0 f w := by
    intro m' hm'
    refine hK0 _ _ _ ?_
    (repeat (first | refine WC.seqK fun K hK => ?_ | refine WC.block ?_ | refine WC.regionG rfl fun ops hG => ?_))
    refine WL.po (PO.move (Ev.tmp rfl)) (Nat.le_of_ble_eq_true rfl) ?_
    refine WL.call Ev.func (Evs.cons (Ev.tmp rfl) Evs.nil) (GetR.out (get_ct s' n c' bs _ _ (h2.mono (hm12.trans hm') (by (repeat (first | exact List.Sublist.refl _ | refine List.Sublist.cons_cons _ ?_ | apply List.Sublist.cons)))))) (Nat.le_of_ble_eq_true rfl) ?_
    rintro _ m3 _ hm3 ⟨a3, c3, rfl, rfl⟩
    refine WL.po (PO.move (Ev.tmp rfl)) (Nat.le_of_ble_eq_true rfl) ?_
    refine WL.po (PO.extract (Ev.tmp rfl) rfl) (Nat.le_of_ble_eq_true rfl) ?_
    refine WL.po (PO.extract (Ev.tmp rfl) rfl) (Nat.le_of_ble_eq_true rfl) ?_
    refine WL.alloc rfl rfl (Nat.le_of_ble_eq_true rfl) fun b9 => ?_
    refine WL.store rfl (Ev.tmp rfl) (Ev.tmp rfl) rfl rfl rfl rfl (by (repeat (first | exact Upd.here | apply Upd.next))) ?_
    refine WL.po (PO.assign (Ev.tmp rfl)) (Nat.le_of_ble_eq_true rfl) ?_
    refine WL.nil (keepF (ts := [0, 1, 2, 4, 5, 6, 7, 8, 9, 10, 11, 12, 22, 24, 46, 53]) rfl (toK (by assumption) ?_)); (try clear hG ops)
    (repeat (first | refine WC.seqK fun K hK => ?_ | refine WC.block ?_ | refine WC.regionG rfl fun ops hG => ?_))
    refine WL.po (PO.move (Ev.tmp rfl)) (Nat.le_of_ble_eq_true rfl) ?_
    refine WL.po (PO.bin (Ev.tmp rfl) Ev.const rfl) (Nat.le_of_ble_eq_true rfl) ?_
    refine WL.nil (keepF (ts := [0, 1, 2, 4, 5, 6, 7, 8, 9, 10, 11, 12, 22, 24, 46, 53]) rfl (toK (by assumption) ?_)); (try clear hG ops)
    (repeat (first | refine WC.seqK fun K hK => ?_ | refine WC.block ?_ | refine WC.regionG rfl fun ops hG => ?_))
    refine WC.knowRow (a := a3) (by (repeat (first | exact List.Mem.head _ | apply List.Mem.tail))) fun hk1 hk2 hk3 => ?_
    refine WC.cond (Ev.tmp rfl) (fun hc => ?_) (fun hc => ?_)
    · have hE : isE bs = false := by rw [goR_ne] at hc; simpa using hc
      (repeat (first | refine WC.seqK fun K hK => ?_ | refine WC.block ?_ | refine WC.regionG rfl fun ops hG => ?_))
      refine WL.po (PO.move (Ev.tmp rfl)) (Nat.le_of_ble_eq_true rfl) ?_
      refine WL.po (PO.bin (Ev.tmp rfl) Ev.const rfl) (Nat.le_of_ble_eq_true rfl) ?_
      refine WL.po (PO.move (Ev.tmp rfl)) (Nat.le_of_ble_eq_true rfl) ?_
      refine WL.poT (hG _ _ rfl) rfl (fun hc => PO.loadA Try.underlying24 rfl rfl (Ev.tmp rfl) (by (repeat (first | exact List.Mem.head _ | apply List.Mem.tail))) rfl) (Nat.le_of_ble_eq_true rfl) ?_
      refine WL.poT (hG _ _ rfl) rfl (fun hc => PO.build Try.underlying24 rfl rfl rfl EvP.nil rfl) (Nat.le_of_ble_eq_true rfl) ?_
      refine WL.callT (v := .bool true) (hG _ _ rfl) rfl (fun hc => ⟨Ev.func, Evs.cons (Ev.gv rfl hc) (Evs.cons (Ev.gv rfl hc) Evs.nil), (same_ct _ none _ _ 0 0 _ [] _ _ _ 0 0 0 _ _ (Rd.ofRow hk3 hk1 hk2 (by (repeat (first | exact List.Mem.head _ | apply List.Mem.tail)))) (Rd.nilB _ _)).val (by simp [goC, goE, goA, goB, hE])⟩) (Nat.le_of_ble_eq_true rfl) fun m4 hm4 => ?_
      refine WL.po (PO.pickAnd rfl rfl) (Nat.le_of_ble_eq_true rfl) ?_
      refine WL.po (PO.move (Ev.tmp rfl)) (Nat.le_of_ble_eq_true rfl) ?_
      refine WL.callT (v := .bool true) (hG _ _ rfl) rfl (fun hc => ⟨Ev.func, Evs.nil, awake_ct _ _⟩) (Nat.le_of_ble_eq_true rfl) fun m5 hm5 => ?_
      refine WL.po (PO.pickAnd rfl rfl) (Nat.le_of_ble_eq_true rfl) ?_
      refine WL.po (PO.assign (Ev.tmp rfl)) (Nat.le_of_ble_eq_true rfl) ?_
      refine WL.nil (keepF (ts := [0, 1, 2, 4, 5, 6, 7, 8, 9, 10, 11, 12, 22, 24, 46, 53]) rfl (toK (by assumption) ?_)); (try clear hG ops)
      exact WC.ret (end1 (h' := h) (.inl rfl) rfl (RV.tmp rfl) (hm12.trans (hm'.trans (hm3.trans (hm4.trans hm5)))) (by (repeat (first | exact List.Sublist.refl _ | refine List.Sublist.cons_cons _ ?_ | apply List.Sublist.cons))) (by simp [Law, goR, hE]))
    · have hE : isE bs = true := by rw [goR_ne] at hc; simpa using hc
      obtain ⟨hp1, hp2⟩ := back_get hE
      refine WC.skip (keepF (ts := [0, 1, 2, 4, 5, 6, 7, 8, 9, 10, 11, 12, 22, 24, 46, 53]) rfl (toK (by assumption) ?_))
      (repeat (first | refine WC.seqK fun K hK => ?_ | refine WC.block ?_ | refine WC.regionG rfl fun ops hG => ?_))
      refine WL.po (PO.loadA Try.underlying24 rfl rfl (Ev.tmp rfl) (by (repeat (first | exact List.Mem.head _ | apply List.Mem.tail))) rfl) (Nat.le_of_ble_eq_true rfl) ?_
      refine WL.call Ev.func (Evs.cons (Ev.tmp rfl) Evs.nil) (PutR.out (put_ct a3 c3 (goC bs) (goE bs) (goA bs) (goB bs) _ _ (Rd.ofRow hk3 hk1 hk2 (by (repeat (first | exact List.Mem.head _ | apply List.Mem.tail)))))) (Nat.le_of_ble_eq_true rfl) ?_
      rintro _ m4 _ hm4 ⟨a4, c4, rfl, rfl⟩
      refine WL.po (PO.move (Ev.tmp rfl)) (Nat.le_of_ble_eq_true rfl) ?_
      refine WL.po (PO.extract (Ev.tmp rfl) rfl) (Nat.le_of_ble_eq_true rfl) ?_
      refine WL.po (PO.extract (Ev.tmp rfl) rfl) (Nat.le_of_ble_eq_true rfl) ?_
      refine WL.po (PO.assign (Ev.tmp rfl)) (Nat.le_of_ble_eq_true rfl) ?_
      refine WL.po (PO.assign (Ev.tmp rfl)) (Nat.le_of_ble_eq_true rfl) ?_
      refine WL.nil (keepF (ts := [0, 1, 2, 4, 5, 6, 7, 8, 9, 10, 11, 12, 22, 24, 46, 53]) rfl (toK (by assumption) ?_)); (try clear hG ops)
      (repeat (first | refine WC.seqK fun K hK => ?_ | refine WC.block ?_ | refine WC.regionG rfl fun ops hG => ?_))
      refine WL.po (PO.move (Ev.tmp rfl)) (Nat.le_of_ble_eq_true rfl) ?_
      refine WL.po (PO.bin (Ev.tmp rfl) Ev.const rfl) (Nat.le_of_ble_eq_true rfl) ?_
      refine WL.po (PO.move (Ev.tmp rfl)) (Nat.le_of_ble_eq_true rfl) ?_
      refine WL.poT (hG _ _ rfl) rfl (fun hc => PO.move (Ev.tmp rfl)) (Nat.le_of_ble_eq_true rfl) ?_
      refine WL.poT (hG _ _ rfl) rfl (fun hc => PO.move (Ev.tmp rfl)) (Nat.le_of_ble_eq_true rfl) ?_
      refine WL.knowRow (a := a4) (by (repeat (first | exact List.Mem.head _ | apply List.Mem.tail))) fun hk4 hk5 hk6 => ?_
      refine WL.callT (v := .bool true) (hG _ _ rfl) rfl (fun hc => ⟨Ev.func, Evs.cons (Ev.gv rfl hc) (Evs.cons (Ev.gv rfl hc) Evs.nil), (equal_ct _ _ _ _ _ _ _ bs _ _ (Rd.ofRow hk6 hk4 hk5 (by (repeat (first | exact List.Mem.head _ | apply List.Mem.tail)))) (h2.mono (hm12.trans (hm'.trans (hm3.trans hm4))) (by (repeat (first | exact List.Sublist.refl _ | refine List.Sublist.cons_cons _ ?_ | apply List.Sublist.cons))))).val (by rw [hp2]; simp)⟩) (Nat.le_of_ble_eq_true rfl) fun m5 hm5 => ?_
      refine WL.po (PO.pickAnd rfl rfl) (Nat.le_of_ble_eq_true rfl) ?_
      refine WL.po (PO.move (Ev.tmp rfl)) (Nat.le_of_ble_eq_true rfl) ?_
      refine WL.callT (v := .bool true) (hG _ _ rfl) rfl (fun hc => ⟨Ev.func, Evs.nil, awake_ct _ _⟩) (Nat.le_of_ble_eq_true rfl) fun m6 hm6 => ?_
      refine WL.po (PO.pickAnd rfl rfl) (Nat.le_of_ble_eq_true rfl) ?_
      refine WL.po (PO.assign (Ev.tmp rfl)) (Nat.le_of_ble_eq_true rfl) ?_
      refine WL.nil (keepF (ts := [0, 1, 2, 4, 5, 6, 7, 8, 9, 10, 11, 12, 22, 24, 46, 53]) rfl (toK (by assumption) ?_)); (try clear hG ops)
      exact WC.ret (end1 (h' := h) (.inl rfl) rfl (RV.tmp rfl) (hm12.trans (hm'.trans (hm3.trans (hm4.trans (hm5.trans hm6))))) (by (repeat (first | exact List.Sublist.refl _ | refine List.Sublist.cons_cons _ ?_ | apply List.Sublist.cons))) (by simp [Law, hp1]))
  refine WC.cond (Ev.tmp rfl) (fun hc => ?_) (fun hc => ?_)
  · have hmay : mayB code.length e a b = true := by rw [← putE_eq]; exact hc
    obtain ⟨q1, q2, q3, q4, q5, q6, q7⟩ := back_enc hmay
    have := (mayB_spec hmay).2.1
    (repeat (first | refine WC.seqK fun K hK => ?_ | refine WC.block ?_ | refine WC.regionG rfl fun ops hG => ?_))
    refine WL.po (PO.move (Ev.tmp rfl)) (Nat.le_of_ble_eq_true rfl) ?_
    refine WL.knowRow (a := a1) (by (repeat (first | exact List.Mem.head _ | apply List.Mem.tail))) fun hk1 hk2 hk3 => ?_
    refine WL.call Ev.func (Evs.cons (Ev.tmp rfl) Evs.nil) (GetR.out (get_ct a1 _ c1 (putB code e a b) _ _ (Rd.ofRow hk3 hk1 hk2 (by (repeat (first | exact List.Mem.head _ | apply List.Mem.tail)))))) (Nat.le_of_ble_eq_true rfl) ?_
    rintro _ m3 _ hm3 ⟨a3, c3, rfl, rfl⟩
    refine WL.po (PO.move (Ev.tmp rfl)) (Nat.le_of_ble_eq_true rfl) ?_
    refine WL.po (PO.extract (Ev.tmp rfl) rfl) (Nat.le_of_ble_eq_true rfl) ?_
    refine WL.po (PO.extract (Ev.tmp rfl) rfl) (Nat.le_of_ble_eq_true rfl) ?_
    refine WL.alloc rfl rfl (Nat.le_of_ble_eq_true rfl) fun b7 => ?_
    refine WL.store rfl (Ev.tmp rfl) (Ev.tmp rfl) rfl rfl rfl rfl (by (repeat (first | exact Upd.here | apply Upd.next))) ?_
    refine WL.po (PO.assign (Ev.tmp rfl)) (Nat.le_of_ble_eq_true rfl) ?_
    refine WL.nil (keepF (ts := [0, 1, 2, 4, 5, 6, 7, 8, 9, 10, 11, 12, 22, 24, 46, 53]) rfl (toK (by assumption) ?_)); (try clear hG ops)
    (repeat (first | refine WC.seqK fun K hK => ?_ | refine WC.block ?_ | refine WC.regionG rfl fun ops hG => ?_))
    refine WL.po (PO.move (Ev.tmp rfl)) (Nat.le_of_ble_eq_true rfl) ?_
    refine WL.po (PO.bin (Ev.tmp rfl) Ev.const rfl) (Nat.le_of_ble_eq_true rfl) ?_
    refine WL.po (PO.move (Ev.tmp rfl)) (Nat.le_of_ble_eq_true rfl) ?_
    refine WL.poF (hG _ _ rfl) rfl (fun hc => PO.loadA Try.underlying24 rfl rfl (Ev.tmp rfl) (by (repeat (first | exact List.Mem.head _ | apply List.Mem.tail))) rfl) (Nat.le_of_ble_eq_true rfl) ?_
    refine WL.poF (hG _ _ rfl) rfl (fun hc => PO.loadA Try.underlying24 rfl rfl (Ev.tmp rfl) (by (repeat (first | exact List.Mem.head _ | apply List.Mem.tail))) rfl) (Nat.le_of_ble_eq_true rfl) ?_
    refine WL.knowRow (a := a3) (by (repeat (first | exact List.Mem.head _ | apply List.Mem.tail))) fun hk4 hk5 hk6 => ?_
    refine WL.callF (v := .bool true) (hG _ _ rfl) rfl (fun hc => ⟨Ev.func, Evs.cons (Ev.gv rfl hc) (Evs.cons (Ev.gv rfl hc) Evs.nil), (same_ct _ _ _ _ _ _ code _ _ _ _ _ _ _ _ _ (h1.mono (hm12.trans hm3) (by (repeat (first | exact List.Sublist.refl _ | refine List.Sublist.cons_cons _ ?_ | apply List.Sublist.cons)))) (Rd.ofRow hk6 hk4 hk5 (by (repeat (first | exact List.Mem.head _ | apply List.Mem.tail))))).val (by simp [q2, q3, q4, q5])⟩) (Nat.le_of_ble_eq_true rfl) fun m4 hm4 => ?_
    refine WL.poF (hG _ _ rfl) rfl (fun hc => PO.not (Ev.gv rfl hc)) (Nat.le_of_ble_eq_true rfl) ?_
    refine WL.po (PO.pickOr rfl rfl) (Nat.le_of_ble_eq_true rfl) ?_
    refine WL.po (PO.move (Ev.tmp rfl)) (Nat.le_of_ble_eq_true rfl) ?_
    refine WL.poF (hG _ _ rfl) rfl (fun hc => PO.move (Ev.tmp rfl)) (Nat.le_of_ble_eq_true rfl) ?_
    refine WL.poF (hG _ _ rfl) rfl (fun hc => PO.lenSl Try.underlying22 (Ev.gv rfl hc)) (Nat.le_of_ble_eq_true rfl) ?_
    refine WL.poF (hG _ _ rfl) rfl (fun hc => PO.fieldAddr Try.underlying24 rfl (Nat.ne_of_beq_eq_false rfl) (Ev.tmp rfl)) (Nat.le_of_ble_eq_true rfl) ?_
    refine WL.poF (hG _ _ rfl) rfl (fun hc => PO.load1 Try.underlying22 rfl (Ev.gv rfl hc) (by (repeat (first | exact List.Mem.head _ | apply List.Mem.tail))) rfl) (Nat.le_of_ble_eq_true rfl) ?_
    refine WL.poF (hG _ _ rfl) rfl (fun hc => PO.lenSl Try.underlying22 (Ev.gv rfl hc)) (Nat.le_of_ble_eq_true rfl) ?_
    refine WL.poF (hG _ _ rfl) rfl (fun hc => PO.addI (Ev.gv rfl hc) Ev.const (by omega)) (Nat.le_of_ble_eq_true rfl) ?_
    refine WL.poF (hG _ _ rfl) rfl (fun hc => PO.bin (Ev.gv rfl hc) (Ev.gv rfl hc) rfl) (Nat.le_of_ble_eq_true rfl) ?_
    refine WL.po (PO.pickOr rfl rfl) (Nat.le_of_ble_eq_true rfl) ?_
    refine WL.nil (keepF (ts := [0, 1, 2, 4, 5, 6, 7, 8, 9, 10, 11, 12, 22, 24, 46, 53]) rfl (toK (by assumption) ?_)); (try clear hG ops)
    (repeat (first | refine WC.seqK fun K hK => ?_ | refine WC.block ?_ | refine WC.regionG rfl fun ops hG => ?_))
    refine WC.cond (Ev.tmp rfl) (fun hc => absurd hc (by simp [q6, q7])) (fun _ => ?_)
    refine WC.skip (keepF (ts := [1]) rfl (dropE (h' := h) (by (repeat (first | exact List.Sublist.refl _ | refine List.Sublist.cons_cons _ ?_ | apply List.Sublist.cons))) (hrest m4 (hm3.trans hm4))))
  · refine WC.skip (keepF (ts := [1]) rfl (dropE (h' := h) (by (repeat (first | exact List.Sublist.refl _ | refine List.Sublist.cons_cons _ ?_ | apply List.Sublist.cons))) (hrest m2 (View.le.refl m2))))
end Go.Proofs.Ytdfobghpbbohdaa

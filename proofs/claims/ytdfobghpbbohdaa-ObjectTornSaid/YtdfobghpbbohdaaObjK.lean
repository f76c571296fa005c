/- The law Torn. -/
import Derived.Test.YtdfobghpbbohdaaObjG
import Derived.Test.YtdfobghpbbohdaaObjJ
namespace Go.Proofs.Ytdfobghpbbohdaa
open Go.Eng Go.Obj
theorem isE_enc {bs : List UInt8} (h : isE bs = true) : bs = enc (gC bs) (gE bs) (gA bs) (gB bs) ∧ bs.length ≤ 32792 ∧ 24 < bs.length := by
  unfold isE fits at h
  simp only [Bool.and_eq_true, beq_iff_eq, decide_eq_true_eq] at h
  exact ⟨h.2.2.2, h.2.1, h.1⟩
theorem isE_res {bs : List UInt8} (h : isE bs = true) : crcR bs = itn st1 32 (BitVec.allOnes 32) := by
  have := (isE_enc h).1
  rw [this]; exact enc_residue _ _ _ _
theorem isE_field {bs : List UInt8} (h : isE bs = true) : rd4 (bs.drop 4) = bs.length - 24 := by
  obtain ⟨h1, h2, h3⟩ := isE_enc h
  have hl := gC_len bs
  have := enc_field (gC bs) (gE bs) (gA bs) (gB bs) (by omega)
  rw [← h1] at this
  omega
theorem torn1 {bs : List UInt8} (h : isE bs = true) (p : Nat) (hp : p < 8 * bs.length) (mask : BitVec 32) (hm : mask.getLsbD 0 = true) : isE (flipN bs p mask 32) = false := by
  cases hc : isE (flipN bs p mask 32) with
  | false => rfl
  | true => exact absurd ((isE_res hc).trans (isE_res h).symm) (burst bs p hp mask hm)
theorem rd4_pre (xs ys : List UInt8) (h : 4 ≤ xs.length) : rd4 (xs ++ ys) = rd4 xs := by
  match xs, h with
  | b0 :: b1 :: b2 :: b3 :: l, _ => rfl
theorem torn2 {bs : List UInt8} (h : isE bs = true) (l : Nat) (hl : l < bs.length) : isE (bs.take l) = false := by
  cases hc : isE (bs.take l) with
  | false => rfl
  | true =>
    have h1 := isE_field h
    have h2 := isE_field hc
    have h3 := (isE_enc hc).2.2
    have h4 : (bs.take l).length = l := by simp; omega
    have e : rd4 (bs.drop 4) = rd4 ((bs.take l).drop 4) := by
      have : bs.drop 4 = (bs.take l).drop 4 ++ bs.drop l := by
        conv => lhs; rw [← List.take_append_drop l bs]
        rw [List.drop_append_of_le_length (by omega)]
      rw [this, rd4_pre _ _ (by simp; omega)]
    omega
theorem torn3 {bs : List UInt8} (h : isE bs = true) (x : UInt8) : isE (bs ++ [x]) = false := by
  cases hc : isE (bs ++ [x]) with
  | false => rfl
  | true =>
    have h1 := isE_field h
    have h2 := isE_field hc
    have h3 := (isE_enc h).2.2
    rw [List.drop_append_of_le_length (by omega), rd4_pre _ _ (by simp; omega)] at h2
    simp at h2
    omega

theorem torn_law (s : Option Addr) (c : Nat) (code : List UInt8) (e a b : Int) (at_ : Nat) (mk : BitVec 32) (keep : Nat) (more : UInt8) (h : List Res) (m : View) (h1 : Rd m h s code.length c 1 (bv code)) (hat : at_ < 4294967296) (hkeep : keep < 65536) :
    CT Try.prog 7 [obV s code.length c e a b, .int .u32 at_, u32 mk, .int .u16 keep, .int .u8 more.toNat] h m Law := by
  refine CT.body Try.call7 Try.func7 rfl Try.ntmps7 (Nat.le_of_ble_eq_true rfl) rfl ?_
  (repeat (first | refine WC.seqK fun K hK => ?_ | refine WC.block ?_ | refine WC.regionG rfl fun ops hG => ?_))
  refine WL.box (Ev.tmp rfl) rfl (Nat.le_of_ble_eq_true rfl) fun b5 => ?_
  refine WL.po (PO.assign Ev.const) (Nat.le_of_ble_eq_true rfl) ?_
  refine WL.nil (keepF (ts := [0, 1, 2, 3, 4, 5, 10, 11, 12, 13, 15, 17, 19, 31, 48, 55]) rfl (toK (by assumption) ?_)); (try clear hG ops)
  (repeat (first | refine WC.seqK fun K hK => ?_ | refine WC.block ?_ | refine WC.regionG rfl fun ops hG => ?_))
  refine WL.po (PO.loadA Try.underlying24 rfl rfl (Ev.tmp rfl) (by (repeat (first | exact List.Mem.head _ | apply List.Mem.tail))) rfl) (Nat.le_of_ble_eq_true rfl) ?_
  refine WL.call Ev.func (Evs.cons (Ev.tmp rfl) Evs.nil) (PutR.out (put_ct s c code e a b _ _ h1.cons)) (Nat.le_of_ble_eq_true rfl) ?_
  rintro _ m1 _ hm1 ⟨a1, c1, rfl, rfl⟩
  refine WL.po (PO.move (Ev.tmp rfl)) (Nat.le_of_ble_eq_true rfl) ?_
  refine WL.po (PO.extract (Ev.tmp rfl) rfl) (Nat.le_of_ble_eq_true rfl) ?_
  refine WL.po (PO.extract (Ev.tmp rfl) rfl) (Nat.le_of_ble_eq_true rfl) ?_
  refine WL.po (PO.assign (Ev.tmp rfl)) (Nat.le_of_ble_eq_true rfl) ?_
  refine WL.po (PO.assign (Ev.tmp rfl)) (Nat.le_of_ble_eq_true rfl) ?_
  refine WL.nil (keepF (ts := [0, 1, 2, 3, 4, 5, 10, 11, 12, 13, 15, 17, 19, 31, 48, 55]) rfl (toK (by assumption) ?_)); (try clear hG ops)
  (repeat (first | refine WC.seqK fun K hK => ?_ | refine WC.block ?_ | refine WC.regionG rfl fun ops hG => ?_))
  refine WL.po (PO.move (Ev.tmp rfl)) (Nat.le_of_ble_eq_true rfl) ?_
  refine WL.po (PO.bin (Ev.tmp rfl) Ev.const rfl) (Nat.le_of_ble_eq_true rfl) ?_
  refine WL.po (PO.move (Ev.tmp rfl)) (Nat.le_of_ble_eq_true rfl) ?_
  refine WL.poF (hG _ _ rfl) rfl (fun hc => PO.move (Ev.tmp rfl)) (Nat.le_of_ble_eq_true rfl) ?_
  refine WL.poF (hG _ _ rfl) rfl (fun hc => PO.lenSl Try.underlying22 (Ev.gv rfl hc)) (Nat.le_of_ble_eq_true rfl) ?_
  refine WL.poF (hG _ _ rfl) rfl (fun hc => PO.bin (Ev.gv rfl hc) Ev.const rfl) (Nat.le_of_ble_eq_true rfl) ?_
  refine WL.po (PO.pickOr rfl rfl) (Nat.le_of_ble_eq_true rfl) ?_
  refine WL.nil (keepF (ts := [0, 1, 2, 3, 4, 5, 10, 11, 12, 13, 15, 17, 19, 31, 48, 55]) rfl (toK (by assumption) ?_)); (try clear hG ops)
  (repeat (first | refine WC.seqK fun K hK => ?_ | refine WC.block ?_ | refine WC.regionG rfl fun ops hG => ?_))
  refine WC.cond (Ev.tmp rfl) (fun hc => ?_) (fun hc => ?_)
  · have hp2 : putE code e a b = 2 := by
      unfold putE
      split
      · rename_i hm
        have hl := (back_enc hm).2.2.2.2.2.2
        have he : putE code e a b = 0 := by simp [putE, hm]
        rw [he] at hc
        simp at hc
        rw [hc] at hl
        simp at hl
      · rfl
    (repeat (first | refine WC.seqK fun K hK => ?_ | refine WC.block ?_ | refine WC.regionG rfl fun ops hG => ?_))
    refine WL.po (PO.move (Ev.tmp rfl)) (Nat.le_of_ble_eq_true rfl) ?_
    refine WL.po (PO.bin (Ev.tmp rfl) Ev.const rfl) (Nat.le_of_ble_eq_true rfl) ?_
    refine WL.po (PO.move (Ev.tmp rfl)) (Nat.le_of_ble_eq_true rfl) ?_
    refine WL.callT (v := .bool true) (hG _ _ rfl) rfl (fun hc => ⟨Ev.func, Evs.nil, awake_ct _ _⟩) (Nat.le_of_ble_eq_true rfl) fun m3 hm3 => ?_
    refine WL.po (PO.pickAnd rfl rfl) (Nat.le_of_ble_eq_true rfl) ?_
    refine WL.po (PO.assign (Ev.tmp rfl)) (Nat.le_of_ble_eq_true rfl) ?_
    refine WL.nil (keepF (ts := [0, 1, 2, 3, 4, 5, 10, 11, 12, 13, 15, 17, 19, 31, 48, 55]) rfl (toK (by assumption) ?_)); (try clear hG ops)
    exact WC.ret (end1 (h' := h) (.inl rfl) rfl (RV.tmp rfl) (hm1.trans hm3) (by (repeat (first | exact List.Sublist.refl _ | refine List.Sublist.cons_cons _ ?_ | apply List.Sublist.cons))) (by simp [Law, hp2]))
  · have hmay : mayB code.length e a b = true := by
      rw [← putE_eq]
      simp only [Bool.or_eq_false_iff] at hc
      simpa using hc.1
    obtain ⟨hE, -, -, -, -, -, hL⟩ := back_enc hmay
    have h32 := (mayB_spec hmay).2.1
    generalize putB code e a b = bs at hE hL ⊢
    refine WC.skip (keepF (ts := [0, 1, 2, 3, 4, 5, 10, 11, 12, 13, 15, 17, 19, 31, 48, 55]) rfl (toK (by assumption) ?_))
    (repeat (first | refine WC.seqK fun K hK => ?_ | refine WC.block ?_ | refine WC.regionG rfl fun ops hG => ?_))
    refine WL.po (PO.move (Ev.tmp rfl)) (Nat.le_of_ble_eq_true rfl) ?_
    refine WL.knowRow (a := a1) (by (repeat (first | exact List.Mem.head _ | apply List.Mem.tail))) fun hk1 hk2 hk3 => ?_
    refine WL.call Ev.func (Evs.cons (Ev.tmp rfl) Evs.nil) (clone_ct _ _ _ bs _ _ (Rd.ofRow hk3 hk1 hk2 (by (repeat (first | exact List.Mem.head _ | apply List.Mem.tail)))) (by omega)) (Nat.le_of_ble_eq_true rfl) ?_
    rintro _ m2 _ hm2 ⟨a2, c2, rfl, rfl⟩
    refine WL.po (PO.assign (Ev.tmp rfl)) (Nat.le_of_ble_eq_true rfl) ?_
    refine WL.nil (keepF (ts := [0, 1, 2, 3, 4, 5, 10, 11, 12, 13, 15, 17, 19, 31, 48, 55]) rfl (toK (by assumption) ?_)); (try clear hG ops)
    refine WC.seqK fun K0 hK0 => ?_
    (repeat (first | refine WC.seqK fun K hK => ?_ | refine WC.block ?_ | refine WC.regionG rfl fun ops hG => ?_))
    refine WL.knowRow (a := a2) (by (repeat (first | exact List.Mem.head _ | apply List.Mem.tail))) fun hk4 hk5 hk6 => ?_
    refine WL.po (PO.move (Ev.tmp rfl)) (Nat.le_of_ble_eq_true rfl) ?_
    refine WL.po (PO.move (Ev.tmp rfl)) (Nat.le_of_ble_eq_true rfl) ?_
    refine WL.po (PO.move (Ev.tmp rfl)) (Nat.le_of_ble_eq_true rfl) ?_
    refine WL.po (PO.lenSl Try.underlying22 (Ev.tmp rfl)) (Nat.le_of_ble_eq_true rfl) ?_
    refine WL.po (PO.mulI Ev.const (Ev.tmp rfl) (by omega)) (Nat.le_of_ble_eq_true rfl) ?_
    refine WL.po (PO.eq (PO.conv Try.underlying3 Try.underlying37 (Ev.tmp rfl)) (congrArg (Value.int .u32) (show _ = ((8 * bs.length : Nat) : Int) from u32_nat (8 * bs.length) (by omega)))) (Nat.le_of_ble_eq_true rfl) ?_
    refine WL.po (PO.eq (PO.rem (Ev.tmp rfl) (Ev.tmp rfl) (by omega)) (congrArg (Value.int .u32) (show _ = ((at_ % (8 * bs.length) : Nat) : Int) by rw [Int.tmod_eq_emod_of_nonneg (by omega)]; have := Nat.mod_lt at_ (show 0 < 8 * bs.length by omega); first | exact u32_nat (at_ % (8 * bs.length)) (by omega) | omega))) (Nat.le_of_ble_eq_true rfl) ?_
    refine WL.po (PO.move (Ev.tmp rfl)) (Nat.le_of_ble_eq_true rfl) ?_
    refine WL.po (PO.eq (PO.bin (Ev.tmp rfl) Ev.const rfl) (show _ = u32 (mk ||| 1#32) from congrArg (Value.int .u32) (bor_u32 mk 1#32))) (Nat.le_of_ble_eq_true rfl) ?_
    refine WL.call Ev.func (Evs.cons (Ev.tmp rfl) (Evs.cons (Ev.tmp rfl) (Evs.cons (Ev.tmp rfl) Evs.nil))) (flip_ct a2 bs.length c2 bs (at_ % (8 * bs.length)) (mk ||| 1#32) _ _ rfl (by omega) hk4 hk5 (Nat.mod_lt _ (by omega)) (by simp)) (Nat.le_of_ble_eq_true rfl) ?_
    rintro _ m3 _ hm3 ⟨rfl, rfl⟩
    have hT := torn1 hE (at_ % (8 * bs.length)) (Nat.mod_lt _ (by omega)) (mk ||| 1#32) (by simp)
    have hfl := flipN_len bs (at_ % (8 * bs.length)) (mk ||| 1#32) 32
    generalize flipN bs (at_ % (8 * bs.length)) (mk ||| 1#32) 32 = fs at hT hfl ⊢
    refine WL.nil (keepF (ts := [0, 1, 2, 3, 4, 5, 10, 11, 12, 13, 15, 17, 19, 31, 48, 55]) rfl (toK (by assumption) ?_)); (try clear hG ops)
    have hm13 := hm1.trans (hm2.trans hm3)
    have hrest : ∀ m', m3.le m' → ∀ f w, Fr 85 [(3, .int .u16 keep), (4, .int .u8 more.toNat), (11, .slice a1 bs.length c1)] f → St m' (.row (.slice a1 bs.length c1) 5 1 bs.length (bv bs) :: h) w → K0 f w := by
      intro m' hm'
      refine hK0 _ _ _ ?_
      have hr1 : ∀ mm : View, Rd mm (.row (.slice a1 bs.length c1) 5 1 bs.length (bv bs) :: h) a1 bs.length c1 1 (bv bs) := fun mm => Rd.ofRow hk3 hk1 hk2 (List.Mem.head _)
      (repeat (first | refine WC.seqK fun K hK => ?_ | refine WC.block ?_ | refine WC.regionG rfl fun ops hG => ?_))
      refine WL.po (PO.move (Ev.tmp rfl)) (Nat.le_of_ble_eq_true rfl) ?_
      refine WL.po (PO.move (Ev.tmp rfl)) (Nat.le_of_ble_eq_true rfl) ?_
      refine WL.po (PO.eq (PO.conv Try.underlying40 Try.underlying3 (Ev.tmp rfl)) (congrArg (Value.int .i64) (i64_nat keep (by omega)))) (Nat.le_of_ble_eq_true rfl) ?_
      refine WL.po (PO.move (Ev.tmp rfl)) (Nat.le_of_ble_eq_true rfl) ?_
      refine WL.po (PO.lenSl Try.underlying22 (Ev.tmp rfl)) (Nat.le_of_ble_eq_true rfl) ?_
      refine WL.po (PO.eq (PO.rem (Ev.tmp rfl) (Ev.tmp rfl) (by omega)) (congrArg (Value.int .i64) (show _ = ((keep % bs.length : Nat) : Int) by rw [Int.tmod_eq_emod_of_nonneg (by omega)]; have := Nat.mod_lt keep (show 0 < bs.length by omega); first | exact i64_nat (keep % bs.length) (by omega) | omega))) (Nat.le_of_ble_eq_true rfl) ?_
      have hlt := Nat.mod_lt keep (show 0 < bs.length by omega)
      refine WL.po (PO.sliceH EL22.und EL22.size (Ev.tmp rfl) (Ev.tmp rfl) rfl (by omega)) (Nat.le_of_ble_eq_true rfl) ?_
      refine WL.call Ev.func (Evs.cons (Ev.tmp rfl) Evs.nil) (GetR.out (get_ct _ _ _ (bs.take (keep % bs.length)) _ _ ((hr1 m').takeB (by omega)))) (Nat.le_of_ble_eq_true rfl) ?_
      rintro _ m4 _ hm4 ⟨a4, c4, rfl, rfl⟩
      refine WL.po (PO.move (Ev.tmp rfl)) (Nat.le_of_ble_eq_true rfl) ?_
      refine WL.po (PO.extract (Ev.tmp rfl) rfl) (Nat.le_of_ble_eq_true rfl) ?_
      refine WL.po (PO.extract (Ev.tmp rfl) rfl) (Nat.le_of_ble_eq_true rfl) ?_
      refine WL.alloc rfl rfl (Nat.le_of_ble_eq_true rfl) fun b16 => ?_
      refine WL.store rfl (Ev.tmp rfl) (Ev.tmp rfl) rfl rfl rfl rfl (by (repeat (first | exact Upd.here | apply Upd.next))) ?_
      refine WL.po (PO.assign (Ev.tmp rfl)) (Nat.le_of_ble_eq_true rfl) ?_
      refine WL.nil (keepF (ts := [0, 1, 2, 3, 4, 5, 10, 11, 12, 13, 15, 17, 19, 31, 48, 55]) rfl (toK (by assumption) ?_)); (try clear hG ops)
      (repeat (first | refine WC.seqK fun K hK => ?_ | refine WC.block ?_ | refine WC.regionG rfl fun ops hG => ?_))
      refine WL.po (PO.move (Ev.tmp rfl)) (Nat.le_of_ble_eq_true rfl) ?_
      refine WL.call Ev.func (Evs.cons (Ev.tmp rfl) Evs.nil) (clone_ct _ _ _ bs _ _ ((hr1 m4).mono (View.le.refl m4) (by (repeat (first | exact List.Sublist.refl _ | refine List.Sublist.cons_cons _ ?_ | apply List.Sublist.cons)))) (by omega)) (Nat.le_of_ble_eq_true rfl) ?_
      rintro _ m5 _ hm5 ⟨a5, c5, rfl, rfl⟩
      refine WL.po (PO.move (Ev.tmp rfl)) (Nat.le_of_ble_eq_true rfl) ?_
      refine WL.buildSlice EL22 rfl (EvP.cons (Ev.tmp rfl) EvP.nil) rfl rfl (by decide) rfl (Nat.le_of_ble_eq_true rfl) fun b71 => ?_
      refine WL.append EL22 (Ev.tmp rfl) (Ev.tmp rfl) (Rd.ofPt (cs := bv [more]) rfl (by decide) (List.Mem.head _)) (bv_one _) (by omega) (by omega) (fun v' => Upd.next Upd.here) (Nat.le_of_ble_eq_true rfl) fun a6 c6 => ?_
      rw [bv_app]
      refine WL.knowRow (a := a6) (by (repeat (first | exact List.Mem.head _ | apply List.Mem.tail))) fun hk7 hk8 hk9 => ?_
      refine WL.call Ev.func (Evs.cons (Ev.tmp rfl) Evs.nil) (GetR.out (get_ct _ _ _ (bs ++ [more]) _ _ (Rd.ofRow hk9 hk7 hk8 (by (repeat (first | exact List.Mem.head _ | apply List.Mem.tail)))))) (Nat.le_of_ble_eq_true rfl) ?_
      rintro _ m6 _ hm6 ⟨a7, c7, rfl, rfl⟩
      refine WL.po (PO.move (Ev.tmp rfl)) (Nat.le_of_ble_eq_true rfl) ?_
      refine WL.po (PO.extract (Ev.tmp rfl) rfl) (Nat.le_of_ble_eq_true rfl) ?_
      refine WL.po (PO.extract (Ev.tmp rfl) rfl) (Nat.le_of_ble_eq_true rfl) ?_
      refine WL.alloc rfl rfl (Nat.le_of_ble_eq_true rfl) fun b18 => ?_
      refine WL.store rfl (Ev.tmp rfl) (Ev.tmp rfl) rfl rfl rfl rfl (by (repeat (first | exact Upd.here | apply Upd.next))) ?_
      refine WL.po (PO.assign (Ev.tmp rfl)) (Nat.le_of_ble_eq_true rfl) ?_
      refine WL.nil (keepF (ts := [0, 1, 2, 3, 4, 5, 10, 11, 12, 13, 15, 17, 19, 31, 48, 55]) rfl (toK (by assumption) ?_)); (try clear hG ops)
      (repeat (first | refine WC.seqK fun K hK => ?_ | refine WC.block ?_ | refine WC.regionG rfl fun ops hG => ?_))
      refine WL.po (PO.move (Ev.tmp rfl)) (Nat.le_of_ble_eq_true rfl) ?_
      refine WL.po (PO.bin (Ev.tmp rfl) Ev.const rfl) (Nat.le_of_ble_eq_true rfl) ?_
      refine WL.po (PO.move (Ev.tmp rfl)) (Nat.le_of_ble_eq_true rfl) ?_
      refine WL.poT (hG _ _ rfl) rfl (fun hc => PO.move (Ev.tmp rfl)) (Nat.le_of_ble_eq_true rfl) ?_
      refine WL.poT (hG _ _ rfl) rfl (fun hc => PO.bin (Ev.gv rfl hc) Ev.const rfl) (Nat.le_of_ble_eq_true rfl) ?_
      refine WL.po (PO.pickAnd rfl rfl) (Nat.le_of_ble_eq_true rfl) ?_
      refine WL.po (PO.move (Ev.tmp rfl)) (Nat.le_of_ble_eq_true rfl) ?_
      refine WL.callT (v := .bool true) (hG _ _ rfl) rfl (fun hc => ⟨Ev.func, Evs.nil, awake_ct _ _⟩) (Nat.le_of_ble_eq_true rfl) fun m7 hm7 => ?_
      refine WL.po (PO.pickAnd rfl rfl) (Nat.le_of_ble_eq_true rfl) ?_
      refine WL.po (PO.assign (Ev.tmp rfl)) (Nat.le_of_ble_eq_true rfl) ?_
      refine WL.nil (keepF (ts := [0, 1, 2, 3, 4, 5, 10, 11, 12, 13, 15, 17, 19, 31, 48, 55]) rfl (toK (by assumption) ?_)); (try clear hG ops)
      exact WC.ret (end1 (h' := h) (.inl rfl) rfl (RV.tmp rfl) (hm13.trans (hm'.trans (hm4.trans (hm5.trans (hm6.trans hm7))))) (by (repeat (first | exact List.Sublist.refl _ | refine List.Sublist.cons_cons _ ?_ | apply List.Sublist.cons))) (by simp [Law, goR, torn2 hE _ hlt, torn3 hE]))
    refine WC.cond (Ev.tmp rfl) (fun _ => ?_) (fun hc => by cases hc)
    (repeat (first | refine WC.seqK fun K hK => ?_ | refine WC.block ?_ | refine WC.regionG rfl fun ops hG => ?_))
    refine WL.po (PO.move (Ev.tmp rfl)) (Nat.le_of_ble_eq_true rfl) ?_
    refine WL.call Ev.func (Evs.cons (Ev.tmp rfl) Evs.nil) (GetR.out (get_ct a2 _ c2 fs _ _ (Rd.ofRow (by rw [bv_len]; omega) hk4 hk5 (by (repeat (first | exact List.Mem.head _ | apply List.Mem.tail)))))) (Nat.le_of_ble_eq_true rfl) ?_
    rintro _ m4 _ hm4 ⟨a4, c4, rfl, rfl⟩
    refine WL.po (PO.move (Ev.tmp rfl)) (Nat.le_of_ble_eq_true rfl) ?_
    refine WL.po (PO.extract (Ev.tmp rfl) rfl) (Nat.le_of_ble_eq_true rfl) ?_
    refine WL.po (PO.extract (Ev.tmp rfl) rfl) (Nat.le_of_ble_eq_true rfl) ?_
    refine WL.alloc rfl rfl (Nat.le_of_ble_eq_true rfl) fun b14 => ?_
    refine WL.store rfl (Ev.tmp rfl) (Ev.tmp rfl) rfl rfl rfl rfl (by (repeat (first | exact Upd.here | apply Upd.next))) ?_
    refine WL.po (PO.assign (Ev.tmp rfl)) (Nat.le_of_ble_eq_true rfl) ?_
    refine WL.nil (keepF (ts := [0, 1, 2, 3, 4, 5, 10, 11, 12, 13, 15, 17, 19, 31, 48, 55]) rfl (toK (by assumption) ?_)); (try clear hG ops)
    (repeat (first | refine WC.seqK fun K hK => ?_ | refine WC.block ?_ | refine WC.regionG rfl fun ops hG => ?_))
    refine WL.po (PO.move (Ev.tmp rfl)) (Nat.le_of_ble_eq_true rfl) ?_
    refine WL.po (PO.bin (Ev.tmp rfl) Ev.const rfl) (Nat.le_of_ble_eq_true rfl) ?_
    refine WL.nil (keepF (ts := [0, 1, 2, 3, 4, 5, 10, 11, 12, 13, 15, 17, 19, 31, 48, 55]) rfl (toK (by assumption) ?_)); (try clear hG ops)
    refine WC.cond (Ev.tmp rfl) (fun hc => absurd hc (by simp [goR, hT])) (fun _ => ?_)
    refine WC.skip (keepF (ts := [3, 4, 11]) rfl (dropE (h' := .row (.slice a1 bs.length c1) 5 1 bs.length (bv bs) :: h) (by (repeat (first | exact List.Sublist.refl _ | refine List.Sublist.cons_cons _ ?_ | apply List.Sublist.cons))) (hrest m4 hm4)))
end Go.Proofs.Ytdfobghpbbohdaa

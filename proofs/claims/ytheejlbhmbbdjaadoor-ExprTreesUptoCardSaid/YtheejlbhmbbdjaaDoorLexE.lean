/- lex: the text of tokens, walked. -/
import Derived.Test.YtheejlbhmbbdjaaDoorLexC
import Derived.Test.YtheejlbhmbbdjaaDoorLexV
import Derived.Test.YtheejlbhmbbdjaaDoorEng8
namespace Go.Proofs.YtheejlbhmbbdjaaDoor
open Go.Eng Go.Lx Go.Ty
set_option maxRecDepth 100000
/-- The table of powers of ten that strconv reads. -/
def Pow (m : View) : Prop := ∀ h w, St m h w → Lib.TabIs Tryd.prog w "internal/strconv.uint64pow10" .u64 Lib.pow10Tab
theorem itoa_ct (v : Int) (h : List Res) (m : View) (hp : Pow m) (hv : -9223372036854775808 ≤ v ∧ v ≤ 9223372036854775807) : CT Tryd.prog 85 [.int .i64 v] h m (Pure1 h (str (Lib.itoa v))) :=
  CT.ofGrow Tryd.call85 fun w st => Tryd.strconv_Itoa v hv.1 hv.2 w (hp h w st)
theorem among_ct (t : Tok) (s : B) (h : List Res) (m : View) (hg : Glob m) (hs : s.length < 4294967281) : CT Tryd.prog 40 [tokV t, str s] h m (Pure1 h (.bool (amongT t s))) := by
  refine CT.body Tryd.call40 Tryd.func40 rfl Tryd.ntmps40 (leB rfl) rfl ?_
  (repeat (first | refine WC.seqK fun K hK => ?_ | refine WC.block ?_ | refine WC.regionG rfl fun ops hG => ?_))
  refine WL.box (Ev.tmp rfl) rfl (leB rfl) fun b2 => ?_
  refine WL.po (PO.assign Ev.const) (leB rfl) ?_
  refine WL.nil (keepF (ts := [1, 2]) rfl (toK (by assumption) ?_))
  (try clear hG ops)
  (repeat (first | refine WC.seqK fun K hK => ?_ | refine WC.block ?_ | refine WC.regionG rfl fun ops hG => ?_))
  refine WL.po (PO.fieldAddr Tryd.underlying36 rfl (Nat.ne_of_beq_eq_false rfl) (Ev.tmp rfl)) (leB rfl) ?_
  refine WL.po (PO.load1 Tryd.underlying34 rfl (Ev.tmp rfl) (by (repeat (first | exact mem0 _ | apply memT))) rfl) (leB rfl) ?_
  refine WL.po (PO.bin (Ev.tmp rfl) Ev.const rfl) (leB rfl) ?_
  refine WL.po (PO.move (Ev.tmp rfl)) (leB rfl) ?_
  refine WL.poG (GU.t (hG _ _ rfl) rfl) (fun hc => PO.move (Ev.tmp rfl)) (leB rfl) ?_
  refine WL.poG (GU.t (hG _ _ rfl) rfl) (fun hc => PO.fieldAddr Tryd.underlying36 rfl (Nat.ne_of_beq_eq_false rfl) (Ev.tmp rfl)) (leB rfl) ?_
  refine WL.poG (GU.t (hG _ _ rfl) rfl) (fun hc => PO.load1 Tryd.underlying9 rfl (Ev.gv rfl hc) (by (repeat (first | exact mem0 _ | apply memT))) rfl) (leB rfl) ?_
  refine WL.callG (GU.t (hG _ _ rfl) rfl) (fun hc => ⟨Ev.func, (Evs.cons (Ev.gv rfl hc) (Evs.cons (Ev.gv rfl hc) Evs.nil)), contains_ct hg s t.text hs _⟩) (leB rfl) ?_
  refine WL.po (PO.pickAnd rfl rfl) (leB rfl) ?_
  refine WL.po (PO.assign (Ev.tmp rfl)) (leB rfl) ?_
  refine WL.nil (keepF (ts := [4]) rfl (toK (by assumption) ?_))
  (try clear hG ops)
  refine WC.ret (end1 (h' := h) (.inl rfl) rfl (RV.tmp rfl) (View.le.refl m) (by (repeat (first | exact sub0 _ | exact subA _ _ | refine subC _ ?_ | apply subK | refine subT _ ?_))) ?_)
  exact ⟨rfl, rfl⟩
theorem slice_one {s : B} {k : Nat} (h : k < s.length) : (s.drop k).take (k + 1 - k) = [s.getD k 0] := by
  rw [List.drop_eq_getElem_cons h, Nat.add_sub_cancel_left, List.take_succ_cons, List.take_zero, List.getD_eq_getElem?_getD, List.getElem?_eq_getElem h]
  rfl
theorem wrapB (v : Nat) : IntKind.u8.wrap (v : Int) = ((UInt8.ofNat v).toNat : Int) := by
  rw [UInt8.toNat_ofNat']
  unfold IntKind.wrap
  simp [IntKind.bits, IntKind.signed]
theorem shr4 (v : Nat) : bshr .i32 (v : Int) 4 = ((v / 16 : Nat) : Int) := by
  unfold bshr
  rw [Int.fdiv_eq_ediv_of_nonneg _ (by decide)]
  simp [IntKind.bits]
theorem and15 {v : Nat} (h : v < 256) : band .i32 (v : Int) 15 = ((v % 16 : Nat) : Int) := by
  have : ∀ v, v < 256 → band .i32 ((v : Nat) : Int) 15 = ((v % 16 : Nat) : Int) := by decide +kernel
  exact this v h
theorem succ32 {v : Nat} (h : v < 256) : IntKind.i32.wrap ((v : Int) + 1) = ((v + 1 : Nat) : Int) := by
  unfold IntKind.wrap
  simp [IntKind.bits, IntKind.signed]
  omega
theorem shown_ct (v : Nat) (h : List Res) (m : View) (hv : v < 256) : CT Tryd.prog 68 [.int .i32 v] h m (Pure1 h (str (shownP v))) := by
  have hI := indexB_le (UInt8.ofNat v) cntB
  have hI5 : shI v ≤ 4 := hI
  refine CT.body Tryd.call68 Tryd.func68 rfl Tryd.ntmps68 (leB rfl) rfl ?_
  (repeat (first | refine WC.seqK fun K hK => ?_ | refine WC.block ?_ | refine WC.regionG rfl fun ops hG => ?_))
  refine WL.po (PO.assign Ev.const) (leB rfl) ?_
  refine WL.nil (keepF (ts := [0]) rfl (toK (by assumption) ?_))
  (try clear hG ops)
  (repeat (first | refine WC.seqK fun K hK => ?_ | refine WC.block ?_ | refine WC.regionG rfl fun ops hG => ?_))
  refine WL.po (PO.move (Ev.tmp rfl)) (leB rfl) ?_
  refine WL.po (PO.conv Tryd.underlying21 Tryd.underlying5 (Ev.tmp rfl)) (leB rfl) ?_
  refine WL.val (v' := .int .u8 ((UInt8.ofNat v).toNat : Int)) (congrArg (Value.int .u8) (wrapB v)) ?_
  refine WL.callP Ev.func (Evs.cons Ev.const (Evs.cons (Ev.tmp rfl) Evs.nil)) (CT.argsE rfl (idx_ct cntB (UInt8.ofNat v) _ _)) (leB rfl) ?_
  refine WL.val (v' := .int .i64 (shI v)) rfl ?_
  refine WL.po (PO.assign (Ev.tmp rfl)) (leB rfl) ?_
  refine WL.nil (keepF (ts := [0, 3]) rfl (toK (by assumption) ?_))
  (try clear hG ops)
  (repeat (first | refine WC.seqK fun K hK => ?_ | refine WC.block ?_ | refine WC.regionG rfl fun ops hG => ?_))
  refine WL.po (PO.move (Ev.tmp rfl)) (leB rfl) ?_
  refine WL.po (PO.bin (Ev.tmp rfl) Ev.const rfl) (leB rfl) ?_
  refine WL.po (PO.assign (Ev.tmp rfl)) (leB rfl) ?_
  refine WL.nil (keepF (ts := [0, 3, 7]) rfl (toK (by assumption) ?_))
  (try clear hG ops)
  (repeat (first | refine WC.seqK fun K hK => ?_ | refine WC.block ?_ | refine WC.regionG rfl fun ops hG => ?_))
  refine WC.cond (Ev.tmp rfl) (fun c7 => ?_) (fun c7 => ?_)
  · have d7 : 0 ≤ shI v := of_decide_eq_true c7
    obtain ⟨k, hk⟩ : ∃ k : Nat, shI v = k := ⟨(shI v).toNat, by omega⟩
    rw [hk]
    have hk5 : k < cntS.length := by show k < 5; omega
    (repeat (first | refine WC.seqK fun K hK => ?_ | refine WC.block ?_ | refine WC.regionG rfl fun ops hG => ?_))
    refine WL.po (PO.move (Ev.tmp rfl)) (leB rfl) ?_
    refine WL.po (PO.move (Ev.tmp rfl)) (leB rfl) ?_
    refine WL.po (PO.addI (Ev.tmp rfl) Ev.const (by omega)) (leB rfl) ?_
    refine WL.val (v' := .int .i64 ((k + 1 : Nat) : Int)) (congrArg (Value.int .i64) (by omega)) ?_
    refine WL.po (PO.sliceSLH (s := cntS) (l := k) (u := k + 1) Tryd.underlying9 Ev.const (Ev.tmp rfl) (Ev.tmp rfl) rfl rfl (by omega) (by omega)) (leB rfl) ?_
    refine WL.val (v' := str [cntS.getD k 0]) (congrArg str (slice_one hk5)) ?_
    refine WL.po (PO.catS Ev.const (Ev.tmp rfl) (by simp)) (leB rfl) ?_
    refine WL.po (PO.assign (Ev.tmp rfl)) (leB rfl) ?_
    refine WL.nil (keepF (ts := [2]) rfl (toK (by assumption) ?_))
    (try clear hG ops)
    refine WC.ret (end1 (h' := h) (.inl rfl) rfl (RV.tmp rfl) (View.le.refl m) (by (repeat (first | exact sub0 _ | exact subA _ _ | refine subC _ ?_ | apply subK | refine subT _ ?_))) ?_)
    exact ⟨by unfold shownP; rw [c7, hk]; rfl, rfl⟩
  · (repeat (first | refine WC.seqK fun K hK => ?_ | refine WC.block ?_ | refine WC.regionG rfl fun ops hG => ?_))
    refine WL.po (PO.move (Ev.tmp rfl)) (leB rfl) ?_
    refine WL.po (PO.bin (Ev.tmp rfl) Ev.const rfl) (leB rfl) ?_
    refine WL.po (PO.move (Ev.tmp rfl)) (leB rfl) ?_
    refine WL.poG (GU.f (hG _ _ rfl) rfl) (fun hc => PO.move (Ev.tmp rfl)) (leB rfl) ?_
    refine WL.poG (GU.f (hG _ _ rfl) rfl) (fun hc => PO.bin (Ev.gv rfl hc) Ev.const rfl) (leB rfl) ?_
    refine WL.po (PO.pickOr rfl rfl) (leB rfl) ?_
    refine WL.po (PO.assign (Ev.tmp rfl)) (leB rfl) ?_
    refine WL.nil (keepF (ts := [0, 15]) rfl (toK (by assumption) ?_))
    (try clear hG ops)
    (repeat (first | refine WC.seqK fun K hK => ?_ | refine WC.block ?_ | refine WC.regionG rfl fun ops hG => ?_))
    refine WC.cond (Ev.tmp rfl) (fun c15 => ?_) (fun c15 => ?_)
    · (repeat (first | refine WC.seqK fun K hK => ?_ | refine WC.block ?_ | refine WC.regionG rfl fun ops hG => ?_))
      refine WC.drawS [] (.op 0 (.op 1 (.op 2 (.op 3 (.op 4 (.op 5 (.op 6 (.op 7 (.op 8 (.op 9 (.op 10 (.op 11 (.op 12 .nil))))))))))))) [13, 14] _ [] mixed (fun _ _ _ _ _ h => h) [] (by kernel_rfl) ?_
      refine SR.po rfl rfl (PO.move (Ev.tmp rfl)) (leB rfl) ?_
      refine SR.po rfl rfl (PO.shr (Ev.tmp rfl) Ev.const (by decide)) (leB rfl) ?_
      refine SR.val (v' := .int .i32 ((v / 16 : Nat) : Int)) (congrArg (Value.int .i32) (shr4 v)) ?_
      refine SR.po rfl rfl (PO.move (Ev.tmp rfl)) (leB rfl) ?_
      refine SR.po rfl rfl (PO.shr (Ev.tmp rfl) Ev.const (by decide)) (leB rfl) ?_
      refine SR.val (v' := .int .i32 ((v / 16 : Nat) : Int)) (congrArg (Value.int .i32) (shr4 v)) ?_
      refine SR.po rfl rfl (PO.bin (Ev.tmp rfl) Ev.const rfl) (leB rfl) ?_
      refine SR.val (v' := .int .i32 ((v / 16 + 1 : Nat) : Int)) (congrArg (Value.int .i32) (succ32 (by omega))) ?_
      refine SR.po rfl rfl (PO.sliceSLH (s := capitalB) (l := v / 16) (u := v / 16 + 1) Tryd.underlying9 Ev.const (Ev.tmp rfl) (Ev.tmp rfl) rfl rfl (by omega) (by show _ ≤ 16; omega)) (leB rfl) ?_
      refine SR.val (v' := str [capitalB.getD (v / 16) 0]) (congrArg str (slice_one (by show _ < 16; omega))) ?_
      refine SR.po rfl rfl (PO.catS Ev.const (Ev.tmp rfl) (by simp)) (leB rfl) ?_
      refine SR.po rfl rfl (PO.move (Ev.tmp rfl)) (leB rfl) ?_
      refine SR.po rfl rfl (PO.bin (Ev.tmp rfl) Ev.const rfl) (leB rfl) ?_
      refine SR.val (v' := .int .i32 ((v % 16 : Nat) : Int)) (congrArg (Value.int .i32) (and15 hv)) ?_
      refine SR.po rfl rfl (PO.move (Ev.tmp rfl)) (leB rfl) ?_
      refine SR.po rfl rfl (PO.bin (Ev.tmp rfl) Ev.const rfl) (leB rfl) ?_
      refine SR.val (v' := .int .i32 ((v % 16 : Nat) : Int)) (congrArg (Value.int .i32) (and15 hv)) ?_
      refine SR.po rfl rfl (PO.bin (Ev.tmp rfl) Ev.const rfl) (leB rfl) ?_
      refine SR.val (v' := .int .i32 ((v % 16 + 1 : Nat) : Int)) (congrArg (Value.int .i32) (succ32 (by omega))) ?_
      refine SR.po rfl rfl (PO.sliceSLH (s := capitalB) (l := v % 16) (u := v % 16 + 1) Tryd.underlying9 Ev.const (Ev.tmp rfl) (Ev.tmp rfl) rfl rfl (by omega) (by show _ ≤ 16; omega)) (leB rfl) ?_
      refine SR.val (v' := str [capitalB.getD (v % 16) 0]) (congrArg str (slice_one (by show _ < 16; omega))) ?_
      refine SR.nil rfl rfl ?_
      refine WL.po (PO.catS (Ev.tmp rfl) (Ev.tmp rfl) (by simp)) (leB rfl) ?_
      refine WL.po (PO.assign (Ev.tmp rfl)) (leB rfl) ?_
      refine WL.nil (keepF (ts := [2]) rfl (toK (by assumption) ?_))
      (try clear hG ops)
      refine WC.ret (end1 (h' := h) (.inl rfl) rfl (RV.tmp rfl) (View.le.refl m) (by (repeat (first | exact sub0 _ | exact subA _ _ | refine subC _ ?_ | apply subK | refine subT _ ?_))) ?_)
      exact ⟨by unfold shownP; rw [c7, c15]; rfl, rfl⟩
    · have hv2 : v < 128 := by simp at c15; omega
      refine WC.skip (keepF (ts := [0]) rfl (toK (by assumption) ?_))
      (repeat (first | refine WC.seqK fun K hK => ?_ | refine WC.block ?_ | refine WC.regionG rfl fun ops hG => ?_))
      refine WL.po (PO.move (Ev.tmp rfl)) (leB rfl) ?_
      refine WL.po (PO.intS Tryd.underlying21 Tryd.underlying9 (Ev.tmp rfl) rfl hv2) (leB rfl) ?_
      refine WL.po (PO.assign (Ev.tmp rfl)) (leB rfl) ?_
      refine WL.nil (keepF (ts := [2]) rfl (toK (by assumption) ?_))
      (try clear hG ops)
      refine WC.ret (end1 (h' := h) (.inl rfl) rfl (RV.tmp rfl) (View.le.refl m) (by (repeat (first | exact sub0 _ | exact subA _ _ | refine subC _ ?_ | apply subK | refine subT _ ?_))) ?_)
      exact ⟨by unfold shownP; rw [c7, c15]; rfl, rfl⟩
theorem shr_hex {u i : Nat} (hi : i < 8) : bshr .u32 (u : Int) (4 * (i : Int)) = ((u / 16 ^ i : Nat) : Int) := by
  unfold bshr
  rw [show min (4 * (i : Int)).toNat IntKind.u32.bits = 4 * i by show min _ 32 = _; omega, Int.fdiv_eq_ediv_of_nonneg _ (Int.le_of_lt (Int.pow_pos (by decide)))]
  rw [show (16 : Nat) ^ i = 2 ^ (4 * i) by rw [Nat.pow_mul]]
  simp
theorem and_hex (x : Nat) (hx : x < 4294967296) : band .u32 (x : Int) 15 = ((x % 16 : Nat) : Int) := by
  have e : (BitVec.ofInt 32 (x : Int) &&& BitVec.ofInt 32 15).toNat = x % 16 := by
    rw [BitVec.toNat_and, BitVec.ofInt_natCast, BitVec.toNat_ofNat, Nat.mod_eq_of_lt (by omega), show (BitVec.ofInt 32 15).toNat = 2 ^ 4 - 1 from rfl, Nat.and_two_pow_sub_one_eq_mod]
  unfold band
  rw [show IntKind.u32.bits = 32 from rfl, e, wrap_hex (by omega)]
theorem bv_app (a b : B) : bv (a ++ b) = bv a ++ bv b := by simp [bv]
theorem setB {k j : Nat} {x : UInt8} {r : B} (hj : j = k + 1) : (bv (35 :: (List.replicate (k + 1) 0 ++ r))).set (0 + j * 1) (.int .u8 x.toNat) = bv (35 :: (List.replicate k 0 ++ (x :: r))) := by
  subst hj
  rw [Nat.zero_add, Nat.mul_one]
  have e : ∀ (k : Nat), (bv (List.replicate (k + 1) 0 ++ r)).set k (.int .u8 x.toNat) = bv (List.replicate k 0 ++ (x :: r)) := by
    intro k
    induction k with
    | zero => rfl
    | succ k ih =>
      show _ :: (bv (List.replicate (k + 1) 0 ++ r)).set k _ = _
      rw [ih]
      rfl
  show _ :: (bv (List.replicate (k + 1) 0 ++ r)).set k _ = _
  rw [e]
  rfl
theorem wordP_ct (v : Int) (b : Bool) (h : List Res) (m : View) (hp : Pow m) (hv : -2147483648 ≤ v ∧ v ≤ 2147483647) : CT Tryd.prog 67 [.int .i32 v, .bool b] h m (Pure1 h (str (wordP v b))) := by
  obtain ⟨u, hu⟩ : ∃ u : Nat, IntKind.u32.wrap v = u := ⟨(IntKind.u32.wrap v).toNat, by
    have : 0 ≤ IntKind.u32.wrap v := by unfold IntKind.wrap; simp [IntKind.bits, IntKind.signed]; omega
    omega⟩
  have hu32 : u < 4294967296 := by
    have : IntKind.u32.wrap v < 4294967296 := by unfold IntKind.wrap; simp [IntKind.bits, IntKind.signed]; omega
    omega
  refine CT.body Tryd.call67 Tryd.func67 rfl Tryd.ntmps67 (leB rfl) rfl ?_
  (repeat (first | refine WC.seqK fun K hK => ?_ | refine WC.block ?_ | refine WC.regionG rfl fun ops hG => ?_))
  refine WL.po (PO.assign Ev.const) (leB rfl) ?_
  refine WL.nil (keepF (ts := [0, 1]) rfl (toK (by assumption) ?_))
  (try clear hG ops)
  (repeat (first | refine WC.seqK fun K hK => ?_ | refine WC.block ?_ | refine WC.regionG rfl fun ops hG => ?_))
  refine WL.po (PO.move (Ev.tmp rfl)) (leB rfl) ?_
  refine WL.po (PO.not (Ev.tmp rfl)) (leB rfl) ?_
  refine WL.nil (keepF (ts := [0, 8]) rfl (toK (by assumption) ?_))
  (try clear hG ops)
  (repeat (first | refine WC.seqK fun K hK => ?_ | refine WC.block ?_ | refine WC.regionG rfl fun ops hG => ?_))
  refine WC.cond (Ev.tmp rfl) (fun c8 => ?_) (fun c8 => ?_)
  · have d8 : b = false := by simpa using c8
    subst d8
    (repeat (first | refine WC.seqK fun K hK => ?_ | refine WC.block ?_ | refine WC.regionG rfl fun ops hG => ?_))
    refine WL.po (PO.move (Ev.tmp rfl)) (leB rfl) ?_
    refine WL.po (PO.conv Tryd.underlying21 Tryd.underlying3 (Ev.tmp rfl)) (leB rfl) ?_
    refine WL.val (v' := .int .i64 v) (congrArg (Value.int .i64) (by unfold IntKind.wrap; simp [IntKind.bits, IntKind.signed]; omega)) ?_
    refine WL.callP Ev.func (Evs.cons (Ev.tmp rfl) Evs.nil) (itoa_ct v _ _ hp (by omega)) (leB rfl) ?_
    refine WL.po (PO.assign (Ev.tmp rfl)) (leB rfl) ?_
    refine WL.nil (keepF (ts := [4]) rfl (toK (by assumption) ?_))
    (try clear hG ops)
    refine WC.ret (end1 (h' := h) (.inl rfl) rfl (RV.tmp rfl) (View.le.refl m) (by (repeat (first | exact sub0 _ | exact subA _ _ | refine subC _ ?_ | apply subK | refine subT _ ?_))) ?_)
    exact ⟨rfl, rfl⟩
  · have d8 : b = true := by simpa using c8
    subst d8
    refine WC.skip (keepF (ts := [0]) rfl (toK (by assumption) ?_))
    (repeat (first | refine WC.seqK fun K hK => ?_ | refine WC.block ?_ | refine WC.regionG rfl fun ops hG => ?_))
    refine WL.po (PO.buildArr Tryd.underlying102 rfl rfl rfl (EvP.cons Ev.const EvP.nil) rfl) (leB rfl) ?_
    refine WL.alloc rfl rfl (leB rfl) fun b5 => ?_
    refine WL.store rfl (Ev.tmp rfl) (Ev.tmp rfl) rfl rfl rfl rfl (by (repeat (first | exact Upd.here | apply Upd.next))) ?_
    refine WL.nil (keepF (ts := [0, 5]) rfl (toK (by assumption) ?_))
    (try clear hG ops)
    (repeat (first | refine WC.seqK fun K hK => ?_ | refine WC.block ?_ | refine WC.regionG rfl fun ops hG => ?_))
    refine WL.po (PO.move Ev.const) (leB rfl) ?_
    refine WL.nil (keepF (ts := [0, 5, 13]) rfl (toK (by assumption) ?_))
    (try clear hG ops)
    (repeat (first | refine WC.seqK fun K hK => ?_ | refine WC.block ?_ | refine WC.regionG rfl fun ops hG => ?_))
    refine WC.loopI [0, 5] rfl (fun μ F' h' => ∃ i : Nat, (i ≤ 8) ∧ 8 - i = μ ∧ F' = [(13, .int .i64 i)] ∧ .pt b5 (.cells (bv (35 :: (List.replicate (8 - i) 0 ++ hexDig u i))).toArray 102 (0, 0)) :: h = h') (8 - 0) [(13, .int .i64 0)] (h0 := .pt b5 (.cells (bv (35 :: (List.replicate (8 - 0) 0 ++ hexDig u 0))).toArray 102 (0, 0)) :: h) ?_ (by (repeat (first | exact sub0 _ | exact subA _ _ | refine subC _ ?_ | apply subK | refine subT _ ?_))) ⟨0, by omega, rfl, rfl, rfl⟩ ?_
    · (repeat (first | exact Sub.nil | refine Sub.cons rfl ?_ | refine Sub.consE rfl (by simp; done) ?_))
    rintro _ _ _ ⟨i, hJ, rfl, rfl, rfl⟩
    refine WC.frm rfl ?_
    (repeat (first | refine WC.seqK fun K hK => ?_ | refine WC.block ?_ | refine WC.regionG rfl fun ops hG => ?_))
    refine WL.po (PO.bin (Ev.tmp rfl) Ev.const rfl) (leB rfl) ?_
    refine WL.nil (keepF (ts := [0, 5, 13, 14]) rfl (toK (by assumption) ?_))
    (try clear hG ops)
    (repeat (first | refine WC.seqK fun K hK => ?_ | refine WC.block ?_ | refine WC.regionG rfl fun ops hG => ?_))
    refine WC.cond (Ev.tmp rfl) (fun c14 => ?_) (fun c14 => ?_)
    · replace c14 := of_decide_eq_true c14
      have hd : u / 16 ^ i % 16 < 16 := Nat.mod_lt _ (by decide)
      obtain ⟨x, hx⟩ := get_some (l := capitalB) (k := u / 16 ^ i % 16) hd
      have hx' : capitalB.getD (u / 16 ^ i % 16) 0 = x := by rw [List.getD_eq_getElem?_getD, hx]; rfl
      have hle : u / 16 ^ i < 4294967296 := Nat.lt_of_le_of_lt (Nat.div_le_self _ _) hu32
      refine WC.skip (keepF (ts := [0, 5, 13]) rfl (toK (by assumption) ?_))
      (repeat (first | refine WC.seqK fun K hK => ?_ | refine WC.block ?_ | refine WC.regionG rfl fun ops hG => ?_))
      refine WL.po (PO.move (Ev.tmp rfl)) (leB rfl) ?_
      refine WL.po (PO.assign (Ev.tmp rfl)) (leB rfl) ?_
      refine WL.nil (keepF (ts := [0, 5, 6, 13]) rfl (toK (by assumption) ?_))
      (try clear hG ops)
      (repeat (first | refine WC.seqK fun K hK => ?_ | refine WC.block ?_ | refine WC.regionG rfl fun ops hG => ?_))
      refine WL.po (PO.move (Ev.tmp rfl)) (leB rfl) ?_
      refine WL.po (PO.subI Ev.const (Ev.tmp rfl) (by omega)) (leB rfl) ?_
      refine WL.po (PO.move (Ev.tmp rfl)) (leB rfl) ?_
      refine WL.po (PO.conv Tryd.underlying21 Tryd.underlying103 (Ev.tmp rfl)) (leB rfl) ?_
      refine WL.val (v' := .int .u32 (u : Int)) (congrArg (Value.int .u32) hu) ?_
      refine WL.po (PO.move (Ev.tmp rfl)) (leB rfl) ?_
      refine WL.po (PO.mulI Ev.const (Ev.tmp rfl) (by omega)) (leB rfl) ?_
      refine WL.po (PO.shr (Ev.tmp rfl) (Ev.tmp rfl) (by omega)) (leB rfl) ?_
      refine WL.val (v' := .int .u32 ((u / 16 ^ i : Nat) : Int)) (congrArg (Value.int .u32) (shr_hex (by omega))) ?_
      refine WL.po (PO.bin (Ev.tmp rfl) Ev.const rfl) (leB rfl) ?_
      refine WL.val (v' := .int .u32 ((u / 16 ^ i % 16 : Nat) : Int)) (congrArg (Value.int .u32) (and_hex _ hle)) ?_
      refine WL.po (PO.idxS (l := capitalB) (q := u / 16 ^ i % 16) Tryd.underlying9 Ev.const (Ev.tmp rfl) rfl hx) (leB rfl) ?_
      refine WL.po (PO.idxA (sz := 1) Tryd.underlying102 rfl (Ev.tmp rfl) (Ev.tmp rfl) (q := 8 - i) (by omega) (by omega)) (leB rfl) ?_
      refine WL.storeC (cs := bv (35 :: (List.replicate (8 - i) 0 ++ hexDig u i))) rfl (Ev.tmp rfl) (Ev.tmp rfl) rfl rfl (by rw [bv_len]; simp [hexDig_len]; omega) (by (repeat (first | exact Upd.here | apply Upd.next))) ?_
      refine WL.ptE (cs := (bv (35 :: (List.replicate (8 - i) 0 ++ hexDig u i))).set (0 + (8 - i) * 1) _) (cs' := bv (35 :: (List.replicate (8 - (i + 1)) 0 ++ hexDig u (i + 1)))) (by rw [hexDig_app, hx', show 8 - i = 8 - (i + 1) + 1 by omega]; exact setB rfl) (by (repeat (first | exact Upd.here | apply Upd.next))) ?_
      refine WL.nil (keepF (ts := [0, 5, 13]) rfl (toK (by assumption) ?_))
      (try clear hG ops)
      (repeat (first | refine WC.seqK fun K hK => ?_ | refine WC.block ?_ | refine WC.regionG rfl fun ops hG => ?_))
      refine WL.po (PO.addI (Ev.tmp rfl) Ev.const (by omega)) (leB rfl) ?_
      refine WL.po (PO.move (Ev.tmp rfl)) (leB rfl) ?_
      refine WL.nil (loopBackI (8 - (i + 1)) [(13, .int .i64 (i + 1))] (h'' := .pt b5 (.cells (bv (35 :: (List.replicate (8 - (i + 1)) 0 ++ hexDig u (i + 1)))).toArray 102 (0, 0)) :: h) (by omega) ?_ (by (repeat (first | exact Sub.nil | refine Sub.cons rfl ?_ | refine Sub.consE rfl (by simp; done) ?_))) (by (repeat (first | exact sub0 _ | exact subA _ _ | refine subC _ ?_ | apply subK | refine subT _ ?_))) ⟨i + 1, by omega, rfl, rfl, rfl⟩)
      (repeat (first | exact Sub.nil | refine Sub.cons rfl ?_ | refine Sub.consE rfl (by simp; done) ?_))
    · replace c14 := of_decide_eq_false c14
      have e : i = 8 := by omega
      subst e
      refine WC.exit (keepF (ts := [5]) rfl (toK (by assumption) ?_))
      (repeat (first | refine WC.seqK fun K hK => ?_ | refine WC.block ?_ | refine WC.regionG rfl fun ops hG => ?_))
      refine WL.po (PO.sliceArr Tryd.underlying102 rfl (by decide) (Ev.tmp rfl)) (leB rfl) ?_
      refine WL.po (PO.strOf (bs := 35 :: hexDig u 8) Tryd.underlying104 Tryd.underlying5 Tryd.underlying9 (Ev.tmp rfl) (Rd.ofPt rfl (by decide) (List.Mem.head _))) (leB rfl) ?_
      refine WL.po (PO.assign (Ev.tmp rfl)) (leB rfl) ?_
      refine WL.nil (keepF (ts := [4]) rfl (toK (by assumption) ?_))
      (try clear hG ops)
      refine WC.ret (end1 (h' := h) (.inl rfl) rfl (RV.tmp rfl) (View.le.refl m) (by (repeat (first | exact sub0 _ | exact subA _ _ | refine subC _ ?_ | apply subK | refine subT _ ?_))) ?_)
      exact ⟨by unfold wordP; rw [hu]; rfl, rfl⟩
end Go.Proofs.YtheejlbhmbbdjaaDoor

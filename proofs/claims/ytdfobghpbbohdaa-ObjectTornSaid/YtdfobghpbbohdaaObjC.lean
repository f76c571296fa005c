/- object: Get, and the reference's. -/
import Derived.Test.YtdfobghpbbohdaaObjB
import Derived.Test.YtdfobghpbbohdaaEng6
namespace Go.Proofs.Ytdfobghpbbohdaa
open Go.Eng Go.Obj

theorem word_ct' (s : Option Addr) (n c : Nat) (bs : List UInt8) (h : List Res) (m : View) (hs : Rd m h s n c 1 (bv bs)) (hl : 4 ≤ n) :
    CT Try.prog 27 [.slice s n c] h m (Pure1 h (.int .i64 (rd4 bs))) := by
  have h0 := hs.lenB
  match bs, hs, h0 with
  | b0 :: b1 :: b2 :: b3 :: l, hs, _ => exact word_ct s n c b0 b1 b2 b3 l h m hs
  | [], _, h0 | [_], _, h0 | [_, _], _, h0 | [_, _, _], _, h0 => simp at h0; omega
theorem number_ct' (s : Option Addr) (n c : Nat) (bs : List UInt8) (h : List Res) (m : View) (hs : Rd m h s n c 1 (bv bs)) (hl : 4 ≤ n) :
    CT Try.prog 28 [.slice s n c] h m (Pure1 h (.int .u32 (rd4 bs))) := by
  have h0 := hs.lenB
  match bs, hs, h0 with
  | b0 :: b1 :: b2 :: b3 :: l, hs, _ => exact number_ct s n c b0 b1 b2 b3 l h m hs
  | [], _, h0 | [_], _, h0 | [_, _], _, h0 | [_, _, _], _, h0 => simp at h0; omega
theorem rd4_take (bs : List UInt8) : rd4 (bs.take 4) = rd4 bs := by
  match bs with
  | b0 :: b1 :: b2 :: b3 :: l => rfl
  | [] | [_] | [_, _] | [_, _, _] => rfl

def gC (bs : List UInt8) : List UInt8 := (bs.drop 20).take (bs.length - 24)
def gE (bs : List UInt8) : Nat := rd4 (bs.drop 8)
def gA (bs : List UInt8) : Nat := rd4 (bs.drop 12)
def gB (bs : List UInt8) : Nat := rd4 (bs.drop 16)
def fits (bs : List UInt8) : Bool := mayB (gC bs).length (gE bs) (gA bs) (gB bs) && (bs == enc (gC bs) (gE bs) (gA bs) (gB bs))
/-- Are the bytes an encoding? -/
def isE (bs : List UInt8) : Bool := decide (24 < bs.length) && (decide (bs.length ≤ 32792) && fits bs)
theorem gC_len (bs : List UInt8) : (gC bs).length = bs.length - 24 := by simp [gC]; omega

/-- What Get hands back. -/
def GetR (h : List Res) (bs : List UInt8) : Value → View → List Res → Prop := fun v _ h' =>
  (isE bs = false ∧ v = .tuple #[obV none 0 0 0 0 0, .int .i64 270] ∧ h' = h) ∨
  (isE bs = true ∧ ∃ a c, v = .tuple #[obV a (gC bs).length c (gE bs) (gA bs) (gB bs), .int .i64 0] ∧ h' = .row (.slice a (gC bs).length c) 5 1 (gC bs).length (bv (gC bs)) :: h)

theorem get_ct (s : Option Addr) (n c : Nat) (bs : List UInt8) (h : List Res) (m : View) (h1 : Rd m h s n c 1 (bv bs)) :
    CT Try.prog 17 [.slice s n c] h m (GetR h bs) := by
  have hn := h1.lenB
  have hgl := gC_len bs
  have hle := h1.le
  have hmx := h1.mx
  refine CT.body Try.call17 Try.func17 rfl Try.ntmps17 (Nat.le_of_ble_eq_true rfl) rfl ?_
  (repeat (first | refine WC.seqK fun K hK => ?_ | refine WC.block ?_ | refine WC.regionG rfl fun ops hG => ?_))
  refine WL.alloc rfl rfl (Nat.le_of_ble_eq_true rfl) fun b2 => ?_
  refine WL.po (PO.assign Ev.const) (Nat.le_of_ble_eq_true rfl) ?_
  refine WL.nil (keepF (ts := [0, 2, 3, 4, 5, 6, 14, 44]) rfl (toK (by assumption) ?_)); (try clear hG ops)
  (repeat (first | refine WC.seqK fun K hK => ?_ | refine WC.block ?_ | refine WC.regionG rfl fun ops hG => ?_))
  refine WL.po (PO.move (Ev.tmp rfl)) (Nat.le_of_ble_eq_true rfl) ?_
  refine WL.po (PO.lenSl Try.underlying22 (Ev.tmp rfl)) (Nat.le_of_ble_eq_true rfl) ?_
  refine WL.po (PO.bin (Ev.tmp rfl) Ev.const rfl) (Nat.le_of_ble_eq_true rfl) ?_
  refine WL.po (PO.move (Ev.tmp rfl)) (Nat.le_of_ble_eq_true rfl) ?_
  refine WL.poF (hG _ _ rfl) rfl (fun hc => PO.move (Ev.tmp rfl)) (Nat.le_of_ble_eq_true rfl) ?_
  refine WL.poF (hG _ _ rfl) rfl (fun hc => PO.lenSl Try.underlying22 (Ev.gv rfl hc)) (Nat.le_of_ble_eq_true rfl) ?_
  refine WL.poF (hG _ _ rfl) rfl (fun hc => PO.bin (Ev.gv rfl hc) Ev.const rfl) (Nat.le_of_ble_eq_true rfl) ?_
  refine WL.po (PO.pickOr rfl rfl) (Nat.le_of_ble_eq_true rfl) ?_
  refine WL.nil (keepF (ts := [0, 2, 3, 4, 5, 6, 14, 44]) rfl (toK (by assumption) ?_)); (try clear hG ops)
  (repeat (first | refine WC.seqK fun K hK => ?_ | refine WC.block ?_ | refine WC.regionG rfl fun ops hG => ?_))
  refine WC.cond (Ev.tmp rfl) (fun hc => ?_) (fun hc => ?_)
  · (repeat (first | refine WC.seqK fun K hK => ?_ | refine WC.block ?_ | refine WC.regionG rfl fun ops hG => ?_))
    refine WL.po (PO.build Try.underlying24 rfl rfl rfl EvP.nil rfl) (Nat.le_of_ble_eq_true rfl) ?_
    refine WL.store rfl (Ev.tmp rfl) (Ev.tmp rfl) rfl rfl rfl rfl (by (repeat (first | exact Upd.here | apply Upd.next))) ?_
    refine WL.po (PO.assign Ev.const) (Nat.le_of_ble_eq_true rfl) ?_
    refine WL.nil (keepF (ts := [0, 2, 3, 4, 5, 6, 14, 44]) rfl (toK (by assumption) ?_)); (try clear hG ops)
    have : isE bs = false := by simp only [Bool.or_eq_true, decide_eq_true_eq] at hc; unfold isE; rw [hn]; rcases hc with hc | hc <;> simp <;> omega
    exact WC.ret (end2 (.inl rfl) rfl (RV.cellA Try.underlying24 rfl rfl rfl (by (repeat (first | exact List.Mem.head _ | apply List.Mem.tail))) rfl) (RV.tmp rfl) (View.le.refl m) (by (repeat (first | exact List.Sublist.refl _ | refine List.Sublist.cons_cons _ ?_ | apply List.Sublist.cons))) (.inl ⟨this, rfl, rfl⟩))
  · refine WC.skip (keepF (ts := [0, 2, 3, 4, 5, 6, 14, 44]) rfl (toK (by assumption) ?_))
    simp only [Bool.or_eq_false_iff, decide_eq_false_iff_not] at hc
    have hn1 : 24 < n := by omega
    have hn2 : n ≤ 32792 := by omega
    (repeat (first | refine WC.seqK fun K hK => ?_ | refine WC.block ?_ | refine WC.regionG rfl fun ops hG => ?_))
    refine WC.drawF [5, 8, 11, 14] [0, 1, 2, 3, 4, 6, 7, 9, 10, 12, 13, 5, 8, 11, 14, 15] [17] 16 (.pt b2 _ :: h) [] mixed rfl (by kernel_rfl) rfl rfl (Nat.le_of_ble_eq_true rfl) rfl ?_
    refine SR.po rfl rfl (PO.move (Ev.tmp rfl)) (Nat.le_of_ble_eq_true rfl) ?_
    refine SR.po rfl rfl (PO.move (Ev.tmp rfl)) (Nat.le_of_ble_eq_true rfl) ?_
    refine SR.po rfl rfl (PO.lenSl Try.underlying22 (Ev.tmp rfl)) (Nat.le_of_ble_eq_true rfl) ?_
    refine SR.po rfl rfl (PO.subI (Ev.tmp rfl) Ev.const (by omega)) (Nat.le_of_ble_eq_true rfl) ?_
    refine SR.po rfl rfl (PO.eq (PO.sliceLH (l := 20) (u := n - 4) EL22.und EL22.size (Ev.tmp rfl) Ev.const (Ev.tmp rfl) rfl (by omega) (by omega) (by omega)) (show _ = Value.slice (sl1 s 20 c 1) (gC bs).length (c - 20) by congr 1; omega)) (Nat.le_of_ble_eq_true rfl) ?_
    refine SR.po rfl rfl (PO.move (Ev.tmp rfl)) (Nat.le_of_ble_eq_true rfl) ?_
    refine SR.po rfl rfl (PO.sliceL (l := 8) EL22.und EL22.size (Ev.tmp rfl) Ev.const rfl (by omega)) (Nat.le_of_ble_eq_true rfl) ?_
    refine SR.po rfl rfl (PO.move (Ev.tmp rfl)) (Nat.le_of_ble_eq_true rfl) ?_
    refine SR.po rfl rfl (PO.sliceL (l := 12) EL22.und EL22.size (Ev.tmp rfl) Ev.const rfl (by omega)) (Nat.le_of_ble_eq_true rfl) ?_
    refine SR.po rfl rfl (PO.move (Ev.tmp rfl)) (Nat.le_of_ble_eq_true rfl) ?_
    refine SR.po rfl rfl (PO.sliceL (l := 16) EL22.und EL22.size (Ev.tmp rfl) Ev.const rfl (by omega)) (Nat.le_of_ble_eq_true rfl) ?_
    have hcode : Rd m h (sl1 s 20 c 1) (gC bs).length (c - 20) 1 (bv (gC bs)) := by
      have := h1.subB (l := 20) (k := n - 4) (by omega) (by omega)
      have e : n - 4 - 20 = bs.length - 24 := by omega
      rw [e] at this
      rw [hgl]; exact this
    refine SR.call rfl rfl Ev.func (Evs.cons (Ev.tmp rfl) Evs.nil) (fun fr => clone_ct _ _ _ (gC bs) _ _ (hcode.cons.fr fr) (by omega)) (Nat.le_of_ble_eq_true rfl) ?_
    rintro fr _ m1 _ hm1 ⟨a1, c1, rfl, rfl⟩
    refine ⟨[_], List.perm_middle.symm, ?_⟩
    refine SR.call1 rfl rfl Ev.func (Evs.cons (Ev.tmp rfl) Evs.nil) (fun fr => word_ct' _ _ _ (bs.drop 8) _ _ (Rd.fr ((h1.dropB (l := 8) (by omega)).mono hm1 (by (repeat (first | exact List.Sublist.refl _ | refine List.Sublist.cons_cons _ ?_ | apply List.Sublist.cons)))) fr) (by omega)) (Nat.le_of_ble_eq_true rfl) fun m2 hm2 => ?_
    refine SR.call1 rfl rfl Ev.func (Evs.cons (Ev.tmp rfl) Evs.nil) (fun fr => word_ct' _ _ _ (bs.drop 12) _ _ (Rd.fr ((h1.dropB (l := 12) (by omega)).mono (hm1.trans hm2) (by (repeat (first | exact List.Sublist.refl _ | refine List.Sublist.cons_cons _ ?_ | apply List.Sublist.cons)))) fr) (by omega)) (Nat.le_of_ble_eq_true rfl) fun m3 hm3 => ?_
    refine SR.call1 rfl rfl Ev.func (Evs.cons (Ev.tmp rfl) Evs.nil) (fun fr => word_ct' _ _ _ (bs.drop 16) _ _ (Rd.fr ((h1.dropB (l := 16) (by omega)).mono (hm1.trans (hm2.trans hm3)) (by (repeat (first | exact List.Sublist.refl _ | refine List.Sublist.cons_cons _ ?_ | apply List.Sublist.cons)))) fr) (by omega)) (Nat.le_of_ble_eq_true rfl) fun m4 hm4 => ?_
    have hm := hm1.trans (hm2.trans (hm3.trans hm4))
    refine SR.po rfl rfl (PO.build Try.underlying24 rfl rfl rfl (EvP.cons (Ev.tmp rfl) (EvP.cons (Ev.tmp rfl) (EvP.cons (Ev.tmp rfl) (EvP.cons (Ev.tmp rfl) EvP.nil)))) rfl) (Nat.le_of_ble_eq_true rfl) ?_
    refine SR.nilF rfl rfl fun b4 => ?_
    refine WL.store rfl (Ev.tmp rfl) (Ev.tmp rfl) rfl rfl rfl rfl (by (repeat (first | exact Upd.here | apply Upd.next))) ?_
    refine WL.nil (keepF (ts := [0, 2, 3, 4, 5, 6, 14, 44]) rfl (toK (by assumption) ?_)); (try clear hG ops)
    (repeat (first | refine WC.seqK fun K hK => ?_ | refine WC.block ?_ | refine WC.regionG rfl fun ops hG => ?_))
    refine WL.po (PO.loadA Try.underlying24 rfl rfl (Ev.tmp rfl) (by (repeat (first | exact List.Mem.head _ | apply List.Mem.tail))) rfl) (Nat.le_of_ble_eq_true rfl) ?_
    refine WL.knowRow (a := a1) (by (repeat (first | exact List.Mem.head _ | apply List.Mem.tail))) fun hk1 hk2 hk3 => ?_
    refine WL.call Ev.func (Evs.cons (Ev.tmp rfl) Evs.nil) (put_ct a1 c1 (gC bs) (gE bs) (gA bs) (gB bs) _ _ (Rd.ofRow hk3 hk1 hk2 (by (repeat (first | exact List.Mem.head _ | apply List.Mem.tail))))) (Nat.le_of_ble_eq_true rfl) ?_
    rintro _ m5 _ hm5 (⟨hmay, rfl, rfl⟩ | ⟨hmay, a5, c5, rfl, rfl⟩)
    · refine WL.po (PO.move (Ev.tmp rfl)) (Nat.le_of_ble_eq_true rfl) ?_
      refine WL.po (PO.extract (Ev.tmp rfl) rfl) (Nat.le_of_ble_eq_true rfl) ?_
      refine WL.po (PO.extract (Ev.tmp rfl) rfl) (Nat.le_of_ble_eq_true rfl) ?_
      refine WL.po (PO.assign (Ev.tmp rfl)) (Nat.le_of_ble_eq_true rfl) ?_
      refine WL.po (PO.assign (Ev.tmp rfl)) (Nat.le_of_ble_eq_true rfl) ?_
      refine WL.nil (keepF (ts := [0, 2, 3, 4, 5, 6, 14, 44]) rfl (toK (by assumption) ?_)); (try clear hG ops)
      (repeat (first | refine WC.seqK fun K hK => ?_ | refine WC.block ?_ | refine WC.regionG rfl fun ops hG => ?_))
      refine WL.po (PO.move (Ev.tmp rfl)) (Nat.le_of_ble_eq_true rfl) ?_
      refine WL.po (PO.bin (Ev.tmp rfl) Ev.const rfl) (Nat.le_of_ble_eq_true rfl) ?_
      refine WL.po (PO.move (Ev.tmp rfl)) (Nat.le_of_ble_eq_true rfl) ?_
      refine WL.skipF (hG _ _ rfl) rfl rfl (Nat.le_of_ble_eq_true rfl) ?_
      refine WL.skipF (hG _ _ rfl) rfl rfl (Nat.le_of_ble_eq_true rfl) ?_
      refine WL.skipF (hG _ _ rfl) rfl rfl (Nat.le_of_ble_eq_true rfl) ?_
      refine WL.skipF (hG _ _ rfl) rfl rfl (Nat.le_of_ble_eq_true rfl) ?_
      refine WL.po (PO.pickOr (c := true) (b := false) rfl rfl) (Nat.le_of_ble_eq_true rfl) ?_
      refine WL.nil (keepF (ts := [0, 2, 3, 4, 5, 6, 14, 44]) rfl (toK (by assumption) ?_)); (try clear hG ops)
      (repeat (first | refine WC.seqK fun K hK => ?_ | refine WC.block ?_ | refine WC.regionG rfl fun ops hG => ?_))
      refine WC.cond (Ev.tmp rfl) (fun hc => ?_) (fun hc => by cases hc)
      (repeat (first | refine WC.seqK fun K hK => ?_ | refine WC.block ?_ | refine WC.regionG rfl fun ops hG => ?_))
      refine WL.po (PO.build Try.underlying24 rfl rfl rfl EvP.nil rfl) (Nat.le_of_ble_eq_true rfl) ?_
      refine WL.store rfl (Ev.tmp rfl) (Ev.tmp rfl) rfl rfl rfl rfl (by (repeat (first | exact Upd.here | apply Upd.next))) ?_
      refine WL.po (PO.assign Ev.const) (Nat.le_of_ble_eq_true rfl) ?_
      refine WL.nil (keepF (ts := [0, 2, 3, 4, 5, 6, 14, 44]) rfl (toK (by assumption) ?_)); (try clear hG ops)
      have : isE bs = false := by unfold isE fits; rw [hmay]; simp
      exact WC.ret (end2 (.inl rfl) rfl (RV.cellA Try.underlying24 rfl rfl rfl (by (repeat (first | exact List.Mem.head _ | apply List.Mem.tail))) rfl) (RV.tmp rfl) (hm.trans hm5) (by (repeat (first | exact List.Sublist.refl _ | refine List.Sublist.cons_cons _ ?_ | apply List.Sublist.cons))) (.inl ⟨this, rfl, rfl⟩))
    · refine WL.po (PO.move (Ev.tmp rfl)) (Nat.le_of_ble_eq_true rfl) ?_
      refine WL.po (PO.extract (Ev.tmp rfl) rfl) (Nat.le_of_ble_eq_true rfl) ?_
      refine WL.po (PO.extract (Ev.tmp rfl) rfl) (Nat.le_of_ble_eq_true rfl) ?_
      refine WL.po (PO.assign (Ev.tmp rfl)) (Nat.le_of_ble_eq_true rfl) ?_
      refine WL.po (PO.assign (Ev.tmp rfl)) (Nat.le_of_ble_eq_true rfl) ?_
      refine WL.nil (keepF (ts := [0, 2, 3, 4, 5, 6, 14, 44]) rfl (toK (by assumption) ?_)); (try clear hG ops)
      (repeat (first | refine WC.seqK fun K hK => ?_ | refine WC.block ?_ | refine WC.regionG rfl fun ops hG => ?_))
      refine WL.po (PO.move (Ev.tmp rfl)) (Nat.le_of_ble_eq_true rfl) ?_
      refine WL.po (PO.bin (Ev.tmp rfl) Ev.const rfl) (Nat.le_of_ble_eq_true rfl) ?_
      refine WL.po (PO.move (Ev.tmp rfl)) (Nat.le_of_ble_eq_true rfl) ?_
      refine WL.poF (hG _ _ rfl) rfl (fun hc => PO.move (Ev.tmp rfl)) (Nat.le_of_ble_eq_true rfl) ?_
      refine WL.poF (hG _ _ rfl) rfl (fun hc => PO.move (Ev.tmp rfl)) (Nat.le_of_ble_eq_true rfl) ?_
      refine WL.knowRow (a := a5) (by (repeat (first | exact List.Mem.head _ | apply List.Mem.tail))) fun hk4 hk5 hk6 => ?_
      refine WL.callF (v := .bool (bs == enc (gC bs) (gE bs) (gA bs) (gB bs))) (hG _ _ rfl) rfl (fun hc => ⟨Ev.func, Evs.cons (Ev.gv rfl hc) (Evs.cons (Ev.gv rfl hc) Evs.nil), ?_⟩) (Nat.le_of_ble_eq_true rfl) fun m6 hm6 => ?_
      · exact equal_ct _ _ _ _ _ _ _ _ _ _ (h1.mono (hm.trans hm5) (by (repeat (first | exact List.Sublist.refl _ | refine List.Sublist.cons_cons _ ?_ | apply List.Sublist.cons)))) (Rd.ofRow hk6 hk4 hk5 (by (repeat (first | exact List.Mem.head _ | apply List.Mem.tail))))
      refine WL.poF (hG _ _ rfl) rfl (fun hc => PO.not (Ev.gv rfl hc)) (Nat.le_of_ble_eq_true rfl) ?_
      refine WL.po (PO.pickOr rfl rfl) (Nat.le_of_ble_eq_true rfl) ?_
      refine WL.nil (keepF (ts := [0, 2, 3, 4, 5, 6, 14, 44]) rfl (toK (by assumption) ?_)); (try clear hG ops)
      (repeat (first | refine WC.seqK fun K hK => ?_ | refine WC.block ?_ | refine WC.regionG rfl fun ops hG => ?_))
      refine WC.cond (Ev.tmp rfl) (fun hc => ?_) (fun hc => ?_)
      · (repeat (first | refine WC.seqK fun K hK => ?_ | refine WC.block ?_ | refine WC.regionG rfl fun ops hG => ?_))
        refine WL.po (PO.build Try.underlying24 rfl rfl rfl EvP.nil rfl) (Nat.le_of_ble_eq_true rfl) ?_
        refine WL.store rfl (Ev.tmp rfl) (Ev.tmp rfl) rfl rfl rfl rfl (by (repeat (first | exact Upd.here | apply Upd.next))) ?_
        refine WL.po (PO.assign Ev.const) (Nat.le_of_ble_eq_true rfl) ?_
        refine WL.nil (keepF (ts := [0, 2, 3, 4, 5, 6, 14, 44]) rfl (toK (by assumption) ?_)); (try clear hG ops)
        have : isE bs = false := by
          have hc' : (bs == enc (gC bs) (gE bs) (gA bs) (gB bs)) = false := by simpa using hc
          unfold isE fits; rw [hc']; simp
        exact WC.ret (end2 (.inl rfl) rfl (RV.cellA Try.underlying24 rfl rfl rfl (by (repeat (first | exact List.Mem.head _ | apply List.Mem.tail))) rfl) (RV.tmp rfl) (hm.trans (hm5.trans hm6)) (by (repeat (first | exact List.Sublist.refl _ | refine List.Sublist.cons_cons _ ?_ | apply List.Sublist.cons))) (.inl ⟨this, rfl, rfl⟩))
      · refine WC.skip (keepF (ts := [0, 2, 3, 4, 5, 6, 14, 44]) rfl (toK (by assumption) ?_))
        have : isE bs = true := by
          have hc' : (bs == enc (gC bs) (gE bs) (gA bs) (gB bs)) = true := by simpa using hc
          unfold isE fits; rw [hc', hmay, decide_eq_true (by omega), decide_eq_true (by omega)]; rfl
        (repeat (first | refine WC.seqK fun K hK => ?_ | refine WC.block ?_ | refine WC.regionG rfl fun ops hG => ?_))
        refine WL.po (PO.loadA Try.underlying24 rfl rfl (Ev.tmp rfl) (by (repeat (first | exact List.Mem.head _ | apply List.Mem.tail))) rfl) (Nat.le_of_ble_eq_true rfl) ?_
        refine WL.store rfl (Ev.tmp rfl) (Ev.tmp rfl) rfl rfl rfl rfl (by (repeat (first | exact Upd.here | apply Upd.next))) ?_
        refine WL.po (PO.assign Ev.const) (Nat.le_of_ble_eq_true rfl) ?_
        refine WL.nil (keepF (ts := [0, 2, 3, 4, 5, 6, 14, 44]) rfl (toK (by assumption) ?_)); (try clear hG ops)
        exact WC.ret (end2 (h' := .row (.slice a1 (gC bs).length c1) 5 1 (gC bs).length (bv (gC bs)) :: h) (.inl rfl) rfl (RV.cellA Try.underlying24 rfl rfl rfl (by (repeat (first | exact List.Mem.head _ | apply List.Mem.tail))) rfl) (RV.tmp rfl) (hm.trans (hm5.trans hm6)) (by (repeat (first | exact List.Sublist.refl _ | refine List.Sublist.cons_cons _ ?_ | apply List.Sublist.cons))) (.inr ⟨this, a1, c1, rfl, rfl⟩))

theorem getR_ct (s : Option Addr) (n c : Nat) (bs : List UInt8) (h : List Res) (m : View) (h1 : Rd m h s n c 1 (bv bs)) :
    CT Try.prog 19 [.slice s n c] h m (GetR h bs) := by
  have hn := h1.lenB
  have hgl := gC_len bs
  have hle := h1.le
  have hmx := h1.mx
  refine CT.body Try.call19 Try.func19 rfl Try.ntmps19 (Nat.le_of_ble_eq_true rfl) rfl ?_
  (repeat (first | refine WC.seqK fun K hK => ?_ | refine WC.block ?_ | refine WC.regionG rfl fun ops hG => ?_))
  refine WL.alloc rfl rfl (Nat.le_of_ble_eq_true rfl) fun b2 => ?_
  refine WL.po (PO.assign Ev.const) (Nat.le_of_ble_eq_true rfl) ?_
  refine WL.nil (keepF (ts := [0, 2, 3, 4, 5, 6, 14, 51]) rfl (toK (by assumption) ?_)); (try clear hG ops)
  (repeat (first | refine WC.seqK fun K hK => ?_ | refine WC.block ?_ | refine WC.regionG rfl fun ops hG => ?_))
  refine WL.po (PO.move (Ev.tmp rfl)) (Nat.le_of_ble_eq_true rfl) ?_
  refine WL.po (PO.lenSl Try.underlying22 (Ev.tmp rfl)) (Nat.le_of_ble_eq_true rfl) ?_
  refine WL.po (PO.bin (Ev.tmp rfl) Ev.const rfl) (Nat.le_of_ble_eq_true rfl) ?_
  refine WL.po (PO.move (Ev.tmp rfl)) (Nat.le_of_ble_eq_true rfl) ?_
  refine WL.poF (hG _ _ rfl) rfl (fun hc => PO.move (Ev.tmp rfl)) (Nat.le_of_ble_eq_true rfl) ?_
  refine WL.poF (hG _ _ rfl) rfl (fun hc => PO.lenSl Try.underlying22 (Ev.gv rfl hc)) (Nat.le_of_ble_eq_true rfl) ?_
  refine WL.poF (hG _ _ rfl) rfl (fun hc => PO.bin (Ev.gv rfl hc) Ev.const rfl) (Nat.le_of_ble_eq_true rfl) ?_
  refine WL.po (PO.pickOr rfl rfl) (Nat.le_of_ble_eq_true rfl) ?_
  refine WL.nil (keepF (ts := [0, 2, 3, 4, 5, 6, 14, 51]) rfl (toK (by assumption) ?_)); (try clear hG ops)
  (repeat (first | refine WC.seqK fun K hK => ?_ | refine WC.block ?_ | refine WC.regionG rfl fun ops hG => ?_))
  refine WC.cond (Ev.tmp rfl) (fun hc => ?_) (fun hc => ?_)
  · (repeat (first | refine WC.seqK fun K hK => ?_ | refine WC.block ?_ | refine WC.regionG rfl fun ops hG => ?_))
    refine WL.po (PO.build Try.underlying24 rfl rfl rfl EvP.nil rfl) (Nat.le_of_ble_eq_true rfl) ?_
    refine WL.store rfl (Ev.tmp rfl) (Ev.tmp rfl) rfl rfl rfl rfl (by (repeat (first | exact Upd.here | apply Upd.next))) ?_
    refine WL.po (PO.assign Ev.const) (Nat.le_of_ble_eq_true rfl) ?_
    refine WL.nil (keepF (ts := [0, 2, 3, 4, 5, 6, 14, 51]) rfl (toK (by assumption) ?_)); (try clear hG ops)
    have : isE bs = false := by simp only [Bool.or_eq_true, decide_eq_true_eq] at hc; unfold isE; rw [hn]; rcases hc with hc | hc <;> simp <;> omega
    exact WC.ret (end2 (.inl rfl) rfl (RV.cellA Try.underlying24 rfl rfl rfl (by (repeat (first | exact List.Mem.head _ | apply List.Mem.tail))) rfl) (RV.tmp rfl) (View.le.refl m) (by (repeat (first | exact List.Sublist.refl _ | refine List.Sublist.cons_cons _ ?_ | apply List.Sublist.cons))) (.inl ⟨this, rfl, rfl⟩))
  · refine WC.skip (keepF (ts := [0, 2, 3, 4, 5, 6, 14, 51]) rfl (toK (by assumption) ?_))
    simp only [Bool.or_eq_false_iff, decide_eq_false_iff_not] at hc
    have hn1 : 24 < n := by omega
    have hn2 : n ≤ 32792 := by omega
    (repeat (first | refine WC.seqK fun K hK => ?_ | refine WC.block ?_ | refine WC.regionG rfl fun ops hG => ?_))
    refine WC.drawF [2, 6, 10] [0, 1, 4, 5, 8, 9, 2, 3, 6, 7, 10, 11, 12] [14] 13 (.pt b2 _ :: h) [] mixed rfl (by kernel_rfl) rfl rfl (Nat.le_of_ble_eq_true rfl) rfl ?_
    refine SR.po rfl rfl (PO.move (Ev.tmp rfl)) (Nat.le_of_ble_eq_true rfl) ?_
    refine SR.po rfl rfl (PO.sliceLH (l := 8) (u := 12) EL22.und EL22.size (Ev.tmp rfl) Ev.const Ev.const rfl rfl (by omega) (by omega)) (Nat.le_of_ble_eq_true rfl) ?_
    refine SR.po rfl rfl (PO.move (Ev.tmp rfl)) (Nat.le_of_ble_eq_true rfl) ?_
    refine SR.po rfl rfl (PO.sliceLH (l := 12) (u := 16) EL22.und EL22.size (Ev.tmp rfl) Ev.const Ev.const rfl rfl (by omega) (by omega)) (Nat.le_of_ble_eq_true rfl) ?_
    refine SR.po rfl rfl (PO.move (Ev.tmp rfl)) (Nat.le_of_ble_eq_true rfl) ?_
    refine SR.po rfl rfl (PO.sliceLH (l := 16) (u := 20) EL22.und EL22.size (Ev.tmp rfl) Ev.const Ev.const rfl rfl (by omega) (by omega)) (Nat.le_of_ble_eq_true rfl) ?_
    refine SR.call1 rfl rfl Ev.func (Evs.cons (Ev.tmp rfl) Evs.nil) (fun fr => number_ct' _ _ _ _ _ _ (Rd.fr ((h1.subB (l := 8) (k := 12) (by omega) (by omega)).mono (View.le.refl m) (by (repeat (first | exact List.Sublist.refl _ | refine List.Sublist.cons_cons _ ?_ | apply List.Sublist.cons)))) fr) (by omega)) (Nat.le_of_ble_eq_true rfl) fun m2 hm2 => ?_
    refine SR.po rfl rfl (PO.eq (PO.conv Try.underlying37 Try.underlying3 (Ev.tmp rfl)) (show _ = Value.int .i64 (gE bs) from congrArg (Value.int .i64) ((i64_nat _ (rd4_lt _)).trans (congrArg Int.ofNat (rd4_take _))))) (Nat.le_of_ble_eq_true rfl) ?_
    refine SR.call1 rfl rfl Ev.func (Evs.cons (Ev.tmp rfl) Evs.nil) (fun fr => number_ct' _ _ _ _ _ _ (Rd.fr ((h1.subB (l := 12) (k := 16) (by omega) (by omega)).mono hm2 (by (repeat (first | exact List.Sublist.refl _ | refine List.Sublist.cons_cons _ ?_ | apply List.Sublist.cons)))) fr) (by omega)) (Nat.le_of_ble_eq_true rfl) fun m3 hm3 => ?_
    refine SR.po rfl rfl (PO.eq (PO.conv Try.underlying37 Try.underlying3 (Ev.tmp rfl)) (show _ = Value.int .i64 (gA bs) from congrArg (Value.int .i64) ((i64_nat _ (rd4_lt _)).trans (congrArg Int.ofNat (rd4_take _))))) (Nat.le_of_ble_eq_true rfl) ?_
    refine SR.call1 rfl rfl Ev.func (Evs.cons (Ev.tmp rfl) Evs.nil) (fun fr => number_ct' _ _ _ _ _ _ (Rd.fr ((h1.subB (l := 16) (k := 20) (by omega) (by omega)).mono (hm2.trans hm3) (by (repeat (first | exact List.Sublist.refl _ | refine List.Sublist.cons_cons _ ?_ | apply List.Sublist.cons)))) fr) (by omega)) (Nat.le_of_ble_eq_true rfl) fun m4 hm4 => ?_
    refine SR.po rfl rfl (PO.eq (PO.conv Try.underlying37 Try.underlying3 (Ev.tmp rfl)) (show _ = Value.int .i64 (gB bs) from congrArg (Value.int .i64) ((i64_nat _ (rd4_lt _)).trans (congrArg Int.ofNat (rd4_take _))))) (Nat.le_of_ble_eq_true rfl) ?_
    have hm := hm2.trans (hm3.trans hm4)
    refine SR.po rfl rfl (PO.build Try.underlying24 rfl rfl rfl (EvP.cons (Ev.tmp rfl) (EvP.cons (Ev.tmp rfl) (EvP.cons (Ev.tmp rfl) EvP.nil))) rfl) (Nat.le_of_ble_eq_true rfl) ?_
    refine SR.nilF rfl rfl fun b4 => ?_
    refine WL.store rfl (Ev.tmp rfl) (Ev.tmp rfl) rfl rfl rfl rfl (by (repeat (first | exact Upd.here | apply Upd.next))) ?_
    refine WL.nil (keepF (ts := [0, 2, 3, 4, 5, 6, 14, 51]) rfl (toK (by assumption) ?_)); (try clear hG ops)
    refine WC.addNil 5 1 ?_
    (repeat (first | refine WC.seqK fun K hK => ?_ | refine WC.block ?_ | refine WC.regionG rfl fun ops hG => ?_))
    refine WC.drawS [7] [0, 1, 2, 3, 4, 5, 6, 7] [8, 9] (.pt b4 _ :: .pt b2 _ :: h) [_] mixed (by kernel_rfl) ?_
    refine SR.po rfl rfl (PO.fieldAddr Try.underlying24 rfl (Nat.ne_of_beq_eq_false rfl) (Ev.tmp rfl)) (Nat.le_of_ble_eq_true rfl) ?_
    refine SR.po rfl rfl (PO.load1 Try.underlying22 rfl (Ev.tmp rfl) (by (repeat (first | exact List.Mem.head _ | apply List.Mem.tail))) rfl) (Nat.le_of_ble_eq_true rfl) ?_
    refine SR.po rfl rfl (PO.move (Ev.tmp rfl)) (Nat.le_of_ble_eq_true rfl) ?_
    refine SR.po rfl rfl (PO.move (Ev.tmp rfl)) (Nat.le_of_ble_eq_true rfl) ?_
    refine SR.po rfl rfl (PO.lenSl Try.underlying22 (Ev.tmp rfl)) (Nat.le_of_ble_eq_true rfl) ?_
    refine SR.po rfl rfl (PO.subI (Ev.tmp rfl) Ev.const (by omega)) (Nat.le_of_ble_eq_true rfl) ?_
    refine SR.po rfl rfl (PO.eq (PO.sliceLH (l := 20) (u := n - 4) EL22.und EL22.size (Ev.tmp rfl) Ev.const (Ev.tmp rfl) rfl (by omega) (by omega) (by omega)) (show _ = Value.slice (sl1 s 20 c 1) (gC bs).length (c - 20) by congr 1; omega)) (Nat.le_of_ble_eq_true rfl) ?_
    have hcode : Rd m h (sl1 s 20 c 1) (gC bs).length (c - 20) 1 (bv (gC bs)) := by
      have := h1.subB (l := 20) (k := n - 4) (by omega) (by omega)
      have e : n - 4 - 20 = bs.length - 24 := by omega
      rw [e] at this
      rw [hgl]; exact this
    refine SR.append rfl rfl EL22 (Ev.tmp rfl) (Ev.tmp rfl) (hcode.mono hm (by (repeat (first | exact List.Sublist.refl _ | refine List.Sublist.cons_cons _ ?_ | apply List.Sublist.cons)))) (bv_one _) (by omega) (by omega) (fun v' => Upd.here) (Nat.le_of_ble_eq_true rfl) fun a1 c1 => ?_
    rw [Nat.zero_add, List.nil_append]
    refine SR.nil rfl rfl ?_
    refine WL.po (PO.fieldAddr Try.underlying24 rfl (Nat.ne_of_beq_eq_false rfl) (Ev.tmp rfl)) (Nat.le_of_ble_eq_true rfl) ?_
    refine WL.store rfl (Ev.tmp rfl) (Ev.tmp rfl) rfl rfl rfl rfl (by (repeat (first | exact Upd.here | apply Upd.next))) ?_
    refine WL.nil (keepF (ts := [0, 2, 3, 4, 5, 6, 14, 51]) rfl (toK (by assumption) ?_)); (try clear hG ops)
    (repeat (first | refine WC.seqK fun K hK => ?_ | refine WC.block ?_ | refine WC.regionG rfl fun ops hG => ?_))
    refine WL.po (PO.loadA Try.underlying24 rfl rfl (Ev.tmp rfl) (by (repeat (first | exact List.Mem.head _ | apply List.Mem.tail))) rfl) (Nat.le_of_ble_eq_true rfl) ?_
    refine WL.knowRow (a := a1) (by (repeat (first | exact List.Mem.head _ | apply List.Mem.tail))) fun hk1 hk2 hk3 => ?_
    refine WL.call Ev.func (Evs.cons (Ev.tmp rfl) Evs.nil) (putR_ct a1 c1 (gC bs) (gE bs) (gA bs) (gB bs) _ _ (Rd.ofRow hk3 hk1 hk2 (by (repeat (first | exact List.Mem.head _ | apply List.Mem.tail))))) (Nat.le_of_ble_eq_true rfl) ?_
    rintro _ m5 _ hm5 (⟨hmay, rfl, rfl⟩ | ⟨hmay, a5, c5, rfl, rfl⟩)
    · refine WL.po (PO.move (Ev.tmp rfl)) (Nat.le_of_ble_eq_true rfl) ?_
      refine WL.po (PO.extract (Ev.tmp rfl) rfl) (Nat.le_of_ble_eq_true rfl) ?_
      refine WL.po (PO.extract (Ev.tmp rfl) rfl) (Nat.le_of_ble_eq_true rfl) ?_
      refine WL.po (PO.assign (Ev.tmp rfl)) (Nat.le_of_ble_eq_true rfl) ?_
      refine WL.po (PO.assign (Ev.tmp rfl)) (Nat.le_of_ble_eq_true rfl) ?_
      refine WL.nil (keepF (ts := [0, 2, 3, 4, 5, 6, 14, 51]) rfl (toK (by assumption) ?_)); (try clear hG ops)
      (repeat (first | refine WC.seqK fun K hK => ?_ | refine WC.block ?_ | refine WC.regionG rfl fun ops hG => ?_))
      refine WL.po (PO.move (Ev.tmp rfl)) (Nat.le_of_ble_eq_true rfl) ?_
      refine WL.po (PO.bin (Ev.tmp rfl) Ev.const rfl) (Nat.le_of_ble_eq_true rfl) ?_
      refine WL.po (PO.move (Ev.tmp rfl)) (Nat.le_of_ble_eq_true rfl) ?_
      refine WL.skipF (hG _ _ rfl) rfl rfl (Nat.le_of_ble_eq_true rfl) ?_
      refine WL.skipF (hG _ _ rfl) rfl rfl (Nat.le_of_ble_eq_true rfl) ?_
      refine WL.skipF (hG _ _ rfl) rfl rfl (Nat.le_of_ble_eq_true rfl) ?_
      refine WL.skipF (hG _ _ rfl) rfl rfl (Nat.le_of_ble_eq_true rfl) ?_
      refine WL.skipF (hG _ _ rfl) rfl rfl (Nat.le_of_ble_eq_true rfl) ?_
      refine WL.po (PO.pickOr (c := true) (b := false) rfl rfl) (Nat.le_of_ble_eq_true rfl) ?_
      refine WL.nil (keepF (ts := [0, 2, 3, 4, 5, 6, 14, 51]) rfl (toK (by assumption) ?_)); (try clear hG ops)
      (repeat (first | refine WC.seqK fun K hK => ?_ | refine WC.block ?_ | refine WC.regionG rfl fun ops hG => ?_))
      refine WC.cond (Ev.tmp rfl) (fun hc => ?_) (fun hc => by cases hc)
      (repeat (first | refine WC.seqK fun K hK => ?_ | refine WC.block ?_ | refine WC.regionG rfl fun ops hG => ?_))
      refine WL.po (PO.build Try.underlying24 rfl rfl rfl EvP.nil rfl) (Nat.le_of_ble_eq_true rfl) ?_
      refine WL.store rfl (Ev.tmp rfl) (Ev.tmp rfl) rfl rfl rfl rfl (by (repeat (first | exact Upd.here | apply Upd.next))) ?_
      refine WL.po (PO.assign Ev.const) (Nat.le_of_ble_eq_true rfl) ?_
      refine WL.nil (keepF (ts := [0, 2, 3, 4, 5, 6, 14, 51]) rfl (toK (by assumption) ?_)); (try clear hG ops)
      have : isE bs = false := by unfold isE fits; rw [hmay]; simp
      exact WC.ret (end2 (.inl rfl) rfl (RV.cellA Try.underlying24 rfl rfl rfl (by (repeat (first | exact List.Mem.head _ | apply List.Mem.tail))) rfl) (RV.tmp rfl) (hm.trans hm5) (by (repeat (first | exact List.Sublist.refl _ | refine List.Sublist.cons_cons _ ?_ | apply List.Sublist.cons))) (.inl ⟨this, rfl, rfl⟩))
    · refine WL.po (PO.move (Ev.tmp rfl)) (Nat.le_of_ble_eq_true rfl) ?_
      refine WL.po (PO.extract (Ev.tmp rfl) rfl) (Nat.le_of_ble_eq_true rfl) ?_
      refine WL.po (PO.extract (Ev.tmp rfl) rfl) (Nat.le_of_ble_eq_true rfl) ?_
      refine WL.po (PO.assign (Ev.tmp rfl)) (Nat.le_of_ble_eq_true rfl) ?_
      refine WL.po (PO.assign (Ev.tmp rfl)) (Nat.le_of_ble_eq_true rfl) ?_
      refine WL.nil (keepF (ts := [0, 2, 3, 4, 5, 6, 14, 51]) rfl (toK (by assumption) ?_)); (try clear hG ops)
      (repeat (first | refine WC.seqK fun K hK => ?_ | refine WC.block ?_ | refine WC.regionG rfl fun ops hG => ?_))
      refine WL.po (PO.move (Ev.tmp rfl)) (Nat.le_of_ble_eq_true rfl) ?_
      refine WL.po (PO.bin (Ev.tmp rfl) Ev.const rfl) (Nat.le_of_ble_eq_true rfl) ?_
      refine WL.po (PO.move (Ev.tmp rfl)) (Nat.le_of_ble_eq_true rfl) ?_
      refine WL.poF (hG _ _ rfl) rfl (fun hc => PO.move (Ev.tmp rfl)) (Nat.le_of_ble_eq_true rfl) ?_
      refine WL.knowRow (a := a5) (by (repeat (first | exact List.Mem.head _ | apply List.Mem.tail))) fun hk4 hk5 hk6 => ?_
      refine WL.poF (hG _ _ rfl) rfl (fun hc => PO.strOf Try.underlying22 Try.underlying5 Try.underlying9 (Ev.gv rfl hc) (Rd.ofRow hk6 hk4 hk5 (by (repeat (first | exact List.Mem.head _ | apply List.Mem.tail))))) (Nat.le_of_ble_eq_true rfl) ?_
      refine WL.poF (hG _ _ rfl) rfl (fun hc => PO.move (Ev.tmp rfl)) (Nat.le_of_ble_eq_true rfl) ?_
      refine WL.poF (hG _ _ rfl) rfl (fun hc => PO.strOf Try.underlying22 Try.underlying5 Try.underlying9 (Ev.gv rfl hc) (h1.mono (hm.trans hm5) (by (repeat (first | exact List.Sublist.refl _ | refine List.Sublist.cons_cons _ ?_ | apply List.Sublist.cons))))) (Nat.le_of_ble_eq_true rfl) ?_
      refine WL.poF (hG _ _ rfl) rfl (fun hc => PO.neqS (Ev.gv rfl hc) (Ev.gv rfl hc)) (Nat.le_of_ble_eq_true rfl) ?_
      refine WL.po (PO.pickOr rfl rfl) (Nat.le_of_ble_eq_true rfl) ?_
      refine WL.nil (keepF (ts := [0, 2, 3, 4, 5, 6, 14, 51]) rfl (toK (by assumption) ?_)); (try clear hG ops)
      (repeat (first | refine WC.seqK fun K hK => ?_ | refine WC.block ?_ | refine WC.regionG rfl fun ops hG => ?_))
      refine WC.cond (Ev.tmp rfl) (fun hc => ?_) (fun hc => ?_)
      · (repeat (first | refine WC.seqK fun K hK => ?_ | refine WC.block ?_ | refine WC.regionG rfl fun ops hG => ?_))
        refine WL.po (PO.build Try.underlying24 rfl rfl rfl EvP.nil rfl) (Nat.le_of_ble_eq_true rfl) ?_
        refine WL.store rfl (Ev.tmp rfl) (Ev.tmp rfl) rfl rfl rfl rfl (by (repeat (first | exact Upd.here | apply Upd.next))) ?_
        refine WL.po (PO.assign Ev.const) (Nat.le_of_ble_eq_true rfl) ?_
        refine WL.nil (keepF (ts := [0, 2, 3, 4, 5, 6, 14, 51]) rfl (toK (by assumption) ?_)); (try clear hG ops)
        have : isE bs = false := by
          have hc' : (bs == enc (gC bs) (gE bs) (gA bs) (gB bs)) = false := by rw [beq_eq_false_iff_ne]; intro e; simp at hc; exact hc e.symm
          unfold isE fits; rw [hc']; simp
        exact WC.ret (end2 (.inl rfl) rfl (RV.cellA Try.underlying24 rfl rfl rfl (by (repeat (first | exact List.Mem.head _ | apply List.Mem.tail))) rfl) (RV.tmp rfl) (hm.trans hm5) (by (repeat (first | exact List.Sublist.refl _ | refine List.Sublist.cons_cons _ ?_ | apply List.Sublist.cons))) (.inl ⟨this, rfl, rfl⟩))
      · refine WC.skip (keepF (ts := [0, 2, 3, 4, 5, 6, 14, 51]) rfl (toK (by assumption) ?_))
        have : isE bs = true := by
          have hc' : (bs == enc (gC bs) (gE bs) (gA bs) (gB bs)) = true := by rw [beq_iff_eq]; simp at hc; exact hc.symm
          unfold isE fits; rw [hc', hmay, decide_eq_true (by omega), decide_eq_true (by omega)]; rfl
        (repeat (first | refine WC.seqK fun K hK => ?_ | refine WC.block ?_ | refine WC.regionG rfl fun ops hG => ?_))
        refine WL.po (PO.loadA Try.underlying24 rfl rfl (Ev.tmp rfl) (by (repeat (first | exact List.Mem.head _ | apply List.Mem.tail))) rfl) (Nat.le_of_ble_eq_true rfl) ?_
        refine WL.store rfl (Ev.tmp rfl) (Ev.tmp rfl) rfl rfl rfl rfl (by (repeat (first | exact Upd.here | apply Upd.next))) ?_
        refine WL.po (PO.assign Ev.const) (Nat.le_of_ble_eq_true rfl) ?_
        refine WL.nil (keepF (ts := [0, 2, 3, 4, 5, 6, 14, 51]) rfl (toK (by assumption) ?_)); (try clear hG ops)
        exact WC.ret (end2 (h' := .row (.slice a1 (gC bs).length c1) 5 1 (gC bs).length (bv (gC bs)) :: h) (.inl rfl) rfl (RV.cellA Try.underlying24 rfl rfl rfl (by (repeat (first | exact List.Mem.head _ | apply List.Mem.tail))) rfl) (RV.tmp rfl) (hm.trans hm5) (by (repeat (first | exact List.Sublist.refl _ | refine List.Sublist.cons_cons _ ?_ | apply List.Sublist.cons))) (.inr ⟨this, a1, c1, rfl, rfl⟩))
end Go.Proofs.Ytdfobghpbbohdaa

/- types: the closures of Front. -/
import Derived.Test.YtcejocfjienpfaaDoorEng12
import Derived.Test.YtcejocfjienpfaaDoorTypC
import Derived.Test.YtcejocfjienpfaaDoorTypQ
namespace Go.Proofs.YtcejocfjienpfaaDoor
open Go.Eng Go.Lx Go.Ty
set_option maxRecDepth 100000
/-- Front's own memory: its closure, the count, the type, the tokens. -/
abbrev FL (b1 b2 b3 b5 : Nat) (a : Option Addr) (k c : Nat) (t : Ty) (n : Nat) : List Res :=
  [.pt b5 (.cells [Value.func (.func 38) [].toArray [Value.pointer (some ⟨b3, 0, none⟩), .pointer (some ⟨b1, 0, none⟩)].toArray].toArray 68 (0, 0)),
   .pt b3 (.cells [Value.int .i64 n].toArray 3 (0, 0)), .pt b2 (.cells (cellT t).toArray 24 (0, 0)), .pt b1 (.cells [Value.slice a k c].toArray 25 (0, 0))]
theorem next_ct (b1 b2 b3 b5 : Nat) (a : Option Addr) (k c : Nat) (l : List Tok) (t : Ty) (n : Nat) (kd : Int) (s : B) (h : List Res) (m : View) (hs : Rd m h a k c 4 (fl encK l)) (hn : n ≤ k) :
    CT Tryd.prog 38 [.int .u8 kd, str s, .pointer (some ⟨b3, 0, none⟩), .pointer (some ⟨b1, 0, none⟩)] (FL b1 b2 b3 b5 a k c t n ++ h) m (Pure1 (FL b1 b2 b3 b5 a k c t (nx (next l n kd s) n) ++ h) (.bool (next l n kd s))) := by
  have hl := hs.lenF encK_len (by decide)
  subst hl
  have hmx := hs.mx
  have hle := hs.le
  have hq : n < l.length → l[n]? = some (tokAt l n) := tokAt_get
  refine CT.body Tryd.call38 Tryd.func38 rfl Tryd.ntmps38 (Nat.le_of_ble_eq_true rfl) rfl ?_
  (repeat (first | refine WC.seqK fun K hK => ?_ | refine WC.block ?_ | refine WC.regionG rfl fun ops hG => ?_))
  refine WL.po (PO.assign Ev.const) (Nat.le_of_ble_eq_true rfl) ?_
  refine WL.nil (keepF (ts := [0, 1, 2, 3]) rfl (toK (by assumption) ?_))
  (try clear hG ops)
  (repeat (first | refine WC.seqK fun K hK => ?_ | refine WC.block ?_ | refine WC.regionG rfl fun ops hG => ?_))
  refine WL.po (PO.load1 Tryd.underlying3 rfl (Ev.tmp rfl) (by (repeat (first | exact List.Mem.head _ | apply List.Mem.tail))) rfl) (Nat.le_of_ble_eq_true rfl) ?_
  refine WL.po (PO.load1 Tryd.underlying25 rfl (Ev.tmp rfl) (by (repeat (first | exact List.Mem.head _ | apply List.Mem.tail))) rfl) (Nat.le_of_ble_eq_true rfl) ?_
  refine WL.po (PO.lenSl Tryd.underlying25 (Ev.tmp rfl)) (Nat.le_of_ble_eq_true rfl) ?_
  refine WL.po (PO.bin (Ev.tmp rfl) (Ev.tmp rfl) rfl) (Nat.le_of_ble_eq_true rfl) ?_
  refine WL.po (PO.move (Ev.tmp rfl)) (Nat.le_of_ble_eq_true rfl) ?_
  refine WL.poG (GU.f (hG _ _ rfl) rfl) (fun hc => PO.load1 Tryd.underlying25 rfl (Ev.tmp rfl) (by (repeat (first | exact List.Mem.head _ | apply List.Mem.tail))) rfl) (Nat.le_of_ble_eq_true rfl) ?_
  refine WL.poG (GU.f (hG _ _ rfl) rfl) (fun hc => PO.load1 Tryd.underlying3 rfl (Ev.tmp rfl) (by (repeat (first | exact List.Mem.head _ | apply List.Mem.tail))) rfl) (Nat.le_of_ble_eq_true rfl) ?_
  refine WL.poG (GU.f (hG _ _ rfl) rfl) (fun hc => PO.idx EL25.und EL25.size EL25.posz (Ev.gv rfl hc) (Ev.gv rfl hc) (by first | assumption | exact Rd.ofSl (by assumption) | exact Rd.ofPt rfl (by decide) (by (repeat (first | exact List.Mem.head _ | apply List.Mem.tail))) | exact Rd.mono (by assumption) (View.le.refl _) (by (repeat (first | exact List.Sublist.refl _ | refine List.Sublist.cons_cons _ ?_ | apply List.Sublist.cons))) | exact Rd.inRow (by (repeat (first | exact List.Mem.head _ | apply List.Mem.tail))) (by assumption) (by assumption) (by assumption)) rfl (by simp at hc; omega)) (Nat.le_of_ble_eq_true rfl) ?_
  refine WL.poG (GU.f (hG _ _ rfl) rfl) (fun hc => PO.fieldF Tryd.underlying53 rfl (Nat.ne_of_beq_eq_false rfl) encK_len (Nat.succ_pos _) (by first | assumption | exact Rd.ofSl (by assumption) | exact Rd.ofPt rfl (by decide) (by (repeat (first | exact List.Mem.head _ | apply List.Mem.tail))) | exact Rd.mono (by assumption) (View.le.refl _) (by (repeat (first | exact List.Sublist.refl _ | refine List.Sublist.cons_cons _ ?_ | apply List.Sublist.cons))) | exact Rd.inRow (by (repeat (first | exact List.Mem.head _ | apply List.Mem.tail))) (by assumption) (by assumption) (by assumption)) (hq (by simp at hc; omega)) (Ev.gv rfl hc)) (Nat.le_of_ble_eq_true rfl) ?_
  refine WL.poG (GU.f (hG _ _ rfl) rfl) (fun hc => PO.loadFf Tryd.underlying51 rfl encK_len (by first | assumption | exact Rd.ofSl (by assumption) | exact Rd.ofPt rfl (by decide) (by (repeat (first | exact List.Mem.head _ | apply List.Mem.tail))) | exact Rd.mono (by assumption) (View.le.refl _) (by (repeat (first | exact List.Sublist.refl _ | refine List.Sublist.cons_cons _ ?_ | apply List.Sublist.cons))) | exact Rd.inRow (by (repeat (first | exact List.Mem.head _ | apply List.Mem.tail))) (by assumption) (by assumption) (by assumption)) (Ev.gv rfl hc) (hq (by simp at hc; omega)) rfl) (Nat.le_of_ble_eq_true rfl) ?_
  refine WL.poG (GU.f (hG _ _ rfl) rfl) (fun hc => PO.move (Ev.tmp rfl)) (Nat.le_of_ble_eq_true rfl) ?_
  refine WL.poG (GU.f (hG _ _ rfl) rfl) (fun hc => PO.bin (Ev.gv rfl hc) (Ev.gv rfl hc) rfl) (Nat.le_of_ble_eq_true rfl) ?_
  refine WL.po (PO.pickOr rfl rfl) (Nat.le_of_ble_eq_true rfl) ?_
  refine WL.po (PO.move (Ev.tmp rfl)) (Nat.le_of_ble_eq_true rfl) ?_
  refine WL.poG (GU.f (hG _ _ rfl) rfl) (fun hc => PO.load1 Tryd.underlying25 rfl (Ev.tmp rfl) (by (repeat (first | exact List.Mem.head _ | apply List.Mem.tail))) rfl) (Nat.le_of_ble_eq_true rfl) ?_
  refine WL.poG (GU.f (hG _ _ rfl) rfl) (fun hc => PO.load1 Tryd.underlying3 rfl (Ev.tmp rfl) (by (repeat (first | exact List.Mem.head _ | apply List.Mem.tail))) rfl) (Nat.le_of_ble_eq_true rfl) ?_
  refine WL.poG (GU.f (hG _ _ rfl) rfl) (fun hc => PO.idx EL25.und EL25.size EL25.posz (Ev.gv rfl hc) (Ev.gv rfl hc) (by first | assumption | exact Rd.ofSl (by assumption) | exact Rd.ofPt rfl (by decide) (by (repeat (first | exact List.Mem.head _ | apply List.Mem.tail))) | exact Rd.mono (by assumption) (View.le.refl _) (by (repeat (first | exact List.Sublist.refl _ | refine List.Sublist.cons_cons _ ?_ | apply List.Sublist.cons))) | exact Rd.inRow (by (repeat (first | exact List.Mem.head _ | apply List.Mem.tail))) (by assumption) (by assumption) (by assumption)) rfl (by simp at hc; omega)) (Nat.le_of_ble_eq_true rfl) ?_
  refine WL.poG (GU.f (hG _ _ rfl) rfl) (fun hc => PO.fieldF Tryd.underlying53 rfl (Nat.ne_of_beq_eq_false rfl) encK_len (Nat.succ_pos _) (by first | assumption | exact Rd.ofSl (by assumption) | exact Rd.ofPt rfl (by decide) (by (repeat (first | exact List.Mem.head _ | apply List.Mem.tail))) | exact Rd.mono (by assumption) (View.le.refl _) (by (repeat (first | exact List.Sublist.refl _ | refine List.Sublist.cons_cons _ ?_ | apply List.Sublist.cons))) | exact Rd.inRow (by (repeat (first | exact List.Mem.head _ | apply List.Mem.tail))) (by assumption) (by assumption) (by assumption)) (hq (by simp at hc; omega)) (Ev.gv rfl hc)) (Nat.le_of_ble_eq_true rfl) ?_
  refine WL.poG (GU.f (hG _ _ rfl) rfl) (fun hc => PO.loadFf Tryd.underlying9 rfl encK_len (by first | assumption | exact Rd.ofSl (by assumption) | exact Rd.ofPt rfl (by decide) (by (repeat (first | exact List.Mem.head _ | apply List.Mem.tail))) | exact Rd.mono (by assumption) (View.le.refl _) (by (repeat (first | exact List.Sublist.refl _ | refine List.Sublist.cons_cons _ ?_ | apply List.Sublist.cons))) | exact Rd.inRow (by (repeat (first | exact List.Mem.head _ | apply List.Mem.tail))) (by assumption) (by assumption) (by assumption)) (Ev.gv rfl hc) (hq (by simp at hc; omega)) rfl) (Nat.le_of_ble_eq_true rfl) ?_
  refine WL.poG (GU.f (hG _ _ rfl) rfl) (fun hc => PO.move (Ev.tmp rfl)) (Nat.le_of_ble_eq_true rfl) ?_
  refine WL.poG (GU.f (hG _ _ rfl) rfl) (fun hc => PO.neqS (Ev.gv rfl hc) (Ev.gv rfl hc)) (Nat.le_of_ble_eq_true rfl) ?_
  refine WL.po (PO.pickOr rfl rfl) (Nat.le_of_ble_eq_true rfl) ?_
  refine WL.po (PO.move (Ev.tmp rfl)) (Nat.le_of_ble_eq_true rfl) ?_
  refine WL.poG (GU.f (hG _ _ rfl) rfl) (fun hc => PO.move (Ev.tmp rfl)) (Nat.le_of_ble_eq_true rfl) ?_
  refine WL.poG (GU.f (hG _ _ rfl) rfl) (fun hc => PO.bin (Ev.gv rfl hc) Ev.const rfl) (Nat.le_of_ble_eq_true rfl) ?_
  refine WL.poG (GU.f (hG _ _ rfl) rfl) (fun hc => PO.move (Ev.gv rfl hc)) (Nat.le_of_ble_eq_true rfl) ?_
  refine WL.poG (GU.nt (hG _ _ rfl) rfl) (fun hc => PO.load1 Tryd.underlying25 rfl (Ev.tmp rfl) (by (repeat (first | exact List.Mem.head _ | apply List.Mem.tail))) rfl) (Nat.le_of_ble_eq_true rfl) ?_
  refine WL.poG (GU.nt (hG _ _ rfl) rfl) (fun hc => PO.load1 Tryd.underlying3 rfl (Ev.tmp rfl) (by (repeat (first | exact List.Mem.head _ | apply List.Mem.tail))) rfl) (Nat.le_of_ble_eq_true rfl) ?_
  refine WL.poG (GU.nt (hG _ _ rfl) rfl) (fun hc => PO.idx EL25.und EL25.size EL25.posz (Ev.gv rfl hc) (Ev.gv rfl hc) (by first | assumption | exact Rd.ofSl (by assumption) | exact Rd.ofPt rfl (by decide) (by (repeat (first | exact List.Mem.head _ | apply List.Mem.tail))) | exact Rd.mono (by assumption) (View.le.refl _) (by (repeat (first | exact List.Sublist.refl _ | refine List.Sublist.cons_cons _ ?_ | apply List.Sublist.cons))) | exact Rd.inRow (by (repeat (first | exact List.Mem.head _ | apply List.Mem.tail))) (by assumption) (by assumption) (by assumption)) rfl (by simp at hc; omega)) (Nat.le_of_ble_eq_true rfl) ?_
  refine WL.poG (GU.nt (hG _ _ rfl) rfl) (fun hc => PO.fieldF Tryd.underlying53 rfl (Nat.ne_of_beq_eq_false rfl) encK_len (Nat.succ_pos _) (by first | assumption | exact Rd.ofSl (by assumption) | exact Rd.ofPt rfl (by decide) (by (repeat (first | exact List.Mem.head _ | apply List.Mem.tail))) | exact Rd.mono (by assumption) (View.le.refl _) (by (repeat (first | exact List.Sublist.refl _ | refine List.Sublist.cons_cons _ ?_ | apply List.Sublist.cons))) | exact Rd.inRow (by (repeat (first | exact List.Mem.head _ | apply List.Mem.tail))) (by assumption) (by assumption) (by assumption)) (hq (by simp at hc; omega)) (Ev.gv rfl hc)) (Nat.le_of_ble_eq_true rfl) ?_
  refine WL.poG (GU.nt (hG _ _ rfl) rfl) (fun hc => PO.loadFf Tryd.underlying21 rfl encK_len (by first | assumption | exact Rd.ofSl (by assumption) | exact Rd.ofPt rfl (by decide) (by (repeat (first | exact List.Mem.head _ | apply List.Mem.tail))) | exact Rd.mono (by assumption) (View.le.refl _) (by (repeat (first | exact List.Sublist.refl _ | refine List.Sublist.cons_cons _ ?_ | apply List.Sublist.cons))) | exact Rd.inRow (by (repeat (first | exact List.Mem.head _ | apply List.Mem.tail))) (by assumption) (by assumption) (by assumption)) (Ev.gv rfl hc) (hq (by simp at hc; omega)) rfl) (Nat.le_of_ble_eq_true rfl) ?_
  refine WL.poG (GU.nt (hG _ _ rfl) rfl) (fun hc => PO.bin (Ev.gv rfl hc) Ev.const rfl) (Nat.le_of_ble_eq_true rfl) ?_
  refine WL.poG (GU.f (hG _ _ rfl) rfl) (fun hc => PO.pickAndN hc rfl rfl) (Nat.le_of_ble_eq_true rfl) ?_
  refine WL.po (PO.pickOr rfl rfl) (Nat.le_of_ble_eq_true rfl) ?_
  refine WL.nil (keepF (ts := [2, 40]) rfl (toK (by assumption) ?_))
  (try clear hG ops)
  (repeat (first | refine WC.seqK fun K hK => ?_ | refine WC.block ?_ | refine WC.regionG rfl fun ops hG => ?_))
  refine WC.cond (Ev.tmp rfl) (fun c40 => ?_) (fun c40 => ?_)
  · have d : next l n kd s = false := by unfold next; rw [show notNext l n kd s = true from c40]; rfl
    (repeat (first | refine WC.seqK fun K hK => ?_ | refine WC.block ?_ | refine WC.regionG rfl fun ops hG => ?_))
    refine WL.po (PO.assign Ev.const) (Nat.le_of_ble_eq_true rfl) ?_
    refine WL.nil (keepF (ts := [6]) rfl (toK (by assumption) ?_))
    (try clear hG ops)
    refine WC.ret (end1 (h' := FL b1 b2 b3 b5 a l.length c t n ++ h) (.inl rfl) rfl (RV.tmp rfl) (View.le.refl m) (by (repeat (first | exact List.Sublist.refl _ | refine List.Sublist.cons_cons _ ?_ | apply List.Sublist.cons))) ?_)
    rw [d]; exact ⟨rfl, rfl⟩
  · have d : next l n kd s = true := by unfold next; rw [show notNext l n kd s = false from c40]; rfl
    have hlt := next_lt d
    refine WC.skip (keepF (ts := [2]) rfl (toK (by assumption) ?_))
    (repeat (first | refine WC.seqK fun K hK => ?_ | refine WC.block ?_ | refine WC.regionG rfl fun ops hG => ?_))
    refine WL.po (PO.load1 Tryd.underlying3 rfl (Ev.tmp rfl) (by (repeat (first | exact List.Mem.head _ | apply List.Mem.tail))) rfl) (Nat.le_of_ble_eq_true rfl) ?_
    refine WL.po (PO.addI (Ev.tmp rfl) Ev.const (by omega)) (Nat.le_of_ble_eq_true rfl) ?_
    refine WL.store rfl (Ev.tmp rfl) (Ev.tmp rfl) rfl rfl rfl rfl (by (repeat (first | exact Upd.here | apply Upd.next))) ?_
    refine WL.nil (keepF (ts := []) rfl (toK (by assumption) ?_))
    (try clear hG ops)
    (repeat (first | refine WC.seqK fun K hK => ?_ | refine WC.block ?_ | refine WC.regionG rfl fun ops hG => ?_))
    refine WL.po (PO.assign Ev.const) (Nat.le_of_ble_eq_true rfl) ?_
    refine WL.nil (keepF (ts := [6]) rfl (toK (by assumption) ?_))
    (try clear hG ops)
    refine WC.ret (end1 (h' := FL b1 b2 b3 b5 a l.length c t (n + 1) ++ h) (.inl rfl) rfl (RV.tmp rfl) (View.le.refl m) (by (repeat (first | exact List.Sublist.refl _ | refine List.Sublist.cons_cons _ ?_ | apply List.Sublist.cons))) ?_)
    rw [d]; exact ⟨rfl, rfl⟩
theorem named0_ct (x1 x2 x3 x5 : Nat) (a : Option Addr) (k c : Nat) (l : List Tok) (t : Ty) (n : Nat) (h : List Res) (m : View) (hg : Glob m) (hs : Rd m h a k c 4 (fl encK l)) (hn : n ≤ k) :
    CT Tryd.prog 39 [.pointer (some ⟨x2, 0, none⟩), .pointer (some ⟨x5, 0, none⟩)] (FL x1 x2 x3 x5 a k c t n ++ h) m (Pure1 (FL x1 x2 x3 x5 a k c (setKind t (named l n)) (nx (nmB l n) n) ++ h) (.bool (nmB l n))) := by
  refine CT.body Tryd.call39 Tryd.func39 rfl Tryd.ntmps39 (Nat.le_of_ble_eq_true rfl) rfl ?_
  (repeat (first | refine WC.seqK fun K hK => ?_ | refine WC.block ?_ | refine WC.regionG rfl fun ops hG => ?_))
  refine WL.po (PO.assign Ev.const) (Nat.le_of_ble_eq_true rfl) ?_
  refine WL.nil (keepF (ts := [0, 1]) rfl (toK (by assumption) ?_))
  (try clear hG ops)
  (repeat (first | refine WC.seqK fun K hK => ?_ | refine WC.block ?_ | refine WC.regionG rfl fun ops hG => ?_))
  refine WL.po (PO.loadAV (vs := fl encP prims) Tryd.underlying71 rfl rfl Ev.global rfl (fun j v hj => by rw [Nat.zero_add]; exact hg.prim j v hj)) (Nat.le_of_ble_eq_true rfl) ?_
  refine WL.po (PO.move Ev.const) (Nat.le_of_ble_eq_true rfl) ?_
  refine WL.nil (keepF (ts := [0, 1, 6, 7]) rfl (toK (by assumption) ?_))
  (try clear hG ops)
  (repeat (first | refine WC.seqK fun K hK => ?_ | refine WC.block ?_ | refine WC.regionG rfl fun ops hG => ?_))
  refine WC.loopI [0, 1, 6] rfl (fun μ F' h' => ∃ i : Nat, (i ≤ 3 ∧ named l n = namedIn l n (prims.drop i)) ∧ 3 - i = μ ∧ F' = [(7, .int .i64 i)] ∧ FL x1 x2 x3 x5 a k c t n ++ h = h') (3 - 0) [(7, .int .i64 0)] (h0 := FL x1 x2 x3 x5 a k c t n ++ h) ?_ (by (repeat (first | exact List.Sublist.refl _ | refine List.Sublist.cons_cons _ ?_ | apply List.Sublist.cons))) ⟨0, ⟨by omega, rfl⟩, rfl, rfl, rfl⟩ ?_
  · (repeat (first | exact Sub.nil | refine Sub.cons rfl ?_ | refine Sub.consE rfl (by simp; done) ?_))
  rintro _ _ _ ⟨i, ⟨hk, hJ⟩, rfl, rfl, rfl⟩
  refine WC.frm rfl ?_
  (repeat (first | refine WC.seqK fun K hK => ?_ | refine WC.block ?_ | refine WC.regionG rfl fun ops hG => ?_))
  refine WL.po (PO.bin (Ev.tmp rfl) Ev.const rfl) (Nat.le_of_ble_eq_true rfl) ?_
  refine WL.nil (keepF (ts := [0, 1, 6, 7, 8]) rfl (toK (by assumption) ?_))
  (try clear hG ops)
  (repeat (first | refine WC.seqK fun K hK => ?_ | refine WC.block ?_ | refine WC.regionG rfl fun ops hG => ?_))
  refine WC.cond (Ev.tmp rfl) (fun c8 => ?_) (fun c8 => ?_)
  · replace c8 := of_decide_eq_true c8
    obtain ⟨p, hp⟩ := get_some (l := prims) (k := i) (by show i < 3; omega)
    rw [namedIn_drop l n hp] at hJ
    refine WC.skip (keepF (ts := [0, 1, 6, 7]) rfl (toK (by assumption) ?_))
    (repeat (first | refine WC.seqK fun K hK => ?_ | refine WC.block ?_ | refine WC.regionG rfl fun ops hG => ?_))
    refine WL.po (PO.idxArr (sz := 3) (q := i) Tryd.underlying71 Tryd.underlying70 rfl rfl (Ev.tmp rfl) (Ev.tmp rfl) rfl (by omega) (prim_cut hp)) (Nat.le_of_ble_eq_true rfl) ?_
    refine WL.alloc rfl rfl (Nat.le_of_ble_eq_true rfl) fun b5 => ?_
    refine WL.store rfl (Ev.tmp rfl) (Ev.tmp rfl) rfl rfl rfl rfl (by (repeat (first | exact Upd.here | apply Upd.next))) ?_
    refine WL.nil (keepF (ts := [0, 1, 5, 6, 7]) rfl (toK (by assumption) ?_))
    (try clear hG ops)
    (repeat (first | refine WC.seqK fun K hK => ?_ | refine WC.block ?_ | refine WC.regionG rfl fun ops hG => ?_))
    refine WL.po (PO.load1 Tryd.underlying68 rfl (Ev.tmp rfl) (by (repeat (first | exact List.Mem.head _ | apply List.Mem.tail))) rfl) (Nat.le_of_ble_eq_true rfl) ?_
    refine WL.po (PO.fieldAddr Tryd.underlying70 rfl (Nat.ne_of_beq_eq_false rfl) (Ev.tmp rfl)) (Nat.le_of_ble_eq_true rfl) ?_
    refine WL.po (PO.load1 Tryd.underlying9 rfl (Ev.tmp rfl) (by (repeat (first | exact List.Mem.head _ | apply List.Mem.tail))) rfl) (Nat.le_of_ble_eq_true rfl) ?_
    refine WL.callK (Ev.tmp rfl) (Evs.cons Ev.const (Evs.cons (Ev.tmp rfl) Evs.nil)) (CT.frame (fr := [_]) (hs := h) (next_ct x1 x2 x3 x5 a k c l t n 2 p.word _ _ (hs.mono (View.le.refl _) (List.sublist_cons_self _ _)) hn)) (Nat.le_of_ble_eq_true rfl) ?_
    rintro _ _ ⟨rfl, rfl⟩
    refine WL.nil (keepF (ts := [0, 1, 5, 6, 7, 13]) rfl (toK (by assumption) ?_))
    (try clear hG ops)
    (repeat (first | refine WC.seqK fun K hK => ?_ | refine WC.block ?_ | refine WC.regionG rfl fun ops hG => ?_))
    refine WC.cond (Ev.tmp rfl) (fun c13 => ?_) (fun c13 => ?_)
    · rw [c13] at hJ
      rw [c13]
      (repeat (first | refine WC.seqK fun K hK => ?_ | refine WC.block ?_ | refine WC.regionG rfl fun ops hG => ?_))
      refine WL.po (PO.move (Ev.tmp rfl)) (Nat.le_of_ble_eq_true rfl) ?_
      refine WL.po (PO.fieldAddr Tryd.underlying70 rfl (Nat.ne_of_beq_eq_false rfl) (Ev.tmp rfl)) (Nat.le_of_ble_eq_true rfl) ?_
      refine WL.po (PO.load1 Tryd.underlying22 rfl (Ev.tmp rfl) (by (repeat (first | exact List.Mem.head _ | apply List.Mem.tail))) rfl) (Nat.le_of_ble_eq_true rfl) ?_
      refine WL.po (PO.nilCheck (Ev.tmp rfl)) (Nat.le_of_ble_eq_true rfl) ?_
      refine WL.store rfl (Ev.tmp rfl) (Ev.tmp rfl) rfl rfl rfl rfl (by (repeat (first | exact Upd.here | apply Upd.next))) ?_
      refine WL.nil (keepF (ts := []) rfl (toK (by assumption) ?_))
      (try clear hG ops)
      (repeat (first | refine WC.seqK fun K hK => ?_ | refine WC.block ?_ | refine WC.regionG rfl fun ops hG => ?_))
      refine WL.po (PO.assign Ev.const) (Nat.le_of_ble_eq_true rfl) ?_
      refine WL.nil (keepF (ts := [3]) rfl (toK (by assumption) ?_))
      (try clear hG ops)
      refine WC.ret (end1 (h' := FL x1 x2 x3 x5 a k c (setKind t (some p.kind)) (n + 1) ++ h) (.inl rfl) rfl (RV.tmp rfl) (View.le.refl m) (by (repeat (first | exact List.Sublist.refl _ | refine List.Sublist.cons_cons _ ?_ | apply List.Sublist.cons))) ?_)
      rw [nmB, hJ]; exact ⟨rfl, rfl⟩
    · rw [c13] at hJ
      rw [c13]
      refine WC.skip (keepF (ts := [0, 1, 6, 7]) rfl (toK (by assumption) ?_))
      (repeat (first | refine WC.seqK fun K hK => ?_ | refine WC.block ?_ | refine WC.regionG rfl fun ops hG => ?_))
      refine WL.po (PO.addI (Ev.tmp rfl) Ev.const (by omega)) (Nat.le_of_ble_eq_true rfl) ?_
      refine WL.po (PO.move (Ev.tmp rfl)) (Nat.le_of_ble_eq_true rfl) ?_
      refine WL.nil (loopBackI (3 - (i + 1)) [(7, .int .i64 (i + 1))] (h'' := FL x1 x2 x3 x5 a k c t n ++ h) (by omega) ?_ (by (repeat (first | exact Sub.nil | refine Sub.cons rfl ?_ | refine Sub.consE rfl (by simp; done) ?_))) (by (repeat (first | exact List.Sublist.refl _ | refine List.Sublist.cons_cons _ ?_ | apply List.Sublist.cons))) ⟨i + 1, ⟨by omega, by simpa using hJ⟩, rfl, rfl, rfl⟩)
      (repeat (first | exact Sub.nil | refine Sub.cons rfl ?_ | refine Sub.consE rfl (by simp; done) ?_))
  · replace c8 := of_decide_eq_false c8
    rw [List.drop_eq_nil_of_le (by show 3 ≤ i; omega)] at hJ
    refine WC.exit (keepF (ts := []) rfl (toK (by assumption) ?_))
    (repeat (first | refine WC.seqK fun K hK => ?_ | refine WC.block ?_ | refine WC.regionG rfl fun ops hG => ?_))
    refine WL.po (PO.assign Ev.const) (Nat.le_of_ble_eq_true rfl) ?_
    refine WL.nil (keepF (ts := [3]) rfl (toK (by assumption) ?_))
    (try clear hG ops)
    refine WC.ret (end1 (h' := FL x1 x2 x3 x5 a k c t n ++ h) (.inl rfl) rfl (RV.tmp rfl) (View.le.refl m) (by (repeat (first | exact List.Sublist.refl _ | refine List.Sublist.cons_cons _ ?_ | apply List.Sublist.cons))) ?_)
    rw [nmB, hJ]; exact ⟨rfl, rfl⟩
theorem named2_ct (x1 x2 x3 x5 : Nat) (a : Option Addr) (k c : Nat) (l : List Tok) (t : Ty) (n : Nat) (h : List Res) (m : View) (hg : Glob m) (hs : Rd m h a k c 4 (fl encK l)) (hn : n ≤ k) :
    CT Tryd.prog 39 [.pointer (some ⟨x2, 2, none⟩), .pointer (some ⟨x5, 0, none⟩)] (FL x1 x2 x3 x5 a k c t n ++ h) m (Pure1 (FL x1 x2 x3 x5 a k c (setItem t (named l n)) (nx (nmB l n) n) ++ h) (.bool (nmB l n))) := by
  refine CT.body Tryd.call39 Tryd.func39 rfl Tryd.ntmps39 (Nat.le_of_ble_eq_true rfl) rfl ?_
  (repeat (first | refine WC.seqK fun K hK => ?_ | refine WC.block ?_ | refine WC.regionG rfl fun ops hG => ?_))
  refine WL.po (PO.assign Ev.const) (Nat.le_of_ble_eq_true rfl) ?_
  refine WL.nil (keepF (ts := [0, 1]) rfl (toK (by assumption) ?_))
  (try clear hG ops)
  (repeat (first | refine WC.seqK fun K hK => ?_ | refine WC.block ?_ | refine WC.regionG rfl fun ops hG => ?_))
  refine WL.po (PO.loadAV (vs := fl encP prims) Tryd.underlying71 rfl rfl Ev.global rfl (fun j v hj => by rw [Nat.zero_add]; exact hg.prim j v hj)) (Nat.le_of_ble_eq_true rfl) ?_
  refine WL.po (PO.move Ev.const) (Nat.le_of_ble_eq_true rfl) ?_
  refine WL.nil (keepF (ts := [0, 1, 6, 7]) rfl (toK (by assumption) ?_))
  (try clear hG ops)
  (repeat (first | refine WC.seqK fun K hK => ?_ | refine WC.block ?_ | refine WC.regionG rfl fun ops hG => ?_))
  refine WC.loopI [0, 1, 6] rfl (fun μ F' h' => ∃ i : Nat, (i ≤ 3 ∧ named l n = namedIn l n (prims.drop i)) ∧ 3 - i = μ ∧ F' = [(7, .int .i64 i)] ∧ FL x1 x2 x3 x5 a k c t n ++ h = h') (3 - 0) [(7, .int .i64 0)] (h0 := FL x1 x2 x3 x5 a k c t n ++ h) ?_ (by (repeat (first | exact List.Sublist.refl _ | refine List.Sublist.cons_cons _ ?_ | apply List.Sublist.cons))) ⟨0, ⟨by omega, rfl⟩, rfl, rfl, rfl⟩ ?_
  · (repeat (first | exact Sub.nil | refine Sub.cons rfl ?_ | refine Sub.consE rfl (by simp; done) ?_))
  rintro _ _ _ ⟨i, ⟨hk, hJ⟩, rfl, rfl, rfl⟩
  refine WC.frm rfl ?_
  (repeat (first | refine WC.seqK fun K hK => ?_ | refine WC.block ?_ | refine WC.regionG rfl fun ops hG => ?_))
  refine WL.po (PO.bin (Ev.tmp rfl) Ev.const rfl) (Nat.le_of_ble_eq_true rfl) ?_
  refine WL.nil (keepF (ts := [0, 1, 6, 7, 8]) rfl (toK (by assumption) ?_))
  (try clear hG ops)
  (repeat (first | refine WC.seqK fun K hK => ?_ | refine WC.block ?_ | refine WC.regionG rfl fun ops hG => ?_))
  refine WC.cond (Ev.tmp rfl) (fun c8 => ?_) (fun c8 => ?_)
  · replace c8 := of_decide_eq_true c8
    obtain ⟨p, hp⟩ := get_some (l := prims) (k := i) (by show i < 3; omega)
    rw [namedIn_drop l n hp] at hJ
    refine WC.skip (keepF (ts := [0, 1, 6, 7]) rfl (toK (by assumption) ?_))
    (repeat (first | refine WC.seqK fun K hK => ?_ | refine WC.block ?_ | refine WC.regionG rfl fun ops hG => ?_))
    refine WL.po (PO.idxArr (sz := 3) (q := i) Tryd.underlying71 Tryd.underlying70 rfl rfl (Ev.tmp rfl) (Ev.tmp rfl) rfl (by omega) (prim_cut hp)) (Nat.le_of_ble_eq_true rfl) ?_
    refine WL.alloc rfl rfl (Nat.le_of_ble_eq_true rfl) fun b5 => ?_
    refine WL.store rfl (Ev.tmp rfl) (Ev.tmp rfl) rfl rfl rfl rfl (by (repeat (first | exact Upd.here | apply Upd.next))) ?_
    refine WL.nil (keepF (ts := [0, 1, 5, 6, 7]) rfl (toK (by assumption) ?_))
    (try clear hG ops)
    (repeat (first | refine WC.seqK fun K hK => ?_ | refine WC.block ?_ | refine WC.regionG rfl fun ops hG => ?_))
    refine WL.po (PO.load1 Tryd.underlying68 rfl (Ev.tmp rfl) (by (repeat (first | exact List.Mem.head _ | apply List.Mem.tail))) rfl) (Nat.le_of_ble_eq_true rfl) ?_
    refine WL.po (PO.fieldAddr Tryd.underlying70 rfl (Nat.ne_of_beq_eq_false rfl) (Ev.tmp rfl)) (Nat.le_of_ble_eq_true rfl) ?_
    refine WL.po (PO.load1 Tryd.underlying9 rfl (Ev.tmp rfl) (by (repeat (first | exact List.Mem.head _ | apply List.Mem.tail))) rfl) (Nat.le_of_ble_eq_true rfl) ?_
    refine WL.callK (Ev.tmp rfl) (Evs.cons Ev.const (Evs.cons (Ev.tmp rfl) Evs.nil)) (CT.frame (fr := [_]) (hs := h) (next_ct x1 x2 x3 x5 a k c l t n 2 p.word _ _ (hs.mono (View.le.refl _) (List.sublist_cons_self _ _)) hn)) (Nat.le_of_ble_eq_true rfl) ?_
    rintro _ _ ⟨rfl, rfl⟩
    refine WL.nil (keepF (ts := [0, 1, 5, 6, 7, 13]) rfl (toK (by assumption) ?_))
    (try clear hG ops)
    (repeat (first | refine WC.seqK fun K hK => ?_ | refine WC.block ?_ | refine WC.regionG rfl fun ops hG => ?_))
    refine WC.cond (Ev.tmp rfl) (fun c13 => ?_) (fun c13 => ?_)
    · rw [c13] at hJ
      rw [c13]
      (repeat (first | refine WC.seqK fun K hK => ?_ | refine WC.block ?_ | refine WC.regionG rfl fun ops hG => ?_))
      refine WL.po (PO.move (Ev.tmp rfl)) (Nat.le_of_ble_eq_true rfl) ?_
      refine WL.po (PO.fieldAddr Tryd.underlying70 rfl (Nat.ne_of_beq_eq_false rfl) (Ev.tmp rfl)) (Nat.le_of_ble_eq_true rfl) ?_
      refine WL.po (PO.load1 Tryd.underlying22 rfl (Ev.tmp rfl) (by (repeat (first | exact List.Mem.head _ | apply List.Mem.tail))) rfl) (Nat.le_of_ble_eq_true rfl) ?_
      refine WL.po (PO.nilCheck (Ev.tmp rfl)) (Nat.le_of_ble_eq_true rfl) ?_
      refine WL.store rfl (Ev.tmp rfl) (Ev.tmp rfl) rfl rfl rfl rfl (by (repeat (first | exact Upd.here | apply Upd.next))) ?_
      refine WL.nil (keepF (ts := []) rfl (toK (by assumption) ?_))
      (try clear hG ops)
      (repeat (first | refine WC.seqK fun K hK => ?_ | refine WC.block ?_ | refine WC.regionG rfl fun ops hG => ?_))
      refine WL.po (PO.assign Ev.const) (Nat.le_of_ble_eq_true rfl) ?_
      refine WL.nil (keepF (ts := [3]) rfl (toK (by assumption) ?_))
      (try clear hG ops)
      refine WC.ret (end1 (h' := FL x1 x2 x3 x5 a k c (setItem t (some p.kind)) (n + 1) ++ h) (.inl rfl) rfl (RV.tmp rfl) (View.le.refl m) (by (repeat (first | exact List.Sublist.refl _ | refine List.Sublist.cons_cons _ ?_ | apply List.Sublist.cons))) ?_)
      rw [nmB, hJ]; exact ⟨rfl, rfl⟩
    · rw [c13] at hJ
      rw [c13]
      refine WC.skip (keepF (ts := [0, 1, 6, 7]) rfl (toK (by assumption) ?_))
      (repeat (first | refine WC.seqK fun K hK => ?_ | refine WC.block ?_ | refine WC.regionG rfl fun ops hG => ?_))
      refine WL.po (PO.addI (Ev.tmp rfl) Ev.const (by omega)) (Nat.le_of_ble_eq_true rfl) ?_
      refine WL.po (PO.move (Ev.tmp rfl)) (Nat.le_of_ble_eq_true rfl) ?_
      refine WL.nil (loopBackI (3 - (i + 1)) [(7, .int .i64 (i + 1))] (h'' := FL x1 x2 x3 x5 a k c t n ++ h) (by omega) ?_ (by (repeat (first | exact Sub.nil | refine Sub.cons rfl ?_ | refine Sub.consE rfl (by simp; done) ?_))) (by (repeat (first | exact List.Sublist.refl _ | refine List.Sublist.cons_cons _ ?_ | apply List.Sublist.cons))) ⟨i + 1, ⟨by omega, by simpa using hJ⟩, rfl, rfl, rfl⟩)
      (repeat (first | exact Sub.nil | refine Sub.cons rfl ?_ | refine Sub.consE rfl (by simp; done) ?_))
  · replace c8 := of_decide_eq_false c8
    rw [List.drop_eq_nil_of_le (by show 3 ≤ i; omega)] at hJ
    refine WC.exit (keepF (ts := []) rfl (toK (by assumption) ?_))
    (repeat (first | refine WC.seqK fun K hK => ?_ | refine WC.block ?_ | refine WC.regionG rfl fun ops hG => ?_))
    refine WL.po (PO.assign Ev.const) (Nat.le_of_ble_eq_true rfl) ?_
    refine WL.nil (keepF (ts := [3]) rfl (toK (by assumption) ?_))
    (try clear hG ops)
    refine WC.ret (end1 (h' := FL x1 x2 x3 x5 a k c t n ++ h) (.inl rfl) rfl (RV.tmp rfl) (View.le.refl m) (by (repeat (first | exact List.Sublist.refl _ | refine List.Sublist.cons_cons _ ?_ | apply List.Sublist.cons))) ?_)
    rw [nmB, hJ]; exact ⟨rfl, rfl⟩
end Go.Proofs.YtcejocfjienpfaaDoor

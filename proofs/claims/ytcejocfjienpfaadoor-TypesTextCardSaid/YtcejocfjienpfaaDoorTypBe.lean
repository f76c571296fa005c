/- types: TypesText. -/
import Derived.Test.YtcejocfjienpfaaDoorTypK
import Derived.Test.YtcejocfjienpfaaDoorTypBa
import Derived.Test.YtcejocfjienpfaaDoorLexXm
import Derived.Test.YtcejocfjienpfaaDoorLexD
import Derived.Test.YtcejocfjienpfaaDoorLexF
namespace Go.Ty
open Go.Lx
set_option maxRecDepth 100000
theorem toks_may {t : Ty} (h : may t = true) : ∀ x, x ∈ toks t → mayK x = true := by
  have hdim : ∀ x, x ∈ dimT t → mayK x = true := by
    intro x hx
    unfold dimT at hx
    split at hx
    · simp only [List.mem_cons, List.not_mem_nil, or_false] at hx
      rcases hx with rfl | rfl | rfl
      · decide +kernel
      · rfl
      · decide +kernel
    · cases hx
  have hw : ∀ k, is k = true → mayK (keyT (wordS k).1) = true := by
    intro k hk
    rcases is_three hk with rfl | rfl | rfl <;> decide +kernel
  have hc : mayK (keyT cCHAN) = true := by decide +kernel
  have ho : mayK (keyT cOF) = true := by decide +kernel
  have ht : mayK (keyT cTIMER) = true := by decide +kernel
  cases may_shape h with
  | plain k d hk e =>
    subst e
    rw [toks_k k d hk]
    intro x hx
    rcases List.mem_append.1 hx with hx | hx
    · exact hdim x hx
    · cases List.mem_singleton.1 hx; exact hw k hk
  | timer e =>
    subst e
    intro x hx
    have : x = keyT cTIMER := List.mem_singleton.1 hx
    rw [this]; exact ht
  | item k d hk e =>
    subst e
    rw [toks_i k d hk]
    intro x hx
    rcases List.mem_append.1 hx with hx | hx
    · exact hdim x hx
    · simp only [List.mem_cons, List.not_mem_nil, or_false] at hx
      rcases hx with rfl | rfl | rfl
      · exact hc
      · exact ho
      · exact hw k hk
  | proto s d hs e =>
    subst e
    rw [toks_p s d hs]
    intro x hx
    rcases List.mem_append.1 hx with hx | hx
    · exact hdim x hx
    · simp only [List.mem_cons, List.not_mem_nil, or_false] at hx
      rcases hx with rfl | rfl | rfl
      · exact hc
      · exact ho
      · show (((0 : Int) == 0) && name s) = true
        rw [hs]
        rfl
theorem word_le {v : Int} (h : -2147483648 ≤ v ∧ v ≤ 2147483647) : (wordP v (decide (v < 0))).length ≤ 10 := by
  unfold wordP
  split
  · rw [List.length_cons, hexDig_len]; omega
  · rename_i hn
    have hn : ¬ v < 0 := by simpa using hn
    unfold Lib.itoa
    rw [if_neg hn]
    exact dec_le 9 _ (by omega)
theorem textP_le {t : Tok} (hk : mayK t = true) (hn : -2147483648 ≤ t.n ∧ t.n ≤ 2147483647) : (textP t).length ≤ 33 := by
  unfold textP
  split
  · have := word_le hn; omega
  · split
    · have := shown_len t.n.toNat
      simp only [List.length_append, List.length_singleton]
      omega
    · have := may_len hk; omega
theorem textL_le : ∀ (l : List Tok) (p : Option Tok), (∀ x, x ∈ l → (textP x).length ≤ 33) → (textL p l).length ≤ 34 * l.length
  | [], _, _ => Nat.zero_le _
  | t :: l, p, h => by
    have ih := textL_le l (some t) fun x hx => h x (List.mem_cons_of_mem _ hx)
    have h1 := h t List.mem_cons_self
    have h2 : (sep (gapO p t)).length ≤ 1 := by cases gapO p t <;> decide
    show (sep (gapO p t) ++ textP t ++ textL (some t) l).length ≤ _
    simp only [List.length_append, List.length_cons]
    omega
theorem begF_place : ∀ (l : List Tok) (p : Option Tok) (q : Nat), (∀ y, y ∈ l → strip y = y) → begF (place p q l) l = true
  | [], _, _, _ => by unfold place begF; rfl
  | t :: l, p, q, h => by
    show (eqK (strip { t with at_ := (q + (sep (gapO p t)).length : Nat) }) t && begF (place (some t) _ l) l) = true
    rw [show strip { t with at_ := ((q + (sep (gapO p t)).length : Nat) : Int) } = strip t from rfl, h t List.mem_cons_self, (eqK_iff t t).2 rfl, begF_place l _ _ fun y hy => h y (List.mem_cons_of_mem _ hy)]
    rfl
/-- The text of a type's tokens is read as these tokens, and they as this type. -/
theorem type_text {t : Ty} (h : may t = true) (hs : t.proto.length ≤ 9223372036854775807) : ∃ s l, textO (toks t) = (s, 0) ∧ s.length ≤ 256 ∧ lexO s = (l, 0, 0) ∧ l.length = (toks t).length ∧ front l = (t, (toks t).length, 0) ∧ TkOk l := by
  have hk := toks_may h
  have hm := toks_mem h hs
  have hn : TkN (toks t) := fun x hx => (hm x hx).2.1
  have hl : (textL none (toks t)).length ≤ 256 := by
    have h1 := textL_le (toks t) none fun x hx => textP_le (hk x hx) (hn x hx)
    have h2 := toks_len t
    omega
  obtain ⟨b1, _, _⟩ := text_back hk hn hl
  refine ⟨textL none (toks t), place none 0 (toks t), textO_ok (List.any_eq_false.2 fun x hx => by rw [hk x hx]; simp) hl, hl, b1, place_len _ _ _, front_of h ((begF_iff _ _ 0).1 (begF_place _ _ _ fun y hy => (hm y hy).1)), fun x hx => ?_⟩
  obtain ⟨y, hy, e⟩ := place_mem _ _ _ x hx
  rw [e]
  exact (hm y hy).2
end Go.Ty
namespace Go.Proofs.YtcejocfjienpfaaDoor
open Go.Eng Go.Lx Go.Ty
set_option maxRecDepth 100000
theorem ttext_law (t : Ty) (h : List Res) (m : View) (hg : Glob m) (hp : Pow m) (ht : t.proto.length ≤ 9223372036854775807) :
    CT Tryd.prog 10 [tyV t] h m Law := by
  have cL : ∀ {s : B} {l : List Tok} {z e : Int}, lexO s = (l, z, e) → ∀ h', s.length ≤ 140737488355328 → CT Tryd.prog 32 [str s] h' m (fun v _ h'' => ∃ a c, v = .tuple #[.slice a l.length c, .int .i64 z, .int .i64 e] ∧ h'' = .row (.slice a l.length c) 53 4 l.length (fl encK l) :: h') := fun hO h' hs => by
    have := lxTokens_ct _ h' m hg hs
    rw [hO] at this
    exact this
  have cT : ∀ {l : List Tok} {s : B} {f : Int}, textO l = (s, f) → ∀ a k c h', Rd m h' a k c 4 (fl encK l) → TkL l → CT Tryd.prog 31 [.slice a k c] h' m (Pure1 h' (.tuple #[str s, .int .i64 f])) := fun hO a k c h' hs hL => by
    have := lxText_ct a k c _ h' m hg hp hs hL
    rw [hO] at this
    exact this
  refine CT.body Tryd.call10 Tryd.func10 rfl Tryd.ntmps10 (Nat.le_of_ble_eq_true rfl) rfl ?_
  (repeat (first | refine WC.seqK fun K hK => ?_ | refine WC.block ?_ | refine WC.regionG rfl fun ops hG => ?_))
  refine WL.box (Ev.tmp rfl) rfl (Nat.le_of_ble_eq_true rfl) fun b1 => ?_
  refine WL.po (PO.assign Ev.const) (Nat.le_of_ble_eq_true rfl) ?_
  refine WL.nil (keepF (ts := [1]) rfl (toK (by assumption) ?_))
  (try clear hG ops)
  (repeat (first | refine WC.seqK fun K hK => ?_ | refine WC.block ?_ | refine WC.regionG rfl fun ops hG => ?_))
  refine WL.po (PO.loadA Tryd.underlying24 rfl rfl (Ev.tmp rfl) (by (repeat (first | exact List.Mem.head _ | apply List.Mem.tail))) rfl) (Nat.le_of_ble_eq_true rfl) ?_
  refine WL.callK Ev.func (Evs.cons (Ev.tmp rfl) Evs.nil) (tokens_ct t _ _ hg ht) (Nat.le_of_ble_eq_true rfl) ?_
  rintro _ _ ⟨a15, cp15, rfl, rfl⟩
  refine WL.knowRow (a := a15) (by (repeat (first | exact List.Mem.head _ | apply List.Mem.tail))) fun p15 q15 r15 => ?_
  refine WL.po (PO.move (Ev.tmp rfl)) (Nat.le_of_ble_eq_true rfl) ?_
  refine WL.po (PO.extract (Ev.tmp rfl) rfl) (Nat.le_of_ble_eq_true rfl) ?_
  refine WL.po (PO.extract (Ev.tmp rfl) rfl) (Nat.le_of_ble_eq_true rfl) ?_
  refine WL.po (PO.assign (Ev.tmp rfl)) (Nat.le_of_ble_eq_true rfl) ?_
  refine WL.po (PO.assign (Ev.tmp rfl)) (Nat.le_of_ble_eq_true rfl) ?_
  refine WL.nil (keepF (ts := [1, 3, 4]) rfl (toK (by assumption) ?_))
  (try clear hG ops)
  (repeat (first | refine WC.seqK fun K hK => ?_ | refine WC.block ?_ | refine WC.regionG rfl fun ops hG => ?_))
  refine WL.po (PO.move (Ev.tmp rfl)) (Nat.le_of_ble_eq_true rfl) ?_
  refine WL.po (PO.bin (Ev.tmp rfl) Ev.const rfl) (Nat.le_of_ble_eq_true rfl) ?_
  refine WL.nil (keepF (ts := [1, 3, 19]) rfl (toK (by assumption) ?_))
  (try clear hG ops)
  (repeat (first | refine WC.seqK fun K hK => ?_ | refine WC.block ?_ | refine WC.regionG rfl fun ops hG => ?_))
  refine WC.cond (Ev.tmp rfl) (fun c19 => ?_) (fun c19 => ?_)
  · have hm : may t = false := by
      cases hm : may t with
      | false => rfl
      | true => rw [tokens_yes hm] at c19; simp at c19
    (repeat (first | refine WC.seqK fun K hK => ?_ | refine WC.block ?_ | refine WC.regionG rfl fun ops hG => ?_))
    refine WL.po (PO.loadA Tryd.underlying24 rfl rfl (Ev.tmp rfl) (by (repeat (first | exact List.Mem.head _ | apply List.Mem.tail))) rfl) (Nat.le_of_ble_eq_true rfl) ?_
    refine WL.callP Ev.func (Evs.cons (Ev.tmp rfl) Evs.nil) (may_ct t _ _ hg ht) (Nat.le_of_ble_eq_true rfl) ?_
    refine WL.po (PO.not (Ev.tmp rfl)) (Nat.le_of_ble_eq_true rfl) ?_
    refine WL.po (PO.move (Ev.tmp rfl)) (Nat.le_of_ble_eq_true rfl) ?_
    refine WL.callG (GU.t (hG _ _ rfl) rfl) (fun hc => ⟨Ev.func, Evs.nil, head_ct _ _ hg⟩) (Nat.le_of_ble_eq_true rfl) ?_
    refine WL.po (PO.pickAnd rfl rfl) (Nat.le_of_ble_eq_true rfl) ?_
    refine WL.po (PO.assign (Ev.tmp rfl)) (Nat.le_of_ble_eq_true rfl) ?_
    refine WL.nil (keepF (ts := [2]) rfl (toK (by assumption) ?_))
    (try clear hG ops)
    refine WC.ret (end1 (h' := h) (.inl rfl) rfl (RV.tmp rfl) (View.le.refl m) (by (repeat (first | exact List.Sublist.refl _ | refine List.Sublist.cons_cons _ ?_ | apply List.Sublist.cons))) ?_)
    exact congrArg Value.bool (by rw [hm]; rfl)
  · have hm : may t = true := by
      cases hm : may t with
      | true => rfl
      | false => rw [tokens_no hm] at c19; simp at c19
    have e1 : (tokens t).1 = toks t := by rw [tokens_yes hm]
    rw [e1] at p15 r15
    refine WC.resE (h' := .row (.slice a15 (toks t).length cp15) 53 4 (toks t).length (fl encK (toks t)) :: .pt b1 (.cells (cellT t).toArray 24 (0, 0)) :: h) (by rw [e1]) ?_
    rw [e1]
    obtain ⟨s, l, x1, x2, x3, x4, x5, x6⟩ := type_text hm ht
    have hkm := toks_mem hm ht
    have hL : TkL (toks t) := fun x hx => ⟨(hkm x hx).2.1, by have := may_len (toks_may hm x hx); omega⟩
    have hF : ∀ a k c h', Rd m h' a k c 4 (fl encK l) → CT Tryd.prog 15 [.slice a k c] h' m (Pure1 h' (.tuple #[tyV t, .int .i64 (toks t).length, .int .i64 0])) := fun a k c h' hs => by
      have := front_ct a k c l h' m hg hs x6
      rw [x5] at this
      exact this
    refine WC.skip (keepF (ts := [1, 3]) rfl (toK (by assumption) ?_))
    (repeat (first | refine WC.seqK fun K hK => ?_ | refine WC.block ?_ | refine WC.regionG rfl fun ops hG => ?_))
    refine WL.po (PO.move (Ev.tmp rfl)) (Nat.le_of_ble_eq_true rfl) ?_
    refine WL.callP Ev.func (Evs.cons (Ev.tmp rfl) Evs.nil) (cT x1 _ _ _ _ (Rd.inRow (by (repeat (first | exact List.Mem.head _ | apply List.Mem.tail))) r15 p15 q15) hL) (Nat.le_of_ble_eq_true rfl) ?_
    refine WL.po (PO.move (Ev.tmp rfl)) (Nat.le_of_ble_eq_true rfl) ?_
    refine WL.po (PO.extract (Ev.tmp rfl) rfl) (Nat.le_of_ble_eq_true rfl) ?_
    refine WL.po (PO.extract (Ev.tmp rfl) rfl) (Nat.le_of_ble_eq_true rfl) ?_
    refine WL.po (PO.assign (Ev.tmp rfl)) (Nat.le_of_ble_eq_true rfl) ?_
    refine WL.po (PO.assign (Ev.tmp rfl)) (Nat.le_of_ble_eq_true rfl) ?_
    refine WL.nil (keepF (ts := [1, 3, 5, 6]) rfl (toK (by assumption) ?_))
    (try clear hG ops)
    (repeat (first | refine WC.seqK fun K hK => ?_ | refine WC.block ?_ | refine WC.regionG rfl fun ops hG => ?_))
    refine WL.po (PO.move (Ev.tmp rfl)) (Nat.le_of_ble_eq_true rfl) ?_
    refine WL.callK Ev.func (Evs.cons (Ev.tmp rfl) Evs.nil) (cL x3 _ (by omega)) (Nat.le_of_ble_eq_true rfl) ?_
    rintro _ _ ⟨a33, cp33, rfl, rfl⟩
    refine WL.knowRow (a := a33) (by (repeat (first | exact List.Mem.head _ | apply List.Mem.tail))) fun p33 q33 r33 => ?_
    refine WL.po (PO.move (Ev.tmp rfl)) (Nat.le_of_ble_eq_true rfl) ?_
    refine WL.po (PO.extract (Ev.tmp rfl) rfl) (Nat.le_of_ble_eq_true rfl) ?_
    refine WL.po (PO.extract (Ev.tmp rfl) rfl) (Nat.le_of_ble_eq_true rfl) ?_
    refine WL.po (PO.extract (Ev.tmp rfl) rfl) (Nat.le_of_ble_eq_true rfl) ?_
    refine WL.po (PO.assign (Ev.tmp rfl)) (Nat.le_of_ble_eq_true rfl) ?_
    refine WL.po (PO.assign (Ev.tmp rfl)) (Nat.le_of_ble_eq_true rfl) ?_
    refine WL.po (PO.assign (Ev.tmp rfl)) (Nat.le_of_ble_eq_true rfl) ?_
    refine WL.nil (keepF (ts := [1, 3, 6, 7, 8, 9]) rfl (toK (by assumption) ?_))
    (try clear hG ops)
    (repeat (first | refine WC.seqK fun K hK => ?_ | refine WC.block ?_ | refine WC.regionG rfl fun ops hG => ?_))
    refine WL.po (PO.move (Ev.tmp rfl)) (Nat.le_of_ble_eq_true rfl) ?_
    refine WL.po (PO.bin (Ev.tmp rfl) Ev.const rfl) (Nat.le_of_ble_eq_true rfl) ?_
    refine WL.po (PO.move (Ev.tmp rfl)) (Nat.le_of_ble_eq_true rfl) ?_
    refine WL.poG (GU.f (hG _ _ rfl) rfl) (fun hc => PO.move (Ev.tmp rfl)) (Nat.le_of_ble_eq_true rfl) ?_
    refine WL.poG (GU.f (hG _ _ rfl) rfl) (fun hc => PO.bin (Ev.gv rfl hc) Ev.const rfl) (Nat.le_of_ble_eq_true rfl) ?_
    refine WL.po (PO.pickOr rfl rfl) (Nat.le_of_ble_eq_true rfl) ?_
    refine WL.po (PO.move (Ev.tmp rfl)) (Nat.le_of_ble_eq_true rfl) ?_
    refine WL.poG (GU.f (hG _ _ rfl) rfl) (fun hc => PO.move (Ev.tmp rfl)) (Nat.le_of_ble_eq_true rfl) ?_
    refine WL.poG (GU.f (hG _ _ rfl) rfl) (fun hc => PO.bin (Ev.gv rfl hc) Ev.const rfl) (Nat.le_of_ble_eq_true rfl) ?_
    refine WL.po (PO.pickOr rfl rfl) (Nat.le_of_ble_eq_true rfl) ?_
    refine WL.po (PO.move (Ev.tmp rfl)) (Nat.le_of_ble_eq_true rfl) ?_
    refine WL.poG (GU.f (hG _ _ rfl) rfl) (fun hc => PO.move (Ev.tmp rfl)) (Nat.le_of_ble_eq_true rfl) ?_
    refine WL.poG (GU.f (hG _ _ rfl) rfl) (fun hc => PO.lenSl Tryd.underlying25 (Ev.gv rfl hc)) (Nat.le_of_ble_eq_true rfl) ?_
    refine WL.poG (GU.f (hG _ _ rfl) rfl) (fun hc => PO.move (Ev.tmp rfl)) (Nat.le_of_ble_eq_true rfl) ?_
    refine WL.poG (GU.f (hG _ _ rfl) rfl) (fun hc => PO.lenSl Tryd.underlying25 (Ev.gv rfl hc)) (Nat.le_of_ble_eq_true rfl) ?_
    refine WL.poG (GU.f (hG _ _ rfl) rfl) (fun hc => PO.bin (Ev.gv rfl hc) (Ev.gv rfl hc) rfl) (Nat.le_of_ble_eq_true rfl) ?_
    refine WL.po (PO.pickOr rfl rfl) (Nat.le_of_ble_eq_true rfl) ?_
    refine WL.nil (keepF (ts := [1, 3, 7, 53]) rfl (toK (by assumption) ?_))
    (try clear hG ops)
    (repeat (first | refine WC.seqK fun K hK => ?_ | refine WC.block ?_ | refine WC.regionG rfl fun ops hG => ?_))
    refine WC.cond (Ev.tmp rfl) (fun c53 => ?_) (fun c53 => ?_)
    · simp [x4] at c53
    · refine WC.skip (keepF (ts := [1, 3, 7]) rfl (toK (by assumption) ?_))
      (repeat (first | refine WC.seqK fun K hK => ?_ | refine WC.block ?_ | refine WC.regionG rfl fun ops hG => ?_))
      refine WL.po (PO.move (Ev.tmp rfl)) (Nat.le_of_ble_eq_true rfl) ?_
      refine WL.callP Ev.func (Evs.cons (Ev.tmp rfl) Evs.nil) (hF _ _ _ _ (Rd.inRow (by (repeat (first | exact List.Mem.head _ | apply List.Mem.tail))) r33 p33 q33)) (Nat.le_of_ble_eq_true rfl) ?_
      refine WL.po (PO.move (Ev.tmp rfl)) (Nat.le_of_ble_eq_true rfl) ?_
      refine WL.po (PO.extract (Ev.tmp rfl) rfl) (Nat.le_of_ble_eq_true rfl) ?_
      refine WL.po (PO.extract (Ev.tmp rfl) rfl) (Nat.le_of_ble_eq_true rfl) ?_
      refine WL.po (PO.extract (Ev.tmp rfl) rfl) (Nat.le_of_ble_eq_true rfl) ?_
      refine WL.alloc rfl rfl (Nat.le_of_ble_eq_true rfl) fun b10 => ?_
      refine WL.store rfl (Ev.tmp rfl) (Ev.tmp rfl) rfl rfl rfl rfl (by (repeat (first | exact Upd.here | apply Upd.next))) ?_
      refine WL.po (PO.assign (Ev.tmp rfl)) (Nat.le_of_ble_eq_true rfl) ?_
      refine WL.po (PO.assign (Ev.tmp rfl)) (Nat.le_of_ble_eq_true rfl) ?_
      refine WL.nil (keepF (ts := [1, 3, 10, 11, 12]) rfl (toK (by assumption) ?_))
      (try clear hG ops)
      (repeat (first | refine WC.seqK fun K hK => ?_ | refine WC.block ?_ | refine WC.regionG rfl fun ops hG => ?_))
      refine WL.po (PO.loadA Tryd.underlying24 rfl rfl (Ev.tmp rfl) (by (repeat (first | exact List.Mem.head _ | apply List.Mem.tail))) rfl) (Nat.le_of_ble_eq_true rfl) ?_
      refine WL.po (PO.loadA Tryd.underlying24 rfl rfl (Ev.tmp rfl) (by (repeat (first | exact List.Mem.head _ | apply List.Mem.tail))) rfl) (Nat.le_of_ble_eq_true rfl) ?_
      refine WL.po (PO.eqlA Tryd.underlying24 (by kernel_rfl) (by kernel_rfl) (Ev.tmp rfl) (Ev.tmp rfl) rfl) (Nat.le_of_ble_eq_true rfl) ?_
      refine WL.po (PO.move (Ev.tmp rfl)) (Nat.le_of_ble_eq_true rfl) ?_
      refine WL.poG (GU.t (hG _ _ rfl) rfl) (fun hc => PO.move (Ev.tmp rfl)) (Nat.le_of_ble_eq_true rfl) ?_
      refine WL.poG (GU.t (hG _ _ rfl) rfl) (fun hc => PO.move (Ev.tmp rfl)) (Nat.le_of_ble_eq_true rfl) ?_
      refine WL.poG (GU.t (hG _ _ rfl) rfl) (fun hc => PO.lenSl Tryd.underlying25 (Ev.gv rfl hc)) (Nat.le_of_ble_eq_true rfl) ?_
      refine WL.poG (GU.t (hG _ _ rfl) rfl) (fun hc => PO.bin (Ev.gv rfl hc) (Ev.gv rfl hc) rfl) (Nat.le_of_ble_eq_true rfl) ?_
      refine WL.po (PO.pickAnd rfl rfl) (Nat.le_of_ble_eq_true rfl) ?_
      refine WL.po (PO.move (Ev.tmp rfl)) (Nat.le_of_ble_eq_true rfl) ?_
      refine WL.poG (GU.t (hG _ _ rfl) rfl) (fun hc => PO.move (Ev.tmp rfl)) (Nat.le_of_ble_eq_true rfl) ?_
      refine WL.poG (GU.t (hG _ _ rfl) rfl) (fun hc => PO.bin (Ev.gv rfl hc) Ev.const rfl) (Nat.le_of_ble_eq_true rfl) ?_
      refine WL.po (PO.pickAnd rfl rfl) (Nat.le_of_ble_eq_true rfl) ?_
      refine WL.po (PO.move (Ev.tmp rfl)) (Nat.le_of_ble_eq_true rfl) ?_
      refine WL.callG (GU.t (hG _ _ rfl) rfl) (fun hc => ⟨Ev.func, Evs.nil, head_ct _ _ hg⟩) (Nat.le_of_ble_eq_true rfl) ?_
      refine WL.po (PO.pickAnd rfl rfl) (Nat.le_of_ble_eq_true rfl) ?_
      refine WL.po (PO.assign (Ev.tmp rfl)) (Nat.le_of_ble_eq_true rfl) ?_
      refine WL.nil (keepF (ts := [2]) rfl (toK (by assumption) ?_))
      (try clear hG ops)
      refine WC.ret (end1 (h' := h) (.inl rfl) rfl (RV.tmp rfl) (View.le.refl m) (by (repeat (first | exact List.Sublist.refl _ | refine List.Sublist.cons_cons _ ?_ | apply List.Sublist.cons))) ?_)
      exact congrArg Value.bool (by simp)
end Go.Proofs.YtcejocfjienpfaaDoor

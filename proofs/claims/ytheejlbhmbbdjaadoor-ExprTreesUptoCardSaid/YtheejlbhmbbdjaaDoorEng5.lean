/- Eng5, Eng6, Eng7 as one text. -/
import Derived.Test.YtheejlbhmbbdjaaDoorEng4
import Derived.ProofKit
import Derived.SizedLaws
import Derived.Lib.SmallJoins
/- Slices that are owned: make, append, copy, a literal; handing them over to the view. -/
namespace Go.Eng
open Go Go.RowKit

inductive Del : List Res → Res → List Res → Prop
  | here {r : Res} {t : List Res} : Del (r :: t) r t
  | next {r x : Res} {t t' : List Res} (h : Del t r t') : Del (x :: t) r (x :: t')

theorem Del.perm {h h' : List Res} {r : Res} (d : Del h r h') : h.Perm (r :: h') := by
  induction d with
  | here => exact List.Perm.refl _
  | next _ ih => exact (List.Perm.cons _ ih).trans (List.Perm.swap _ _ _)

theorem St.conv {m : View} {h h' : List Res} {w : World} {r r' : Res} (s : St m h w) (u : Upd h r r' h') (hfp : r'.fp = r.fp) (hok : r.ok w → r'.ok w) : St m h' w :=
  s.upd u rfl rfl rfl (fun _ _ _ => rfl) (hok (s.ok _ u.mem)) (fun _ hb => .inl (hfp ▸ hb))

theorem row_of_cells {w : World} {b : Nat} {cs : Array Value} {e : TypeId} {sz n cap : Nat} (h : w.heap[b]? = some (.cells cs e (0, 0))) (h1 : n ≤ cap) (h2 : cap ≤ maxLen) (h3 : cs.size = cap * sz) :
    w.ownsRow 0 e sz (.slice (some ⟨b, 0, none⟩) n cap) n (cs.toList.take (n * sz)) := by
  refine ⟨?_, .inr ⟨b, cap, cs, rfl, Nat.zero_le _, h, h1, h2, h3, rfl⟩⟩
  have : n * sz ≤ cs.size := by rw [h3]; exact Nat.mul_le_mul_right _ h1
  simp; omega

/-- What an owned slice reads as. -/
theorem row_cell {w : World} {a : Option Addr} {e : TypeId} {sz n cap : Nat} {xs : List Value} (h : w.ownsRow 0 e sz (.slice a n cap) n xs) {j : Nat} {v : Value} (hj : xs[j]? = some v) :
    ∃ b, a = some ⟨b, 0, none⟩ ∧ w.cell? ⟨b, j, none⟩ = some v := by
  obtain ⟨hl, hn | ⟨g, c, cur, hv, _, hh, _, _, hsz, ht⟩⟩ := h
  · obtain ⟨_, rfl⟩ := hn
    have : xs = [] := List.eq_nil_of_length_eq_zero (by simpa using hl)
    subst this; simp at hj
  · simp only [Value.slice.injEq] at hv
    obtain ⟨rfl, _, rfl⟩ := hv
    refine ⟨g, rfl, ?_⟩
    rw [← ht, List.getElem?_take] at hj
    split at hj
    · simp [World.cell?, hh]; simpa using hj
    · simp at hj

theorem row_le {w : World} {a : Option Addr} {e : TypeId} {sz n cap : Nat} {xs : List Value} (h : w.ownsRow 0 e sz (.slice a n cap) n xs) : n ≤ cap ∧ cap ≤ 9223372036854775807 ∧ xs.length = n * sz := by
  obtain ⟨hl, hn | ⟨g, c, cur, hv, _, hh, hnc, hcm, hsz, ht⟩⟩ := h
  · obtain ⟨hv, rfl⟩ := hn
    simp only [Value.slice.injEq] at hv
    obtain ⟨_, _, rfl⟩ := hv
    exact ⟨by omega, by omega, hl⟩
  · simp only [Value.slice.injEq] at hv
    obtain ⟨_, _, rfl⟩ := hv
    refine ⟨hnc, ?_, hl⟩
    unfold maxLen at hcm; omega

theorem St.sealRow {m : View} {h h' : List Res} {w : World} {a : Option Addr} {e : TypeId} {sz n cap : Nat} {xs : List Value} (s : St m h w) (dl : Del h (.row (.slice a n cap) e sz n xs) h') :
    ∃ m', m.le m' ∧ Sl m' a n cap sz xs ∧ St m' h' w := by
  have s := s.perm dl.perm
  have hr : w.ownsRow 0 e sz (.slice a n cap) n xs := s.ok (.row (.slice a n cap) e sz n xs) (by simp)
  obtain ⟨h1, h2, h3⟩ := row_le hr
  obtain ⟨hl, hn | ⟨g, c, cur, hv, _, hh, _, _, hsz, ht⟩⟩ := hr
  · obtain ⟨hv, rfl⟩ := hn
    have : xs = [] := List.eq_nil_of_length_eq_zero (by simpa using hl)
    subst this
    exact ⟨m, View.le.refl m, ⟨h3, h1, h2, fun j v hj => by simp at hj⟩, s.sub (List.sublist_cons_self _ _)⟩
  · simp only [Value.slice.injEq] at hv
    obtain ⟨rfl, _, rfl⟩ := hv
    have s2 : St m (.pt g (.cells cur e (0, 0)) :: h') w := s.conv Upd.here rfl fun _ => hh
    obtain ⟨hle, hst⟩ := s2.sealB
    refine ⟨_, hle, ⟨h3, h1, h2, fun j v hj => ⟨g, 0, rfl, ?_⟩⟩, hst⟩
    rw [← ht, List.getElem?_take] at hj
    split at hj
    · simp [View.cell, View.add_blk]; simpa using hj
    · simp at hj

theorem St.sealPt {m : View} {h h' : List Res} {w : World} {b : Nat} {cs : List Value} {e : TypeId} {fz : Nat × Nat} (s : St m h w) (dl : Del h (.pt b (.cells cs.toArray e fz)) h') :
    ∃ m', m.le m' ∧ (∀ j v, cs[j]? = some v → m'.cell ⟨b, j, none⟩ = some v) ∧ St m' h' w := by
  have s := s.perm dl.perm
  obtain ⟨hle, hst⟩ := s.sealB
  refine ⟨_, hle, fun j v hj => ?_, hst⟩
  simp [View.cell, View.add_blk, hj]

theorem bv_one (xs : List UInt8) : ∀ u ∈ bv xs, u.oneCell' = true := by
  intro u hu
  simp only [bv, List.mem_map] at hu
  obtain ⟨b, _, rfl⟩ := hu
  rfl

section
variable {P : Program} {ops : Array Oper} {Q : Exit → Act → World → Prop} {n : Cx} {F : Fm} {h h' : List Res} {m : View} {rest : List Oper}
variable {ty : TypeId} {pos : String} {after : Array Edge} {dst : Option Tmp} {g : Option (Nat × Bool)} {d : Nat}

theorem WL.sealRow {l : List Oper} {a : Option Addr} {e : TypeId} {sz k cap : Nat} {xs : List Value} (dl : Del h (.row (.slice a k cap) e sz k xs) h') (kk : ∀ m', m.le m' → Sl m' a k cap sz xs → WL P ops Q n l F h' m') : WL P ops Q n l F h m :=
  .mk fun c w hc hs => by obtain ⟨m', hle, hsl, hst⟩ := hs.sealRow dl; exact kk m' hle hsl c w hc hst
theorem WC.sealRow {c : Code} {a : Option Addr} {e : TypeId} {sz k cap : Nat} {xs : List Value} (dl : Del h (.row (.slice a k cap) e sz k xs) h') (kk : ∀ m', m.le m' → Sl m' a k cap sz xs → WC P c Q n F h' m') : WC P c Q n F h m :=
  .mk fun c w hc hs => by obtain ⟨m', hle, hsl, hst⟩ := hs.sealRow dl; exact kk m' hle hsl c w hc hst
theorem WL.sealPt {l : List Oper} {b : Nat} {cs : List Value} {e : TypeId} {fz : Nat × Nat} (dl : Del h (.pt b (.cells cs.toArray e fz)) h') (kk : ∀ m', m.le m' → (∀ j v, cs[j]? = some v → m'.cell ⟨b, j, none⟩ = some v) → WL P ops Q n l F h' m') : WL P ops Q n l F h m :=
  .mk fun c w hc hs => by obtain ⟨m', hle, hsl, hst⟩ := hs.sealPt dl; exact kk m' hle hsl c w hc hst
theorem WC.sealPt {c : Code} {b : Nat} {cs : List Value} {e : TypeId} {fz : Nat × Nat} (dl : Del h (.pt b (.cells cs.toArray e fz)) h') (kk : ∀ m', m.le m' → (∀ j v, cs[j]? = some v → m'.cell ⟨b, j, none⟩ = some v) → WC P c Q n F h' m') : WC P c Q n F h m :=
  .mk fun c w hc hs => by obtain ⟨m', hle, hsl, hst⟩ := hs.sealPt dl; exact kk m' hle hsl c w hc hst
theorem WL.conv {l : List Oper} {r r' : Res} (u : Upd h r r' h') (hfp : r'.fp = r.fp) (hok : ∀ w, r.ok w → r'.ok w) (k : WL P ops Q n l F h' m) : WL P ops Q n l F h m :=
  .mk fun c w hc hs => k c w hc (hs.conv u hfp (hok w))
theorem WL.drop {l : List Oper} (hs : h'.Sublist h) (k : WL P ops Q n l F h' m) : WL P ops Q n l F h m := .mk fun c w hc st => k c w hc (st.sub hs)
theorem WC.drop {c : Code} (hs : h'.Sublist h) (k : WC P c Q n F h' m) : WC P c Q n F h m := .mk fun c w hc st => k c w hc (st.sub hs)
theorem WL.perm {l : List Oper} (hs : h.Perm h') (k : WL P ops Q n l F h' m) : WL P ops Q n l F h m := .mk fun c w hc st => k c w hc (st.perm hs)
/-- What the owned memory tells. -/
theorem WL.know {l : List Oper} {A : Prop} (ha : ∀ w, St m h w → A) (k : A → WL P ops Q n l F h m) : WL P ops Q n l F h m := .mk fun c w hc st => k (ha w st) c w hc st
theorem WC.know {c : Code} {A : Prop} (ha : ∀ w, St m h w → A) (k : A → WC P c Q n F h m) : WC P c Q n F h m := .mk fun c w hc st => k (ha w st) c w hc st

theorem St.addNil (e : TypeId) (sz : Nat) {w : World} (s : St m h w) : St m (.row (.slice none 0 0) e sz 0 [] :: h) w :=
  ⟨s.os, s.out, s.tape, s.blk, fun r hr => by
    cases hr with
    | head => exact World.ownsRow_nil w 0 e sz
    | tail _ hr => exact s.ok r hr, List.pairwise_cons.2 ⟨fun r _ b hb => by simp [Res.fp, Value.ownBlock] at hb, s.nd⟩, fun r hr b hb => by
    cases hr with
    | head => simp [Res.fp, Value.ownBlock] at hb
    | tail _ hr => exact s.fr r hr b hb⟩
theorem WC.addNil (e : TypeId) (sz : Nat) {c : Code} (k : WC P c Q n F (.row (.slice none 0 0) e sz 0 [] :: h) m) : WC P c Q n F h m := .mk fun a w ha st => k a w ha (st.addNil e sz)
theorem WL.addNil (e : TypeId) (sz : Nat) {l : List Oper} (k : WL P ops Q n l F (.row (.slice none 0 0) e sz 0 [] :: h) m) : WL P ops Q n l F h m := .mk fun a w ha st => k a w ha (st.addNil e sz)
theorem WL.unT {op : Op} {j t : Nat} {c : Bool} (hj : gslot ops j = some t) (hc : look F t = some (.bool c)) (hb : c = true) (k : WL P ops Q n (⟨dst, op, ty, pos, after, none⟩ :: rest) F h m) :
    WL P ops Q n (⟨dst, op, ty, pos, after, some (j, true)⟩ :: rest) F h m := .mk fun a w ha hs => by
  subst hb
  have hy := yielded_of hj (ha.get t _ hc)
  have := k a w ha hs
  unfold wpList at this ⊢
  rw [if_pos (by simp [Region.wanted])] at this
  rw [if_pos (by simp [Region.wanted, hy])]
  exact this
theorem WL.unF {op : Op} {j t : Nat} {c : Bool} (hj : gslot ops j = some t) (hc : look F t = some (.bool c)) (hb : c = false) (k : WL P ops Q n (⟨dst, op, ty, pos, after, none⟩ :: rest) F h m) :
    WL P ops Q n (⟨dst, op, ty, pos, after, some (j, false)⟩ :: rest) F h m := .mk fun a w ha hs => by
  subst hb
  have hy := yielded_of hj (ha.get t _ hc)
  have := k a w ha hs
  unfold wpList at this ⊢
  rw [if_pos (by simp [Region.wanted])] at this
  rw [if_pos (by simp [Region.wanted, hy])]
  exact this
theorem WL.skipT {op : Op} {j t : Nat} {c : Bool} (hj : gslot ops j = some t) (hc : look F t = some (.bool c)) (hb : c = false) (hd : d < n.num) (k : WL P ops Q n rest ((d, undef) :: F) h m) :
    WL P ops Q n (⟨some d, op, ty, pos, after, some (j, true)⟩ :: rest) F h m := .mk fun a w ha hs => by
  subst hb
  have hy := yielded_of hj (ha.get t _ hc)
  unfold wpList
  rw [if_neg (by simp [Region.wanted, hy])]
  exact k _ w (ha.put hd undef) hs
theorem WL.skipF {op : Op} {j t : Nat} {c : Bool} (hj : gslot ops j = some t) (hc : look F t = some (.bool c)) (hb : c = true) (hd : d < n.num) (k : WL P ops Q n rest ((d, undef) :: F) h m) :
    WL P ops Q n (⟨some d, op, ty, pos, after, some (j, false)⟩ :: rest) F h m := .mk fun a w ha hs => by
  subst hb
  have hy := yielded_of hj (ha.get t _ hc)
  unfold wpList
  rw [if_neg (by simp [Region.wanted, hy])]
  exact k _ w (ha.put hd undef) hs

theorem PO.eqlNil {x y : Operand} {t t' e : TypeId} {a : Option Addr} {l c : Nat} (ht : P.underlying t = some (.slice e)) (ex : Ev n F x (.slice a l c)) (ey : Ev n F y (.slice none 0 0)) :
    PO P ⟨dst, .binOp .eql t x y t', ty, pos, after, g⟩ n F h m (.bool a.isNone) := .mk fun b w ha _ => by
  have e1 : eqGuard .eql t x y (.slice a l c) (.slice none 0 0) = pure () := rfl
  have hr : (binOp .eql t (.slice a l c) (.slice none 0 0)).run P w = .ok (.bool a.isNone) w := by
    have h1 : ∀ d, (Op.equalIn (d + 1) t (.slice a l c) (.slice none 0 0)).run P w = .ok a.isNone w := fun d => by
      cases a <;> simp [Op.equalIn, run_underlying ht]
    have h2 : (Op.equal t (.slice a l c) (.slice none 0 0)).run P w = .ok a.isNone w := h1 9999
    have h3 : binOp .eql t (.slice a l c) (.slice none 0 0) = (do pure (.bool (← Op.equal t (.slice a l c) (.slice none 0 0)))) := rfl
    rw [h3]
    simp [h2]
  simp [execOp, ex b ha, ey b ha, e1, hr]

/-- A slice type, its elements' cells and bytes. -/
structure EL (P : Program) (t e : TypeId) (sz by_ : Nat) : Prop where
  ex : ∃ i z, P.underlying t = some (.slice e) ∧ P.info? e = some i ∧ i.zero = some z ∧ i.size = sz ∧ i.bytes = by_ ∧ z.cells.size = sz ∧ 0 < sz
theorem EL.und {t e : TypeId} {sz by_ : Nat} (E : EL P t e sz by_) : P.underlying t = some (.slice e) := by obtain ⟨i, z, h, _⟩ := E.ex; exact h
theorem EL.size {t e : TypeId} {sz by_ : Nat} (E : EL P t e sz by_) : (P.info? e).map (·.size) = some sz := by obtain ⟨i, z, _, h, _, hs, _⟩ := E.ex; simp [h, hs]
theorem EL.posz {t e : TypeId} {sz by_ : Nat} (E : EL P t e sz by_) : 0 < sz := by obtain ⟨i, z, _, _, _, _, _, _, h⟩ := E.ex; exact h

theorem Rd.ofRow {a : Option Addr} {k cap sz : Nat} {e : TypeId} {ys : List Value} (hl : ys.length = k * sz) (hle : k ≤ cap) (hmx : cap ≤ 9223372036854775807) (hm : Res.row (.slice a k cap) e sz k ys ∈ h) : Rd m h a k cap sz ys :=
  ⟨hl, hle, hmx, fun w st j u hj => by obtain ⟨b, e, hc⟩ := row_cell (st.ok _ hm) hj; exact ⟨b, 0, e, by simpa using hc⟩⟩
theorem Rd.ofPt {b k sz : Nat} {cs : List Value} {e : TypeId} {fz : Nat × Nat} (hl : cs.length = k * sz) (hmx : k ≤ 9223372036854775807) (hm : Res.pt b (.cells cs.toArray e fz) ∈ h) : Rd m h (some ⟨b, 0, none⟩) k k sz cs :=
  ⟨hl, Nat.le_refl _, hmx, fun w st j u hj => ⟨b, 0, rfl, by rw [st.pt_cell hm]; simpa using hj⟩⟩
/-- What is known of an owned slice. -/
theorem WL.knowRow {l : List Oper} {a : Option Addr} {k cap sz : Nat} {e : TypeId} {ys : List Value} (hm : Res.row (.slice a k cap) e sz k ys ∈ h) (kk : k ≤ cap → cap ≤ 9223372036854775807 → ys.length = k * sz → WL P ops Q n l F h m) : WL P ops Q n l F h m :=
  WL.know (fun _ st => row_le (st.ok _ hm)) fun ⟨h1, h2, h3⟩ => kk h1 h2 h3
theorem WC.knowRow {c : Code} {a : Option Addr} {k cap sz : Nat} {e : TypeId} {ys : List Value} (hm : Res.row (.slice a k cap) e sz k ys ∈ h) (kk : k ≤ cap → cap ≤ 9223372036854775807 → ys.length = k * sz → WC P c Q n F h m) : WC P c Q n F h m :=
  WC.know (fun _ st => row_le (st.ok _ hm)) fun ⟨h1, h2, h3⟩ => kk h1 h2 h3

theorem run_app (w : World) {t e ty : TypeId} {sz by_ : Nat} (E : EL P t e sz by_) {a b : Option Addr} {l cap k c : Nat} {xs ys : List Value} (hown : w.ownsRow 0 e sz (.slice a l cap) l xs)
    (hl : ys.length = k * sz) (hys : ∀ j u, ys[j]? = some u → ∃ b0 off, b = some ⟨b0, off, none⟩ ∧ w.cell? ⟨b0, off + j, none⟩ = some u) (h1 : ∀ u ∈ ys, u.oneCell' = true)
    (h63 : l + k ≤ 9223372036854775807) (hbytes : (l + k) * by_ ≤ 140737488355328) :
    ∃ a' cap' w', (Builtin.append_ #[t, t] ty #[.slice a l cap, .slice b k c]).run P w = .ok (.slice a' (l + k) cap') w' ∧ w'.ownsRow 0 e sz (.slice a' (l + k) cap') (l + k) (xs ++ ys) ∧ w.grownBy w' (Value.slice a l cap).ownBlock ∧
      ∀ x, (Value.slice a' (l + k) cap').ownBlock = some x → (Value.slice a l cap).ownBlock = some x ∨ w.heap.size ≤ x := by
  obtain ⟨i, z, ht, hi, hz, hsize, hby, hzs, hsz⟩ := E.ex
  subst hsize hby
  have hm63 : l + k ≤ maxLen := by unfold maxLen; omega
  have hlen : (xs ++ ys).length = (l + k) * i.size := by rw [List.length_append, hown.1, hl, Nat.add_mul]
  cases b with
  | none =>
    have hy0 : ys = [] := by
      cases ys with
      | nil => rfl
      | cons y ys => obtain ⟨b0, off, e0, _⟩ := hys 0 y rfl; cases e0
    subst hy0
    have hk0 : k = 0 := by
      rcases Nat.mul_eq_zero.1 hl.symm with h | h
      · exact h
      · omega
    subst hk0
    have hle := (row_le hown).1
    refine ⟨a, cap, w, ?_, by simpa using hown, ⟨rfl, rfl, rfl, Nat.le_refl _, fun _ _ _ => rfl⟩, fun x hx => .inl hx⟩
    cases a <;> simp [Builtin.append_, run_underlying ht, sizeOf, typeInfo, hi, Builtin.lenOf, Builtin.firstCells, hle, storeCells]
  | some ad =>
    have hnews : ∀ j u, ys[j]? = some u → w.cell? (ad.add j) = some u := by
      intro j u hj
      obtain ⟨b0, off, e0, hc⟩ := hys j u hj
      cases e0
      rw [Addr.add_lit]; exact hc
    have grown : ∀ (old : Nat),
        (w.drew.alloc (.cells (xs.toArray ++ ys.toArray ++ Builtin.zeroCells z.cells (grownCap w (l + k) old e - (l + k))) e)).ownsRow 0 e i.size
          (.slice (some ⟨w.heap.size, 0, none⟩) (l + k) (grownCap w (l + k) old e)) (l + k) (xs ++ ys) ∧
        ∀ row, w.grownBy (w.drew.alloc (.cells (xs.toArray ++ ys.toArray ++ Builtin.zeroCells z.cells (grownCap w (l + k) old e - (l + k))) e)) row := by
      intro old
      have hge := grownCap_ge w (l + k) old e
      have hcm : grownCap w (l + k) old e ≤ maxLen := grownCap_le_maxLen w (l + k) old e hm63
      refine ⟨⟨hlen, .inr ⟨w.heap.size, _, _, rfl, Nat.zero_le _, new_block w.drew _, hge, hcm, ?_, ?_⟩⟩, fun row => ⟨rfl, rfl, rfl, by simp, fun k hk _ => old_block w.drew _ k hk⟩⟩
      · simp only [Array.size_append, List.size_toArray, size_zeroCells, hzs, hown.1, hl, ← Nat.add_mul]
        congr 1
        omega
      · simp only [Array.toList_append, List.append_assoc]
        rw [← List.append_assoc, ← hlen]
        exact List.take_left
    rcases hown.2 with ⟨hv, hl0⟩ | ⟨g, cap0, cur, hv, _, hg, hnc, hcm, hcs, htake⟩
    · simp only [Value.slice.injEq] at hv
      obtain ⟨rfl, rfl, rfl⟩ := hv
      have hx : xs = [] := List.eq_nil_of_length_eq_zero (by simpa using hown.1)
      subst hx
      by_cases hk0 : k = 0
      · subst hk0
        have hn : ys = [] := List.eq_nil_of_length_eq_zero (by simpa using hl)
        subst hn
        refine ⟨none, 0, w, ?_, World.ownsRow_nil w 0 e i.size, ⟨rfl, rfl, rfl, Nat.le_refl _, fun _ _ _ => rfl⟩, fun x hx => .inl hx⟩
        simp [Builtin.append_, run_underlying ht, sizeOf, typeInfo, hi, Builtin.lenOf, Builtin.firstCells, loadCells, loadCellsFrom]
      · have hr := run_append_nil (P := P) w t ty e i z ht hi hz ad k c ys hl hnews (by omega) (by omega) (by have hb := hbytes; simp only [Nat.zero_add] at hb; omega)
        have hgr := grown 0
        simp only [Nat.zero_add, List.nil_append, Array.empty_append] at hgr ⊢
        exact ⟨_, _, _, hr, hgr.1, hgr.2 _, fun x hx => by simp only [Value.ownBlock, Option.some.injEq] at hx; right; omega⟩
    · simp only [Value.slice.injEq] at hv
      obtain ⟨rfl, _, rfl⟩ := hv
      by_cases hroom : l + k ≤ cap
      · have hfit : l * i.size + ys.length ≤ cur.size := by rw [hl, hcs, ← Nat.add_mul]; exact Nat.mul_le_mul_right _ hroom
        have hr := run_append_room (P := P) w t ty e i ht hi g l cap cur hg ad k c ys hl hnews h1 hroom hfit
        refine ⟨_, _, _, hr, ⟨hlen, .inr ⟨g, cap, _, rfl, Nat.zero_le _, setRow_heap w g cur _ e _ hg, hroom, hcm, ?_, ?_⟩⟩, ⟨rfl, rfl, rfl, by simp, fun k _ hk => setRow_other w g k _ (fun e => hk (by simp [Value.ownBlock, e]))⟩, fun x hx => .inl hx⟩
        · simp only [List.size_toArray, List.length_append, List.length_take, List.length_drop, Array.length_toList]
          omega
        · rw [htake, ← hlen]
          exact List.take_left
      · have holds : ∀ j u, xs[j]? = some u → w.cell? ((⟨g, 0, none⟩ : Addr).add j) = some u := hown.cells (g := g) rfl
        have hr := run_append_grow (P := P) w t ty e i z ht hi hz ⟨g, 0, none⟩ l cap xs hown.1 holds ad k c ys hl hnews (by omega) (by omega) (growslice_fits (by omega) hbytes)
        have hgr := grown cap
        exact ⟨_, _, _, hr, hgr.1, hgr.2 _, fun x hx => by simp only [Value.ownBlock, Option.some.injEq] at hx; right; omega⟩

theorem WL.append {x y : Operand} {t e : TypeId} {sz by_ l cap k c : Nat} {a b : Option Addr} {xs ys : List Value} {hq : Value → List Res} (E : EL P t e sz by_) (ex : Ev n F x (.slice a l cap)) (ey : Ev n F y (.slice b k c))
    (rd : Rd m h b k c sz ys) (h1 : ∀ u ∈ ys, u.oneCell' = true) (h63 : l + k ≤ 9223372036854775807) (hbytes : (l + k) * by_ ≤ 140737488355328)
    (u : ∀ v', Upd h (.row (.slice a l cap) e sz l xs) (.row v' e sz (l + k) (xs ++ ys)) (hq v')) (hd : d < n.num) (kk : ∀ a' cap', WL P ops Q n rest ((d, .slice a' (l + k) cap') :: F) (hq (.slice a' (l + k) cap')) m) :
    WL P ops Q n (⟨some d, .call ⟨.builtin .append, #[x, y], #[t, t]⟩, ty, pos, after, none⟩ :: rest) F h m := .mk fun f w hf hs => by
  have hown : w.ownsRow 0 e sz (.slice a l cap) l xs := hs.ok _ (u undef).mem
  obtain ⟨a', cap', w', hr, hown', hg, hfp⟩ := run_app (P := P) w (ty := ty) (c := c) E hown rd.len (rd.at_ w hs) h1 h63 hbytes
  refine wpList_of_wp rfl (wp_of_run (v := .slice a' (l + k) cap') (w' := w') ?_ (kk a' cap' _ _ (hf.put hd _) ?_))
  · simp [execOp, resolve, invoke, builtin, ex f hf, ey f hf, hr]
  · exact hs.upd (u _) hg.os hg.output hg.tape (fun q hq hne => hg.block q hq (fun e => hne e.symm)) hown' hfp

theorem SR.append {eff : List Nat} {t' : Tl} {hs hp : List Res} {i : Nat} {s : Tr} {x y : Operand} {t e : TypeId} {sz by_ l cap k c : Nat} {a b : Option Addr} {xs ys : List Value} {hq : Value → List Res}
    (ho : ops[i]? = some ⟨some d, .call ⟨.builtin .append, #[x, y], #[t, t]⟩, ty, pos, after, none⟩) (he : eff.contains i = true) (E : EL P t e sz by_) (ex : Ev n F x (.slice a l cap)) (ey : Ev n F y (.slice b k c))
    (rd : Rd m (hp ++ hs) b k c sz ys) (h1 : ∀ u ∈ ys, u.oneCell' = true) (h63 : l + k ≤ 9223372036854775807) (hbytes : (l + k) * by_ ≤ 140737488355328)
    (u : ∀ v', Upd hp (.row (.slice a l cap) e sz l xs) (.row v' e sz (l + k) (xs ++ ys)) (hq v')) (hd : d < n.num) (kk : ∀ a' cap', SR P ops Q n eff t' hs s ((d, .slice a' (l + k) cap') :: F) (hq (.slice a' (l + k) cap')) m) :
    SR P ops Q n eff t' hs (.op i s) F hp m := ⟨_, ho, fun y hy => by cases hy; exact hd, by
  rw [he]
  refine ⟨fun fr f w hf st => ⟨fun _ => ?_, fun h => by simp [Region.wanted] at h⟩⟩
  have hmem : Res.row (.slice a l cap) e sz l xs ∈ hp ++ hs := List.mem_append.2 (.inl (u undef).mem)
  have hown : w.ownsRow 0 e sz (.slice a l cap) l xs := st.ok _ (List.mem_append.2 (.inr hmem))
  obtain ⟨a', cap', w', hr, hown', hg, hfp⟩ := run_app (P := P) w (ty := ty) (c := c) E hown rd.len (rd.at_ w (st.sub (List.sublist_append_right _ _))) h1 h63 hbytes
  have hrun : (execOp f.eval ⟨some d, .call ⟨.builtin .append, #[x, y], #[t, t]⟩, ty, pos, after, none⟩).run P w = .ok (.value (.slice a' (l + k) cap')) w' := by
    simp [execOp, resolve, invoke, builtin, ex f hf, ey f hf, hr]
  rw [hrun]
  have lift : ∀ {p : List Res} {r r' : Res} {p' : List Res}, Upd p r r' p' → Upd (p ++ hs) r r' (p' ++ hs) := fun u => by
    induction u with
    | here => exact Upd.here
    | next _ ih => exact Upd.next ih
  have liftL : ∀ {q p : List Res} {r r' : Res} {p' : List Res}, Upd p r r' p' → Upd (q ++ p) r r' (q ++ p') := fun {q} _ _ _ _ u => by
    induction q with
    | nil => exact u
    | cons x q ih => exact Upd.next ih
  exact ⟨m, _, View.le.refl m, st.upd (liftL (lift (u (.slice a' (l + k) cap')))) hg.os hg.output hg.tape (fun q hq hne => hg.block q hq (fun e => hne e.symm)) hown' hfp, nofun, (kk a' cap').e⟩⟩

theorem WL.make {x y : Operand} {t e : TypeId} {by_ : Nat} {kd kd' : IntKind} {j : Int} {q : Nat} {z : Value} (E : EL P t e 1 by_) (hz : (P.info? e).bind (·.zero) = some z) (h1z : z.cells = #[z]) (ex : Ev n F x (.int kd j)) (ey : Ev n F y (.int kd' j)) (hj : j = (q : Int))
    (hbytes : q * by_ ≤ 281474976710656) (h63 : q ≤ 9223372036854775807) (hd : d < n.num)
    (kk : ∀ b, WL P ops Q n rest ((d, .slice (some ⟨b, 0, none⟩) q q) :: F) (.row (.slice (some ⟨b, 0, none⟩) q q) e 1 q (List.replicate q z) :: h) m) :
    WL P ops Q n (⟨some d, .makeSlice t x y, ty, pos, after, none⟩ :: rest) F h m := .mk fun f w hf hs => by
  subst hj
  obtain ⟨i, z', ht, hi, hz', hsize, hby, hzs, hsz⟩ := E.ex
  have e1 : z' = z := by
    have := hz; rw [hi] at this; simp only [Option.bind_some] at this; rw [hz'] at this; exact Option.some.inj this
  subst e1
  have hr := run_make (P := P) w t e i z' ht hi hz' kd kd' q q (by omega) (by omega) (by rw [hby]; have : ((by_ * q : Nat) : Int) ≤ 281474976710656 := by rw [Nat.mul_comm]; omega
                                                                                         rwa [Int.natCast_mul] at this) (by omega)
  simp only [Int.toNat_natCast, hsize, Nat.mul_one] at hr
  refine wpList_of_wp rfl (wp_of_run (v := .slice (some ⟨w.heap.size, 0, none⟩) q q) (w' := w.alloc (.cells (madeCells z'.cells q) e)) ?_ (kk w.heap.size _ _ (hf.put hd _) ?_))
  · simp [execOp, ex f hf, ey f hf, hr]
  · refine (hs.alloc (.cells (madeCells z'.cells q) e)).conv (r' := .row (.slice (some ⟨w.heap.size, 0, none⟩) q q) e 1 q (List.replicate q z')) Upd.here rfl fun hh => ?_
    have := row_of_cells (sz := 1) (n := q) (cap := q) hh (Nat.le_refl _) (by unfold maxLen; omega) (by simp [size_madeCells])
    have e2 : (madeCells z'.cells q).toList.take (q * 1) = List.replicate q z' := by
      rw [h1z, toList_madeCells_one, Nat.mul_one, List.take_of_length_le (by simp)]
    rw [e2] at this
    exact this

/- composite literals -/
def fillO (pl : Nat → Option (Nat × Nat)) : List Value → List (Nat × Value) → Option (List Value)
  | cs, [] => some cs
  | cs, (i, v) :: r => match pl i, cellsO v with
    | some (off, sz), some (z0 :: zs) => match Nat.beq (z0 :: zs).length sz, setLs cs off (z0 :: zs) with
      | true, some cs' => fillO pl cs' r
      | _, _ => none
    | _, _ => none

theorem foldl_set (off : Nat) : ∀ (vs : List Value) (k : Nat) (cs : Array Value), off + k + vs.length ≤ cs.size →
    (vs.zipIdx k).foldl (fun (cs : Array Value) (p : Value × Nat) => cs.setIfInBounds (off + p.2) p.1) cs = (cs.toList.take (off + k) ++ vs ++ cs.toList.drop (off + k + vs.length)).toArray
  | [], k, cs, h => by simp
  | v :: vs, k, cs, h => by
    simp only [List.length_cons] at h
    simp only [List.zipIdx_cons, List.foldl_cons]
    rw [foldl_set off vs (k + 1) _ (by simp; omega)]
    congr 1
    have e := list_seg_step cs.toList (off + k) v vs (by simp; omega)
    simpa [Array.toList_setIfInBounds, Nat.add_assoc] using e

theorem fill_of_fillO {pl : Nat → Option (Nat × Nat)} : ∀ {ps : List (Nat × Value)} {cs r : List Value}, fillO pl cs ps = some r → Instr.fill pl cs.toArray ps = some r.toArray
  | [], cs, r, h => by simp only [fillO, Option.some.injEq] at h; subst h; rfl
  | (i, v) :: ps, cs, r, h => by
    simp only [fillO] at h
    cases h1 : pl i with
    | none => simp [h1] at h
    | some q =>
      obtain ⟨off, sz⟩ := q
      cases h2 : cellsO v with
      | none => simp [h1, h2] at h
      | some zs0 =>
      cases zs0 with
      | nil => simp [h1, h2] at h
      | cons z0 zs =>
        simp only [h1, h2] at h
        cases h3 : Nat.beq (z0 :: zs).length sz with
        | false => rw [h3] at h; simp at h
        | true =>
          cases h4 : setLs cs off (z0 :: zs) with
          | none => rw [h3, h4] at h; simp at h
          | some cs' =>
            rw [h3, h4] at h
            simp only at h
            have hz := cellsO_spec h2
            have hl : (z0 :: zs).length = sz := Nat.eq_of_beq_eq_true h3
            have e4 := setLs_eq h4
            have hsz : v.cells.size = sz := by rw [← hl, ← hz]; simp
            have hle := setLs_len h4 (by simp)
            rw [Instr.fill, h1]
            simp only []
            rw [if_neg (by simp [hsz]; omega)]
            have e5 := foldl_set off (z0 :: zs) 0 cs.toArray (by simp at hle ⊢; omega)
            have e6 : v.cells.zipIdx.foldl (fun cs (x : Value × Nat) => cs.setIfInBounds (off + x.2) x.1) cs.toArray = cs'.toArray := by
              rw [← Array.foldl_toList, Array.toList_zipIdx, hz, e5, e4]
              simp
            rw [e6]
            exact fill_of_fillO h

inductive EvP (n : Cx) (F : Fm) : List (Nat × Operand) → List (Nat × Value) → Prop
  | nil : EvP n F [] []
  | cons {i : Nat} {x : Operand} {v : Value} {xs : List (Nat × Operand)} {vs : List (Nat × Value)} (h : Ev n F x v) (k : EvP n F xs vs) : EvP n F ((i, x) :: xs) ((i, v) :: vs)

theorem EvP.map {xs : List (Nat × Operand)} {vs : List (Nat × Value)} (h : EvP n F xs vs) {a : Act} (ha : Fr n F a) : xs.map (fun (i, x) => (i, a.eval x)) = vs := by
  induction h with
  | nil => rfl
  | cons h _ ih => simp [h a ha]; exact ih

/-- len zero elements. -/
def zeros (z : Value) (k : Nat) : Option (List Value) := match cellsO z with
  | some zs => some ((List.replicate k zs).flatten)
  | none => none

theorem zeros_spec {z : Value} {k : Nat} {zs : List Value} (h : zeros z k = some zs) : ((Array.range (k * z.cells.size)).map (z.cells[· % z.cells.size]!)) = zs.toArray := by
  unfold zeros at h
  cases hc : cellsO z with
  | none => simp [hc] at h
  | some cs =>
    simp only [hc, Option.some.injEq] at h
    subst h
    have e := cellsO_spec hc
    have es : z.cells.size = cs.length := by rw [← e]; simp
    apply Array.ext
    · simp [es]
    · intro j h1 h2
      simp only [Array.size_map, Array.size_range] at h1
      simp only [Array.getElem_map, Array.getElem_range, List.getElem_toArray]
      have hpos : 0 < cs.length := by
        rcases Nat.eq_zero_or_pos cs.length with h | h
        · rw [es, h] at h1; simp at h1
        · exact h
      have hm : j % z.cells.size < cs.length := by rw [es]; exact Nat.mod_lt _ hpos
      have hm' : j % z.cells.size < z.cells.size := by rw [es] at hm ⊢; exact hm
      have e1 : z.cells[j % z.cells.size]! = cs[j % z.cells.size] := by
        rw [getElem!_pos z.cells _ hm']
        have : z.cells.toList[j % z.cells.size]'(by simpa using hm') = cs[j % z.cells.size] := by simp [e]
        rw [← this]; simp
      rw [e1]
      have key : ∀ (k j : Nat) (h2 : j < (List.replicate k cs).flatten.length), (List.replicate k cs).flatten[j] = cs[j % cs.length]'(Nat.mod_lt _ hpos) := by
        intro k
        induction k with
        | zero => intro j h2; simp at h2
        | succ k ih =>
          intro j h2
          simp only [List.replicate_succ, List.flatten_cons]
          by_cases hj : j < cs.length
          · rw [List.getElem_append_left hj]
            simp [Nat.mod_eq_of_lt hj]
          · rw [List.getElem_append_right (by omega)]
            have h3 : j - cs.length < (List.replicate k cs).flatten.length := by
              simp only [List.replicate_succ, List.flatten_cons, List.length_append] at h2; omega
            rw [ih _ h3]
            congr 1
            rw [← Nat.mod_eq_sub_mod (by omega)]
      rw [key k j h2]
      simp [es]

theorem run_buildSlice (w : World) {t e k : Nat} {sz by_ : Nat} {ps : List (Nat × Operand)} {vs : List (Nat × Value)} {z : Value} {zs cs : List Value} (E : EL P t e sz by_) (hz : (P.info? e).bind (·.zero) = some z) (ev : EvP n F ps vs)
    (hzs : zeros z k = some zs) (hf : fillO (fun i => some (i * sz, sz)) zs vs = some cs) (hk : k * sz ≤ 16777216) (h0 : Nat.beq (k * sz) 0 = false) {f : Act} (hf' : Fr n F f) :
    (execOp f.eval ⟨dst, .buildSlice t k ps.toArray, ty, pos, after, g⟩).run P w = .ok (.value (.slice (some ⟨w.heap.size, 0, none⟩) k k)) (w.alloc (.cells cs.toArray e)) := by
  obtain ⟨i, z', ht, hi, hz', hsize, hby, hzsz, hsz⟩ := E.ex
  have e1 : z' = z := by
    have := hz; rw [hi] at this; simp only [Option.bind_some] at this; rw [hz'] at this; exact Option.some.inj this
  subst e1
  have h0' : ¬ k * i.size = 0 := by rw [hsize]; intro hh; rw [hh] at h0; cases h0
  have hk' : ¬ (16777216 < k * i.size) := by rw [hsize]; omega
  have hfill := fill_of_fillO hf
  have hsum := zeros_spec hzs
  have hrun : (Instr.buildSlice t k vs.toArray).run P w = .ok (.slice (some ⟨w.heap.size, 0, none⟩) k k) (w.alloc (.cells cs.toArray e)) := by
    subst hsize
    have hz2 : ((Array.range (k * i.size)).map (z'.cells[· % z'.cells.size]!)) = zs.toArray := by rw [← hzsz]; exact hsum
    simp only [Instr.buildSlice, Sem.run_bind, run_underlying ht, Result.andThen_ok, sizeOf, typeInfo, run_program, hi, Sem.run_pure]
    simp [hk', h0', zeroValue, typeInfo, hi, hz', hz2, hfill, newRow]
  simp only [execOp]
  have em' : (ps.toArray.map fun (i, x) => (i, f.eval x)) = vs.toArray := by
    rw [List.map_toArray]; exact congrArg List.toArray (ev.map hf')
  rw [em']
  simp [hrun]

theorem WL.buildSlice {t e k : Nat} {sz by_ : Nat} {ps : List (Nat × Operand)} {vs : List (Nat × Value)} {z : Value} {zs cs : List Value} (E : EL P t e sz by_) (hz : (P.info? e).bind (·.zero) = some z) (ev : EvP n F ps vs)
    (hzs : zeros z k = some zs) (hf : fillO (fun i => some (i * sz, sz)) zs vs = some cs) (hk : k * sz ≤ 16777216) (h0 : Nat.beq (k * sz) 0 = false) (hd : d < n.num)
    (kk : ∀ b, WL P ops Q n rest ((d, .slice (some ⟨b, 0, none⟩) k k) :: F) (.pt b (.cells cs.toArray e (0, 0)) :: h) m) :
    WL P ops Q n (⟨some d, .buildSlice t k ps.toArray, ty, pos, after, none⟩ :: rest) F h m := .mk fun _ w hf' hs =>
  wpList_of_wp rfl (wp_of_run (run_buildSlice w E hz ev hzs hf hk h0 hf') (kk w.heap.size _ _ (hf'.put hd _) (hs.alloc _)))

/-- An empty literal. -/
theorem WL.buildSlice0 {t e : Nat} {sz by_ : Nat} (E : EL P t e sz by_) (hd : d < n.num)
    (kk : ∀ b, WL P ops Q n rest ((d, .slice (some ⟨b, 0, none⟩) 0 0) :: F) (.row (.slice (some ⟨b, 0, none⟩) 0 0) e sz 0 [] :: h) m) :
    WL P ops Q n (⟨some d, .buildSlice t 0 #[], ty, pos, after, none⟩ :: rest) F h m := .mk fun f w hf' hs => by
  obtain ⟨i, z', ht, hi, hz', hsize, hby, hzsz, hsz⟩ := E.ex
  have hrun : (execOp f.eval ⟨some d, .buildSlice t 0 #[], ty, pos, after, none⟩).run P w = .ok (.value (.slice (some ⟨w.heap.size, 0, none⟩) 0 0)) (w.alloc (.cells #[] e)) := by
    simp [execOp, Instr.buildSlice, run_underlying ht, sizeOf, typeInfo, hi, Instr.fill, newRow, Array.range_zero']
  refine wpList_of_wp rfl (wp_of_run hrun (kk w.heap.size _ _ (hf'.put hd _) ?_))
  refine (hs.alloc (.cells #[] e)).conv Upd.here rfl fun hh => ?_
  have := row_of_cells (sz := sz) (n := 0) (cap := 0) hh (Nat.le_refl _) (by unfold maxLen; omega) (by simp)
  simp only [Nat.zero_mul, List.take_zero] at this
  exact this

def fieldsO (P : Program) : List Field → Option (List (Nat × Nat))
  | [] => some []
  | f :: fs => match P.info? f.type, fieldsO P fs with
    | some i, some r => some ((f.offset, i.size) :: r)
    | _, _ => none

theorem run_fields (w : World) : ∀ {fs : List Field} {pl : List (Nat × Nat)}, fieldsO P fs = some pl → (fs.mapM fun (f : Field) => do pure (f.offset, ← sizeOf f.type) : Sem (List (Nat × Nat))).run P w = .ok pl w
  | [], pl, h => by simp only [fieldsO, Option.some.injEq] at h; subst h; simp
  | f :: fs, pl, h => by
    simp only [fieldsO] at h
    cases h1 : P.info? f.type with
    | none => simp [h1] at h
    | some i =>
      cases h2 : fieldsO P fs with
      | none => simp [h1, h2] at h
      | some r =>
        simp only [h1, h2, Option.some.injEq] at h
        subst h
        have ih := run_fields w h2
        simp only [List.mapM_cons, Sem.run_bind, sizeOf, typeInfo, run_program, Result.andThen_ok, h1, Sem.run_pure]
        simp only [sizeOf, typeInfo] at ih
        rw [ih]
        simp

theorem PO.build {t : TypeId} {fs : Array Field} {ps : List (Nat × Operand)} {vs : List (Nat × Value)} {z : Value} {zs cs : List Value} {pl : List (Nat × Nat)} (ht : P.underlying t = some (.struct fs)) (hpl : fieldsO P fs.toList = some pl)
    (hz : (P.info? t).bind (·.zero) = some z) (hzs : cellsO z = some zs) (ev : EvP n F ps vs) (hf : fillO (pl[·]?) zs vs = some cs) : PO P ⟨dst, .build t ps.toArray, ty, pos, after, g⟩ n F h m (.agg cs.toArray) := .mk fun f w hf' _ => by
  have hfill := fill_of_fillO hf
  have em : (ps.toArray.map fun (i, x) => (i, f.eval x)) = vs.toArray := by
    rw [List.map_toArray]; exact congrArg List.toArray (ev.map hf')
  have hzc : z.cells = zs.toArray := by rw [← cellsO_spec hzs]
  simp only [execOp]
  rw [em]
  have hrf := run_fields (P := P) w hpl
  have hrun : (Instr.build t vs.toArray).run P w = .ok (.agg cs.toArray) w := by
    cases hi : P.info? t with
    | none => simp [hi] at hz
    | some i =>
      have hz' : i.zero = some z := by simpa [hi] using hz
      simp only [Instr.build, zeroValue, typeInfo, Sem.run_bind, run_program, Result.andThen_ok, hi, Sem.run_pure, hz', run_underlying ht]
      rw [show fs = fs.toList.toArray by simp, List.mapM_toArray]
      simp only [Sem.run_map, hrf, Result.andThen_ok]
      have e2 : (fun x : Nat => pl.toArray[x]?) = (pl[·]?) := by funext x; simp
      simp only [hzc, e2, hfill]
      rfl
  simp [hrun]

/- copy into a piece of an owned slice -/
theorem run_copy1 (w : World) {t sT ty e : TypeId} {by_ : Nat} (E : EL P t e 1 by_) {a b : Option Addr} {l cap o dl dc k c : Nat} {xs ys : List Value} (hown : w.ownsRow 0 e 1 (.slice a l cap) l xs) (hl : ys.length = k)
    (hys : ∀ j u, ys[j]? = some u → ∃ b0 off, b = some ⟨b0, off, none⟩ ∧ w.cell? ⟨b0, off + j, none⟩ = some u) (h1 : ∀ u ∈ ys, u.oneCell' = true) (hk : 0 < k) (hkd : k ≤ dl) (hfit : o + dl ≤ l) :
    ∃ w', (Builtin.copy_ #[t, sT] ty #[.slice (sl1 a o cap 1) dl dc, .slice b k c]).run P w = .ok (.int .i64 k) w' ∧ w'.ownsRow 0 e 1 (.slice a l cap) l (xs.take o ++ ys ++ xs.drop (o + k)) ∧ w.grownBy w' (Value.slice a l cap).ownBlock := by
  obtain ⟨hxl, hn | ⟨g, cp, cur, hv, _, hg, hnc, hcm, hsz, htk⟩⟩ := hown
  · obtain ⟨_, h0⟩ := hn; omega
  · simp only [Value.slice.injEq] at hv
    obtain ⟨rfl, _, rfl⟩ := hv
    obtain ⟨i, z, ht, hi, hz, hsize, hby, hzs, hsz1⟩ := E.ex
    have hne : ¬ cap = o := by omega
    obtain ⟨b0, off, e0, _⟩ := hys 0 (ys[0]'(by omega)) (List.getElem?_eq_getElem (by omega))
    subst e0
    have hr := run_copy_row P w t sT ty e g o dl dc ⟨b0, off, none⟩ k c cur e ys ht (by simp [hi, hsize]) hg (by rw [hl]; exact (Nat.min_eq_left hkd).symm)
      (fun j v hj => by obtain ⟨b1, off1, e1, hc⟩ := hys j v hj; cases e1; rw [Addr.add_lit]; exact hc) (by rw [hl]; omega) h1
    refine ⟨w.setRow g (cur.toList.take o ++ ys ++ cur.toList.drop (o + ys.length)).toArray, by simp only [sl1, if_neg hne, Option.map_some, Nat.mul_one, Addr.add_lit, Nat.zero_add]; rw [hr, hl]; rfl, ?_, ⟨rfl, rfl, rfl, by simp, fun q _ hq => setRow_other w g q _ (fun e => hq (by simp [Value.ownBlock, e]))⟩⟩
    have hxl' : xs.length = l := by simpa using hxl
    have hcl : cur.toList.length = cap := by simpa using hsz
    refine ⟨by simp [hl, hxl']; omega, .inr ⟨g, cap, _, rfl, Nat.zero_le _, setRow_heap w g cur _ e _ hg, hnc, hcm, ?_, ?_⟩⟩
    · simp [hl]; omega
    · simp only [Nat.mul_one] at htk ⊢
      have hA : (cur.toList.take o ++ ys).length = o + k := by rw [List.length_append, List.length_take, hcl, hl]; omega
      rw [← htk, hl, List.take_take, Nat.min_eq_left (by omega), List.drop_take, List.take_append, hA, List.take_of_length_le (by omega)]

/-- A literal's block is an owned slice. -/
theorem WL.ptRow {l : List Oper} {b k sz : Nat} {cs : List Value} {e : TypeId} (hl : cs.length = k * sz) (hk : k ≤ 9223372036854775807) (u : Upd h (.pt b (.cells cs.toArray e (0, 0))) (.row (.slice (some ⟨b, 0, none⟩) k k) e sz k cs) h')
    (kk : WL P ops Q n l F h' m) : WL P ops Q n l F h m := WL.conv u rfl (fun w hw => by
  have := row_of_cells (sz := sz) (n := k) (cap := k) hw (Nat.le_refl _) (by unfold maxLen; omega) (by simpa using hl)
  rw [show (cs.toArray.toList.take (k * sz)) = cs from by rw [List.take_of_length_le (by simp [hl])]] at this
  exact this) kk

/- copy of a string to the front of an owned slice -/
theorem WL.copyS {x y : Operand} {t sT e : TypeId} {by_ l cap : Nat} {a : Option Addr} {xs : List Value} {bs : List UInt8} (E : EL P t e 1 by_) (ex : Ev n F x (.slice a l cap)) (ey : Ev n F y (str bs)) (h0 : 0 < l) (hk : bs.length ≤ l)
    (u : Upd h (.row (.slice a l cap) e 1 l xs) (.row (.slice a l cap) e 1 l (bv bs ++ xs.drop bs.length)) h') (hd : d < n.num) (kk : WL P ops Q n rest ((d, .int .i64 bs.length) :: F) h' m) :
    WL P ops Q n (⟨some d, .call ⟨.builtin .copy, #[x, y], #[t, sT]⟩, ty, pos, after, none⟩ :: rest) F h m := .mk fun f w hf hs => by
  have hown : w.ownsRow 0 e 1 (.slice a l cap) l xs := hs.ok _ u.mem
  obtain ⟨hxl, hn | ⟨g, cp, cur, hv, _, hg, hnc, hcm, hsz, htk⟩⟩ := hown
  · obtain ⟨_, h0'⟩ := hn; omega
  · simp only [Value.slice.injEq] at hv
    obtain ⟨rfl, _, rfl⟩ := hv
    obtain ⟨i, z, ht, hi, hz, hsize, hby, hzs, hsz1⟩ := E.ex
    have hsz' : cur.size = cap := by omega
    have hst := run_storeCells_at P g 0 e (bv bs) 0 cur w hg (by rw [bv_len]; omega) (by intro u hu; simp only [bv, List.mem_map] at hu; obtain ⟨b, _, rfl⟩ := hu; rfl)
    simp only [Nat.zero_add, List.take_zero, List.nil_append] at hst
    have hcells : List.take bs.length (List.map (fun b => Value.int .u8 (b.toNat : Int)) bs) = bv bs := by
      rw [List.take_of_length_le (by simp)]; rfl
    have hmin : Nat.min (⟨bs.toArray⟩ : ByteArray).size l = bs.length := Nat.min_eq_left hk
    refine wpList_of_wp rfl (wp_of_run (v := .int .i64 bs.length) (w' := w.setRow g (bv bs ++ cur.toList.drop (bv bs).length).toArray) ?_ (kk _ _ (hf.put hd _) ?_))
    · simp only [execOp, resolve, invoke, builtin, ex f hf, ey f hf, List.map_toArray, List.map_cons, List.map_nil, Sem.run_bind, Sem.run_pure, Result.andThen_ok]
      simp [Builtin.copy_, run_underlying ht, Builtin.lenOf, hmin, sizeOf, typeInfo, hi, Builtin.firstCells, hcells, hst, goInt]
    · refine hs.upd u rfl rfl rfl (fun q _ hq => setRow_other w g q _ (fun e => hq (by rw [e]; rfl))) ?_ (fun b hb => .inl hb)
      have hxl' : xs.length = l := by simpa using hxl
      refine ⟨by simp [bv_len, hxl']; omega, .inr ⟨g, cap, _, rfl, Nat.zero_le _, setRow_heap w g cur _ e _ hg, hnc, hcm, ?_, ?_⟩⟩
      · simp [bv_len]; omega
      · simp only [Nat.mul_one] at htk ⊢
        rw [← htk, List.drop_take, List.take_append, bv_len, List.take_of_length_le (by rw [bv_len]; omega)]

theorem WL.copy {x y : Operand} {t sT e : TypeId} {by_ l cap o dl dc k c : Nat} {a b : Option Addr} {xs ys : List Value} (E : EL P t e 1 by_) (ex : Ev n F x (.slice (sl1 a o cap 1) dl dc)) (ey : Ev n F y (.slice b k c))
    (rd : Rd m h b k c 1 ys) (h1 : ∀ u ∈ ys, u.oneCell' = true) (hk : 0 < k) (hkd : k ≤ dl) (hfit : o + dl ≤ l)
    (u : Upd h (.row (.slice a l cap) e 1 l xs) (.row (.slice a l cap) e 1 l (xs.take o ++ ys ++ xs.drop (o + k))) h') (hd : d < n.num) (kk : WL P ops Q n rest ((d, .int .i64 k) :: F) h' m) :
    WL P ops Q n (⟨some d, .call ⟨.builtin .copy, #[x, y], #[t, sT]⟩, ty, pos, after, none⟩ :: rest) F h m := .mk fun f w hf hs => by
  have hown : w.ownsRow 0 e 1 (.slice a l cap) l xs := hs.ok _ u.mem
  obtain ⟨w', hr, hown', hg⟩ := run_copy1 (P := P) w (sT := sT) (ty := ty) (dc := dc) (c := c) E hown (by simpa using rd.len) (rd.at_ w hs) h1 hk hkd hfit
  refine wpList_of_wp rfl (wp_of_run (v := .int .i64 k) (w' := w') ?_ (kk _ _ (hf.put hd _) ?_))
  · simp [execOp, resolve, invoke, builtin, ex f hf, ey f hf, hr]
  · exact hs.upd u hg.os hg.output hg.tape (fun q hq hne => hg.block q hq (fun e => hne e.symm)) hown' (fun b hb => .inl hb)

theorem SR.copy {eff : List Nat} {t' : Tl} {hs hp hp' : List Res} {i : Nat} {s : Tr} {x y : Operand} {t sT e : TypeId} {by_ l cap o dl dc k c : Nat} {a b : Option Addr} {xs ys : List Value}
    (ho : ops[i]? = some ⟨some d, .call ⟨.builtin .copy, #[x, y], #[t, sT]⟩, ty, pos, after, none⟩) (he : eff.contains i = true) (E : EL P t e 1 by_) (ex : Ev n F x (.slice (sl1 a o cap 1) dl dc)) (ey : Ev n F y (.slice b k c))
    (rd : Rd m (hp ++ hs) b k c 1 ys) (h1 : ∀ u ∈ ys, u.oneCell' = true) (hk : 0 < k) (hkd : k ≤ dl) (hfit : o + dl ≤ l)
    (u : Upd hp (.row (.slice a l cap) e 1 l xs) (.row (.slice a l cap) e 1 l (xs.take o ++ ys ++ xs.drop (o + k))) hp') (hd : d < n.num) (kk : SR P ops Q n eff t' hs s ((d, .int .i64 k) :: F) hp' m) :
    SR P ops Q n eff t' hs (.op i s) F hp m := ⟨_, ho, fun y hy => by cases hy; exact hd, by
  rw [he]
  refine ⟨fun fr f w hf st => ⟨fun _ => ?_, fun h => by simp [Region.wanted] at h⟩⟩
  have hmem : Res.row (.slice a l cap) e 1 l xs ∈ fr ++ (hp ++ hs) := List.mem_append.2 (.inr (List.mem_append.2 (.inl u.mem)))
  obtain ⟨w', hr, hown', hg⟩ := run_copy1 (P := P) w (sT := sT) (ty := ty) (dc := dc) (c := c) E (st.ok _ hmem) (by simpa using rd.len) (rd.at_ w (st.sub (List.sublist_append_right _ _))) h1 hk hkd hfit
  have hrun : (execOp f.eval ⟨some d, .call ⟨.builtin .copy, #[x, y], #[t, sT]⟩, ty, pos, after, none⟩).run P w = .ok (.value (.int .i64 k)) w' := by
    simp [execOp, resolve, invoke, builtin, ex f hf, ey f hf, hr]
  rw [hrun]
  have lift : ∀ {p : List Res} {r r' : Res} {p' : List Res}, Upd p r r' p' → Upd (p ++ hs) r r' (p' ++ hs) := fun u => by
    induction u with
    | here => exact Upd.here
    | next _ ih => exact Upd.next ih
  have liftL : ∀ {q p : List Res} {r r' : Res} {p' : List Res}, Upd p r r' p' → Upd (q ++ p) r r' (q ++ p') := fun {q} _ _ _ _ u => by
    induction q with
    | nil => exact u
    | cons x q ih => exact Upd.next ih
  exact ⟨m, _, View.le.refl m, st.upd (liftL (lift u)) hg.os hg.output hg.tape (fun q hq hne => hg.block q hq (fun e => hne e.symm)) hown' (fun b hb => .inl hb), nofun, kk.e⟩⟩
theorem SR.buildSlice {eff : List Nat} {t' : Tl} {hs hp : List Res} {q : Nat} {s : Tr} {t e k : Nat} {sz by_ : Nat} {ps : List (Nat × Operand)} {vs : List (Nat × Value)} {z : Value} {zs cs : List Value}
    (ho : ops[q]? = some ⟨some d, .buildSlice t k ps.toArray, ty, pos, after, none⟩) (he : eff.contains q = true) (E : EL P t e sz by_) (hz : (P.info? e).bind (·.zero) = some z) (ev : EvP n F ps vs)
    (hzs : zeros z k = some zs) (hf : fillO (fun i => some (i * sz, sz)) zs vs = some cs) (hk : k * sz ≤ 16777216) (h0 : Nat.beq (k * sz) 0 = false) (hd : d < n.num)
    (kk : ∀ b, SR P ops Q n eff t' hs s ((d, .slice (some ⟨b, 0, none⟩) k k) :: F) (.pt b (.cells cs.toArray e (0, 0)) :: hp) m) :
    SR P ops Q n eff t' hs (.op q s) F hp m := ⟨_, ho, fun y hy => by cases hy; exact hd, by
  rw [he]
  refine ⟨fun fr f w hf' st => ⟨fun _ => ?_, fun h => by simp [Region.wanted] at h⟩⟩
  have hrun := run_buildSlice (P := P) w (dst := some d) (ty := ty) (pos := pos) (after := after) (g := none) E hz ev hzs hf hk h0 hf'
  rw [hrun]
  exact ⟨m, .pt w.heap.size (.cells cs.toArray e) :: hp, View.le.refl m, (st.alloc _).perm List.perm_middle.symm, fun _ => List.sublist_cons_self _ _, (kk _).e⟩⟩
end
end Go.Eng

/- Bytes: parts of a readable slice; a store into an owned slice; a literal's conversion to its own type. -/
namespace Go.Eng
open Go Go.RowKit

theorem Rd.subB {m : View} {h : List Res} {a : Option Addr} {n cap : Nat} {xs : List UInt8} (s : Rd m h a n cap 1 (bv xs)) {l k : Nat} (h1 : l ≤ k) (h2 : k ≤ n) :
    Rd m h (sl1 a l cap 1) (k - l) (cap - l) 1 (bv ((xs.drop l).take (k - l))) := by
  have := s.sub h1 h2
  simp only [Nat.mul_one] at this
  have e : ((bv xs).drop l).take (k - l) = bv ((xs.drop l).take (k - l)) := by simp [bv]
  rwa [e] at this
theorem Rd.lenB {m : View} {h : List Res} {a : Option Addr} {n cap : Nat} {xs : List UInt8} (s : Rd m h a n cap 1 (bv xs)) : xs.length = n := by
  have := s.len; simpa [bv_len] using this
theorem Rd.dropB {m : View} {h : List Res} {a : Option Addr} {n cap : Nat} {xs : List UInt8} (s : Rd m h a n cap 1 (bv xs)) {l : Nat} (h1 : l ≤ n) :
    Rd m h (sl1 a l cap 1) (n - l) (cap - l) 1 (bv (xs.drop l)) := by
  have := s.subB h1 (Nat.le_refl n)
  rwa [List.take_of_length_le (by have := s.lenB; simp; omega)] at this
theorem Rd.takeB {m : View} {h : List Res} {a : Option Addr} {n cap : Nat} {xs : List UInt8} (s : Rd m h a n cap 1 (bv xs)) {k : Nat} (h2 : k ≤ n) :
    Rd m h (sl1 a 0 cap 1) k cap 1 (bv (xs.take k)) := by
  have := s.subB (Nat.zero_le k) h2
  simpa using this

theorem Rd.fr {m : View} {h : List Res} {a : Option Addr} {n cap sz : Nat} {xs : List Value} (s : Rd m h a n cap sz xs) (fr : List Res) : Rd m (fr ++ h) a n cap sz xs := s.mono (View.le.refl m) (List.sublist_append_right fr h)

theorem Rd.nilB (m : View) (h : List Res) : Rd m h none 0 0 1 (bv []) := ⟨rfl, Nat.le_refl _, by omega, fun _ _ j u hj => by simp [bv] at hj⟩
theorem CT.val {P : Program} {f : FuncId} {args : List Value} {h : List Res} {m : View} {v v' : Value} (c : CT P f args h m (Pure1 h v)) (e : v = v') : CT P f args h m (Pure1 h v') := e ▸ c

theorem CT.conv {P : Program} {f : FuncId} {args : List Value} {h : List Res} {m : View} {R R' : Value → View → List Res → Prop} (c : CT P f args h m R)
    (k : ∀ v m' h' w, m.le m' → St m' h' w → R v m' h' → ∃ m'' h'', m'.le m'' ∧ St m'' h'' w ∧ R' v m'' h'') : CT P f args h m R' :=
  ⟨c.enter, fun w hs => Calls.mono (c.calls w hs) (by
    rintro e w' ⟨v, m', h', rfl, hle, hst, hR⟩
    obtain ⟨m2, h2, h3, h4, h5⟩ := k v m' h' w' hle hst hR
    exact ⟨v, m2, h2, rfl, hle.trans h3, h4, h5⟩)⟩

theorem take_set {α : Type} (xs : List α) (i k : Nat) (v : α) : (xs.set i v).take k = (xs.take k).set i v := by
  rw [List.take_set]

section
variable {P : Program} {ops : Array Oper} {Q : Exit → Act → World → Prop} {n : Cx} {F : Fm} {h h' : List Res} {m : View} {rest : List Oper}
variable {ty : TypeId} {pos : String} {after : Array Edge} {dst : Option Tmp} {g : Option (Nat × Bool)} {d : Nat}

theorem WL.call1 {f : Operand} {args : List Operand} {tys : Array TypeId} {vs first cap : List Value} {q : FuncId} {v : Value} (ef : Ev n F f (.func (.func q) first.toArray cap.toArray)) (ea : Evs n F args vs)
    (c : CT P q (first ++ vs ++ cap) h m (Pure1 h v)) (hd : d < n.num) (k : ∀ m', m.le m' → WL P ops Q n rest ((d, v) :: F) h m') :
    WL P ops Q n (⟨some d, .call ⟨.value f, args.toArray, tys⟩, ty, pos, after, none⟩ :: rest) F h m :=
  WL.call ef ea c hd fun _ m' _ hm hR => by obtain ⟨rfl, rfl⟩ := hR; exact k m' hm

/-- A store of one cell into an owned slice. -/
theorem WL.storeR {x y : Operand} {t e : TypeId} {a : Option Addr} {l cap sz o : Nat} {xs : List Value} {v : Value} (hq : (P.info? t).map (·.size) = some 1) (ex : Ev n F x (.pointer (elt a o))) (ey : Ev n F y v)
    (hvs : cellsO v = some [v]) (h1 : v.oneCell' = true) (ho : o < xs.length)
    (u : Upd h (.row (.slice a l cap) e sz l xs) (.row (.slice a l cap) e sz l (xs.set o v)) h') (k : WL P ops Q n rest F h' m) :
    WL P ops Q n (⟨none, .store t x y, ty, pos, after, none⟩ :: rest) F h m := .mk fun f w ha hs => by
  have hvs := cellsO_spec hvs
  have hown : w.ownsRow 0 e sz (.slice a l cap) l xs := hs.ok _ u.mem
  obtain ⟨hxl, hn | ⟨b, cp, cur, hv, _, hb, hnc, hcm, hsz, htk⟩⟩ := hown
  · obtain ⟨_, h0'⟩ := hn
    subst h0'
    simp only [Nat.zero_mul] at hxl
    omega
  · simp only [Value.slice.injEq] at hv
    obtain ⟨rfl, _, rfl⟩ := hv
    have hlc : l * sz ≤ cap * sz := Nat.mul_le_mul_right _ hnc
    have hoc : o < cur.size := by rw [hsz]; omega
    have hst := run_storeCells_at P b o e [v] 0 cur w hb (by simp; omega) (by intro u hu; simp at hu; subst hu; exact h1)
    have ec : cur.toList.take o ++ [v] ++ cur.toList.drop (o + 1) = cur.toList.set o v := by
      rw [List.set_eq_take_append_cons_drop, if_pos (by simpa using hoc)]; simp
    simp only [Nat.add_zero, List.length_singleton] at hst
    rw [ec] at hst
    have hrun : (execOp f.eval ⟨none, .store t x y, ty, pos, after, none⟩).run P w = .ok .skip (w.setRow b (cur.toList.set o v).toArray) := by
      cases hi : P.info? t with
      | none => simp [hi] at hq
      | some i =>
        have e1 : i.size = 1 := by simpa [hi] using hq
        have ev' : v.cells = #[v] := by rw [← Array.toList_inj]; simpa using hvs
        have ex' : f.eval x = .pointer (some ⟨b, 0 + o, none⟩) := ex f ha
        rw [Nat.zero_add] at ex'
        simp [execOp, ex', ey f ha, Instr.storeAt, Instr.sureAddr, storeVar, sizeOf, typeInfo, hi, e1, ev']
        rw [hst]; rfl
    refine wpList_of_wp rfl (wp_of_skip hrun (k _ _ ha ?_))
    refine hs.upd u rfl rfl rfl (fun q _ hq => setRow_other w b q _ (fun e => hq (by rw [e]; rfl))) ?_ (fun b hb => .inl hb)
    refine ⟨by simpa using hxl, .inr ⟨b, cap, _, rfl, Nat.zero_le _, setRow_heap w b cur _ e _ hb, hnc, hcm, by simpa using hsz, ?_⟩⟩
    rw [← htk]
    simp [List.take_set]

theorem freeze_at (w : World) (b : Nat) (cs : Array Value) (e : TypeId) (k : Nat) (hb : w.heap[b]? = some (.cells cs e (0, 0))) :
    (w.freeze ⟨b, k, none⟩ 1).heap[b]? = some (.cells cs e (k, k + 1)) ∧ (∀ q, q ≠ b → (w.freeze ⟨b, k, none⟩ 1).heap[q]? = w.heap[q]?) ∧
    (w.freeze ⟨b, k, none⟩ 1).os = w.os ∧ (w.freeze ⟨b, k, none⟩ 1).output = w.output ∧ (w.freeze ⟨b, k, none⟩ 1).tape = w.tape := by
  unfold World.freeze
  rw [if_neg (by decide)]
  refine ⟨?_, fun q hq => ?_, rfl, rfl, rfl⟩
  · simp [Array.getElem?_modify, hb]
  · simp [Array.getElem?_modify, Ne.symm hq]

/-- []byte("..") of a constant: the literal's new block is marked. -/
theorem WL.mark {x : Operand} {t e : TypeId} {b k c : Nat} {cs : List Value} (ht : P.underlying t = some (.slice e)) (he : P.underlying e = some (.int .u8)) (ex : Ev n F x (.slice (some ⟨b, 0, none⟩) k c))
    (u : Upd h (.pt b (.cells cs.toArray e (0, 0))) (.pt b (.cells cs.toArray e (cs.length, cs.length + 1))) h') (hd : d < n.num) (kk : WL P ops Q n rest ((d, .slice (some ⟨b, 0, none⟩) k c) :: F) h' m) :
    WL P ops Q n (⟨some d, .convert t t x, ty, pos, after, none⟩ :: rest) F h m := .mk fun f w ha hs => by
  have hb : w.heap[b]? = some (.cells cs.toArray e (0, 0)) := hs.ok _ u.mem
  obtain ⟨h1, h2, h3, h4, h5⟩ := freeze_at w b cs.toArray e cs.length hb
  have hsh : w.shape? b = some (e, cs.length) := by simp [World.shape?, hb]
  have hrun : (execOp f.eval ⟨some d, .convert t t x, ty, pos, after, none⟩).run P w = .ok (.value (.slice (some ⟨b, 0, none⟩) k c)) (w.freeze ⟨b, cs.length, none⟩ 1) := by
    simp [execOp, ex f ha, convert, run_underlying ht, run_underlying he, markStringish, hsh]
  exact wpList_of_wp rfl (wp_of_run hrun (kk _ _ (ha.put hd _) (hs.upd u h3 h4 h5 (fun q _ hq => h2 q (fun e => hq (by rw [e]; rfl))) h1 (fun b hb => .inl hb))))
end
end Go.Eng

/- From the machine to a law's row: the arguments are read, the walk is a contract over the whole heap as a view, and nothing of it has turned. -/
namespace Go.Eng
open Go Go.RowKit Go.ChangeShapes Go.WideShapes Go.ChangeAt Go.Joins

def viewOf (W : World) : View := ⟨fun b => W.heap[b]?, W.os, W.output, W.tape⟩
theorem St.start (W : World) : St (viewOf W) [] W := ⟨rfl, rfl, rfl, fun _ _ h => h, (fun r hr => by cases hr), .nil, (fun r hr => by cases hr)⟩
theorem start_cell {W : World} {a : Addr} {v : Value} (h : W.cell? a = some v) : (viewOf W).cell a = some v := by
  unfold World.cell? at h
  unfold View.cell viewOf
  simp only
  split at h
  · rename_i c e z hc; rw [hc]; exact h
  · cases h
theorem St.below {W w' : World} {m' : View} {h' : List Res} (hle : (viewOf W).le m') (st : St m' h' w') : Below W.heap.size W w' := by
  have hb : ∀ k, k < W.heap.size → w'.heap[k]? = W.heap[k]? := fun k hk => by
    have e : W.heap[k]? = some W.heap[k] := Array.getElem?_eq_getElem hk
    rw [e]
    exact st.blk k _ (hle.blk k _ e)
  refine ⟨st.os.trans hle.os, st.tape.trans hle.tape, st.out.trans hle.out, ?_, hb⟩
  rcases Nat.eq_zero_or_pos W.heap.size with h0 | h0
  · omega
  · have h1 := hb (W.heap.size - 1) (by omega)
    have h2 : W.heap[W.heap.size - 1]? = some W.heap[W.heap.size - 1] := Array.getElem?_eq_getElem (by omega)
    rw [h2] at h1
    have := (Array.getElem?_eq_some_iff.1 h1).1
    omega

section
variable {H : Type} {enc : TypeId × Value → H} {P : Program}

theorem bytes_arg {W : World} {t e : TypeId} {fuel : Nat} {held : Bool} {v : Value} {x : DataW H × List MemPlace} (ht : P.underlying t = some (.slice e)) (he : P.underlying e = some (.int .u8)) (hc : P.cellsOf e = 1)
    (h : DataW.trod enc P W 0 (fun _ => true) held fuel t [v] = some x) :
    ∃ s n c bs, v = .slice s n c ∧ Rd (viewOf W) [] s n c 1 (bv bs) ∧ ∀ B, (∀ q ∈ x.1.weights P t, q ≤ B) → n * P.bytesOf e ≤ B := by
  rcases open_ints ht he hc h with ⟨hcs, hx⟩ | ⟨a, len, cap, zs, hcs, _, hl, hm, hz, hx, hcell, hw⟩
  · cases hcs
    exact ⟨none, 0, 0, [], rfl, Rd.nilB _ _, fun B _ => by simp⟩
  · cases hcs
    have hz : zs.length = cap := by simpa using hz
    have wf : ∀ i, i < zs.length → 0 ≤ zs.getD i 0 ∧ zs.getD i 0 ≤ 255 := fun i hi => by
      have := hw (zs.getD i 0) (by rw [List.getD_eq_getElem?_getD, List.getElem?_eq_getElem hi]; simp)
      simp only [Lit.wf, Bool.and_eq_true, decide_eq_true_eq] at this
      exact this
    refine ⟨some a, len, cap, (zs.take len).map (fun z => UInt8.ofNat z.toNat), rfl, Rd.ofSl ⟨by simp [bv]; omega, hl, by unfold maxLen at hm; omega, fun j u hj => ?_⟩, fun B hB => ?_⟩
    · have hjl : j < len := by
        have := (List.getElem?_eq_some_iff.1 hj).1
        simp [bv] at this; omega
      have hc := hcell j (by omega)
      have hsp : a.spot = none := by
        have hc0 := hcell 0 (by omega)
        have e0 : a.add 0 = a := by simp [Addr.add]
        rw [e0] at hc0
        unfold World.cell? at hc0
        split at hc0
        · cases hs : a.spot with
          | none => rfl
          | some q => simp [hs] at hc0
        · cases hc0
      obtain ⟨b, off, spot⟩ := a
      cases hsp
      refine ⟨b, off, rfl, ?_⟩
      rw [Addr.add_lit] at hc
      have hu : u = .int .u8 (zs.getD j 0) := by
        have := wf j (by omega)
        simp only [bv, List.map_map, List.getElem?_map, List.getElem?_take_of_lt hjl, List.getElem?_eq_getElem (show j < zs.length by omega), Option.map_some, Option.some.injEq] at hj
        rw [← hj]
        have e : zs.getD j 0 = zs[j]'(by omega) := by rw [List.getD_eq_getElem?_getD, List.getElem?_eq_getElem (by omega)]; rfl
        rw [e] at this ⊢
        simp
        omega
      rw [hu]
      exact start_cell hc
    · subst hx
      have := hB ((List.length (lits (H := H) .u8 (zs.take len)) + List.length (lits (H := H) .u8 (zs.drop len))) * P.bytesOf e) (by simp [DataW.weights, ht])
      refine Nat.le_trans ?_ this
      refine Nat.mul_le_mul_right _ ?_
      simp only [lits, List.length_map, List.length_take]
      omega

theorem trodAll_same {W W' : World} (hl : laidOutB P = true) (hb : Below W.heap.size W W') : ∀ {ts : List TypeId} {vs : List Value} {ds : List (DataW H)} {ps : List MemPlace}, (∀ t ∈ ts, P.readableRec t = true ∧ t < P.types.size) →
    DataW.TrodAll enc P W 0 (fun _ => true) true ts vs ds ps → (∀ x ∈ ps, x.block < W.heap.size) → DataW.TrodAll enc P W' 0 (fun b => decide (b < W.heap.size)) true ts vs ds ps
  | [], [], [], ps, _, h, _ => h
  | t :: ts, v :: vs, d :: ds, ps, ht, h, hlt => by
    obtain ⟨p, q, h1, h2, rfl⟩ := h
    exact ⟨p, q, Below.trod hl (ht t (by simp)).1 (ht t (by simp)).2 h1 hb (fun x hx => hlt x (by simp [hx])), trodAll_same hl hb (fun t' h' => ht t' (by simp [h'])) h2 (fun x hx => hlt x (by simp [hx])), rfl⟩
  | [], _ :: _, _, _, _, h, _ | [], [], _ :: _, _, _, h, _ | _ :: _, [], _, _, _, h, _ | _ :: _, _ :: _, [], _, _, h, _ => h.elim

theorem trodAll_len {W : World} {base : Nat} {spare : Nat → Bool} {held : Bool} : ∀ {ts : List TypeId} {vs : List Value} {ds : List (DataW H)} {ps : List MemPlace}, DataW.TrodAll enc P W base spare held ts vs ds ps → ds.length = ts.length
  | [], [], [], _, _ => rfl
  | _ :: ts, _ :: vs, _ :: ds, _, h => by
    obtain ⟨p, q, _, h2, _⟩ := h
    simp [trodAll_len h2]
  | [], _ :: _, _, _, h | [], [], _ :: _, _, h | _ :: _, [], _, _, h | _ :: _, _ :: _, [], _, h => h.elim

theorem law_post {C : Checked} {f : FuncId} {fn : Func} {s : ChangeSpec} {tb : TypeId} (hlaid : laidOutB C.prog = true) (hrd : fn.params.toList.all (fun t => C.prog.readableRec t && decide (t < C.prog.types.size)) = true) (hvars : s.vars = [])
    (hrt : fn.resultTypes = #[tb]) (htb : C.prog.underlying tb = some .bool) (hspec : ∀ ds : List (DataW H), ds.length = fn.params.size → s.fn H ds = { results := [.lit (.bool true)], args := ds })
    {W : World} {args : Array Value} {ds gs : List (DataW H)} {before : List MemPlace} (hW : DataW.Whole enc C.prog fn.params.toList s.vars false W args.toList ds gs before)
    (hct : CT C.prog f args.toList [] (viewOf W) (fun v _ _ => v = .bool true)) :
    Calls C.prog f args W fun e W' => ∃ v, e = .returned v ∧ s.post enc C.prog fn false true false false W args v W' := by
  have hW' := hW
  obtain ⟨p, q, hA, hV, rfl, hfz, hnd⟩ := hW
  rw [hvars] at hV
  obtain ⟨rfl, rfl⟩ := trodVars_none hV
  refine Calls.mono (by simpa using hct.calls W (St.start W)) ?_
  rintro e W' ⟨v, m', h', rfl, hle, hst, rfl⟩
  have hb := hst.below hle
  have hlt : ∀ x ∈ p, x.block < W.heap.size := fun x hx => by simpa using hW'.lt x (by simp [hx])
  have hs := hspec (ds ++ []) (by simpa using trodAll_len hA)
  have hrd' : ∀ t ∈ fn.params.toList, C.prog.readableRec t = true ∧ t < C.prog.types.size := fun t ht => by
    have := List.all_eq_true.1 hrd t ht
    simpa using this
  refine ⟨_, rfl, ds, [], p ++ [], [], p, [], hW', ?_, ?_, ?_, World.keptBut_mono (fun x hx => ?_) (hb.frame (· ∈ p ++ [])), fun h => by cases h⟩
  · rw [hs, hrt]
    exact trodAll_mk1 (shut_bool htb true)
  · rw [hs, List.append_nil]
    exact trodAll_same hlaid hb hrd' hA hlt
  · rw [hs, hvars]; rfl
  · exact ⟨hx, .inr (.inl (by simpa using hx))⟩
end
end Go.Eng

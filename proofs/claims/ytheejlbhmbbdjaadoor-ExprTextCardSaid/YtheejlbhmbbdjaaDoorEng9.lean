/- How a law's arguments lie in memory. -/
import Derived.Test.YtheejlbhmbbdjaaDoorEng8
namespace Go.Eng
open Go Go.RowKit Go.ChangeShapes Go.WideShapes Go.ChangeAt Go.Joins

theorem mapM_some {α β : Type} {f : α → Option β} : ∀ {l : List α} {xs : List β}, l.mapM f = some xs → ∀ a ∈ l, ∃ y, f a = some y
  | [], _, _, a, ha => by cases ha
  | b :: l, xs, h, a, ha => by
    simp only [List.mapM_cons] at h
    cases h1 : f b with
    | none => simp [h1] at h
    | some y =>
      cases h2 : l.mapM f with
      | none => simp [h1, h2] at h
      | some ys =>
        rcases List.mem_cons.1 ha with rfl | ha
        · exact ⟨y, h1⟩
        · exact mapM_some h2 a ha
theorem mapM_get {α β : Type} {f : α → Option β} : ∀ {l : List α} {xs : List β}, l.mapM f = some xs → xs.length = l.length ∧ ∀ (i : Nat) (a : α), l[i]? = some a → ∃ y, xs[i]? = some y ∧ f a = some y
  | [], xs, h => by simp at h; subst h; simp
  | b :: l, xs, h => by
    simp only [List.mapM_cons] at h
    cases h1 : f b with
    | none => simp [h1] at h
    | some y =>
      cases h2 : l.mapM f with
      | none => simp [h1, h2] at h
      | some ys =>
        simp [h1, h2] at h
        subst h
        obtain ⟨e, k⟩ := mapM_get h2
        refine ⟨by simp [e], fun i a hi => ?_⟩
        cases i with
        | zero => simp at hi; subst hi; exact ⟨y, rfl, h1⟩
        | succ i => simpa using k i a (by simpa using hi)

section
variable {H : Type} {enc : TypeId × Value → H} {P : Program} {W : World} {held : Bool} {fuel : Nat} {t : TypeId} {cs : List Value} {x : DataW H × List MemPlace}
abbrev RdT (enc : TypeId × Value → H) (P : Program) (W : World) (held : Bool) (fuel : Nat) (t : TypeId) (cs : List Value) (x : DataW H × List MemPlace) : Prop := DataW.trod enc P W 0 (fun _ => true) held fuel t cs = some x

theorem rd_pos (h : RdT enc P W held fuel t cs x) : ∃ f, fuel = f + 1 := by
  cases fuel with
  | zero => simp [RdT, DataW.trod] at h
  | succ f => exact ⟨f, rfl⟩
theorem rd_bool (ht : P.underlying t = some .bool) (h : RdT enc P W held fuel t cs x) : ∃ b, cs = [.bool b] := by
  obtain ⟨f, rfl⟩ := rd_pos h
  unfold RdT DataW.trod at h
  rw [ht] at h
  split at h <;> simp_all
theorem rd_int {k : IntKind} (ht : P.underlying t = some (.int k)) (h : RdT enc P W held fuel t cs x) : ∃ n, cs = [.int k n] ∧ (Lit.int k n).wf = true := by
  obtain ⟨f, rfl⟩ := rd_pos h
  unfold RdT DataW.trod at h
  rw [ht] at h
  split at h <;> simp_all
theorem rd_str (ht : P.underlying t = some .string) (h : RdT enc P W held fuel t cs x) : ∃ l : List UInt8, cs = [str l] ∧ l.length ≤ maxLen := by
  obtain ⟨f, rfl⟩ := rd_pos h
  unfold RdT DataW.trod at h
  rw [ht] at h
  split at h <;> simp_all
  rename_i s
  exact ⟨s.data.toList, by simp, by rw [Array.length_toList]; exact h.1⟩
theorem rd_struct {fs : Array Field} (ht : P.underlying t = some (.struct fs)) (h : RdT enc P W held fuel t cs x) :
    cs.length = P.cellsOf t ∧ ∃ f, fuel = f + 1 ∧ ∀ q ∈ fs.toList, ∃ y, RdT enc P W held f q.type ((cs.drop q.offset).take (P.cellsOf q.type)) y := by
  obtain ⟨f, rfl⟩ := rd_pos h
  unfold RdT DataW.trod at h
  rw [ht] at h
  split at h <;> simp_all
  obtain ⟨h1, xs, h2, _⟩ := h
  intro q hq
  obtain ⟨y, hy⟩ := mapM_some h2 q (by simpa using hq)
  exact ⟨y.1, y.2, hy⟩
theorem cells_get {a : Addr} {n : Nat} {cs : List Value} (h : W.cells? 0 a n = some cs) : cs.length = n ∧ ∀ j v, cs[j]? = some v → W.cell? (a.add j) = some v := by
  unfold World.cells? at h
  rw [if_pos (Nat.zero_le _)] at h
  obtain ⟨h1, h2⟩ := mapM_get h
  rw [List.length_range] at h1
  refine ⟨h1, fun j v hj => ?_⟩
  have hlt : j < n := by rw [← h1]; exact (List.getElem?_eq_some_iff.1 hj).1
  obtain ⟨y, e1, e2⟩ := h2 j j (by simp [hlt])
  rw [hj] at e1
  cases e1
  exact e2
theorem rd_slice {e : TypeId} (ht : P.underlying t = some (.slice e)) (h : RdT enc P W held fuel t cs x) :
    cs = [.slice none 0 0] ∨ ∃ a n c f, cs = [.slice (some a) n c] ∧ fuel = f + 1 ∧ n ≤ c ∧ c ≤ maxLen ∧ ∀ i, i < c → ∃ ys y, W.cells? 0 (a.add (i * P.cellsOf e)) (P.cellsOf e) = some ys ∧ RdT enc P W held f e ys y := by
  rcases DataW.trod_slice ht h with ⟨rfl, _⟩ | ⟨a, n, c, el, rs, f, rfl, rfl, _, _, h1, h2, h3, h4, h5, _⟩
  · exact .inl rfl
  · refine .inr ⟨a, n, c, f, rfl, rfl, h1, h2, fun i hi => ?_⟩
    obtain ⟨h6, h7⟩ := h5 rfl
    have key : ∀ i (z : DataW H × List MemPlace), (W.cells? 0 (a.add (i * P.cellsOf e)) (P.cellsOf e)).bind (DataW.trod enc P W 0 (fun _ => true) held f e) = some z → ∃ ys y, W.cells? 0 (a.add (i * P.cellsOf e)) (P.cellsOf e) = some ys ∧ RdT enc P W held f e ys y := by
      intro i z hi
      cases hc : W.cells? 0 (a.add (i * P.cellsOf e)) (P.cellsOf e) with
      | none => rw [hc] at hi; cases hi
      | some ys => rw [hc] at hi; exact ⟨ys, z, rfl, hi⟩
    rcases Nat.lt_or_ge i n with h' | h'
    · exact key i _ ((h4 i h').trans (List.getElem?_eq_getElem (by omega)))
    · have := h7 (i - n) (by omega)
      rw [show n + (i - n) = i by omega] at this
      exact key i _ (this.trans (List.getElem?_eq_getElem (by omega)))

theorem choose_list {α : Type} {p : Nat → α → Prop} : ∀ n, (∀ i, i < n → ∃ x, p i x) → ∃ l : List α, l.length = n ∧ ∀ i x, l[i]? = some x → p i x
  | 0, _ => ⟨[], rfl, fun i x h => by simp at h⟩
  | n + 1, h => by
    obtain ⟨l, h1, h2⟩ := choose_list n fun i hi => h i (by omega)
    obtain ⟨x, hx⟩ := h n (by omega)
    refine ⟨l ++ [x], by simp [h1], fun i y hi => ?_⟩
    rcases Nat.lt_or_ge i n with h' | h'
    · rw [List.getElem?_append_left (by omega)] at hi; exact h2 i y hi
    · have : i = n := by
        have := (List.getElem?_eq_some_iff.1 hi).1
        simp at this; omega
      subst this
      rw [← h1] at hi
      simp at hi
      subst hi; rw [h1] at *; exact hx

/-- A slice of elements that read as α's. -/
theorem slice_arg {α : Type} {Pr : α → Prop} {enc' : α → List Value} {e sz : Nat} (ht : P.underlying t = some (.slice e)) (hsz : P.cellsOf e = sz) (hpos : 0 < sz) (henc : ∀ x, (enc' x).length = sz)
    (hdec : ∀ f ys y, RdT enc P W held f e ys y → ∃ z, ys = enc' z ∧ Pr z) (h : RdT enc P W held fuel t cs x) :
    ∃ a n c l, cs = [.slice a n c] ∧ l.length = n ∧ Sl (viewOf W) a n c sz (fl enc' l) ∧ ∀ z ∈ l, Pr z := by
  rcases rd_slice ht h with rfl | ⟨a, n, c, f, rfl, rfl, h1, h2, h3⟩
  · exact ⟨none, 0, 0, [], rfl, rfl, Sl.nil _ _, fun _ h => by cases h⟩
  · rw [hsz] at h3
    have h4 : ∀ i, i < n → ∃ z, W.cells? 0 (a.add (i * sz)) sz = some (enc' z) ∧ Pr z := fun i hi => by
      obtain ⟨ys, y, e1, e2⟩ := h3 i (by omega)
      obtain ⟨z, rfl, hz⟩ := hdec f ys y e2
      exact ⟨z, e1, hz⟩
    obtain ⟨l, hl, hp⟩ := choose_list n h4
    refine ⟨some a, n, c, l, rfl, hl, ⟨by rw [fl_len henc, hl], h1, by unfold maxLen at h2; omega, fun j v hj => ?_⟩, fun z hz => ?_⟩
    · have hjl : j < n * sz := by have := (List.getElem?_eq_some_iff.1 hj).1; rwa [fl_len henc, hl] at this
      have hq : j / sz < n := Nat.div_lt_of_lt_mul (by rwa [Nat.mul_comm] at hjl)
      obtain ⟨z, hz⟩ := get_some (l := l) (k := j / sz) (by omega)
      have hm : j % sz < sz := Nat.mod_lt _ hpos
      have hj2 : (enc' z)[j % sz]? = some v := by
        have := flat_get (sz := sz) enc' henc l (j / sz) (j % sz) hm
        rw [Nat.mul_comm, Nat.div_add_mod, hz] at this
        unfold fl at hj
        rw [hj] at this
        exact this.symm
      obtain ⟨hc, _⟩ := hp _ z hz
      have hcell := (cells_get hc).2 _ v hj2
      have hsp : a.spot = none := by
        obtain ⟨z0, hz0⟩ := get_some (l := l) (k := 0) (by rw [hl]; exact Nat.lt_of_le_of_lt (Nat.zero_le _) hq)
        obtain ⟨v0, hv0⟩ := get_some (l := enc' z0) (k := 0) (by rw [henc]; omega)
        have h0 := (cells_get (hp _ z0 hz0).1).2 _ v0 hv0
        have e0 : (a.add (0 * sz)).add 0 = a := by simp [Addr.add]
        rw [e0] at h0
        unfold World.cell? at h0
        split at h0
        · cases hs : a.spot with
          | none => rfl
          | some q => rw [hs] at h0; cases h0
        · cases h0
      obtain ⟨b, off, sp⟩ := a
      cases hsp
      refine ⟨b, off, rfl, ?_⟩
      rw [Addr.add_lit, Addr.add_lit, Nat.add_assoc, show j / sz * sz + j % sz = j by rw [Nat.mul_comm, Nat.div_add_mod]] at hcell
      exact start_cell hcell
    · obtain ⟨i, hi⟩ := List.getElem?_of_mem hz
      exact (hp i z hi).2
/-- An argument that is one cell. -/
theorem arg_cell {v : Value} {d : DataW H} {p : List MemPlace} (h : DataW.Trod enc P W 0 (fun _ => true) true t v d p) :
    ∃ fuel x, RdT enc P W true fuel t v.cells.toList x := by
  obtain ⟨fuel, hf⟩ := h
  exact ⟨fuel, _, hf⟩
/-- An argument that is a struct. -/
theorem arg_struct {r : Reach} {base : Nat} {v : Value} {d : DataW H} {p : List MemPlace} {fs : Array Field} (ht : P.underlying t = some (.struct fs)) (hv : Value.okWide P W r base t v) (h : DataW.Trod enc P W 0 (fun _ => true) true t v d p) :
    ∃ cs fuel x, v = .agg cs.toArray ∧ RdT enc P W true fuel t cs x := by
  obtain ⟨cs, rfl, _⟩ := okWide_struct ht hv
  obtain ⟨fuel, hf⟩ := h
  exact ⟨cs.toList, fuel, _, by simp, hf⟩
end
end Go.Eng

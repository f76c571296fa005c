/- A map from ints to true: a set of ints. -/
import Derived.Test.YtheejlbhmbbdjaaDoorEng8
namespace Go.Eng
open Go Go.RowKit

/-- The entries of a map whose keys are the ints ks, each with true. -/
structure MapI (es : Array MapEntry) (ks : List Int) : Prop where
  a : ∀ e ∈ es.toList, ∃ n, e.key = .int .i64 n ∧ e.val = .bool true ∧ n ∈ ks
  b : ∀ n ∈ ks, ∃ e ∈ es.toList, e.key = .int .i64 n
theorem MapI.nil : MapI #[] [] := ⟨fun e h => by simp at h, fun n h => by cases h⟩

theorem find_int {q : IntKind} {n : Int} : ∀ (l : List MapEntry) (i : Nat), (∀ e ∈ l, ∃ n, e.key = .int .i64 n) →
    (Instr.findNow (.int q) (.int .i64 n) l i = some none ∧ ∀ e ∈ l, e.key ≠ .int .i64 n) ∨ ∃ j e, l[j]? = some e ∧ e.key = .int .i64 n ∧ Instr.findNow (.int q) (.int .i64 n) l i = some (some (i + j, e.val))
  | [], i, _ => .inl ⟨rfl, fun e h => by cases h⟩
  | e :: l, i, h => by
    obtain ⟨k, hk⟩ := h e (by simp)
    by_cases hn : n = k
    · subst hn
      refine .inr ⟨0, e, rfl, hk, ?_⟩
      simp [Instr.findNow, hk, Instr.sameNow]
    · have hb : (n == k) = false := by simpa using hn
      have e1 : Instr.findNow (.int q) (.int .i64 n) (e :: l) i = Instr.findNow (.int q) (.int .i64 n) l (i + 1) := by
        simp [Instr.findNow, hk, Instr.sameNow, hb]
      rcases find_int l (i + 1) (fun e he => h e (by simp [he])) with ⟨h1, h2⟩ | ⟨j, e', h1, h2, h3⟩
      · refine .inl ⟨by rw [e1, h1], fun e' he' => ?_⟩
        rcases List.mem_cons.1 he' with rfl | he'
        · rw [hk]; intro hq; cases hq; exact hn rfl
        · exact h2 e' he'
      · exact .inr ⟨j + 1, e', by simpa using h1, h2, by rw [e1, h3]; congr 3; omega⟩

section
variable {P : Program} {ops : Array Oper} {Q : Exit → Act → World → Prop} {n : Cx} {F : Fm} {h h' : List Res} {m : View} {rest : List Oper}
variable {ty : TypeId} {pos : String} {after : Array Edge} {dst : Option Tmp} {g : Option (Nat × Bool)} {d : Nat}

theorem St.setObj {w : World} {b : Nat} {o o' : Obj} (s : St m h w) (u : Upd h (.pt b o) (.pt b o') h') : St m h' { w with heap := w.heap.setIfInBounds b o' } := by
  have hb : w.heap[b]? = some o := s.ok _ u.mem
  have hlt := lt_of_some hb
  refine s.upd u rfl rfl rfl (fun k _ hk => ?_) ?_ (fun k hk => .inl hk)
  · have : b ≠ k := fun e => hk (by rw [e]; rfl)
    simp [Array.getElem?_setIfInBounds_ne this]
  · show ({ w with heap := w.heap.setIfInBounds b o' } : World).heap[b]? = some o'
    simp [hlt]

theorem WL.makeMap {t : TypeId} (hd : d < n.num) (k : ∀ b, WL P ops Q n rest ((d, .map (some b)) :: F) (.pt b (.map #[] 0) :: h) m) :
    WL P ops Q n (⟨some d, .makeMap t none, ty, pos, after, none⟩ :: rest) F h m := .mk fun a w ha hs => by
  have hrun : (execOp a.eval ⟨some d, .makeMap t none, ty, pos, after, none⟩).run P w = .ok (.value (.map (some w.heap.size))) (w.alloc (.map #[] 0)) := by
    simp [execOp, Instr.makeMap]
  exact wpList_of_wp rfl (wp_of_run hrun (k _ _ _ (ha.put hd _) (hs.alloc _)))

theorem run_mapSet (w : World) {t kt et : TypeId} {q : IntKind} {b : Nat} {es : Array MapEntry} {clock : Nat} {ks : List Int} {x : Int} (ht : P.underlying t = some (.map kt et)) (hk : P.underlying kt = some (.int q)) (hM : MapI es ks)
    (hb : w.heap[b]? = some (.map es clock)) : ∃ es' clock', MapI es' (x :: ks) ∧ (Instr.mapUpdate t (.map (some b)) (.int .i64 x) (.bool true)).run P w = .ok () { w with heap := w.heap.setIfInBounds b (.map es' clock') } := by
  have hck : (Instr.checkKey false 10000 kt (.int .i64 x)).run P w = .ok () w := by
    unfold Instr.checkKey
    simp [run_underlying hk]
  have hint : ∀ e ∈ es.toList, ∃ n, e.key = .int .i64 n := fun e he => by obtain ⟨n, h1, _⟩ := hM.a e he; exact ⟨n, h1⟩
  have hget : (getObj b).run P w = .ok (.map es clock) w := by simp [getObj, Sem.run, hb]
  have hset : ∀ o, (setObj b o).run P w = .ok () { w with heap := w.heap.setIfInBounds b o } := fun o => by simp [setObj, Sem.run, hb]
  rcases find_int (q := q) (n := x) es.toList 0 hint with ⟨h1, h2⟩ | ⟨j, e, h1, h2, h3⟩
  · refine ⟨es.push { key := .int .i64 x, val := .bool true, born := clock }, clock + 1, ⟨fun e he => ?_, fun y hy => ?_⟩, ?_⟩
    · simp only [Array.toList_push, List.mem_append, List.mem_singleton] at he
      rcases he with he | rfl
      · obtain ⟨y, a1, a2, a3⟩ := hM.a e he; exact ⟨y, a1, a2, by simp [a3]⟩
      · exact ⟨x, rfl, rfl, by simp⟩
    · rcases List.mem_cons.1 hy with rfl | hy
      · exact ⟨{ key := .int .i64 y, val := .bool true, born := clock }, by simp, rfl⟩
      · obtain ⟨e, e1, e2⟩ := hM.b y hy; exact ⟨e, by simp only [Array.toList_push, List.mem_append]; exact .inl e1, e2⟩
    · simp [Instr.mapUpdate, run_underlying ht, hget, hck, Instr.findKey, run_underlying hk, h1, hset]
  · have hj : es[j]? = some e := by simpa using h1
    refine ⟨es.modify j fun e => { e with key := .int .i64 x, val := .bool true }, clock, ⟨fun e' he' => ?_, fun y hy => ?_⟩, ?_⟩
    · obtain ⟨i, hi⟩ := List.getElem?_of_mem he'
      have hi2 : (es.modify j fun e => { e with key := .int .i64 x, val := .bool true })[i]? = some e' := by rw [Array.getElem?_toList] at hi; exact hi
      rw [Array.getElem?_modify] at hi2
      split at hi2
      · cases hq : es[i]? with
        | none => simp [hq] at hi2
        | some e0 => simp [hq] at hi2; subst hi2; exact ⟨x, rfl, rfl, by simp⟩
      · obtain ⟨y, a1, a2, a3⟩ := hM.a e' (by
          exact Array.mem_def.1 (Array.mem_of_getElem? hi2))
        exact ⟨y, a1, a2, by simp [a3]⟩
    · have key : ∀ i e0, es[i]? = some e0 → ∃ e1 ∈ (es.modify j fun e => { e with key := .int .i64 x, val := .bool true }).toList, e1.key = if j = i then .int .i64 x else e0.key := fun i e0 h0 => by
        have : (es.modify j fun e => { e with key := .int .i64 x, val := .bool true })[i]? = some (if j = i then { e0 with key := .int .i64 x, val := .bool true } else e0) := by
          rw [Array.getElem?_modify, h0]; split <;> simp
        have hm := Array.mem_of_getElem? this
        refine ⟨_, Array.mem_def.1 hm, ?_⟩
        split <;> rfl
      rcases List.mem_cons.1 hy with rfl | hy
      · obtain ⟨e1, m1, k1⟩ := key j e hj
        exact ⟨e1, m1, by rw [k1, if_pos rfl]⟩
      · obtain ⟨e0, m0, k0⟩ := hM.b y hy
        obtain ⟨i, hi⟩ := List.getElem?_of_mem m0
        obtain ⟨e1, m1, k1⟩ := key i e0 (by simpa using hi)
        by_cases hji : j = i
        · subst hji
          have e00 : e0 = e := by rw [show es[j]? = some e0 by simpa using hi] at hj; exact Option.some.inj hj
          subst e00
          refine ⟨e1, m1, ?_⟩
          rw [k1, if_pos rfl, ← k0, h2]
        · exact ⟨e1, m1, by rw [k1, if_neg hji, k0]⟩
    · simp [Instr.mapUpdate, run_underlying ht, hget, hck, Instr.findKey, run_underlying hk, h3, hj, h2, Instr.keyThatStays, Instr.sameBits, hset]

theorem WL.mapSet {op : Op} {x y z : Operand} {t kt et : TypeId} {q : IntKind} {b : Nat} {es : Array MapEntry} {clock : Nat} {ks : List Int} {i : Int} {hq : Array MapEntry → Nat → List Res} (hop : op = .mapUpdate t x y z ∨ op = .insert t x y z) (ht : P.underlying t = some (.map kt et)) (hk : P.underlying kt = some (.int q)) (hM : MapI es ks)
    (ex : Ev n F x (.map (some b))) (ey : Ev n F y (.int .i64 i)) (ez : Ev n F z (.bool true)) (u : ∀ es' c', Upd h (.pt b (.map es clock)) (.pt b (.map es' c')) (hq es' c')) (k : ∀ es' c', MapI es' (i :: ks) → WL P ops Q n rest F (hq es' c') m) :
    WL P ops Q n (⟨none, op, ty, pos, after, none⟩ :: rest) F h m := .mk fun a w ha hs => by
  obtain ⟨es', c', h1, h2⟩ := run_mapSet (P := P) w (x := i) ht hk hM (hs.ok _ (u es clock).mem)
  have hrun : (execOp a.eval ⟨none, op, ty, pos, after, none⟩).run P w = .ok .skip { w with heap := w.heap.setIfInBounds b (.map es' c') } := by
    rcases hop with rfl | rfl <;> simp [execOp, ex a ha, ey a ha, ez a ha, h2]
  exact wpList_of_wp rfl (wp_of_skip hrun (k es' c' h1 _ _ ha (hs.setObj (u es' c'))))

theorem PO.mapGet {x y : Operand} {t kt et : TypeId} {q : IntKind} {b : Nat} {es : Array MapEntry} {clock : Nat} {ks : List Int} {i : Int} (ht : P.underlying t = some (.map kt et)) (hk : P.underlying kt = some (.int q)) (hz : (P.info? et).bind (·.zero) = some (.bool false)) (hM : MapI es ks)
    (ex : Ev n F x (.map (some b))) (ey : Ev n F y (.int .i64 i)) (hm : Res.pt b (.map es clock) ∈ h) : PO P ⟨dst, .lookup t x y false, ty, pos, after, g⟩ n F h m (.bool (decide (i ∈ ks))) := .mk fun a w ha hs => by
  have hb : w.heap[b]? = some (.map es clock) := hs.ok _ hm
  have hck : (Instr.checkKey es.isEmpty 10000 kt (.int .i64 i)).run P w = .ok () w := by
    unfold Instr.checkKey
    simp [run_underlying hk]
  have hint : ∀ e ∈ es.toList, ∃ n, e.key = .int .i64 n := fun e he => by obtain ⟨n, h1, _⟩ := hM.a e he; exact ⟨n, h1⟩
  have hget : (getObj b).run P w = .ok (.map es clock) w := by simp [getObj, Sem.run, hb]
  have hzr : (zeroValue et).run P w = .ok (.bool false) w := by
    cases hi : P.info? et with
    | none => simp [hi] at hz
    | some j =>
      have : j.zero = some (.bool false) := by simpa [hi] using hz
      simp [zeroValue, typeInfo, hi, this]
  rcases find_int (q := q) (n := i) es.toList 0 hint with ⟨h1, h2⟩ | ⟨j, e, h1, h2, h3⟩
  · have hno : ¬ i ∈ ks := fun hi => by obtain ⟨e, e1, e2⟩ := hM.b i hi; exact h2 e e1 e2
    simp [execOp, ex a ha, ey a ha, Instr.lookup, run_underlying ht, hget, hck, Instr.findKey, run_underlying hk, h1, hzr, hno]
  · have hm := List.mem_of_getElem? h1
    obtain ⟨y', a1, a2, a3⟩ := hM.a e hm
    have : i = y' := by rw [h2] at a1; cases a1; rfl
    subst this
    simp [execOp, ex a ha, ey a ha, Instr.lookup, run_underlying ht, hget, hck, Instr.findKey, run_underlying hk, h3, a2, a3]
end
end Go.Eng

/- expr: how the arguments of ExprTrees read, and their bulk. -/
import Derived.Test.YtheejlbhmbbdjaaDoorArgE
import Derived.Test.YtheejlbhmbbdjaaDoorRows
namespace Go.Eng
open Go
section
variable {H : Type} {enc : TypeId × Value → H} {P : Program} {W : World} {held : Bool} {fuel : Nat} {t : TypeId} {cs : List Value} {x : DataW H × List MemPlace}
theorem rd_structB {fs : Array Field} (ht : P.underlying t = some (.struct fs)) (h : RdT enc P W held fuel t cs x) :
    cs.length = P.cellsOf t ∧ ∃ f ds, fuel = f + 1 ∧ x.1 = .agg ds ∧ ∀ q ∈ fs.toList, ∃ (d : DataW H) (p : List MemPlace), d ∈ ds ∧ RdT enc P W held f q.type ((cs.drop q.offset).take (P.cellsOf q.type)) (d, p) ∧ ∀ n ∈ d.weights P q.type, n ∈ x.1.weights P t := by
  have ht' := ht
  obtain ⟨f, rfl⟩ := rd_pos h
  unfold RdT DataW.trod at h
  rw [ht] at h
  split at h <;> simp_all
  obtain ⟨h1, xs, h2, hx⟩ := h
  subst hx
  refine ⟨_, rfl, fun q hq => ?_⟩
  obtain ⟨j, hj⟩ := Array.getElem?_of_mem hq
  obtain ⟨e, k⟩ := mapM_get h2
  obtain ⟨y, hy, hr⟩ := k j q (by simpa using hj)
  refine ⟨y.1, List.mem_map.2 ⟨y, List.mem_of_getElem? hy, rfl⟩, ⟨y.2, hr⟩, fun n hn => ?_⟩
  unfold DataW.weights
  rw [ht']
  exact DataW.weights_mem_each (j := j) (by simp [hj]) (by simp [hy]) n hn
theorem rd_sliceB {e : TypeId} (ht : P.underlying t = some (.slice e)) (h : RdT enc P W held fuel t cs x) :
    cs = [.slice none 0 0] ∨ ∃ a n c f el sp, (cs = [.slice (some a) n c] ∧ fuel = f + 1 ∧ n ≤ c ∧ c ≤ maxLen) ∧ el.length = n ∧ x.1 = .slice el sp ∧ ∀ i, i < n → ∃ ys y, W.cells? 0 (a.add (i * P.cellsOf e)) (P.cellsOf e) = some ys ∧ RdT enc P W held f e ys y ∧ (∀ k ∈ y.1.weights P e, k ∈ x.1.weights P t) ∧ el[i]? = some y.1 := by
  rcases DataW.trod_slice ht h with ⟨rfl, _⟩ | ⟨a, n, c, el, rs, f, rfl, rfl, rfl, _, h1, h2, h3, h4, _, _⟩
  · exact .inl rfl
  · refine .inr ⟨a, n, c, f, el.map (·.1), rs.map (·.1), ⟨rfl, rfl, h1, h2⟩, by simpa using h3, rfl, fun i hi => ?_⟩
    have he := h4 i hi
    rw [List.getElem?_eq_getElem (by omega)] at he
    cases hc : W.cells? 0 (a.add (i * P.cellsOf e)) (P.cellsOf e) with
    | none => rw [hc] at he; cases he
    | some ys =>
      rw [hc] at he
      refine ⟨ys, el[i]'(by omega), rfl, he, fun k hk => ?_, ?_⟩
      · unfold DataW.weights
        rw [ht]
        exact List.mem_cons_of_mem _ (List.mem_append_left _ (weightsAll_mem (List.mem_map.2 ⟨_, List.getElem_mem _, rfl⟩) k hk))
      · rw [List.getElem?_map, List.getElem?_eq_getElem (by omega)]
        rfl
theorem slice_argI {α : Type} {Pr : α → DataW H → Prop} {enc' : α → List Value} {e sz : Nat} (ht : P.underlying t = some (.slice e)) (hsz : P.cellsOf e = sz) (hpos : 0 < sz) (henc : ∀ x, (enc' x).length = sz)
    (hdec : ∀ f ys y, f < fuel → RdT enc P W held f e ys y → (∀ k ∈ y.1.weights P e, k ∈ x.1.weights P t) → ∃ z, ys = enc' z ∧ Pr z y.1) (h : RdT enc P W held fuel t cs x) :
    ∃ a n c l, cs = [.slice a n c] ∧ l.length = n ∧ Sl (viewOf W) a n c sz (fl enc' l) ∧ ∃ el : List (DataW H), el.length = n ∧ (∀ (i : Nat) z, l[i]? = some z → ∃ d, el[i]? = some d ∧ Pr z d) ∧ ((l = [] ∧ el = []) ∨ ∃ sp, x.1 = .slice el sp) := by
  rcases rd_sliceB ht h with rfl | ⟨a, n, c, f, el, sp, ⟨rfl, rfl, h1, h2⟩, hel, hx, h3⟩
  · exact ⟨none, 0, 0, [], rfl, rfl, Sl.nil _ _, [], rfl, fun i z h => by simp at h, .inl ⟨rfl, rfl⟩⟩
  · rw [hsz] at h3
    have h4 : ∀ i, i < n → ∃ z, W.cells? 0 (a.add (i * sz)) sz = some (enc' z) ∧ ∃ d, el[i]? = some d ∧ Pr z d := fun i hi => by
      obtain ⟨ys, y, e1, e2, e3, e4⟩ := h3 i hi
      obtain ⟨z, rfl, hz⟩ := hdec f ys y (Nat.lt_succ_self f) e2 e3
      exact ⟨z, e1, y.1, e4, hz⟩
    obtain ⟨l, hl, hp⟩ := choose_list n h4
    refine ⟨some a, n, c, l, rfl, hl, ⟨by rw [fl_len henc, hl], h1, by unfold maxLen at h2; omega, fun j v hj => ?_⟩, el, hel, fun i z hz => ?_, .inr ⟨sp, hx⟩⟩
    · have hjl : j < n * sz := by have := (List.getElem?_eq_some_iff.1 hj).1; rwa [fl_len henc, hl] at this
      have hq : j / sz < n := Nat.div_lt_of_lt_mul (by rwa [Nat.mul_comm] at hjl)
      obtain ⟨z, hz⟩ := get_some (l := l) (k := j / sz) (by omega)
      have hm : j % sz < sz := Nat.mod_lt _ hpos
      have hj2 : (enc' z)[j % sz]? = some v := by
        have := flat_get (sz := sz) enc' henc l (j / sz) (j % sz) hm
        rw [Nat.mul_comm, Nat.div_add_mod, hz] at this
        unfold fl at hj
        rw [hj] at this
        exact this.symm
      obtain ⟨hc, _⟩ := hp _ z hz
      have hcell := (cells_get hc).2 _ v hj2
      have hsp : a.spot = none := by
        obtain ⟨z0, hz0⟩ := get_some (l := l) (k := 0) (by rw [hl]; exact Nat.lt_of_le_of_lt (Nat.zero_le _) hq)
        obtain ⟨v0, hv0⟩ := get_some (l := enc' z0) (k := 0) (by rw [henc]; omega)
        have h0 := (cells_get (hp _ z0 hz0).1).2 _ v0 hv0
        have e0 : (a.add (0 * sz)).add 0 = a := by simp [Addr.add]
        rw [e0] at h0
        unfold World.cell? at h0
        split at h0
        · cases hs : a.spot with
          | none => rfl
          | some q => rw [hs] at h0; cases h0
        · cases h0
      obtain ⟨b, off, sp⟩ := a
      cases hsp
      refine ⟨b, off, rfl, ?_⟩
      rw [Addr.add_lit, Addr.add_lit, Nat.add_assoc, show j / sz * sz + j % sz = j by rw [Nat.mul_comm, Nat.div_add_mod]] at hcell
      exact start_cell hcell
    · exact (hp i z hz).2
end
end Go.Eng
namespace Go.Proofs.YtheejlbhmbbdjaaDoor
open Go Go.Eng Go.Ty Go.Xp Go.RowKit Go.ChangeShapes Go.WideShapes Go.ChangeAt Go.Joins
set_option maxRecDepth 100000
variable {H : Type} {enc : TypeId × Value → H} {W : World}
theorem bulk_mem {d : DataW H} : ∀ {l : List (DataW H)}, d ∈ l → Rows.uptoBulk d ≤ Rows.uptoBulkAll l
  | y :: l, h => by
    unfold Rows.uptoBulkAll
    rcases List.mem_cons.1 h with rfl | h
    · omega
    · have := bulk_mem h
      omega
theorem bulk_list : ∀ (l : List Ex) (el : List (DataW H)), (∀ (i : Nat) z, l[i]? = some z → ∃ d, el[i]? = some d ∧ cntE z ≤ Rows.uptoBulk d) → cntL l ≤ Rows.uptoBulkAll el
  | [], _, _ => Nat.zero_le _
  | z :: l, el, h => by
    obtain ⟨d, hd, hz⟩ := h 0 z rfl
    cases el with
    | nil => cases hd
    | cons d' el =>
      cases hd
      have := bulk_list l el fun i z hi => h (i + 1) z hi
      unfold cntL Rows.uptoBulkAll
      omega
theorem ex_readB : ∀ (fuel : Nat) {cs : List Value} {x : DataW H × List MemPlace}, RdT enc Tryd.prog W true fuel 27 cs x → (∀ q ∈ x.1.weights Tryd.prog 27, q ≤ reachBytes) → ∃ e : Ex, cs = exE e ∧ (TOk (viewOf W) [] e ∧ Wf e) ∧ cntE e ≤ Rows.uptoBulk x.1 := by
  intro fuel
  induction fuel using Nat.strongRecOn with
  | _ fuel ih =>
  intro cs x hr hw
  obtain ⟨hl, f, ds, hfu, hds, hf⟩ := rd_structB Tryd.underlying27 hr
  rw [cellsExpr] at hl
  match cs, hl with
  | [c0, c1, c2, c3, c4, c5], _ =>
    obtain ⟨_, _, _, h0, _⟩ := hf _ (.head _)
    obtain ⟨_, _, _, h1, _⟩ := hf _ (.tail _ (.head _))
    obtain ⟨_, _, _, h2, _⟩ := hf _ (.tail _ (.tail _ (.head _)))
    obtain ⟨_, _, _, h3, _⟩ := hf _ (.tail _ (.tail _ (.tail _ (.head _))))
    obtain ⟨_, _, _, h4, k4⟩ := hf _ (.tail _ (.tail _ (.tail _ (.tail _ (.head _)))))
    obtain ⟨d5, p5, hm5, h5, k5⟩ := hf _ (.tail _ (.tail _ (.tail _ (.tail _ (.tail _ (.head _))))))
    obtain ⟨n0, e0, w0⟩ := rd_int Tryd.underlying22 h0
    obtain ⟨n1, e1, w1⟩ := rd_int Tryd.underlying23 h1
    obtain ⟨n2, e2, w2⟩ := rd_int Tryd.underlying24 h2
    obtain ⟨n3, e3, w3⟩ := rd_int Tryd.underlying21 h3
    obtain ⟨n4, e4, w4⟩ := rd_strW Tryd.underlying9 h4
    obtain ⟨a, n, c, l, e5, hll, hs, el, hel, hp, hx5⟩ := slice_argI (Pr := fun (e : Ex) (d : DataW H) => (TOk (viewOf W) [] e ∧ Wf e) ∧ cntE e ≤ Rows.uptoBulk d) (enc' := exE) Tryd.underlying25 cellsExpr (by decide) exE_len (fun g ys y hg hy hk => by
      obtain ⟨e, he1, he2⟩ := ih g (by omega) hy fun q hq => hw q (k5 q (hk q hq))
      exact ⟨e, he1, he2⟩) h5
    obtain rfl : c0 = .int .u8 n0 := List.head_eq_of_cons_eq e0
    obtain rfl : c1 = .int .u8 n1 := List.head_eq_of_cons_eq e1
    obtain rfl : c2 = .int .u8 n2 := List.head_eq_of_cons_eq e2
    obtain rfl : c3 = .int .i32 n3 := List.head_eq_of_cons_eq e3
    obtain rfl : c4 = str n4 := List.head_eq_of_cons_eq e4
    obtain rfl : c5 = .slice a n c := List.head_eq_of_cons_eq e5
    subst hll
    have u0 : 0 ≤ n0 ∧ n0 ≤ 255 := by simpa [Lit.wf, show IntKind.u8.min = 0 from rfl, show IntKind.u8.max = 255 from rfl] using w0
    have u1 : 0 ≤ n1 ∧ n1 ≤ 255 := by simpa [Lit.wf, show IntKind.u8.min = 0 from rfl, show IntKind.u8.max = 255 from rfl] using w1
    have u2 : 0 ≤ n2 ∧ n2 ≤ 255 := by simpa [Lit.wf, show IntKind.u8.min = 0 from rfl, show IntKind.u8.max = 255 from rfl] using w2
    have u3 : -2147483648 ≤ n3 ∧ n3 ≤ 2147483647 := by simp [Lit.wf] at w3; exact w3
    have hq : ∀ y ∈ l, TOk (viewOf W) [] y ∧ Wf y := fun y hy => by
      obtain ⟨i, hi⟩ := List.getElem?_of_mem hy
      obtain ⟨d, _, hd⟩ := hp i y hi
      exact hd.1
    have hb : cntL l ≤ Rows.uptoBulk d5 := by
      have h1 := bulk_list l el fun i z hi => by
        obtain ⟨d, h2, h3⟩ := hp i z hi
        exact ⟨d, h2, h3.2⟩
      rcases hx5 with ⟨rfl, _⟩ | ⟨sp, hx5⟩
      · exact Nat.zero_le _
      · rw [show d5 = .slice el sp from hx5]
        unfold Rows.uptoBulk
        omega
    have hb2 := bulk_mem hm5
    refine ⟨.mk n0 n1 n2 n3 n4 a c l, rfl, ⟨.mk (Rd.ofSl hs) fun y hy => (hq y hy).1, .mk u0 u1 u2 u3 (Nat.le_trans (hw _ (k4 _ w4)) (by decide)) fun y hy => (hq y hy).2⟩, ?_⟩
    rw [cntE_eq, hds]
    unfold Rows.uptoBulk
    show 1 + cntL l ≤ _
    omega
theorem ex_argB {r : Reach} {base : Nat} {v : Value} {d : DataW H} {p : List MemPlace} (hv : Value.okWide Tryd.prog W r base 27 v) (h : DataW.Trod enc Tryd.prog W 0 (fun _ => true) true 27 v d p) (hw : ∀ q ∈ d.weights Tryd.prog 27, q ≤ reachBytes) :
    ∃ e : Ex, v = exV e ∧ (TOk (viewOf W) [] e ∧ Wf e) ∧ cntE e ≤ Rows.uptoBulk d := by
  obtain ⟨cs, rfl, _⟩ := okWide_struct Tryd.underlying27 hv
  obtain ⟨fuel, hf⟩ := h
  obtain ⟨e, he, ht⟩ := ex_readB fuel (x := (d, p)) hf hw
  refine ⟨e, ?_, ht⟩
  unfold exV
  rw [← show cs.toList = exE e from he]
end Go.Proofs.YtheejlbhmbbdjaaDoor

/- From the machine to a law's row: the arguments are read, the walk is a contract over the whole heap as a view, and nothing of it has turned. -/
import Derived.Test.YtheejlbhmbbdjaaDoorEng6
import Derived.ProofKit
import Derived.SizedLaws
import Derived.Lib.SmallJoins
namespace Go.Eng
open Go Go.RowKit Go.ChangeShapes Go.WideShapes Go.ChangeAt Go.Joins

def viewOf (W : World) : View := ⟨fun b => W.heap[b]?, W.os, W.output, W.tape⟩
theorem St.start (W : World) : St (viewOf W) [] W := ⟨rfl, rfl, rfl, fun _ _ h => h, (fun r hr => by cases hr), .nil, (fun r hr => by cases hr)⟩
theorem start_cell {W : World} {a : Addr} {v : Value} (h : W.cell? a = some v) : (viewOf W).cell a = some v := by
  unfold World.cell? at h
  unfold View.cell viewOf
  simp only
  split at h
  · rename_i c e z hc; rw [hc]; exact h
  · cases h
theorem St.below {W w' : World} {m' : View} {h' : List Res} (hle : (viewOf W).le m') (st : St m' h' w') : Below W.heap.size W w' := by
  have hb : ∀ k, k < W.heap.size → w'.heap[k]? = W.heap[k]? := fun k hk => by
    have e : W.heap[k]? = some W.heap[k] := Array.getElem?_eq_getElem hk
    rw [e]
    exact st.blk k _ (hle.blk k _ e)
  refine ⟨st.os.trans hle.os, st.tape.trans hle.tape, st.out.trans hle.out, ?_, hb⟩
  rcases Nat.eq_zero_or_pos W.heap.size with h0 | h0
  · omega
  · have h1 := hb (W.heap.size - 1) (by omega)
    have h2 : W.heap[W.heap.size - 1]? = some W.heap[W.heap.size - 1] := Array.getElem?_eq_getElem (by omega)
    rw [h2] at h1
    have := (Array.getElem?_eq_some_iff.1 h1).1
    omega

section
variable {H : Type} {enc : TypeId × Value → H} {P : Program}

theorem bytes_arg {W : World} {t e : TypeId} {fuel : Nat} {held : Bool} {v : Value} {x : DataW H × List MemPlace} (ht : P.underlying t = some (.slice e)) (he : P.underlying e = some (.int .u8)) (hc : P.cellsOf e = 1)
    (h : DataW.trod enc P W 0 (fun _ => true) held fuel t [v] = some x) :
    ∃ s n c bs, v = .slice s n c ∧ Rd (viewOf W) [] s n c 1 (bv bs) ∧ ∀ B, (∀ q ∈ x.1.weights P t, q ≤ B) → n * P.bytesOf e ≤ B := by
  rcases open_ints ht he hc h with ⟨hcs, hx⟩ | ⟨a, len, cap, zs, hcs, _, hl, hm, hz, hx, hcell, hw⟩
  · cases hcs
    exact ⟨none, 0, 0, [], rfl, Rd.nilB _ _, fun B _ => by simp⟩
  · cases hcs
    have hz : zs.length = cap := by simpa using hz
    have wf : ∀ i, i < zs.length → 0 ≤ zs.getD i 0 ∧ zs.getD i 0 ≤ 255 := fun i hi => by
      have := hw (zs.getD i 0) (by rw [List.getD_eq_getElem?_getD, List.getElem?_eq_getElem hi]; simp)
      simp only [Lit.wf, Bool.and_eq_true, decide_eq_true_eq] at this
      exact this
    refine ⟨some a, len, cap, (zs.take len).map (fun z => UInt8.ofNat z.toNat), rfl, Rd.ofSl ⟨by simp [bv]; omega, hl, by unfold maxLen at hm; omega, fun j u hj => ?_⟩, fun B hB => ?_⟩
    · have hjl : j < len := by
        have := (List.getElem?_eq_some_iff.1 hj).1
        simp [bv] at this; omega
      have hc := hcell j (by omega)
      have hsp : a.spot = none := by
        have hc0 := hcell 0 (by omega)
        have e0 : a.add 0 = a := by simp [Addr.add]
        rw [e0] at hc0
        unfold World.cell? at hc0
        split at hc0
        · cases hs : a.spot with
          | none => rfl
          | some q => simp [hs] at hc0
        · cases hc0
      obtain ⟨b, off, spot⟩ := a
      cases hsp
      refine ⟨b, off, rfl, ?_⟩
      rw [Addr.add_lit] at hc
      have hu : u = .int .u8 (zs.getD j 0) := by
        have := wf j (by omega)
        simp only [bv, List.map_map, List.getElem?_map, List.getElem?_take_of_lt hjl, List.getElem?_eq_getElem (show j < zs.length by omega), Option.map_some, Option.some.injEq] at hj
        rw [← hj]
        have e : zs.getD j 0 = zs[j]'(by omega) := by rw [List.getD_eq_getElem?_getD, List.getElem?_eq_getElem (by omega)]; rfl
        rw [e] at this ⊢
        simp
        omega
      rw [hu]
      exact start_cell hc
    · subst hx
      have := hB ((List.length (lits (H := H) .u8 (zs.take len)) + List.length (lits (H := H) .u8 (zs.drop len))) * P.bytesOf e) (by simp [DataW.weights, ht])
      refine Nat.le_trans ?_ this
      refine Nat.mul_le_mul_right _ ?_
      simp only [lits, List.length_map, List.length_take]
      omega

theorem trodAll_same {W W' : World} (hl : laidOutB P = true) (hb : Below W.heap.size W W') : ∀ {ts : List TypeId} {vs : List Value} {ds : List (DataW H)} {ps : List MemPlace}, (∀ t ∈ ts, P.readableRec t = true ∧ t < P.types.size) →
    DataW.TrodAll enc P W 0 (fun _ => true) true ts vs ds ps → (∀ x ∈ ps, x.block < W.heap.size) → DataW.TrodAll enc P W' 0 (fun b => decide (b < W.heap.size)) true ts vs ds ps
  | [], [], [], ps, _, h, _ => h
  | t :: ts, v :: vs, d :: ds, ps, ht, h, hlt => by
    obtain ⟨p, q, h1, h2, rfl⟩ := h
    exact ⟨p, q, Below.trod hl (ht t (by simp)).1 (ht t (by simp)).2 h1 hb (fun x hx => hlt x (by simp [hx])), trodAll_same hl hb (fun t' h' => ht t' (by simp [h'])) h2 (fun x hx => hlt x (by simp [hx])), rfl⟩
  | [], _ :: _, _, _, _, h, _ | [], [], _ :: _, _, _, h, _ | _ :: _, [], _, _, _, h, _ | _ :: _, _ :: _, [], _, _, h, _ => h.elim

theorem trodAll_len {W : World} {base : Nat} {spare : Nat → Bool} {held : Bool} : ∀ {ts : List TypeId} {vs : List Value} {ds : List (DataW H)} {ps : List MemPlace}, DataW.TrodAll enc P W base spare held ts vs ds ps → ds.length = ts.length
  | [], [], [], _, _ => rfl
  | _ :: ts, _ :: vs, _ :: ds, _, h => by
    obtain ⟨p, q, _, h2, _⟩ := h
    simp [trodAll_len h2]
  | [], _ :: _, _, _, h | [], [], _ :: _, _, h | _ :: _, [], _, _, h | _ :: _, _ :: _, [], _, h => h.elim

theorem law_post {C : Checked} {f : FuncId} {fn : Func} {s : ChangeSpec} {tb : TypeId} (hlaid : laidOutB C.prog = true) (hrd : fn.params.toList.all (fun t => C.prog.readableRec t && decide (t < C.prog.types.size)) = true) (hvars : s.vars = [])
    (hrt : fn.resultTypes = #[tb]) (htb : C.prog.underlying tb = some .bool) (hspec : ∀ ds : List (DataW H), ds.length = fn.params.size → s.fn H ds = { results := [.lit (.bool true)], args := ds })
    {W : World} {args : Array Value} {ds gs : List (DataW H)} {before : List MemPlace} (hW : DataW.Whole enc C.prog fn.params.toList s.vars false W args.toList ds gs before)
    (hct : CT C.prog f args.toList [] (viewOf W) (fun v _ _ => v = .bool true)) :
    Calls C.prog f args W fun e W' => ∃ v, e = .returned v ∧ s.post enc C.prog fn false true false false W args v W' := by
  have hW' := hW
  obtain ⟨p, q, hA, hV, rfl, hfz, hnd⟩ := hW
  rw [hvars] at hV
  obtain ⟨rfl, rfl⟩ := trodVars_none hV
  refine Calls.mono (by simpa using hct.calls W (St.start W)) ?_
  rintro e W' ⟨v, m', h', rfl, hle, hst, rfl⟩
  have hb := hst.below hle
  have hlt : ∀ x ∈ p, x.block < W.heap.size := fun x hx => by simpa using hW'.lt x (by simp [hx])
  have hs := hspec (ds ++ []) (by simpa using trodAll_len hA)
  have hrd' : ∀ t ∈ fn.params.toList, C.prog.readableRec t = true ∧ t < C.prog.types.size := fun t ht => by
    have := List.all_eq_true.1 hrd t ht
    simpa using this
  refine ⟨_, rfl, ds, [], p ++ [], [], p, [], hW', ?_, ?_, ?_, World.keptBut_mono (fun x hx => ?_) (hb.frame (· ∈ p ++ [])), fun h => by cases h⟩
  · rw [hs, hrt]
    exact trodAll_mk1 (shut_bool htb true)
  · rw [hs, List.append_nil]
    exact trodAll_same hlaid hb hrd' hA hlt
  · rw [hs, hvars]; rfl
  · exact ⟨hx, .inr (.inl (by simpa using hx))⟩
end
end Go.Eng

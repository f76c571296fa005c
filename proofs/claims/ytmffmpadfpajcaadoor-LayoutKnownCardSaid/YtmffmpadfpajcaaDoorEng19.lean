/- strings.Builder: its operations. -/
import Derived.Test.YtmffmpadfpajcaaDoorEng18
import Derived.Lib.AppendStr
import Derived.Lib.UnsafeStr
import Derived.Lib.Builder
import Derived.Laws.Externs
namespace Go.Eng
open Go Go.RowKit
section
variable {P : Program} {ops : Array Oper} {Q : Exit → Act → World → Prop} {n : Cx} {F : Fm} {h h' : List Res} {m : View} {rest : List Oper}
variable {op : Op} {ty : TypeId} {pos : String} {after : Array Edge} {d : Nat} {v : Value} {dst : Option Nat} {g : Option (Nat × Bool)}
theorem PO.eqlPN {x y : Operand} {t t' e : TypeId} (ht : P.underlying t = some (.pointer e)) (ex : Ev n F x (.pointer none)) (ey : Ev n F y (.pointer none)) :
    PO P ⟨dst, .binOp .eql t x y t', ty, pos, after, g⟩ n F h m (.bool true) := .mk fun b w ha _ => by
  have h1 : ∀ d, (Op.equalIn (d + 1) t (.pointer none) (.pointer none)).run P w = .ok true w := fun d => by
    simp [Op.equalIn, run_underlying ht]
  have h2 : (Op.equal t (.pointer none) (.pointer none)).run P w = .ok true w := h1 9999
  have h3 : (eqGuard .eql t x y (.pointer none) (.pointer none)).run P w = .ok () w := by simp [eqGuard]
  simp [execOp, ex b ha, ey b ha, binOp, h2, h3]
theorem PO.eqlPS {x y : Operand} {t t' e : TypeId} {a : Addr} (ht : P.underlying t = some (.pointer e)) (ex : Ev n F x (.pointer (some a))) (ey : Ev n F y (.pointer none)) :
    PO P ⟨dst, .binOp .eql t x y t', ty, pos, after, g⟩ n F h m (.bool false) := .mk fun b w ha _ => by
  have h1 : ∀ d, (Op.equalIn (d + 1) t (.pointer (some a)) (.pointer none)).run P w = .ok false w := fun d => by
    simp [Op.equalIn, run_underlying ht]
  have h2 : (Op.equal t (.pointer (some a)) (.pointer none)).run P w = .ok false w := h1 9999
  have h3 : (eqGuard .eql t x y (.pointer (some a)) (.pointer none)).run P w = .ok () w := by simp [eqGuard]
  simp [execOp, ex b ha, ey b ha, binOp, h2, h3]
theorem PO.neqPP {x y : Operand} {t t' e : TypeId} {a : Addr} (ht : P.underlying t = some (.pointer e)) (hi : (P.info? e).isSome = true) (ex : Ev n F x (.pointer (some a))) (ey : Ev n F y (.pointer (some a))) :
    PO P ⟨dst, .binOp .neq t x y t', ty, pos, after, g⟩ n F h m (.bool false) := .mk fun b w ha _ => by
  obtain ⟨j, hj⟩ := Option.isSome_iff_exists.1 hi
  have h2 := Lib.run_neq_ptr_same w a ht hj
  have h3 : (eqGuard .neq t x y (.pointer (some a)) (.pointer (some a))).run P w = .ok () w := by simp [eqGuard]
  simp [execOp, ex b ha, ey b ha, h2, h3]
theorem PO.toUnsafe {x : Operand} {s t u : TypeId} {b : Nat} {cs : List Value} {e : TypeId} {fz : Nat × Nat} {j : TypeInfo} (hs : P.underlying s = some (.pointer u)) (ht : P.underlying t = some .unsafePointer) (hj : P.info? u = some j) (h0 : j.size ≠ 0)
    (ex : Ev n F x (.pointer (some ⟨b, 0, none⟩))) (hm : Res.pt b (.cells cs.toArray e fz) ∈ h) (hc : 0 < cs.length) :
    PO P ⟨dst, .convert s t x, ty, pos, after, g⟩ n F h m (.pointer (some ⟨b, 0, none⟩)) := .mk fun f w ha st => by
  have h1 : w.heap[b]? = some (.cells cs.toArray e fz) := st.at hm
  have h2 := Lib.run_to_unsafe (P := P) w ⟨b, 0, none⟩ hs ht hj h0 (e := e) (cells := cs.length) (by simp [World.shape?, h1]) hc
  simp [execOp, ex f ha, h2]
theorem PO.fromUnsafe {x : Operand} {s t u : TypeId} {b : Nat} {cs : List Value} {e : TypeId} {fz : Nat × Nat} (hs : P.underlying s = some .unsafePointer) (ht : P.underlying t = some (.pointer u)) (hj : (P.info? u).isSome = true)
    (ex : Ev n F x (.pointer (some ⟨b, 0, none⟩))) (hm : Res.pt b (.cells cs.toArray e fz) ∈ h) (hl : liesAt P P.depth e (cs.length / P.cellsOf e) 0 u 1 = true) :
    PO P ⟨dst, .convert s t x, ty, pos, after, g⟩ n F h m (.pointer (some ⟨b, 0, none⟩)) := .mk fun f w ha st => by
  obtain ⟨j, hj⟩ := Option.isSome_iff_exists.1 hj
  have h1 : w.heap[b]? = some (.cells cs.toArray e fz) := st.at hm
  have h2 := Lib.run_from_unsafe (P := P) w ⟨b, 0, none⟩ hs ht hj (e := e) (cells := cs.length) (by simp [World.shape?, h1]) hl
  simp [execOp, ex f ha, h2]
theorem PO.noEscape {f x : Operand} {tys : Array TypeId} {q : FuncId} {fn : Func} (hf : P.funcs[q]? = some fn) (hname : (fn.name == "runtime.NumGoroutine") = false) (hb : fn.body.isNone = true) (hn : Extern.findNext fn = none)
    (he : Extern.find fn = some Extern.AbiNoEscape.same) (ef : Ev n F f (.func (.func q) #[] #[])) (ex : Ev n F x v) :
    PO P ⟨dst, .call ⟨.value f, #[x], tys⟩, ty, pos, after, g⟩ n F h m v := .mk fun a w ha _ => by
  have h1 := run_callFunc_extern hf hname hb hn he #[v] w
  rw [Lib.run_noEscape] at h1
  simp [execOp, resolve, ef a ha, ex a ha, Deferred.ofValue, invoke, h1, Result.andThen]
theorem strCells_bv (s : List UInt8) : Lib.strCells ⟨s.toArray⟩ = bv s := by simp [Lib.strCells, bv]
theorem run_appS (w : World) {t u e ty : TypeId} (E : EL P t e 1 1) (hu : P.underlying u = some .string) (hz : (P.info? e).bind (·.zero) = some (.int .u8 0)) {a : Option Addr} {l cap : Nat} {xs : List Value} (s : ByteArray)
    (hown : w.ownsRow 0 e 1 (.slice a l cap) l xs) (hbytes : l + s.size ≤ 140737488355328) :
    ∃ a' cap' w', (Builtin.append_ #[t, u] ty #[.slice a l cap, .string s]).run P w = .ok (.slice a' (l + s.size) cap') w' ∧ w'.ownsRow 0 e 1 (.slice a' (l + s.size) cap') (l + s.size) (xs ++ Lib.strCells s) ∧ w.grownBy w' (Value.slice a l cap).ownBlock ∧
      ∀ x, (Value.slice a' (l + s.size) cap').ownBlock = some x → (Value.slice a l cap).ownBlock = some x ∨ w.heap.size ≤ x := by
  obtain ⟨i, z, ht, hi, hz', hsize, hby, hzs, _⟩ := E.ex
  have hz2 : i.zero = some (.int .u8 0) := by rw [hi] at hz; simpa using hz
  have hm63 : l + s.size ≤ maxLen := by unfold maxLen; omega
  obtain ⟨v', w', hr, ho, hg, hnil⟩ := Lib.run_append_own_string (P := P) w 0 t u ty e i ht hu hi hz2 hsize hby _ l xs hown s hm63 hbytes (Nat.zero_le _)
  rcases hown.2 with ⟨hv, hl0⟩ | ⟨g, cap0, cur, hv, _, hg0, hnc, hcm, hcs, htake⟩
  · simp only [Value.slice.injEq] at hv
    obtain ⟨rfl, rfl, rfl⟩ := hv
    obtain ⟨v2, w2, hr2, ho2, _, _⟩ := Lib.run_append_own_string (P := P) w w.heap.size t u ty e i ht hu hi hz2 hsize hby (.slice none 0 0) 0 xs ⟨hown.1, .inl ⟨rfl, rfl⟩⟩ s hm63 hbytes (Nat.le_refl _)
    rw [hr] at hr2
    cases hr2
    rcases ho2.2 with ⟨hv, h0⟩ | ⟨g, cap0, cur, hv, hge, _⟩
    · subst hv
      rw [h0] at ho ⊢
      exact ⟨none, 0, w', hr, ho, hg, fun x hx => by simp [Value.ownBlock] at hx⟩
    · subst hv
      exact ⟨_, _, w', hr, ho, hg, fun x hx => by simp only [Value.ownBlock, Option.some.injEq] at hx; right; omega⟩
  · simp only [Value.slice.injEq] at hv
    obtain ⟨rfl, _, rfl⟩ := hv
    have hxl : xs.length = l := by simpa using hown.1
    by_cases hroom : l + s.size ≤ cap
    · have hr2 := Lib.run_append_room_string (P := P) w t u ty e i ht hu hi hsize g l cap cur hg0 s hroom (by omega)
      rw [hr] at hr2
      cases hr2
      exact ⟨_, _, _, hr, ho, hg, fun x hx => .inl hx⟩
    · have holds : ∀ j u, xs[j]? = some u → w.cell? ((⟨g, 0, none⟩ : Addr).add j) = some u := hown.cells (g := g) rfl
      have hr2 := Lib.run_append_grow_string (P := P) w t u ty e i (.int .u8 0) ht hu hi hz2 ⟨g, 0, none⟩ l cap xs (by rw [hsize]; omega) holds s (by omega) (by omega) (by rw [hby]; exact growslice_fits (by omega) (by omega))
      rw [hr] at hr2
      cases hr2
      exact ⟨_, _, _, hr, ho, hg, fun x hx => by simp only [Value.ownBlock, Option.some.injEq] at hx; right; omega⟩
theorem WL.appendS {x y : Operand} {t u e : TypeId} {l cap l' : Nat} {a : Option Addr} {xs zs : List Value} {s : List UInt8} {hq : Value → List Res} (E : EL P t e 1 1) (hu : P.underlying u = some .string) (hz0 : (P.info? e).bind (·.zero) = some (.int .u8 0))
    (ex : Ev n F x (.slice a l cap)) (ey : Ev n F y (str s)) (hl : l + s.length = l') (hz : xs ++ bv s = zs) (hbytes : l' ≤ 140737488355328)
    (up : ∀ v', Upd h (.row (.slice a l cap) e 1 l xs) (.row v' e 1 l' zs) (hq v')) (hd : d < n.num) (kk : ∀ a' cap', WL P ops Q n rest ((d, .slice a' l' cap') :: F) (hq (.slice a' l' cap')) m) :
    WL P ops Q n (⟨some d, .call ⟨.builtin .append, #[x, y], #[t, u]⟩, ty, pos, after, none⟩ :: rest) F h m := .mk fun f w hf hs => by
  have hown : w.ownsRow 0 e 1 (.slice a l cap) l xs := hs.ok _ (up undef).mem
  have hsz : (⟨s.toArray⟩ : ByteArray).size = s.length := by simp [ByteArray.size]
  obtain ⟨a', cap', w', hr, hown', hg, hfp⟩ := run_appS (P := P) w (ty := ty) E hu hz0 ⟨s.toArray⟩ hown (by rw [hsz]; omega)
  rw [hsz, hl] at hown' hr hfp
  rw [strCells_bv, hz] at hown'
  have hrun : (execOp f.eval ⟨some d, .call ⟨.builtin .append, #[x, y], #[t, u]⟩, ty, pos, after, none⟩).run P w = .ok (.value (.slice a' l' cap')) w' := by
    simp [execOp, resolve, invoke, builtin, ex f hf, ey f hf, hr]
  exact wpList_of_wp rfl (wp_of_run hrun ((kk a' cap').e _ _ (hf.put hd _) (hs.upd (up _) hg.os hg.output hg.tape (fun q hq hne => hg.block q hq (fun e => hne e.symm)) hown' hfp)))
theorem PO.sliceData {x : Operand} {t : TypeId} {a : Addr} {l c : Nat} (hc : c ≠ 0) (ex : Ev n F x (.slice (some a) l c)) :
    PO P ⟨dst, .call ⟨.builtin .unsafeSliceData, #[x], #[t]⟩, ty, pos, after, g⟩ n F h m (.pointer (some a)) := .mk fun f w ha _ => by
  have h1 := Lib.run_unsafeSliceData_row (P := P) w #[t] ty a l c hc
  simp [execOp, resolve, invoke, builtin, ex f ha, h1]
theorem PO.sliceDataN {x : Operand} {t : TypeId} {l c : Nat} (ex : Ev n F x (.slice none l c)) :
    PO P ⟨dst, .call ⟨.builtin .unsafeSliceData, #[x], #[t]⟩, ty, pos, after, g⟩ n F h m (.pointer none) := .mk fun f w ha _ => by
  have h1 := Lib.run_unsafeSliceData_nil (P := P) w #[t] ty l c
  simp [execOp, resolve, invoke, builtin, ex f ha, h1]
theorem PO.unsafeStringN {x y : Operand} {t u : TypeId} {a : Option Addr} (ex : Ev n F x (.pointer a)) (ey : Ev n F y (.int .i64 0)) :
    PO P ⟨dst, .call ⟨.builtin .unsafeString, #[x, y], #[t, u]⟩, ty, pos, after, g⟩ n F h m (str []) := .mk fun f w ha _ => by
  have h1 := Lib.run_unsafeString_none (P := P) w t u ty a
  simp [execOp, resolve, invoke, builtin, ex f ha, ey f ha, h1]
  rfl
theorem St.frozen {w : World} {g : Nat} {v : Value} {e : TypeId} {sz k : Nat} {xs : List Value} (hv : v.ownBlock = some g) (u : Upd h (.row v e sz k xs) (.row (.slice none 0 0) e sz 0 []) h') (q : Nat) (s : St m h w) : St m h' (w.freeze ⟨g, 0, none⟩ q) := by
  refine s.upd u ?_ ?_ ?_ ?_ (World.ownsRow_nil _ 0 e sz) (fun b hb => by simp [Res.fp, Value.ownBlock] at hb)
  · unfold World.freeze; split <;> rfl
  · unfold World.freeze; split <;> rfl
  · unfold World.freeze; split <;> rfl
  · intro b hb hne
    have hbg : g ≠ b := fun e => hne (by rw [← e]; exact hv)
    unfold World.freeze
    split
    · rfl
    · simp only [Array.getElem?_modify]
      rw [if_neg hbg]
theorem WL.unsafeString {x y : Operand} {t u e : TypeId} {gb l cap : Nat} {bs : List UInt8} (ht : P.underlying t = some (.pointer e)) (hc : P.cellsOf e = 1)
    (ex : Ev n F x (.pointer (some ⟨gb, 0, none⟩))) (ey : Ev n F y (.int .i64 l)) (hl : bs.length = l) (h0 : bs ≠ [])
    (up : Upd h (.row (.slice (some ⟨gb, 0, none⟩) l cap) e 1 l (bv bs)) (.row (.slice none 0 0) e 1 0 []) h') (hd : d < n.num) (kk : WL P ops Q n rest ((d, str bs) :: F) h' m) :
    WL P ops Q n (⟨some d, .call ⟨.builtin .unsafeString, #[x, y], #[t, u]⟩, ty, pos, after, none⟩ :: rest) F h m := .mk fun f w hf st => by
  have hown : w.ownsRow 0 e 1 (.slice (some ⟨gb, 0, none⟩) l cap) l (bv bs) := st.ok _ up.mem
  subst hl
  obtain ⟨cur, hg, hnc, hcm, hcs⟩ : ∃ cur, w.heap[gb]? = some (.cells cur e (0, 0)) ∧ bs.length ≤ cap ∧ cap ≤ maxLen ∧ cur.size = cap * 1 := by
    rcases hown.2 with ⟨hv, _⟩ | ⟨g', cap0, cur, hv, _, hg0, hnc, hcm, hcs, htake⟩
    · cases hv
    · cases hv
      exact ⟨cur, hg0, hnc, hcm, hcs⟩
  have hr := Lib.run_unsafeString_row (P := P) w t u ty e ht hc gb cur.size (by simp [World.shape?, hg]) bs h0 (by omega) (by unfold maxLen at hcm; omega) (fun j x hx => hown.cells (g := gb) rfl j _ (bv_get hx))
  have hrun : (execOp f.eval ⟨some d, .call ⟨.builtin .unsafeString, #[x, y], #[t, u]⟩, ty, pos, after, none⟩).run P w = .ok (.value (str bs)) (w.freeze ⟨gb, 0, none⟩ bs.length) := by
    simp [execOp, resolve, invoke, builtin, ex f hf, ey f hf, hr]
  exact wpList_of_wp rfl (wp_of_run hrun (kk.e _ _ (hf.put hd _) (St.frozen rfl up _ st)))
theorem row_some {w : World} {a : Option Addr} {e : TypeId} {sz k cap : Nat} {xs : List Value} (h : w.ownsRow 0 e sz (.slice a k cap) k xs) (h0 : k ≠ 0) : cap ≠ 0 ∧ ∃ b, a = some ⟨b, 0, none⟩ := by
  rcases h.2 with ⟨hv, _⟩ | ⟨g', cap0, cur, hv, _, hg0, hnc, _⟩
  · cases hv
    exact absurd rfl h0
  · cases hv
    exact ⟨by omega, _, rfl⟩
end
end Go.Eng

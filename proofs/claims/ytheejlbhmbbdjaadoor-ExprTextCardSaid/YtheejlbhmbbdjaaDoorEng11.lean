/- Rows over listed package variables; contracts of the library's; an array's element; data that decides its cells. -/
import Derived.Test.YtheejlbhmbbdjaaDoorEng7
import Derived.Test.YtheejlbhmbbdjaaDoorEng9
import Derived.Test.YtheejlbhmbbdjaaDoorEng10
import Derived.LaidLaws
namespace Go.Eng
open Go Go.RowKit Go.ChangeShapes Go.WideShapes Go.ChangeAt Go.Joins

/-- A contract that leaves the world as it was. -/
theorem CT.ofCalls {P : Program} {f : FuncId} {args : List Value} {h : List Res} {m : View} {v : Value} (he : ∀ as w, (callFunc f as).run P w = .ok (.enter f as) w)
    (hc : ∀ w, St m h w → Calls P f args.toArray w fun e w' => e = .returned v ∧ w' = w) : CT P f args h m (Pure1 h v) :=
  ⟨he, fun w st => Calls.mono (hc w st) (by rintro e w' ⟨rfl, rfl⟩; exact ⟨v, m, h, rfl, View.le.refl m, st, rfl, rfl⟩)⟩

theorem CT.argsE {P : Program} {f : FuncId} {args args' : List Value} {h : List Res} {m : View} {R : Value → View → List Res → Prop} (e : args = args') (c : CT P f args' h m R) : CT P f args h m R := e ▸ c

theorem WC.resE {P : Program} {Q : Exit → Act → World → Prop} {n : Cx} {F : Fm} {h h' : List Res} {m : View} {c : Code} (e : h = h') (k : WC P c Q n F h' m) : WC P c Q n F h m := e ▸ k
theorem WL.resE {P : Program} {ops : Array Oper} {Q : Exit → Act → World → Prop} {n : Cx} {F : Fm} {h h' : List Res} {m : View} {l : List Oper} (e : h = h') (k : WL P ops Q n l F h' m) : WL P ops Q n l F h m := e ▸ k

section
variable {P : Program} {n : Cx} {F : Fm} {h : List Res} {m : View} {ty : TypeId} {pos : String} {after : Array Edge} {dst : Option Nat} {g : Option (Nat × Bool)}
theorem PO.fieldF {α : Type} {en : α → List Value} {l : List α} {q : Nat} {z : α} {x : Operand} {t i o len cap sz : Nat} {fs : Array Field} {f : Field} {a : Option Addr} (ht : P.underlying t = some (.struct fs)) (hf : fs[i]? = some f) (hz : P.cellsOf f.type ≠ 0)
    (henc : ∀ x, (en x).length = sz) (h0 : 0 < sz) (hs : Rd m h a len cap sz (fl en l)) (hx : l[q]? = some z) (ex : Ev n F x (.pointer (elt a o))) :
    PO P ⟨dst, .fieldAddr t x i, ty, pos, after, g⟩ n F h m (.pointer (elt a (o + f.offset))) :=
  PO.fieldE ht hf hz hs (j := 0) (by
    rw [fl_len henc]
    have : 0 < l.length := by
      cases l with
      | nil => simp at hx
      | cons y l => simp
    exact Nat.mul_pos this h0) ex
theorem PO.max {x y : Operand} {i j : Int} {t : TypeId} (ex : Ev n F x (.int .i64 i)) (ey : Ev n F y (.int .i64 j)) :
    PO P ⟨dst, .call ⟨.builtin .max, #[x, y], #[t, t]⟩, ty, pos, after, g⟩ n F h m (.int .i64 (if i < j then j else i)) := .mk fun b w ha _ => by
  simp [execOp, resolve, invoke, builtin, ex b ha, ey b ha, run_max_int2]
theorem PO.idxArr {x i : Operand} {t e len sz : Nat} {u : TypeDesc} {k : IntKind} {j : Int} {q : Nat} {cs vs : List Value} (ht : P.underlying t = some (.array len e)) (he : P.underlying e = some u) (hp : plainD u = false)
    (hsz : (P.info? e).map (·.size) = some sz) (ex : Ev n F x (.agg cs.toArray)) (ei : Ev n F i (.int k j)) (hj : j = (q : Int)) (hq : q < len) (hv : (cs.drop (q * sz)).take sz = vs) :
    PO P ⟨dst, .index t x i, ty, pos, after, g⟩ n F h m (.agg vs.toArray) := .mk fun b w ha _ => by
  subst hj hv
  have e1 : ¬ len ≤ q := by omega
  have hs : (sizeOf e).run P w = .ok sz w := by
    cases hi : P.info? e with
    | none => rw [hi] at hsz; cases hsz
    | some y => rw [hi] at hsz; simp at hsz; simp [sizeOf, typeInfo, hi, hsz]
  simp [execOp, ex b ha, ei b ha, Instr.index, asIntOf, run_underlying ht, part, run_isAgg_agg w he hp, hs]
  exact fun hh => absurd hh e1
end

section
variable {H : Type} {enc : TypeId × Value → H} {P : Program} {W : World} {sp : Nat → Bool} {held : Bool} {fuel : Nat} {t : TypeId} {cs : List Value}
theorem data_int {k k' : IntKind} {z : Int} {p : List MemPlace} (ht : P.underlying t = some (.int k)) (h : DataW.trod enc P W 0 sp held fuel t cs = some (.lit (.int k' z), p)) : cs = [.int k z] := by
  cases fuel with
  | zero => simp [DataW.trod] at h
  | succ f =>
    unfold DataW.trod at h
    rw [ht] at h
    split at h <;> simp_all
theorem data_str {l : List UInt8} {p : List MemPlace} (ht : P.underlying t = some .string) (h : DataW.trod enc P W 0 sp held fuel t cs = some (.lit (.string l), p)) : cs = [str l] := by
  cases fuel with
  | zero => simp [DataW.trod] at h
  | succ f =>
    unfold DataW.trod at h
    rw [ht] at h
    split at h <;> simp_all
    obtain ⟨-, rfl, -⟩ := h
    simp
theorem data_struct {fs : Array Field} {ds : List (DataW H)} {p : List MemPlace} (ht : P.underlying t = some (.struct fs)) (h : DataW.trod enc P W 0 sp held fuel t cs = some (.agg ds, p)) :
    ∃ f, ∀ (i : Nat) (q : Field) (d : DataW H), fs[i]? = some q → ds[i]? = some d → ∃ p', DataW.trod enc P W 0 sp held f q.type ((cs.drop q.offset).take (P.cellsOf q.type)) = some (d, p') := by
  cases fuel with
  | zero => simp [DataW.trod] at h
  | succ f =>
    unfold DataW.trod at h
    rw [ht] at h
    split at h <;> simp_all
    obtain ⟨-, xs, h2, rfl, -⟩ := h
    refine ⟨f, fun i q d hq hd => ?_⟩
    obtain ⟨y, e1, e2⟩ := (mapM_get h2).2 i q (by simpa using hq)
    rw [List.getElem?_map, e1] at hd
    simp at hd
    subst hd
    exact ⟨y.2, e2⟩
theorem data_array {len e : Nat} {ds : List (DataW H)} {p : List MemPlace} (ht : P.underlying t = some (.array len e)) (h : DataW.trod enc P W 0 sp held fuel t cs = some (.agg ds, p)) :
    ∃ f, ∀ (i : Nat) (d : DataW H), i < len → ds[i]? = some d → ∃ p', DataW.trod enc P W 0 sp held f e ((cs.drop (i * P.cellsOf e)).take (P.cellsOf e)) = some (d, p') := by
  cases fuel with
  | zero => simp [DataW.trod] at h
  | succ f =>
    unfold DataW.trod at h
    rw [ht] at h
    split at h <;> simp_all
    obtain ⟨-, xs, h2, rfl, -⟩ := h
    refine ⟨f, fun i d hi hd => ?_⟩
    obtain ⟨y, e1, e2⟩ := (mapM_get h2).2 i i (by simp [hi])
    rw [List.getElem?_map, e1] at hd
    simp at hd
    subst hd
    exact ⟨y.2, e2⟩
theorem cell_of_cut {l : List Value} {a k : Nat} {v : Value} (h : (l.drop a).take k = [v]) : l[a]? = some v := by
  have : ((l.drop a).take k)[0]? = some v := by rw [h]; rfl
  cases k with
  | zero => simp at h
  | succ k => simpa using this
end

/-- The wrap of a row whose listed variables read as listed: the world's shape is kept. -/
theorem returnsInHanded_laid {H : Type} {enc : TypeId × Value → H} {a : Assume} {C : Checked} {os : Os} {f : FuncId} {fn : Func} {s : ChangeSpec} {conds : List PathCond} {apart fresh handsOn again : Bool} {laid : List (String × DataW Unit)}
    (own : ownKnob C.prog.godebug = none) (started : os.Started) (noInit : C.prog.inits.idxOf? f = none) (hfn : C.prog.funcs[f]? = some fn)
    (witness : ∃ (w : World) (tape : Tape) (i : Input), w.os = os ∧ (w.forCall tape i).Shaped C.prog ∧ i.vars = [] ∧ Input.okWide C.prog (w.forCall tape i) .any w.heap.size f i ∧
      ((s.pre enc C.prog fn conds apart (w.forCall tape i).memory i.args ∧ laidMet C.prog laid (w.forCall tape i).memory) ∧ sizedMet enc C.prog fn (OpenSpec.ofChange s) apart (w.forCall tape i).memory i.args) ∧ a.holds C.prog (lone (Frame.enter C.prog f i.args .normal) [] (w.forCall tape i)))
    (contract : ∀ (W : World) (base : Nat) (args : Array Value) (ds gs : List (DataW H)) (before : List MemPlace),
      (∀ (j : Nat) t v, fn.params[j]? = some t → args[j]? = some v → Value.okWide C.prog W .any base t v) →
      DataW.Whole enc C.prog fn.params.toList s.vars apart W args.toList ds gs before →
      (DataW.weightsEach C.prog (fn.params.toList ++ s.plain.varTypes C.prog) (ds ++ gs)).all (· ≤ reachBytes) = true → laidMet C.prog laid W → W.ShapedOpen C.prog →
      Calls C.prog f args W fun e W' => ∃ v, e = .returned v ∧ s.post enc C.prog fn apart fresh handsOn again W args v W') :
    ReturnsInHanded a C os f .any (fun w args => (s.pre enc C.prog fn conds apart w args ∧ laidMet C.prog laid w) ∧ sizedMet enc C.prog fn (OpenSpec.ofChange s) apart w args) (s.post enc C.prog fn apart fresh handsOn again) := by
  refine returnsInHanded_of_calls own started noInit witness fun w tape i _ hsh _ hok hpre _ => ?_
  obtain ⟨_, _, _, fn', hfn', _, _, _, _, hval⟩ := hok
  cases Option.some.inj (hfn'.symm.trans hfn)
  obtain ⟨⟨⟨ds, gs, before, hw, _⟩, hl⟩, hz⟩ := hpre
  refine Calls.mono (contract (w.forCall tape i) w.heap.size i.args ds gs before hval (DataW.Whole.of_heap (w' := w.forCall tape i) (by rfl) hw) (hz.weights hw) (laidMet.of_heap (w' := w.forCall tape i) (by rfl) hl) hsh) ?_
  rintro e W' ⟨v, rfl, hp⟩
  exact ChangeSpec.post_blind hp
end Go.Eng

/- Eng8 Eng18 Eng20 LexM LexP TypM ExpM LexT LexU ExpN PrM TgM Eng21 TgX Eng22 PrS PrV Eng24 -/
import Derived.Test.YtdhmplmpbcnojaaGreatDoorLOutsideX1
import Derived.Laws.StructEq
import Derived.LaidLaws
import Derived.ChangeMaps5
import Derived.Lib.ConvBytes
import Derived.Laws.AppendOwn
import Derived.Lib.AppendIntMem
import Derived.RangeFuncRecord
import Derived.Scope
import Derived.Lib.AppendStr
import Derived.Lib.UnsafeStr
import Derived.Lib.Builder
import Derived.Laws.Externs
import Derived.Recover
import Derived.Defers
import Derived.KernelRfl
import Derived.Lib.IndexMore
import Derived.Lib.Bytealg
/- Eng8 -/
section
namespace Go.Eng
open Go Go.RowKit

theorem and_l {a b : Bool} (h : (a && b) = true) : a = true := by cases a <;> simp_all
theorem t_eq {α : Type} [BEq α] [LawfulBEq α] {x y : α} (h : (x == y) = true) : x = y := eq_of_beq h
theorem f_eq {α : Type} [BEq α] [LawfulBEq α] {x y : α} (h : (x == y) = false) : x ≠ y := ne_of_beq_false h
theorem t_ne {α : Type} [BEq α] [LawfulBEq α] {x y : α} (h : (x != y) = true) : x ≠ y := bne_iff_ne.1 h
theorem f_ne {α : Type} [BEq α] [LawfulBEq α] {x y : α} (h : (x != y) = false) : x = y := by simpa using h

section
variable {P : Program} {ops : Array Oper} {Q : Exit → Act → World → Prop} {n : Cx} {F : Fm} {h h' : List Res} {m : View} {rest : List Oper}
variable {ty : TypeId} {pos : String} {after : Array Edge} {dst : Option Tmp} {g : Option (Nat × Bool)} {d : Nat}

theorem St.back {m m' : View} {h : List Res} {w : World} (s : St m' h w) (hm : m.le m') : St m h w := s.weaken hm (List.Sublist.refl _)

/-- A call whose result does not speak of the view. -/
theorem WL.callK {f : Operand} {args : List Operand} {tys : Array TypeId} {vs first cap : List Value} {q : FuncId} {R : Value → List Res → Prop} (ef : Ev n F f (.func (.func q) first.toArray cap.toArray)) (ea : Evs n F args vs)
    (c : CT P q (first ++ vs ++ cap) h m (fun v _ h' => R v h')) (hd : d < n.num) (k : ∀ v h', R v h' → WL P ops Q n rest ((d, v) :: F) h' m) :
    WL P ops Q n (⟨some d, .call ⟨.value f, args.toArray, tys⟩, ty, pos, after, none⟩ :: rest) F h m := .mk fun a w ha hs => by
  refine wpList_of_wp rfl ?_
  unfold Oper.wp
  rw [run_call ha ef ea c.enter]
  refine Calls.mono (c.calls w hs) ?_
  rintro e w' ⟨v, m', h', rfl, hle, hst, hR⟩
  exact k v h' hR _ _ (ha.put hd v) (hst.back hle)
theorem WL.callP {f : Operand} {args : List Operand} {tys : Array TypeId} {vs first cap : List Value} {q : FuncId} {v : Value} (ef : Ev n F f (.func (.func q) first.toArray cap.toArray)) (ea : Evs n F args vs)
    (c : CT P q (first ++ vs ++ cap) h m (Pure1 h v)) (hd : d < n.num) (k : WL P ops Q n rest ((d, v) :: F) h m) :
    WL P ops Q n (⟨some d, .call ⟨.value f, args.toArray, tys⟩, ty, pos, after, none⟩ :: rest) F h m :=
  WL.callK (R := fun v' h' => v' = v ∧ h' = h) ef ea c hd fun _ _ hR => by obtain ⟨rfl, rfl⟩ := hR; exact k

structure GU (ops : Array Oper) (n : Cx) (F : Fm) (g : Nat × Bool) (c : Bool) : Prop where
  e : ∀ a, Fr n F a → (yielded ops a.tmps g.1 == some g.2) = c
theorem yielded_undef {j t : Nat} {a : Act} (hj : gslot ops j = some t) (hc : a.tmps[t]? = some undef) : yielded ops a.tmps j = none := by
  unfold yielded
  unfold gslot at hj
  simp [hj, hc, undef]
theorem GU.t {j t : Nat} {c : Bool} (hj : gslot ops j = some t) (hc : look F t = some (.bool c)) : GU ops n F (j, true) c := ⟨fun a ha => by
  rw [yielded_of hj (ha.get t _ hc)]; cases c <;> rfl⟩
theorem GU.f {j t : Nat} {c : Bool} (hj : gslot ops j = some t) (hc : look F t = some (.bool c)) : GU ops n F (j, false) (!c) := ⟨fun a ha => by
  rw [yielded_of hj (ha.get t _ hc)]; cases c <;> rfl⟩
theorem GU.nt {j t : Nat} {c b : Bool} (hj : gslot ops j = some t) (hc : look F t = some (gv c (.bool b))) : GU ops n F (j, true) (c && b) := ⟨fun a ha => by
  have h1 := ha.get t _ hc
  cases c with
  | true => rw [yielded_of hj h1]; cases b <;> rfl
  | false => rw [yielded_undef hj h1]; rfl⟩
theorem GU.nf {j t : Nat} {c b : Bool} (hj : gslot ops j = some t) (hc : look F t = some (gv c (.bool b))) : GU ops n F (j, false) (c && !b) := ⟨fun a ha => by
  have h1 := ha.get t _ hc
  cases c with
  | true => rw [yielded_of hj h1]; cases b <;> rfl
  | false => rw [yielded_undef hj h1]; rfl⟩
theorem GU.wanted {op : Op} {gd : Nat × Bool} {c : Bool} (hg : GU ops n F gd c) {a : Act} (ha : Fr n F a) : Region.wanted ⟨dst, op, ty, pos, after, some gd⟩ (yielded ops a.tmps) = c := hg.e a ha

theorem WL.poG {op : Op} {gd : Nat × Bool} {c : Bool} {v : Value} (hg : GU ops n F gd c) (hp : c = true → PO P ⟨some d, op, ty, pos, after, some gd⟩ n F h m v) (hd : d < n.num) (k : WL P ops Q n rest ((d, gv c v) :: F) h m) :
    WL P ops Q n (⟨some d, op, ty, pos, after, some gd⟩ :: rest) F h m := .mk fun a w ha hs => by
  have hy := hg.wanted (dst := some d) (op := op) (ty := ty) (pos := pos) (after := after) ha
  cases c with
  | true => exact wpList_of_wp hy (wp_of_run (hp rfl a w ha hs) (k _ _ (ha.put hd v) hs))
  | false =>
    unfold wpList
    rw [if_neg (by rw [hy]; decide)]
    exact k _ _ (ha.put hd undef) hs
theorem WL.callG {f : Operand} {args : List Operand} {tys : Array TypeId} {vs first cap : List Value} {q : FuncId} {gd : Nat × Bool} {c : Bool} {v : Value} (hg : GU ops n F gd c)
    (hp : c = true → Ev n F f (.func (.func q) first.toArray cap.toArray) ∧ Evs n F args vs ∧ CT P q (first ++ vs ++ cap) h m (Pure1 h v)) (hd : d < n.num) (k : WL P ops Q n rest ((d, gv c v) :: F) h m) :
    WL P ops Q n (⟨some d, .call ⟨.value f, args.toArray, tys⟩, ty, pos, after, some gd⟩ :: rest) F h m := .mk fun a w ha hs => by
  have hy := hg.wanted (dst := some d) (op := .call ⟨.value f, args.toArray, tys⟩) (ty := ty) (pos := pos) (after := after) ha
  cases c with
  | true =>
    obtain ⟨ef, ea, ct⟩ := hp rfl
    refine wpList_of_wp hy ?_
    unfold Oper.wp
    rw [run_call ha ef ea ct.enter]
    refine Calls.mono (ct.calls w hs) ?_
    rintro e w' ⟨v', m', h', rfl, hle, hst, rfl, rfl⟩
    exact k _ _ (ha.put hd _) (hst.back hle)
  | false =>
    unfold wpList
    rw [if_neg (by rw [hy]; decide)]
    exact k _ _ (ha.put hd undef) hs
/-- A guard that is known to say yes. -/
theorem WL.unG {op : Op} {gd : Nat × Bool} {c : Bool} (hg : GU ops n F gd c) (hc : c = true) (k : WL P ops Q n (⟨dst, op, ty, pos, after, none⟩ :: rest) F h m) :
    WL P ops Q n (⟨dst, op, ty, pos, after, some gd⟩ :: rest) F h m := .mk fun a w ha hs => by
  subst hc
  have hy := hg.wanted (dst := dst) (op := op) (ty := ty) (pos := pos) (after := after) ha
  have := k a w ha hs
  unfold wpList at this ⊢
  rw [if_pos hy]
  rw [show Region.wanted (⟨dst, op, ty, pos, after, none⟩ : Oper) (yielded ops a.tmps) = true from rfl, if_pos rfl] at this
  exact this
/-- A guard that is known to say no. -/
theorem WL.skG {op : Op} {gd : Nat × Bool} {c : Bool} (hg : GU ops n F gd c) (hc : c = false) (hd : d < n.num) (k : WL P ops Q n rest ((d, undef) :: F) h m) :
    WL P ops Q n (⟨some d, op, ty, pos, after, some gd⟩ :: rest) F h m := .mk fun a w ha hs => by
  subst hc
  have hy := hg.wanted (dst := some d) (op := op) (ty := ty) (pos := pos) (after := after) ha
  unfold wpList
  rw [if_neg (by rw [hy]; decide)]
  exact k _ _ (ha.put hd undef) hs

theorem PO.pickAndN {t u : Nat} {c0 c b : Bool} (h0 : c0 = true) (e : look F t = some (gv c0 (.bool c))) (e1 : look F u = some (gv (c0 && c) (.bool b))) :
    PO P ⟨dst, .pick (.tmp t) (.tmp u) (.const (.bool false)), ty, pos, after, g⟩ n F h m (.bool (c && b)) := by
  subst h0
  exact PO.pickAnd e (by simpa using e1)
theorem PO.pickOrN {t u : Nat} {c0 c b : Bool} (h0 : c0 = true) (e : look F t = some (gv c0 (.bool c))) (e1 : look F u = some (gv (c0 && !c) (.bool b))) :
    PO P ⟨dst, .pick (.tmp t) (.const (.bool true)) (.tmp u), ty, pos, after, g⟩ n F h m (.bool (c || b)) := by
  subst h0
  exact PO.pickOr e (by simpa using e1)
theorem PO.nilCheck {x : Operand} {a : Addr} (e : Ev n F x (.pointer (some a))) : PO P ⟨dst, .nilCheck x, ty, pos, after, g⟩ n F h m (.pointer (some a)) := .mk fun b w hb _ => by
  simp [execOp, e b hb]
theorem PO.min {x y : Operand} {i j : Int} {t : TypeId} (ex : Ev n F x (.int .i64 i)) (ey : Ev n F y (.int .i64 j)) :
    PO P ⟨dst, .call ⟨.builtin .min, #[x, y], #[t, t]⟩, ty, pos, after, g⟩ n F h m (.int .i64 (if j < i then j else i)) := .mk fun b w ha _ => by
  simp [execOp, resolve, invoke, builtin, ex b ha, ey b ha, run_min_int2]

section
variable {eff : List Nat} {t : Tl} {hs hp : List Res} {i : Nat} {s : Tr} {op : Op} {v : Value}
theorem SR.poG {gd : Nat × Bool} {c : Bool} (ho : ops[i]? = some ⟨some d, op, ty, pos, after, some gd⟩) (he : eff.contains i = false) (hg : GU ops n F gd c)
    (p : c = true → PO P ⟨some d, op, ty, pos, after, some gd⟩ n F hs m v) (hd : d < n.num) (k : SR P ops Q n eff t hs s ((d, gv c v) :: F) hp m) :
    SR P ops Q n eff t hs (.op i s) F hp m := ⟨_, ho, fun x hx => by cases hx; exact hd, by
  rw [he]
  refine ⟨gv c v, ⟨fun a w ha st => ?_⟩, k.e⟩
  have hy := hg.wanted (dst := some d) (op := op) (ty := ty) (pos := pos) (after := after) ha
  cases c with
  | true => exact ⟨fun _ => p rfl a w ha st, fun h => by rw [hy] at h; cases h⟩
  | false => exact ⟨fun h => (by rw [hy] at h; cases h), fun _ => rfl⟩⟩
theorem SR.poU {gd : Nat × Bool} {c : Bool} (ho : ops[i]? = some ⟨some d, op, ty, pos, after, some gd⟩) (he : eff.contains i = false) (hg : GU ops n F gd c) (hc : c = true)
    (p : PO P ⟨some d, op, ty, pos, after, some gd⟩ n F hs m v) (hd : d < n.num) (k : SR P ops Q n eff t hs s ((d, v) :: F) hp m) :
    SR P ops Q n eff t hs (.op i s) F hp m := by subst hc; exact SR.poG ho he hg (fun _ => p) hd k
theorem Upd.right {l h h' : List Res} {r r' : Res} (u : Upd h r r' h') : Upd (l ++ h) r r' (l ++ h') := by
  induction l with
  | nil => exact u
  | cons x l ih => exact .next ih
theorem Upd.left {l h h' : List Res} {r r' : Res} (u : Upd h r r' h') : Upd (h ++ l) r r' (h' ++ l) := by
  induction u with
  | here => exact .here
  | next _ ih => exact .next ih
theorem SR.store {x y : Operand} {tt : TypeId} {b off : Nat} {cs cs' vs : List Value} {e : TypeId} {v : Value} {hp' : List Res} (ho : ops[i]? = some ⟨none, .store tt x y, ty, pos, after, none⟩) (he : eff.contains i = true)
    (hq : (P.info? tt).map (·.size) = some vs.length) (ex : Ev n F x (.pointer (some ⟨b, off, none⟩))) (ey : Ev n F y v)
    (hvs : cellsO v = some vs) (h1 : vs.all (·.oneCell') = true) (h0 : vs.isEmpty = false) (hc : setLs cs off vs = some cs')
    (u : Upd hp (.pt b (.cells cs.toArray e (0, 0))) (.pt b (.cells cs'.toArray e (0, 0))) hp') (k : SR P ops Q n eff t hs s F hp' m) : SR P ops Q n eff t hs (.op i s) F hp m := ⟨_, ho, fun x hx => (by cases hx), by
  rw [he]
  refine ⟨fun fr a w ha st => ⟨fun _ => ?_, fun h => by simp [Region.wanted] at h⟩⟩
  have hne : vs ≠ [] := by cases vs <;> simp_all
  have e1 := setLs_eq hc
  subst e1
  have h1 : ∀ u ∈ vs, u.oneCell' = true := by simpa using h1
  have hvs := cellsO_spec hvs
  subst hvs
  have uu : Upd (fr ++ (hp ++ hs)) _ _ (fr ++ (hp' ++ hs)) := (u.left).right
  have hb : w.heap[b]? = some (.cells cs.toArray e (0, 0)) := st.ok _ uu.mem
  have hr := run_storeCells_at P b off e v.cells.toList 0 cs.toArray w hb (by have := setLs_len hc hne; simpa using this) h1
  have hrun : (execOp a.eval ⟨none, .store tt x y, ty, pos, after, none⟩).run P w = .ok .skip (w.setRow b (cs.take off ++ v.cells.toList ++ cs.drop (off + v.cells.toList.length)).toArray) := by
    cases hi : P.info? tt with
    | none => simp [hi] at hq
    | some i =>
      have e1 : i.size = v.cells.size := by simpa [hi] using hq
      have hr' := hr
      simp only [Nat.add_zero] at hr'
      simp [execOp, ex a ha, ey a ha, Instr.storeAt, Instr.sureAddr, storeVar, sizeOf, typeInfo, hi, e1] at hr' ⊢
      rw [hr']; rfl
  rw [hrun]
  exact ⟨m, hp', View.le.refl m, st.setRow uu, nofun, k.e⟩⟩
theorem WL.take {l : List Oper} {r : Res} (dl : Del h r h') (k : WL P ops Q n l F (r :: h') m) : WL P ops Q n l F h m := .mk fun a w ha hs => k a w ha (hs.perm dl.perm)
theorem WC.take {c : Code} {r : Res} (dl : Del h r h') (k : WC P c Q n F (r :: h') m) : WC P c Q n F h m := .mk fun a w ha hs => k a w ha (hs.perm dl.perm)
theorem SR.callP {f : Operand} {args : List Operand} {tys : Array TypeId} {vs first cap : List Value} {q : FuncId} {v : Value} (ho : ops[i]? = some ⟨some d, .call ⟨.value f, args.toArray, tys⟩, ty, pos, after, none⟩)
    (he : eff.contains i = true) (ef : Ev n F f (.func (.func q) first.toArray cap.toArray)) (ea : Evs n F args vs) (c : ∀ fr, CT P q (first ++ vs ++ cap) (fr ++ (hp ++ hs)) m (Pure1 (fr ++ (hp ++ hs)) v)) (hd : d < n.num)
    (k : SR P ops Q n eff t hs s ((d, v) :: F) hp m) : SR P ops Q n eff t hs (.op i s) F hp m := ⟨_, ho, fun x hx => by cases hx; exact hd, by
  rw [he]
  refine ⟨fun fr a w ha st => ⟨fun _ => ?_, fun h => by simp [Region.wanted] at h⟩⟩
  rw [run_call ha ef ea (c fr).enter]
  refine Calls.mono ((c fr).calls w st) ?_
  rintro e w' ⟨v, m', h', rfl, hle, hst, rfl, rfl⟩
  exact .inl ⟨_, rfl, m, hp, View.le.refl m, hst.back hle, nofun, k.e⟩⟩
theorem SR.callG {f : Operand} {args : List Operand} {tys : Array TypeId} {vs first cap : List Value} {q : FuncId} {gd : Nat × Bool} {c : Bool} {v : Value} (ho : ops[i]? = some ⟨some d, .call ⟨.value f, args.toArray, tys⟩, ty, pos, after, some gd⟩)
    (he : eff.contains i = true) (hg : GU ops n F gd c)
    (p : c = true → Ev n F f (.func (.func q) first.toArray cap.toArray) ∧ Evs n F args vs ∧ ∀ fr, CT P q (first ++ vs ++ cap) (fr ++ (hp ++ hs)) m (Pure1 (fr ++ (hp ++ hs)) v)) (hd : d < n.num)
    (k : SR P ops Q n eff t hs s ((d, gv c v) :: F) hp m) : SR P ops Q n eff t hs (.op i s) F hp m := ⟨_, ho, fun x hx => by cases hx; exact hd, by
  rw [he]
  refine ⟨fun fr a w ha st => ?_⟩
  have hy := hg.wanted (dst := some d) (op := .call ⟨.value f, args.toArray, tys⟩) (ty := ty) (pos := pos) (after := after) ha
  cases c with
  | true =>
    refine ⟨fun _ => ?_, fun h => by rw [hy] at h; cases h⟩
    obtain ⟨ef, ea, ct⟩ := p rfl
    rw [run_call ha ef ea (ct fr).enter]
    refine Calls.mono ((ct fr).calls w st) ?_
    rintro e w' ⟨v', m', h', rfl, hle, hst, rfl, rfl⟩
    exact .inl ⟨_, rfl, m, hp, View.le.refl m, hst.back hle, nofun, k.e⟩
  | false => exact ⟨fun h => (by rw [hy] at h; cases h), fun _ => ⟨nofun, k.e⟩⟩⟩
end

def eqC (d : TypeDesc) : Value → Value → Option Bool
  | .bool a, .bool b => match d with
    | .bool => some (a == b)
    | _ => none
  | .int k a, .int k' b => match d with
    | .int _ => if k = k' then some (a == b) else none
    | _ => none
  | .string ⟨⟨a⟩⟩, .string ⟨⟨b⟩⟩ => match d with
    | .string => some (a == b)
    | _ => none
  | _, _ => none
def eqFs (P : Program) (xs ys : List Value) : List Field → Option Bool
  | [] => some true
  | f :: fs => match P.underlying f.type with
    | some d => match plainD d with
      | true => match xs[f.offset]? with
        | some a => match ys[f.offset]? with
          | some b => match eqC d a b with
            | some r => match eqFs P xs ys fs with
              | some q => match (f.name != "_") with
                | true => some (r && q)
                | false => none
              | none => none
            | none => none
          | none => none
        | none => none
      | false => none
    | none => none

theorem run_eqC (w : World) {d : Nat} {t : TypeId} {ds : TypeDesc} (ht : P.underlying t = some ds) {a b : Value} {r : Bool} (he : eqC ds a b = some r) : (Op.equalIn (d + 1) t a b).run P w = .ok r w := by
  unfold eqC at he
  split at he
  · split at he
    · cases he; exact run_equalIn_bool' w d t _ _ ht
    · cases he
  · split at he
    · split at he
      · rename_i hk; subst hk; cases he; exact run_equalIn_int w d t _ _ _ _ ht
      · cases he
    · cases he
  · split at he
    · cases he
      rename_i a b _
      rw [run_equalIn_string w d t _ _ ht, ByteArray.toList_eq, ByteArray.toList_eq]
    · cases he
  · cases he
theorem run_eqFs (w : World) (d : Nat) (xs ys : List Value) : ∀ {fs : List Field} {r : Bool}, eqFs P xs ys fs = some r → (Op.eqFields (d + 1) xs.toArray ys.toArray fs).run P w = .ok r w
  | [], r, he => by cases he; simp [Op.eqFields]
  | f :: fs, r, he => by
    unfold eqFs at he
    cases h1 : P.underlying f.type with
    | none => simp [h1] at he
    | some ds =>
      simp only [h1] at he
      cases h2 : plainD ds with
      | false => simp [h2] at he
      | true =>
        simp only [h2] at he
        cases h3 : xs[f.offset]? with
        | none => simp [h3] at he
        | some a =>
          simp only [h3] at he
          cases h4 : ys[f.offset]? with
          | none => simp [h4] at he
          | some b =>
            simp only [h4] at he
            cases h5 : eqC ds a b with
            | none => simp [h5] at he
            | some c =>
              simp only [h5] at he
              cases h6 : eqFs P xs ys fs with
              | none => simp [h6] at he
              | some q =>
                simp only [h6] at he
                cases h7 : (f.name != "_") with
                | false => simp [h7] at he
                | true =>
                  simp only [h7, Option.some.injEq] at he
                  subst he
                  have h8 : f.name ≠ "_" := by simpa using h7
                  have ih := run_eqFs w d xs ys h6
                  have e5 := run_eqC (P := P) w (d := d) h1 h5
                  simp only [Op.eqFields, if_pos h8, Sem.run_bind]
                  have ea : (part f.type xs.toArray f.offset).run P w = .ok a w := by simp [part, run_isAgg_plain w h1 h2, h3]
                  have eb : (part f.type ys.toArray f.offset).run P w = .ok b w := by simp [part, run_isAgg_plain w h1 h2, h4]
                  rw [ea, Result.andThen_ok, eb, Result.andThen_ok, e5, Result.andThen_ok]
                  cases c
                  · simp
                  · simpa using ih

theorem PO.eqlA {x y : Operand} {t t' : TypeId} {fs : Array Field} {as bs : List Value} {r : Bool} (ht : P.underlying t = some (.struct fs)) (hs : P.stoodInHeld t = false) (hm : P.eqGuardType P.depth t = false) (ex : Ev n F x (.agg as.toArray)) (ey : Ev n F y (.agg bs.toArray))
    (hr : eqFs P as bs fs.toList = some r) : PO P ⟨dst, .binOp .eql t x y t', ty, pos, after, g⟩ n F h m (.bool r) := .mk fun a w ha _ => by
  have hf : P.fieldsOf t = fs := by simp [Program.fieldsOf, ht]
  have e1 := run_equalIn_struct (P := P) w 9999 t as.toArray bs.toArray (by rw [hf]; exact ht) hs
  rw [hf, run_eqFs w 9998 as bs hr] at e1
  simp [execOp, ex a ha, ey a ha, run_eqGuard_agg w _ t _ _ _ _ hm, run_eql_struct, e1]
theorem PO.neqA {x y : Operand} {t t' : TypeId} {fs : Array Field} {as bs : List Value} {r : Bool} (ht : P.underlying t = some (.struct fs)) (hs : P.stoodInHeld t = false) (hm : P.eqGuardType P.depth t = false) (ex : Ev n F x (.agg as.toArray)) (ey : Ev n F y (.agg bs.toArray))
    (hr : eqFs P as bs fs.toList = some r) : PO P ⟨dst, .binOp .neq t x y t', ty, pos, after, g⟩ n F h m (.bool (!r)) := .mk fun a w ha _ => by
  have hf : P.fieldsOf t = fs := by simp [Program.fieldsOf, ht]
  have e1 := run_equalIn_struct (P := P) w 9999 t as.toArray bs.toArray (by rw [hf]; exact ht) hs
  rw [hf, run_eqFs w 9998 as bs hr] at e1
  simp [execOp, ex a ha, ey a ha, run_eqGuard_agg w _ t _ _ _ _ hm, run_neq_struct, e1]

def fl {α : Type} (enc : α → List Value) (l : List α) : List Value := l.flatMap enc
section
variable {α : Type} {enc : α → List Value} {sz : Nat}
theorem fl_app (l r : List α) : fl enc (l ++ r) = fl enc l ++ fl enc r := by simp [fl]
theorem fl_snoc (l : List α) (x : α) : fl enc l ++ enc x = fl enc (l ++ [x]) := by simp [fl]
theorem fl_len (henc : ∀ x, (enc x).length = sz) (l : List α) : (fl enc l).length = l.length * sz := by
  induction l with
  | nil => simp [fl]
  | cons x l ih => simp only [fl, List.flatMap_cons, List.length_append, henc, List.length_cons, Nat.add_mul] at ih ⊢; omega
theorem fl_drop (henc : ∀ x, (enc x).length = sz) (l : List α) (k : Nat) : (fl enc l).drop (k * sz) = fl enc (l.drop k) := by
  induction l generalizing k with
  | nil => simp [fl]
  | cons x l ih =>
    cases k with
    | zero => simp
    | succ k =>
      have := ih k
      simp only [fl, List.flatMap_cons, List.drop_succ_cons] at this ⊢
      rw [List.drop_append, henc, List.drop_eq_nil_of_le (by rw [henc, Nat.add_mul]; omega), List.nil_append, show (k + 1) * sz - sz = k * sz by rw [Nat.add_mul]; omega, this]
theorem fl_take (henc : ∀ x, (enc x).length = sz) (l : List α) (k : Nat) : (fl enc l).take (k * sz) = fl enc (l.take k) := by
  induction l generalizing k with
  | nil => simp [fl]
  | cons x l ih =>
    cases k with
    | zero => simp [fl]
    | succ k =>
      have := ih k
      simp only [fl, List.flatMap_cons, List.take_succ_cons] at this ⊢
      rw [List.take_append, henc, List.take_of_length_le (by rw [henc, Nat.add_mul]; omega), show (k + 1) * sz - sz = k * sz by rw [Nat.add_mul]; omega, this]
theorem fl_at (henc : ∀ x, (enc x).length = sz) {l : List α} {q : Nat} {x : α} (hx : l[q]? = some x) : ∀ j v, (enc x)[j]? = some v → (fl enc l)[q * sz + j]? = some v := by
  intro j v hj
  have h1 : j < sz := by have := (List.getElem?_eq_some_iff.1 hj).1; rwa [henc] at this
  have := flat_get (sz := sz) enc henc l q j h1
  rw [fl, this, hx]
  exact hj
theorem Rd.subF {a : Option Addr} {k cap : Nat} {l : List α} (henc : ∀ x, (enc x).length = sz) (s : Rd m h a k cap sz (fl enc l)) {i j : Nat} (h1 : i ≤ j) (h2 : j ≤ k) :
    Rd m h (sl1 a i cap sz) (j - i) (cap - i) sz (fl enc ((l.drop i).take (j - i))) := by
  have := s.sub h1 h2
  rwa [fl_drop henc, fl_take henc] at this
theorem Rd.takeF {a : Option Addr} {k cap : Nat} {l : List α} (henc : ∀ x, (enc x).length = sz) (s : Rd m h a k cap sz (fl enc l)) {j : Nat} (h2 : j ≤ k) :
    Rd m h (sl1 a 0 cap sz) j cap sz (fl enc (l.take j)) := by
  have := s.subF henc (Nat.zero_le j) h2
  simpa using this
theorem Rd.lenF {a : Option Addr} {k cap : Nat} {l : List α} (henc : ∀ x, (enc x).length = sz) (h0 : 0 < sz) (s : Rd m h a k cap sz (fl enc l)) : l.length = k := by
  have := s.len
  rw [fl_len henc] at this
  exact Nat.eq_of_mul_eq_mul_right h0 this
theorem Rd.dropF {a : Option Addr} {k cap : Nat} {l : List α} (henc : ∀ x, (enc x).length = sz) (h0 : 0 < sz) (s : Rd m h a k cap sz (fl enc l)) {i : Nat} (h1 : i ≤ k) :
    Rd m h (sl1 a i cap sz) (k - i) (cap - i) sz (fl enc (l.drop i)) := by
  have := s.subF henc h1 (Nat.le_refl k)
  rwa [List.take_of_length_le (by have := s.lenF henc h0; simp; omega)] at this
theorem Sl.subF {a : Option Addr} {k cap : Nat} {l : List α} (henc : ∀ x, (enc x).length = sz) (s : Sl m a k cap sz (fl enc l)) {i j : Nat} (h1 : i ≤ j) (h2 : j ≤ k) :
    Sl m (sl1 a i cap sz) (j - i) (cap - i) sz (fl enc ((l.drop i).take (j - i))) := by
  have := s.sub h1 h2
  rwa [fl_drop henc, fl_take henc] at this
end
theorem Rd.nilF {α : Type} (enc : α → List Value) (sz : Nat) (m : View) (h : List Res) : Rd m h none 0 0 sz (fl enc []) := ⟨by simp [fl], Nat.le_refl _, by omega, fun _ _ j u hj => by simp [fl] at hj⟩
theorem get_some {α : Type} {l : List α} {k : Nat} (hk : k < l.length) : ∃ x, l[k]? = some x := ⟨l[k], List.getElem?_eq_getElem hk⟩
theorem take_snoc {α : Type} {l : List α} {k : Nat} {x : α} (hx : l[k]? = some x) : l.take (k + 1) = l.take k ++ [x] := by
  rw [List.take_add_one, hx]; rfl

theorem Rd.inRow {a : Option Addr} {k cap sz : Nat} {e : TypeId} {ys : List Value} (hm : Res.row (.slice a k cap) e sz k ys ∈ h) (hl : ys.length = k * sz) (hle : k ≤ cap) (hmx : cap ≤ 9223372036854775807) : Rd m h a k cap sz ys := Rd.ofRow hl hle hmx hm
theorem PO.loadF1 {α : Type} {enc : α → List Value} {x : Operand} {t : TypeId} {u : TypeDesc} {a : Option Addr} {len cap q : Nat} {l : List α} {y : α} {v : Value} (ht : P.underlying t = some u) (hp : plainD u = true) (henc : ∀ x, (enc x).length = 1) (hs : Rd m h a len cap 1 (fl enc l))
    (ex : Ev n F x (.pointer (elt a (q * 1)))) (hx : l[q]? = some y) (hv : enc y = [v]) : PO P ⟨dst, .load t x, ty, pos, after, g⟩ n F h m v :=
  PO.loadE ht hp hs ex (by have := fl_at henc hx 0 v (by rw [hv]; rfl); simpa using this)
theorem PO.loadFA {α : Type} {enc : α → List Value} {x : Operand} {t : TypeId} {u : TypeDesc} {a : Option Addr} {len cap q sz : Nat} {l : List α} {y : α} {vs : List Value} (ht : P.underlying t = some u) (hp : plainD u = false) (hq : (P.info? t).isSome = true) (henc : ∀ x, (enc x).length = sz)
    (hs : Rd m h a len cap sz (fl enc l)) (ex : Ev n F x (.pointer (elt a (q * sz)))) (hx : l[q]? = some y) (hv : enc y = vs) (hl : P.cellsOf t = vs.length) (h0 : 0 < vs.length) : PO P ⟨dst, .load t x, ty, pos, after, g⟩ n F h m (.agg vs.toArray) :=
  PO.loadEA ht hp hq hs ex hl h0 (fun j v hj => fl_at henc hx j v (by rw [hv]; exact hj))
theorem PO.loadFf {α : Type} {enc : α → List Value} {x : Operand} {t : TypeId} {u : TypeDesc} {a : Option Addr} {len cap q sz o : Nat} {l : List α} {y : α} {v : Value} (ht : P.underlying t = some u) (hp : plainD u = true) (henc : ∀ x, (enc x).length = sz) (hs : Rd m h a len cap sz (fl enc l))
    (ex : Ev n F x (.pointer (elt a (q * sz + o)))) (hx : l[q]? = some y) (hv : (enc y)[o]? = some v) : PO P ⟨dst, .load t x, ty, pos, after, g⟩ n F h m v :=
  PO.loadE ht hp hs ex (fl_at henc hx o v hv)
theorem one_of {ys : List Value} (h : ys.all (·.oneCell') = true) : ∀ u ∈ ys, u.oneCell' = true := by simpa using h
theorem fl_ones {α : Type} {enc : α → List Value} (h : ∀ x, (enc x).all (·.oneCell') = true) (l : List α) : ∀ u ∈ fl enc l, u.oneCell' = true := by
  intro u hu
  simp only [fl, List.mem_flatMap] at hu
  obtain ⟨x, _, hx⟩ := hu
  exact one_of (h x) u hx

def eqL {α : Type} (e : α → α → Bool) : List α → List α → Bool
  | [], [] => true
  | x :: xs, y :: ys => e x y && eqL e xs ys
  | _, _ => false
theorem eqL_len {α : Type} (e : α → α → Bool) : ∀ (xs ys : List α), xs.length ≠ ys.length → eqL e xs ys = false
  | [], [], h => absurd rfl h
  | [], _ :: _, _ => rfl
  | _ :: _, [], _ => rfl
  | x :: xs, y :: ys, h => by rw [eqL, eqL_len e xs ys (by simpa using h), Bool.and_false]
theorem eqL_drop {α : Type} (e : α → α → Bool) {xs ys : List α} {k : Nat} {x y : α} (hx : xs[k]? = some x) (hy : ys[k]? = some y) : eqL e (xs.drop k) (ys.drop k) = (e x y && eqL e (xs.drop (k + 1)) (ys.drop (k + 1))) := by
  obtain ⟨h1, rfl⟩ := List.getElem?_eq_some_iff.1 hx
  obtain ⟨h2, rfl⟩ := List.getElem?_eq_some_iff.1 hy
  rw [List.drop_eq_getElem_cons h1, List.drop_eq_getElem_cons h2, eqL]
theorem eqL_iff {α : Type} {e : α → α → Bool} (he : ∀ x y, e x y = true ↔ x = y) : ∀ {xs ys : List α}, eqL e xs ys = true ↔ xs = ys
  | [], [] => by simp [eqL]
  | [], _ :: _ => by simp [eqL]
  | _ :: _, [] => by simp [eqL]
  | x :: xs, y :: ys => by simp [eqL, he, eqL_iff he]
/-- A slice of the call's own, over everything that was owned before. -/
def OwnF {α : Type} (enc : α → List Value) (e sz : Nat) (h : List Res) (xs : List α) : Value → List Res → Prop := fun v h' => ∃ a c k, k = xs.length ∧ v = .slice a k c ∧ h' = .row (.slice a k c) e sz k (fl enc xs) :: h

/-- append; what the slice holds then is said in one's own words. -/
theorem WL.appendE {x y : Operand} {t e : TypeId} {sz by_ l cap k c l' : Nat} {a b : Option Addr} {xs ys zs : List Value} {hq : Value → List Res} (E : EL P t e sz by_) (ex : Ev n F x (.slice a l cap)) (ey : Ev n F y (.slice b k c))
    (rd : Rd m h b k c sz ys) (h1 : ∀ u ∈ ys, u.oneCell' = true) (hl : l + k = l') (hz : xs ++ ys = zs) (h63 : l' ≤ 9223372036854775807) (hbytes : l' * by_ ≤ 140737488355328)
    (u : ∀ v', Upd h (.row (.slice a l cap) e sz l xs) (.row v' e sz l' zs) (hq v')) (hd : d < n.num) (kk : ∀ a' cap', WL P ops Q n rest ((d, .slice a' l' cap') :: F) (hq (.slice a' l' cap')) m) :
    WL P ops Q n (⟨some d, .call ⟨.builtin .append, #[x, y], #[t, t]⟩, ty, pos, after, none⟩ :: rest) F h m := by
  subst hl hz
  exact WL.append E ex ey rd h1 h63 hbytes u hd kk

theorem WL.val {l : List Oper} {d : Nat} {v v' : Value} (e : v = v') (k : WL P ops Q n l ((d, v') :: F) h m) : WL P ops Q n l ((d, v) :: F) h m := e ▸ k

theorem Sub.app {F A B : Fm} (ha : Sub F A) (hb : Sub F B) : Sub F (A ++ B) := by
  induction ha with
  | nil => exact hb
  | cons h _ ih => exact .cons h ih
theorem Sub.ofKeep {F : Fm} : ∀ {ts : List Nat} {F' : Fm}, keep F ts = some F' → Sub F F'
  | [], F', h => by simp only [keep, Option.some.injEq] at h; subst h; exact .nil
  | s :: ts, F', h => by
    simp only [keep] at h
    cases h2 : keep F ts with
    | none => simp [h2] at h
    | some r =>
      cases h1 : Eng.look F s with
      | none => simp only [h1, h2, Option.some.injEq] at h; subst h; exact Sub.ofKeep h2
      | some u => simp only [h1, h2, Option.some.injEq] at h; subst h; exact .cons h1 (Sub.ofKeep h2)
def appF : Fm → Fm → Option Fm
  | [], r => some r
  | x :: l, r => match appF l r with
    | some t => some (x :: t)
    | none => none
theorem appF_eq : ∀ {l r t : Fm}, appF l r = some t → l ++ r = t
  | [], r, t, h => by simp only [appF, Option.some.injEq] at h; exact h
  | x :: l, r, t, h => by
    simp only [appF] at h
    cases h1 : appF l r with
    | none => simp [h1] at h
    | some q => simp only [h1, Option.some.injEq] at h; subst h; simp [appF_eq h1]
theorem WC.frm {c : Code} {A B G : Fm} (hG : appF A B = some G) (k : WC P c Q n G h m) : WC P c Q n (A ++ B) h m := appF_eq hG ▸ k
theorem WC.loopI {c : Code} (inv : List Nat) {Fi : Fm} (hk : keep F inv = some Fi) (J : Nat → Fm → List Res → Prop) (μ : Nat) (F0 : Fm) (hsub : Sub F F0) {h0 : List Res} (hh : h0.Sublist h) (hJ : J μ F0 h0)
    (round : ∀ μ F' h', J μ F' h' → WC P c (Exit.then (fun a w => ∃ μ' F'' h'', μ' < μ ∧ J μ' F'' h'' ∧ Fr n (F'' ++ Fi) a ∧ St m h'' w) Q) n (F' ++ Fi) h' m) :
    WC P (.loop c) Q n F h m := by
  refine WC.drop hh (WC.loop (fun μ G h' m' => ∃ F', G = F' ++ Fi ∧ J μ F' h' ∧ m' = m) μ (F0 ++ Fi) (hsub.app (Sub.ofKeep hk)) ⟨F0, rfl, hJ, rfl⟩ ?_)
  rintro μ G h' m' ⟨F', rfl, hJ, rfl⟩
  refine .mk fun a w ha hs => wpIn_mono ((round μ F' h' hJ).e a w ha hs) fun e a' w' hq => ?_
  cases e with
  | normal =>
    obtain ⟨μ', F'', h'', hlt, hJ', hf, hst⟩ := hq
    exact ⟨μ', F'' ++ Fi, h'', m', hlt, ⟨F'', rfl, hJ', rfl⟩, hf, hst⟩
  | _ => exact hq
theorem loopBackI {J : Nat → Fm → List Res → Prop} {Fi : Fm} {μ : Nat} (μ' : Nat) (F'' : Fm) {h'' : List Res} (hlt : μ' < μ) (hs : Sub F F'') (hi : Sub F Fi) (hh : h''.Sublist h) (hJ : J μ' F'' h'') :
    ∀ a w, Fr n F a → St m h w → ∃ μ' F'' h'', μ' < μ ∧ J μ' F'' h'' ∧ Fr n (F'' ++ Fi) a ∧ St m h'' w :=
  fun _ _ ha st => ⟨μ', F'', h'', hlt, hJ, ha.sub (hs.app hi).look, st.sub hh⟩
theorem Sub.consE {F r : Fm} {t : Nat} {u v : Value} (hl : Eng.look F t = some u) (e : u = v) (k : Sub F r) : Sub F ((t, v) :: r) := .cons (e ▸ hl) k

/-- Two ways meet: J says what holds then. -/
theorem WC.cut {x y : Code} (J : Fm → List Res → Prop) (k1 : WC P x (Exit.then (fun a w => ∃ F' h', J F' h' ∧ Fr n F' a ∧ St m h' w) Q) n F h m)
    (k2 : ∀ F' h', J F' h' → WC P y Q n F' h' m) : WC P (.seq x y) Q n F h m := .mk fun a w ha hs => by
  refine wpIn_seq (wpIn_mono (k1.e a w ha hs) fun e a' w' hq => ?_)
  cases e with
  | normal =>
    obtain ⟨F', h', hJ, hf, hst⟩ := hq
    exact (k2 F' h' hJ).e a' w' hf hst
  | _ => exact hq
theorem meet {J : Fm → List Res → Prop} (F' : Fm) {h'' : List Res} (hs : Sub F F') (hh : h''.Sublist h) (hJ : J F' h'') :
    ∀ a w, Fr n F a → St m h w → ∃ F' h', J F' h' ∧ Fr n F' a ∧ St m h' w :=
  fun _ _ ha st => ⟨F', h'', hJ, ha.sub hs.look, st.sub hh⟩
/-- Two ways meet; the slots of `inv` hold what they held ahead of the parting. -/
theorem WC.cutK {x y : Code} {K : Act → World → Prop} (hK : ∀ ds F h m, WC P y Q { n with ds := ds } F h m → ∀ a w, Fr { n with ds := ds } F a → St m h w → K a w) (inv : List Nat) {Fi : Fm} (hk : keep F inv = some Fi) (J : Fm → List Res → Prop)
    (k1 : WC P x (Exit.then (fun a w => ∃ F' h', J F' h' ∧ Fr n (F' ++ Fi) a ∧ St m h' w) Q) n F h m)
    (k2 : ∀ F' h', J F' h' → WC P y Q n (F' ++ Fi) h' m) : WC P x (Exit.then K Q) n F h m := .mk fun a w ha hs => by
  have _ := hk
  refine wpIn_mono (k1.e a w ha hs) fun e a' w' hq => ?_
  cases e with
  | normal =>
    obtain ⟨F', h', hJ, hf, hst⟩ := hq
    exact hK n.ds _ _ _ (k2 F' h' hJ) a' w' hf hst
  | _ => exact hq
theorem meetI {J : Fm → List Res → Prop} {Fi : Fm} (F'' : Fm) {h'' : List Res} (hs : Sub F F'') (hi : Sub F Fi) (hh : h''.Sublist h) (hJ : J F'' h'') :
    ∀ a w, Fr n F a → St m h w → ∃ F' h', J F' h' ∧ Fr n (F' ++ Fi) a ∧ St m h' w :=
  fun _ _ ha st => ⟨F'', h'', hJ, ha.sub (hs.app hi).look, st.sub hh⟩
end
end Go.Eng

namespace Go.Eng
open Go Go.RowKit Go.ChangeShapes Go.WideShapes Go.ChangeAt Go.Joins

theorem mapM_get {α β : Type} {f : α → Option β} : ∀ {l : List α} {xs : List β}, l.mapM f = some xs → xs.length = l.length ∧ ∀ (i : Nat) (a : α), l[i]? = some a → ∃ y, xs[i]? = some y ∧ f a = some y
  | [], xs, h => by simp at h; subst h; simp
  | b :: l, xs, h => by
    simp only [List.mapM_cons] at h
    cases h1 : f b with
    | none => simp [h1] at h
    | some y =>
      cases h2 : l.mapM f with
      | none => simp [h1, h2] at h
      | some ys =>
        simp [h1, h2] at h
        subst h
        obtain ⟨e, k⟩ := mapM_get h2
        refine ⟨by simp [e], fun i a hi => ?_⟩
        cases i with
        | zero => simp at hi; subst hi; exact ⟨y, rfl, h1⟩
        | succ i => simpa using k i a (by simpa using hi)

section
variable {H : Type} {enc : TypeId × Value → H} {P : Program} {W : World} {held : Bool} {fuel : Nat} {t : TypeId} {cs : List Value} {x : DataW H × List MemPlace}
abbrev RdT (enc : TypeId × Value → H) (P : Program) (W : World) (held : Bool) (fuel : Nat) (t : TypeId) (cs : List Value) (x : DataW H × List MemPlace) : Prop := DataW.trod enc P W 0 (fun _ => true) held fuel t cs = some x

theorem rd_pos (h : RdT enc P W held fuel t cs x) : ∃ f, fuel = f + 1 := by
  cases fuel with
  | zero => simp [RdT, DataW.trod] at h
  | succ f => exact ⟨f, rfl⟩
theorem rd_bool (ht : P.underlying t = some .bool) (h : RdT enc P W held fuel t cs x) : ∃ b, cs = [.bool b] := by
  obtain ⟨f, rfl⟩ := rd_pos h
  unfold RdT DataW.trod at h
  rw [ht] at h
  split at h <;> simp_all
theorem rd_int {k : IntKind} (ht : P.underlying t = some (.int k)) (h : RdT enc P W held fuel t cs x) : ∃ n, cs = [.int k n] ∧ (Lit.int k n).wf = true := by
  obtain ⟨f, rfl⟩ := rd_pos h
  unfold RdT DataW.trod at h
  rw [ht] at h
  split at h <;> simp_all
theorem cells_get {a : Addr} {n : Nat} {cs : List Value} (h : W.cells? 0 a n = some cs) : cs.length = n ∧ ∀ j v, cs[j]? = some v → W.cell? (a.add j) = some v := by
  unfold World.cells? at h
  rw [if_pos (Nat.zero_le _)] at h
  obtain ⟨h1, h2⟩ := mapM_get h
  rw [List.length_range] at h1
  refine ⟨h1, fun j v hj => ?_⟩
  have hlt : j < n := by rw [← h1]; exact (List.getElem?_eq_some_iff.1 hj).1
  obtain ⟨y, e1, e2⟩ := h2 j j (by simp [hlt])
  rw [hj] at e1
  cases e1
  exact e2
theorem choose_list {α : Type} {p : Nat → α → Prop} : ∀ n, (∀ i, i < n → ∃ x, p i x) → ∃ l : List α, l.length = n ∧ ∀ i x, l[i]? = some x → p i x
  | 0, _ => ⟨[], rfl, fun i x h => by simp at h⟩
  | n + 1, h => by
    obtain ⟨l, h1, h2⟩ := choose_list n fun i hi => h i (by omega)
    obtain ⟨x, hx⟩ := h n (by omega)
    refine ⟨l ++ [x], by simp [h1], fun i y hi => ?_⟩
    rcases Nat.lt_or_ge i n with h' | h'
    · rw [List.getElem?_append_left (by omega)] at hi; exact h2 i y hi
    · have : i = n := by
        have := (List.getElem?_eq_some_iff.1 hi).1
        simp at this; omega
      subst this
      rw [← h1] at hi
      simp at hi
      subst hi; rw [h1] at *; exact hx

end
end Go.Eng

namespace Go.Eng
open Go Go.RowKit

/-- The entries of a map whose keys are the ints ks, each with true. -/
structure MapI (es : Array MapEntry) (ks : List Int) : Prop where
  a : ∀ e ∈ es.toList, ∃ n, e.key = .int .i64 n ∧ e.val = .bool true ∧ n ∈ ks
  b : ∀ n ∈ ks, ∃ e ∈ es.toList, e.key = .int .i64 n
theorem MapI.nil : MapI #[] [] := ⟨fun e h => by simp at h, fun n h => by cases h⟩

section
variable {P : Program} {ops : Array Oper} {Q : Exit → Act → World → Prop} {n : Cx} {F : Fm} {h h' : List Res} {m : View} {rest : List Oper}
variable {ty : TypeId} {pos : String} {after : Array Edge} {dst : Option Tmp} {g : Option (Nat × Bool)} {d : Nat}

theorem St.setObj {w : World} {b : Nat} {o o' : Obj} (s : St m h w) (u : Upd h (.pt b o) (.pt b o') h') : St m h' { w with heap := w.heap.setIfInBounds b o' } := by
  have hb : w.heap[b]? = some o := s.ok _ u.mem
  have hlt := lt_of_some hb
  refine s.upd u rfl rfl rfl (fun k _ hk => ?_) ?_ (fun k hk => .inl hk)
  · have : b ≠ k := fun e => hk (by rw [e]; rfl)
    simp [Array.getElem?_setIfInBounds_ne this]
  · show ({ w with heap := w.heap.setIfInBounds b o' } : World).heap[b]? = some o'
    simp [hlt]

theorem WL.makeMap {t : TypeId} (hd : d < n.num) (k : ∀ b, WL P ops Q n rest ((d, .map (some b)) :: F) (.pt b (.map #[] 0) :: h) m) :
    WL P ops Q n (⟨some d, .makeMap t none, ty, pos, after, none⟩ :: rest) F h m := .mk fun a w ha hs => by
  have hrun : (execOp a.eval ⟨some d, .makeMap t none, ty, pos, after, none⟩).run P w = .ok (.value (.map (some w.heap.size))) (w.alloc (.map #[] 0)) := by
    simp [execOp, Instr.makeMap]
  exact wpList_of_wp rfl (wp_of_run hrun (k _ _ _ (ha.put hd _) (hs.alloc _)))

end
end Go.Eng

namespace Go.Eng
open Go Go.RowKit Go.ChangeShapes Go.WideShapes Go.ChangeAt Go.Joins

/-- A contract that leaves the world as it was. -/
theorem CT.ofCalls {P : Program} {f : FuncId} {args : List Value} {h : List Res} {m : View} {v : Value} (he : ∀ as w, (callFunc f as).run P w = .ok (.enter f as) w)
    (hc : ∀ w, St m h w → Calls P f args.toArray w fun e w' => e = .returned v ∧ w' = w) : CT P f args h m (Pure1 h v) :=
  ⟨he, fun w st => Calls.mono (hc w st) (by rintro e w' ⟨rfl, rfl⟩; exact ⟨v, m, h, rfl, View.le.refl m, st, rfl, rfl⟩)⟩

theorem CT.argsE {P : Program} {f : FuncId} {args args' : List Value} {h : List Res} {m : View} {R : Value → View → List Res → Prop} (e : args = args') (c : CT P f args' h m R) : CT P f args h m R := e ▸ c

theorem WC.resE {P : Program} {Q : Exit → Act → World → Prop} {n : Cx} {F : Fm} {h h' : List Res} {m : View} {c : Code} (e : h = h') (k : WC P c Q n F h' m) : WC P c Q n F h m := e ▸ k
theorem WL.resE {P : Program} {ops : Array Oper} {Q : Exit → Act → World → Prop} {n : Cx} {F : Fm} {h h' : List Res} {m : View} {l : List Oper} (e : h = h') (k : WL P ops Q n l F h' m) : WL P ops Q n l F h m := e ▸ k

section
variable {P : Program} {n : Cx} {F : Fm} {h : List Res} {m : View} {ty : TypeId} {pos : String} {after : Array Edge} {dst : Option Nat} {g : Option (Nat × Bool)}
theorem PO.fieldF {α : Type} {en : α → List Value} {l : List α} {q : Nat} {z : α} {x : Operand} {t i o len cap sz : Nat} {fs : Array Field} {f : Field} {a : Option Addr} (ht : P.underlying t = some (.struct fs)) (hf : fs[i]? = some f) (hz : P.cellsOf f.type ≠ 0)
    (henc : ∀ x, (en x).length = sz) (h0 : 0 < sz) (hs : Rd m h a len cap sz (fl en l)) (hx : l[q]? = some z) (ex : Ev n F x (.pointer (elt a o))) :
    PO P ⟨dst, .fieldAddr t x i, ty, pos, after, g⟩ n F h m (.pointer (elt a (o + f.offset))) :=
  PO.fieldE ht hf hz hs (j := 0) (by
    rw [fl_len henc]
    have : 0 < l.length := by
      cases l with
      | nil => simp at hx
      | cons y l => simp
    exact Nat.mul_pos this h0) ex
theorem PO.max {x y : Operand} {i j : Int} {t : TypeId} (ex : Ev n F x (.int .i64 i)) (ey : Ev n F y (.int .i64 j)) :
    PO P ⟨dst, .call ⟨.builtin .max, #[x, y], #[t, t]⟩, ty, pos, after, g⟩ n F h m (.int .i64 (if i < j then j else i)) := .mk fun b w ha _ => by
  simp [execOp, resolve, invoke, builtin, ex b ha, ey b ha, run_max_int2]
theorem PO.idxArr {x i : Operand} {t e len sz : Nat} {u : TypeDesc} {k : IntKind} {j : Int} {q : Nat} {cs vs : List Value} (ht : P.underlying t = some (.array len e)) (he : P.underlying e = some u) (hp : plainD u = false)
    (hsz : (P.info? e).map (·.size) = some sz) (ex : Ev n F x (.agg cs.toArray)) (ei : Ev n F i (.int k j)) (hj : j = (q : Int)) (hq : q < len) (hv : (cs.drop (q * sz)).take sz = vs) :
    PO P ⟨dst, .index t x i, ty, pos, after, g⟩ n F h m (.agg vs.toArray) := .mk fun b w ha _ => by
  subst hj hv
  have e1 : ¬ len ≤ q := by omega
  have hs : (sizeOf e).run P w = .ok sz w := by
    cases hi : P.info? e with
    | none => rw [hi] at hsz; cases hsz
    | some y => rw [hi] at hsz; simp at hsz; simp [sizeOf, typeInfo, hi, hsz]
  simp [execOp, ex b ha, ei b ha, Instr.index, asIntOf, run_underlying ht, part, run_isAgg_agg w he hp, hs]
  exact fun hh => absurd hh e1
end

section
variable {H : Type} {enc : TypeId × Value → H} {P : Program} {W : World} {sp : Nat → Bool} {held : Bool} {fuel : Nat} {t : TypeId} {cs : List Value}
theorem data_int {k k' : IntKind} {z : Int} {p : List MemPlace} (ht : P.underlying t = some (.int k)) (h : DataW.trod enc P W 0 sp held fuel t cs = some (.lit (.int k' z), p)) : cs = [.int k z] := by
  cases fuel with
  | zero => simp [DataW.trod] at h
  | succ f =>
    unfold DataW.trod at h
    rw [ht] at h
    split at h <;> simp_all
theorem data_str {l : List UInt8} {p : List MemPlace} (ht : P.underlying t = some .string) (h : DataW.trod enc P W 0 sp held fuel t cs = some (.lit (.string l), p)) : cs = [str l] := by
  cases fuel with
  | zero => simp [DataW.trod] at h
  | succ f =>
    unfold DataW.trod at h
    rw [ht] at h
    split at h <;> simp_all
    obtain ⟨-, rfl, -⟩ := h
    simp
theorem data_struct {fs : Array Field} {ds : List (DataW H)} {p : List MemPlace} (ht : P.underlying t = some (.struct fs)) (h : DataW.trod enc P W 0 sp held fuel t cs = some (.agg ds, p)) :
    ∃ f, ∀ (i : Nat) (q : Field) (d : DataW H), fs[i]? = some q → ds[i]? = some d → ∃ p', DataW.trod enc P W 0 sp held f q.type ((cs.drop q.offset).take (P.cellsOf q.type)) = some (d, p') := by
  cases fuel with
  | zero => simp [DataW.trod] at h
  | succ f =>
    unfold DataW.trod at h
    rw [ht] at h
    split at h <;> simp_all
    obtain ⟨-, xs, h2, rfl, -⟩ := h
    refine ⟨f, fun i q d hq hd => ?_⟩
    obtain ⟨y, e1, e2⟩ := (mapM_get h2).2 i q (by simpa using hq)
    rw [List.getElem?_map, e1] at hd
    simp at hd
    subst hd
    exact ⟨y.2, e2⟩
theorem data_array {len e : Nat} {ds : List (DataW H)} {p : List MemPlace} (ht : P.underlying t = some (.array len e)) (h : DataW.trod enc P W 0 sp held fuel t cs = some (.agg ds, p)) :
    ∃ f, ∀ (i : Nat) (d : DataW H), i < len → ds[i]? = some d → ∃ p', DataW.trod enc P W 0 sp held f e ((cs.drop (i * P.cellsOf e)).take (P.cellsOf e)) = some (d, p') := by
  cases fuel with
  | zero => simp [DataW.trod] at h
  | succ f =>
    unfold DataW.trod at h
    rw [ht] at h
    split at h <;> simp_all
    obtain ⟨-, xs, h2, rfl, -⟩ := h
    refine ⟨f, fun i d hi hd => ?_⟩
    obtain ⟨y, e1, e2⟩ := (mapM_get h2).2 i i (by simp [hi])
    rw [List.getElem?_map, e1] at hd
    simp at hd
    subst hd
    exact ⟨y.2, e2⟩
theorem cell_of_cut {l : List Value} {a k : Nat} {v : Value} (h : (l.drop a).take k = [v]) : l[a]? = some v := by
  have : ((l.drop a).take k)[0]? = some v := by rw [h]; rfl
  cases k with
  | zero => simp at h
  | succ k => simpa using this
end

/-- The wrap of a row whose listed variables read as listed: the world's shape is kept. -/
theorem returnsInHanded_laid {H : Type} {enc : TypeId × Value → H} {a : Assume} {C : Checked} {os : Os} {f : FuncId} {fn : Func} {s : ChangeSpec} {conds : List PathCond} {apart fresh handsOn again : Bool} {laid : List (String × DataW Unit)}
    (own : ownKnob C.prog.godebug = none) (started : os.Started) (noInit : C.prog.inits.idxOf? f = none) (hfn : C.prog.funcs[f]? = some fn)
    (witness : ∃ (w : World) (tape : Tape) (i : Input), w.os = os ∧ (w.forCall tape i).Shaped C.prog ∧ i.vars = [] ∧ Input.okWide C.prog (w.forCall tape i) .any w.heap.size f i ∧
      ((s.pre enc C.prog fn conds apart (w.forCall tape i).memory i.args ∧ laidMet C.prog laid (w.forCall tape i).memory) ∧ sizedMet enc C.prog fn (OpenSpec.ofChange s) apart (w.forCall tape i).memory i.args) ∧ a.holds C.prog (lone (Frame.enter C.prog f i.args .normal) [] (w.forCall tape i)))
    (contract : ∀ (W : World) (base : Nat) (args : Array Value) (ds gs : List (DataW H)) (before : List MemPlace),
      (∀ (j : Nat) t v, fn.params[j]? = some t → args[j]? = some v → Value.okWide C.prog W .any base t v) →
      DataW.Whole enc C.prog fn.params.toList s.vars apart W args.toList ds gs before →
      (DataW.weightsEach C.prog (fn.params.toList ++ s.plain.varTypes C.prog) (ds ++ gs)).all (· ≤ reachBytes) = true → laidMet C.prog laid W → W.ShapedOpen C.prog →
      Calls C.prog f args W fun e W' => ∃ v, e = .returned v ∧ s.post enc C.prog fn apart fresh handsOn again W args v W') :
    ReturnsInHanded a C os f .any (fun w args => (s.pre enc C.prog fn conds apart w args ∧ laidMet C.prog laid w) ∧ sizedMet enc C.prog fn (OpenSpec.ofChange s) apart w args) (s.post enc C.prog fn apart fresh handsOn again) := by
  refine returnsInHanded_of_calls own started noInit witness fun w tape i _ hsh _ hok hpre _ => ?_
  obtain ⟨_, _, _, fn', hfn', _, _, _, _, hval⟩ := hok
  cases Option.some.inj (hfn'.symm.trans hfn)
  obtain ⟨⟨⟨ds, gs, before, hw, _⟩, hl⟩, hz⟩ := hpre
  refine Calls.mono (contract (w.forCall tape i) w.heap.size i.args ds gs before hval (DataW.Whole.of_heap (w' := w.forCall tape i) (by rfl) hw) (hz.weights hw) (laidMet.of_heap (w' := w.forCall tape i) (by rfl) hl) hsh) ?_
  rintro e W' ⟨v, rfl, hp⟩
  exact ChangeSpec.post_blind hp
end Go.Eng

namespace Go.Eng
open Go
section
variable {P : Program} {ops : Array Oper} {Q : Exit → Act → World → Prop} {n : Cx} {F : Fm} {h h' : List Res} {m : View} {rest : List Oper}
variable {ty : TypeId} {pos : String} {after : Array Edge} {d : Nat} {v : Value}
theorem CT.perm {f : FuncId} {args : List Value} {h1 h2 h1' h2' : List Res} (hp : h1.Perm h2) (c : CT P f args h2 m (Pure1 h2' v)) (hp' : h2'.Perm h1') : CT P f args h1 m (Pure1 h1' v) :=
  ⟨c.enter, fun w st => Calls.mono (c.calls w (st.perm hp)) (by rintro e w' ⟨v', m', h', rfl, hle, hst, rfl, rfl⟩; exact ⟨v', m', h1', rfl, hle, hst.perm hp', rfl, rfl⟩)⟩
theorem CT.frame {f : FuncId} {args : List Value} {fr hp hp' hs : List Res} (c : CT P f args (hp ++ (fr ++ hs)) m (Pure1 (hp' ++ (fr ++ hs)) v)) : CT P f args (fr ++ (hp ++ hs)) m (Pure1 (fr ++ (hp' ++ hs)) v) :=
  CT.perm (List.perm_append_comm_assoc fr hp hs) c (List.perm_append_comm_assoc hp' fr hs)
theorem WL.callGK {f : Operand} {args : List Operand} {tys : Array TypeId} {vs first cap : List Value} {q : FuncId} {gd : Nat × Bool} {c : Bool} (hg : GU ops n F gd c)
    (p : c = true → Ev n F f (.func (.func q) first.toArray cap.toArray) ∧ Evs n F args vs ∧ CT P q (first ++ vs ++ cap) h m (Pure1 h' v)) (h0 : c = false → h' = h) (hd : d < n.num)
    (k : WL P ops Q n rest ((d, gv c v) :: F) h' m) : WL P ops Q n (⟨some d, .call ⟨.value f, args.toArray, tys⟩, ty, pos, after, some gd⟩ :: rest) F h m := by
  cases c with
  | false =>
    cases h0 rfl
    exact WL.skG hg rfl hd k
  | true =>
    obtain ⟨ef, ea, ct⟩ := p rfl
    refine WL.unG hg rfl (WL.callK ef ea ct hd ?_)
    rintro _ _ ⟨rfl, rfl⟩
    exact k
theorem SR.callGK {eff : List Nat} {t : Tl} {hs hp hp' : List Res} {i : Nat} {s : Tr} {f : Operand} {args : List Operand} {tys : Array TypeId} {vs first cap : List Value} {q : FuncId} {gd : Nat × Bool} {c : Bool}
    (ho : ops[i]? = some ⟨some d, .call ⟨.value f, args.toArray, tys⟩, ty, pos, after, some gd⟩) (he : eff.contains i = true) (hg : GU ops n F gd c)
    (p : c = true → Ev n F f (.func (.func q) first.toArray cap.toArray) ∧ Evs n F args vs ∧ ∀ fr, CT P q (first ++ vs ++ cap) (fr ++ (hp ++ hs)) m (Pure1 (fr ++ (hp' ++ hs)) v)) (h0 : c = false → hp' = hp) (hd : d < n.num)
    (k : SR P ops Q n eff t hs s ((d, gv c v) :: F) hp' m) : SR P ops Q n eff t hs (.op i s) F hp m := ⟨_, ho, fun x hx => by cases hx; exact hd, by
  rw [he]
  refine ⟨fun fr a w ha st => ?_⟩
  have hy := hg.wanted (dst := some d) (op := .call ⟨.value f, args.toArray, tys⟩) (ty := ty) (pos := pos) (after := after) ha
  cases c with
  | true =>
    refine ⟨fun _ => ?_, fun h => by rw [hy] at h; cases h⟩
    obtain ⟨ef, ea, ct⟩ := p rfl
    rw [run_call ha ef ea (ct fr).enter]
    refine Calls.mono ((ct fr).calls w st) ?_
    rintro e w' ⟨v', m', h', rfl, hle, hst, rfl, rfl⟩
    exact .inl ⟨_, rfl, m, hp', View.le.refl m, hst.back hle, nofun, k.e⟩
  | false =>
    cases h0 rfl
    exact ⟨fun h => (by rw [hy] at h; cases h), fun _ => ⟨nofun, k.e⟩⟩⟩
section
variable {eff : List Nat} {t : Tl} {hs hp : List Res} {i : Nat} {s : Tr} {op : Op}
/-- Reading what the region itself turns: ordered as an effect. -/
theorem SR.poE (ho : ops[i]? = some ⟨some d, op, ty, pos, after, none⟩) (he : eff.contains i = true) (p : ∀ fr, PO P ⟨some d, op, ty, pos, after, none⟩ n F (fr ++ (hp ++ hs)) m v) (hd : d < n.num)
    (k : SR P ops Q n eff t hs s ((d, v) :: F) hp m) (hmk : isMk ⟨some d, op, ty, pos, after, none⟩ = false := by rfl) : SR P ops Q n eff t hs (.op i s) F hp m := ⟨_, ho, fun x hx => by cases hx; exact hd, by
  rw [he]
  cases hr : isRd ⟨some d, op, ty, pos, after, none⟩ with
  | true => exact ⟨v, ⟨fun a w ha st => ⟨fun _ => (p []).e a w ha st, fun h => by simp [Region.wanted] at h⟩⟩, k.e⟩
  | false =>
    simp only [hmk, Bool.false_and]
    refine ⟨fun fr a w ha st => ⟨fun _ => ?_, fun h => by simp [Region.wanted] at h⟩⟩
    rw [(p fr).e a w ha st]
    exact ⟨m, hp, View.le.refl m, st, fun _ => List.Sublist.refl _, k.e⟩⟩
theorem isRd_guard {dst : Option Nat} {gd : Nat × Bool} : isRd ⟨dst, op, ty, pos, after, some gd⟩ = false := by
  unfold isRd
  split <;> simp_all
theorem isMk_guard {dst : Option Nat} {gd : Nat × Bool} : isMk ⟨dst, op, ty, pos, after, some gd⟩ = false := by
  unfold isMk
  split <;> simp_all
end
end
end Go.Eng

namespace Go.Eng
open Go
section
variable {P : Program} {ops : Array Oper} {Q : Exit → Act → World → Prop} {n : Cx} {F : Fm} {h h' : List Res} {m : View} {rest : List Oper}
variable {ty : TypeId} {pos : String} {after : Array Edge} {d : Nat} {v : Value}
end
end Go.Eng

namespace Go.Eng
open Go
section
variable {P : Program} {ops : Array Oper} {Q : Exit → Act → World → Prop} {n : Cx} {F : Fm} {h h' : List Res} {m : View} {rest : List Oper}
variable {ty : TypeId} {pos : String} {after : Array Edge} {d : Nat} {v : Value}
end
end Go.Eng

namespace Go.Eng
open Go Go.Sort
section
variable {P : Program} {ops : Array Oper} {Q : Exit → Act → World → Prop} {n : Cx} {F : Fm} {h h' : List Res} {m : View} {rest : List Oper} {dst : Option Nat} {g : Option (Nat × Bool)}
variable {ty : TypeId} {pos : String} {after : Array Edge} {d : Nat} {v : Value}
theorem SR.val {eff : List Nat} {t : Tl} {hs hp : List Res} {s : Tr} {v' : Value} (e : v = v') (k : SR P ops Q n eff t hs s ((d, v') :: F) hp m) : SR P ops Q n eff t hs s ((d, v) :: F) hp m := e ▸ k
end
end Go.Eng

namespace Go.Eng
open Go
section
variable {H : Type} {enc : TypeId × Value → H} {P : Program} {W : World} {held : Bool} {fuel : Nat} {t : TypeId} {cs : List Value} {x : DataW H × List MemPlace}
theorem rd_strW (ht : P.underlying t = some .string) (h : RdT enc P W held fuel t cs x) : ∃ l : List UInt8, cs = [str l] ∧ l.length ∈ x.1.weights P t := by
  obtain ⟨f, rfl⟩ := rd_pos h
  unfold RdT DataW.trod at h
  rw [ht] at h
  split at h <;> simp_all
  rename_i s
  obtain ⟨_, rfl⟩ := h
  exact ⟨s.data.toList, by simp, by simp [DataW.weights]⟩
theorem rd_structW {fs : Array Field} (ht : P.underlying t = some (.struct fs)) (h : RdT enc P W held fuel t cs x) :
    cs.length = P.cellsOf t ∧ ∃ f, fuel = f + 1 ∧ ∀ q ∈ fs.toList, ∃ (d : DataW H) (p : List MemPlace), RdT enc P W held f q.type ((cs.drop q.offset).take (P.cellsOf q.type)) (d, p) ∧ ∀ n ∈ d.weights P q.type, n ∈ x.1.weights P t := by
  have ht' := ht
  obtain ⟨f, rfl⟩ := rd_pos h
  unfold RdT DataW.trod at h
  rw [ht] at h
  split at h <;> simp_all
  obtain ⟨h1, xs, h2, hx⟩ := h
  intro q hq
  obtain ⟨j, hj⟩ := Array.getElem?_of_mem hq
  obtain ⟨e, k⟩ := mapM_get h2
  obtain ⟨y, hy, hr⟩ := k j q (by simpa using hj)
  refine ⟨y.1, ⟨y.2, hr⟩, fun n hn => ?_⟩
  subst hx
  unfold DataW.weights
  rw [ht']
  exact DataW.weights_mem_each (j := j) (by simp [hj]) (by simp [hy]) n hn
theorem weightsAll_mem {e : TypeId} {d : DataW H} : ∀ {l : List (DataW H)}, d ∈ l → ∀ n ∈ d.weights P e, n ∈ DataW.weightsAll P e l
  | y :: l, hd, n, hn => by
    unfold DataW.weightsAll
    rcases List.mem_cons.1 hd with rfl | hd
    · exact List.mem_append_left _ hn
    · exact List.mem_append_right _ (weightsAll_mem hd n hn)
theorem rd_sliceW {e : TypeId} (ht : P.underlying t = some (.slice e)) (h : RdT enc P W held fuel t cs x) :
    cs = [.slice none 0 0] ∨ ∃ a n c f, cs = [.slice (some a) n c] ∧ fuel = f + 1 ∧ n ≤ c ∧ c ≤ maxLen ∧ ∀ i, i < n → ∃ ys y, W.cells? 0 (a.add (i * P.cellsOf e)) (P.cellsOf e) = some ys ∧ RdT enc P W held f e ys y ∧ ∀ k ∈ y.1.weights P e, k ∈ x.1.weights P t := by
  rcases DataW.trod_slice ht h with ⟨rfl, _⟩ | ⟨a, n, c, el, rs, f, rfl, rfl, rfl, _, h1, h2, h3, h4, _, _⟩
  · exact .inl rfl
  · refine .inr ⟨a, n, c, f, rfl, rfl, h1, h2, fun i hi => ?_⟩
    have he := h4 i hi
    rw [List.getElem?_eq_getElem (by omega)] at he
    cases hc : W.cells? 0 (a.add (i * P.cellsOf e)) (P.cellsOf e) with
    | none => rw [hc] at he; cases he
    | some ys =>
      rw [hc] at he
      refine ⟨ys, el[i]'(by omega), rfl, he, fun k hk => ?_⟩
      unfold DataW.weights
      rw [ht]
      exact List.mem_cons_of_mem _ (List.mem_append_left _ (weightsAll_mem (List.mem_map.2 ⟨_, List.getElem_mem _, rfl⟩) k hk))
end
end Go.Eng

namespace Go.Eng
open Go
section
variable {P : Program} {ops : Array Oper} {Q : Exit → Act → World → Prop} {n : Cx} {F : Fm} {h h' : List Res} {m : View} {rest : List Oper}
variable {ty : TypeId} {pos : String} {after : Array Edge} {d : Nat} {v : Value} {eff : List Nat} {hs hp : List Res} {i : Nat} {s : Tr}
theorem SR.callU {t : Tl} {f : Operand} {args : List Operand} {tys : Array TypeId} {vs first cap : List Value} {q : FuncId} {gd : Nat × Bool} {c : Bool} {v : Value} (ho : ops[i]? = some ⟨some d, .call ⟨.value f, args.toArray, tys⟩, ty, pos, after, some gd⟩)
    (he : eff.contains i = true) (hg : GU ops n F gd c) (hc : c = true) (ef : Ev n F f (.func (.func q) first.toArray cap.toArray)) (ea : Evs n F args vs) (ct : ∀ fr, CT P q (first ++ vs ++ cap) (fr ++ (hp ++ hs)) m (Pure1 (fr ++ (hp ++ hs)) v)) (hd : d < n.num)
    (k : SR P ops Q n eff t hs s ((d, v) :: F) hp m) : SR P ops Q n eff t hs (.op i s) F hp m := by
  subst hc
  exact SR.callG ho he hg (fun _ => ⟨ef, ea, ct⟩) hd k
theorem SR.buildSliceU {t' : Tl} {t e k : Nat} {sz by_ : Nat} {ps : List (Nat × Operand)} {vs : List (Nat × Value)} {z : Value} {zs cs : List Value} {gd : Nat × Bool} {c : Bool}
    (ho : ops[i]? = some ⟨some d, .buildSlice t k ps.toArray, ty, pos, after, some gd⟩) (he : eff.contains i = true) (hg : GU ops n F gd c) (hc : c = true) (E : EL P t e sz by_) (hz : (P.info? e).bind (·.zero) = some z) (ev : EvP n F ps vs)
    (hzs : zeros z k = some zs) (hf : fillO (fun i => some (i * sz, sz)) zs vs = some cs) (hk : k * sz ≤ 16777216) (h0 : Nat.beq (k * sz) 0 = false) (hd : d < n.num)
    (kk : ∀ b, SR P ops Q n eff t' hs s ((d, .slice (some ⟨b, 0, none⟩) k k) :: F) (.pt b (.cells cs.toArray e (0, 0)) :: hp) m) :
    SR P ops Q n eff t' hs (.op i s) F hp m := ⟨_, ho, fun y hy => by cases hy; exact hd, by
  subst hc
  rw [he]
  simp only [isRd_guard, isMk_guard, Bool.false_and]
  refine ⟨fun fr f w hf' st => ?_⟩
  have hy := hg.wanted (dst := some d) (op := .buildSlice t k ps.toArray) (ty := ty) (pos := pos) (after := after) hf'
  refine ⟨fun _ => ?_, fun h => by rw [hy] at h; cases h⟩
  have hrun := run_buildSlice (P := P) w (dst := some d) (ty := ty) (pos := pos) (after := after) (g := some gd) E hz ev hzs hf hk h0 hf'
  rw [hrun]
  exact ⟨m, .pt w.heap.size (.cells cs.toArray e) :: hp, View.le.refl m, (st.alloc _).perm List.perm_middle.symm, fun _ => List.sublist_cons_self _ _, (kk _).e⟩⟩
end
end Go.Eng
end
/- Eng18 -/
section
namespace Go.Eng
open Go Go.RowKit

/-- A call of yield: a round is asked for, and ends in R. -/
def YieldR (P : Program) (l : Nat) (v : Value) (w : World) (R : Bool → World → Prop) : Prop :=
  ∃ fn tmps assign body, (Instr.yield l #[v]).run P w = .ok (.round l fn tmps assign body) w ∧
    RoundIn (fen none) 0 P l fn tmps assign body w fun e w' => ∃ b, e = .returned (.bool b) ∧ R b w'
theorem YieldR.mono {P : Program} {l : Nat} {v : Value} {w : World} {R R' : Bool → World → Prop} (h : YieldR P l v w R) (hr : ∀ b w', R b w' → R' b w') : YieldR P l v w R' := by
  obtain ⟨fn, tmps, assign, body, h1, h2⟩ := h
  exact ⟨fn, tmps, assign, body, h1, h2.mono fun e w' ⟨b, e1, e2⟩ => ⟨b, e1, hr b w' e2⟩⟩
/-- What the function that is ranged over knows of yield. -/
def YieldK {α : Type} (P : Program) (m : View) (l : Nat) (enc : α → Value) (xs : List α) (J : List α → List Res → Prop) (Jx : List Res → Prop) : Prop :=
  ∀ pre x post h fr w, xs = pre ++ x :: post → J pre h → St m (fr ++ h) w →
    YieldR P l (enc x) w fun b w' => ∃ h', St m (fr ++ h') w' ∧ ((b = true ∧ J (pre ++ [x]) h') ∨ (b = false ∧ Jx h'))

section
variable {P : Program} {ops : Array Oper} {Q : Exit → Act → World → Prop} {n : Cx} {F : Fm} {h h' : List Res} {m : View} {rest : List Oper}
variable {op : Op} {ty : TypeId} {pos : String} {after : Array Edge} {d : Nat} {v : Value}

theorem St.at {b : Nat} {o : Obj} {w : World} (s : St m h w) (hm : Res.pt b o ∈ h) : w.heap[b]? = some o := s.ok _ hm
theorem SR.appendE {eff : List Nat} {t' : Tl} {hs hp : List Res} {i : Nat} {s : Tr} {x y : Operand} {t e : TypeId} {sz by_ l cap k c l' : Nat} {a b : Option Addr} {xs ys zs : List Value} {hq : Value → List Res}
    (ho : ops[i]? = some ⟨some d, .call ⟨.builtin .append, #[x, y], #[t, t]⟩, ty, pos, after, none⟩) (he : eff.contains i = true) (E : EL P t e sz by_) (ex : Ev n F x (.slice a l cap)) (ey : Ev n F y (.slice b k c))
    (rd : Rd m (hp ++ hs) b k c sz ys) (h1 : ∀ u ∈ ys, u.oneCell' = true) (hl : l + k = l') (hz : xs ++ ys = zs) (h63 : l' ≤ 9223372036854775807) (hbytes : l' * by_ ≤ 140737488355328)
    (u : ∀ v', Upd hp (.row (.slice a l cap) e sz l xs) (.row v' e sz l' zs) (hq v')) (hd : d < n.num) (kk : ∀ a' cap', SR P ops Q n eff t' hs s ((d, .slice a' l' cap') :: F) (hq (.slice a' l' cap')) m) :
    SR P ops Q n eff t' hs (.op i s) F hp m := by
  subst hl hz
  exact SR.append ho he E ex ey rd h1 h63 hbytes u hd kk
/-- A list of operations among which yield is called. -/
structure WY (P : Program) (ops : Array Oper) (Q : Exit → Act → World → Prop) (n : Cx) (l : List Oper) (F : Fm) (h : List Res) (m : View) : Prop where
  e : ∀ a w, Fr n F a → St m h w → wpListIn (fen n.ro) 0 P ops (cutQ Q) l a w
theorem WY.ofWL {l : List Oper} (hp : l.all plainOp = true) (k : WL P ops Q n l F h m) : WY P ops Q n l F h m :=
  .mk fun a w ha hs => list_to_in l a w (by simpa using hp) (k.e a w ha hs)
theorem WC.regionY {id : Nat} {l : List Oper} {G : List (Option Nat)} (hG : dsts l = some G) (k : ∀ ops : Array Oper, (∀ j t, G[j]? = some (some t) → gslot ops j = some t) → WY P ops Q n l F h m) : WC P (.region id l.toArray false) Q n F h m := .mk fun a w ha hs =>
  wpIn_region_lit ((k _ fun j t hj => by
    have hG := dsts_eq hG
    subst hG
    unfold gslot
    simp only [List.getElem?_map] at hj
    simp only [List.getElem?_toArray]
    cases hl : l[j]? with
    | none => simp [hl] at hj
    | some o => simpa [hl] using hj).e a w ha hs)

theorem cutQ_noGoto {Q : Exit → Act → World → Prop} {e : Exit} {a : Act} {w : World} (h : cutQ (Exit.noGoto Q) e a w) : Exit.noGoto (cutQ Q) e a w := by
  cases e <;> exact h
theorem WC.scope {c : Code} (hro : n.ro = none) (k : WC P c (Exit.noGoto Q) n F h m) : WC P (.scope c) Q n F h m := .mk fun a w ha hs => by
  have hk := k.e a w ha hs
  rw [hro] at hk ⊢
  exact wpIn_wide.2 (wp_scope_straight (wpIn_wide.1 (wpIn_mono hk fun _ _ _ q => cutQ_noGoto q)))
theorem wpIn_of_run {o : Oper} {a : Act} {w w' : World} {K : Act → World → Prop} {v : Value} (hro : n.ro = none) (hr : (execOp a.eval o).run P w = .ok (.value v) w') (h : K (a.put o.dst v) w') : o.wpIn (fen n.ro) 0 P a w K Q := by
  refine ⟨fun _ _ => trivial, ?_⟩
  show o.uponIn (fen n.ro) 0 P a K Q ((o.semAt n.ro a.eval).run P w)
  rw [hro, Oper.semAt_none, hr]
  exact h
theorem WY.po (hro : n.ro = none) (hp : PO P ⟨some d, op, ty, pos, after, none⟩ n F h m v) (hn : d < n.num) (k : WY P ops Q n rest ((d, v) :: F) h m) :
    WY P ops Q n (⟨some d, op, ty, pos, after, none⟩ :: rest) F h m := .mk fun a w ha hs => by
  unfold wpListIn
  rw [if_pos (show Region.wanted _ _ = true from rfl)]
  exact wpIn_of_run hro (hp a w ha hs) (k.e _ _ (ha.put hn v) hs)
theorem WY.poG {gd : Nat × Bool} {c : Bool} (hro : n.ro = none) (hg : GU ops n F gd c) (hp : c = true → PO P ⟨some d, op, ty, pos, after, some gd⟩ n F h m v) (hn : d < n.num) (k : WY P ops Q n rest ((d, gv c v) :: F) h m) :
    WY P ops Q n (⟨some d, op, ty, pos, after, some gd⟩ :: rest) F h m := .mk fun a w ha hs => by
  have hy := hg.wanted (dst := some d) (op := op) (ty := ty) (pos := pos) (after := after) ha
  unfold wpListIn
  cases c with
  | true =>
    rw [if_pos hy]
    exact wpIn_of_run hro (hp rfl a w ha hs) (k.e _ _ (ha.put hn v) hs)
  | false =>
    rw [if_neg (by rw [hy]; decide)]
    exact ⟨fun _ _ => trivial, k.e _ _ (ha.put hn undef) hs⟩
def markD (D : Nat) : Deferred := { target := .collected D, args := #[] }
/-- How the body of a round may be left. -/
def roundQ (m : View) (I X : List Res → Prop) (fr : List Res) : Exit → Act → World → Prop
  | .normal, _, w => ∃ hc, I hc ∧ St m (hc ++ fr) w
  | .ret, _, w => ∃ hc, X hc ∧ St m (hc ++ fr) w
  | _, _, _ => False
theorem roundNext {I : List Res → Prop} {fr : List Res} (hc : List Res) (hd : (hc ++ fr).Sublist h) (hI : I hc) : ∀ a w, Fr n F a → St m h w → ∃ hc, I hc ∧ St m (hc ++ fr) w := fun _ _ _ st => ⟨hc, hI, st.sub hd⟩
theorem perm2 {α : Type} (a b : α) (s t : List α) : (s ++ a :: b :: t).Perm (a :: b :: (t ++ s)) :=
  List.perm_middle.trans ((List.perm_middle.trans ((List.perm_append_comm).cons b)).cons a)
theorem perm2' {α : Type} (a b : α) (s t : List α) : (s ++ a :: b :: t).Perm (t ++ a :: b :: s) :=
  (perm2 a b s t).trans (List.perm_middle.trans ((List.perm_middle).cons a)).symm

theorem WC.rangeFunc {α : Type} {N : Nat} {g : Operand} {p : Tmp} {assign body : Code} {gf : FuncId} {lb : List Value} (enc : α → Value) (xs : List α) (hi hc0 : List Res) (I : List α → List Res → Prop) (X : List Res → Prop)
    (hpN : p < N) (eg : Ev ⟨N, none, []⟩ F g (.func (.func gf) #[] lb.toArray)) (ee : ∀ as w, (callFunc gf as).run P w = .ok (.enter gf as) w)
    (it : ∀ (l : Nat) (J : List α → List Res → Prop) (Jx : List Res → Prop) (h0 : List Res), YieldK P m l enc xs J Jx → J [] h0 → CT P gf (.func (.yield l) #[] #[] :: lb) (hi ++ h0) m (fun _ _ h' => J xs h' ∨ Jx h'))
    (hI0 : I [] hc0) (hh : h = hi ++ hc0)
    (round : ∀ (l : Nat) pre x post hc, xs = pre ++ x :: post → I pre hc → ∀ fr (K : Act → World → Prop),
      (∀ F1 h1, (∀ fr2, WC P body (roundQ m (I (pre ++ [x])) X fr2) ⟨N, some l, []⟩ F1 (h1 ++ fr2) m) → ∀ a w, Fr ⟨N, some l, []⟩ F1 a → St m (h1 ++ fr) w → K a w) →
      WC P assign (Exit.then K (fun _ _ _ => False)) ⟨N, some l, []⟩ ((p, enc x) :: F) (hc ++ fr) m)
    (done : ∀ D hc, I xs hc → ∀ a w, Fr ⟨N, none, [markD D]⟩ F a → St m (.pt D (.deferred (some [])) :: hc) w → Q .normal a w)
    (stop : ∀ D hc, X hc → ∀ a w, Fr ⟨N, none, [markD D]⟩ F a → St m (.pt D (.deferred (some [])) :: hc) w → Q .ret a w) :
    WC P (.rangeFunc g #[p] assign body) Q ⟨N, none, []⟩ F h m := .mk fun a w ha hs => by
  subst hh
  have hds : a.defers = [] := ha.d
  refine wpIn_rangeFunc fun fn hfn => ?_
  obtain ⟨rec, hrec⟩ : ∃ rec : LoopState → Option Code → Loop, rec = fun st pe => { state := st, pending := pe, fn, tmps := a.tmps, params := #[p], assign, body, defers := w.heap.size } := ⟨_, rfl⟩
  obtain ⟨D, hD⟩ : ∃ D, D = w.heap.size := ⟨_, rfl⟩
  obtain ⟨l, hl⟩ : ∃ l, l = w.heap.size + 1 := ⟨_, rfl⟩
  have st1 := (hs.alloc (.deferred (some []))).alloc (.loop (rec .ready none))
  rw [World.size_alloc] at st1
  obtain ⟨W1, hW1⟩ : ∃ W1, W1 = (w.alloc (.deferred (some []))).alloc (.loop (rec .ready none)) := ⟨_, rfl⟩
  rw [← hW1, ← hD, show D + 1 = l by omega] at st1
  have frm : Fr ⟨N, none, [markD D]⟩ F { a with defers := [markD D] ++ a.defers } := ⟨by show [markD D] ++ a.defers = _; rw [hds]; rfl, ha.sz, ha.get⟩
  refine ⟨l, [markD D], W1, { target := .fn (.func gf) lb.toArray, args := #[.func (.yield l) #[] #[]] }, W1, gf, #[.func (.yield l) #[] #[]] ++ lb.toArray, W1, ?_, ?_, fun _ _ => trivial, ?_, fun hx => (by cases hx), ?_⟩
  · rw [hW1, hrec, hl, hD]
    exact run_enterLoop_outer _ _ _ _ _
  · simp only [resolve, eg a ha]
    simp [go_sem]
  · simp [invoke, go_sem, ee]
  · have hct := it l (fun pre h' => ∃ hc, h' = .pt l (.loop (rec .ready none)) :: .pt D (.deferred (some [])) :: hc ∧ I pre hc) (fun h' => ∃ hc, h' = .pt l (.loop (rec .done (some .ret))) :: .pt D (.deferred (some [])) :: hc ∧ X hc)
      (.pt l (.loop (rec .ready none)) :: .pt D (.deferred (some [])) :: hc0) ?_ ⟨hc0, rfl, hI0⟩
    · have hcl := hct.calls W1 (st1.perm (perm2 _ _ hi hc0 |>.trans ((List.perm_append_comm.cons _).cons _) |>.symm))
      have e0 : (#[.func (.yield l) #[] #[]] ++ lb.toArray : Array Value) = (.func (.yield l) #[] #[] :: lb).toArray := by simp
      rw [e0]
      refine callsIn_wide.2 (Calls.mono hcl ?_)
      rintro e w' ⟨v, m', h', rfl, hle, hst, hR⟩
      have hst := hst.back hle
      rcases hR with ⟨hc, rfl, hI⟩ | ⟨hc, rfl, hX⟩
      · have h1 : w'.heap[l]? = some (.loop (rec .ready none)) := hst.at (by simp)
        refine ⟨none, _, by have := run_endLoop (P := P) h1 (by rw [hrec]; simp); rw [hrec] at this; exact this, ?_⟩
        exact done D hc hI _ _ frm ((hst.setObj Upd.here).sub (List.sublist_cons_self _ _))
      · have h1 : w'.heap[l]? = some (.loop (rec .done (some .ret))) := hst.at (by simp)
        refine ⟨some .ret, _, by have := run_endLoop (P := P) h1 (by rw [hrec]; simp); rw [hrec] at this; exact this, ?_⟩
        exact wpIn_ret (stop D hc hX _ _ frm ((hst.setObj Upd.here).sub (List.sublist_cons_self _ _)))
    · rintro pre x post h' fr w2 hx ⟨hc, rfl, hI⟩ st2
      have h1 : w2.heap[l]? = some (.loop (rec .ready none)) := st2.at (by simp)
      have hy : (Instr.yield l #[enc x]).run P w2 = .ok (.round l fn (a.tmps.setIfInBounds p (enc x)) assign body) w2 := by
        have := run_yield (P := P) (args := #[enc x]) h1 (by rw [hrec]; rfl)
        rw [hrec] at this
        simpa using this
      refine ⟨fn, _, assign, body, hy, ?_⟩
      refine roundIn_of_wpIn hfn ?_
      obtain ⟨fr1, hfr1⟩ : ∃ fr1, fr1 = Res.pt l (.loop (rec .ready none)) :: .pt D (.deferred (some [])) :: fr := ⟨_, rfl⟩
      have fr0 : Fr ⟨N, some l, []⟩ ((p, enc x) :: F) { tmps := a.tmps.setIfInBounds p (enc x), defers := [] } := by
        have h2 := ha.put hpN (enc x)
        exact ⟨rfl, h2.sz, h2.get⟩
      have hw := (round l pre x post hc hx hI fr1 (fun a₁ w₁ => ∃ w₂, (Instr.beginRound l).run P w₁ = .ok () w₂ ∧ body.wpIn (fen (some l)) 0 P
        (roundPost P l fun e w' => ∃ b, e = .returned (.bool b) ∧ ∃ h', St m (fr ++ h') w' ∧ ((b = true ∧ ∃ hc, h' = .pt l (.loop (rec .ready none)) :: .pt D (.deferred (some [])) :: hc ∧ I (pre ++ [x]) hc) ∨ (b = false ∧ ∃ hc, h' = .pt l (.loop (rec .done (some .ret))) :: .pt D (.deferred (some [])) :: hc ∧ X hc))) a₁ w₂) ?_).e _ w2 fr0
        (by rw [hfr1]; exact st2.perm (perm2' _ _ fr hc))
      · exact wpIn_mono hw fun e a' w' q => cutQ_imp q
      · intro F1 h1' hb a1 w1 hf1 hs1
        rw [hfr1] at hs1
        have h2 : w1.heap[l]? = some (.loop (rec .ready none)) := hs1.at (by simp)
        refine ⟨_, run_beginRound h2 (by rw [hrec]), ?_⟩
        have hs2 := hs1.setObj (o' := .loop { rec .ready none with state := .busy }) (Upd.right (l := h1') Upd.here)
        refine wpIn_mono ((hb _).e a1 _ hf1 hs2) ?_
        intro e a3 w3 q
        cases e with
        | normal =>
          obtain ⟨hc', hI', hs3⟩ := q
          have h3 : w3.heap[l]? = some (.loop { rec .ready none with state := .busy }) := hs3.at (by simp)
          refine ⟨_, _, run_endRound none h3, true, rfl, .pt l (.loop (rec .ready none)) :: .pt D (.deferred (some [])) :: hc', ?_, .inl ⟨rfl, hc', rfl, hI'⟩⟩
          have hs4 := hs3.setObj (o' := .loop { ({ rec .ready none with state := .busy } : Loop) with state := if (none : Option Code).isNone then .ready else .done, pending := none }) (Upd.right (l := hc') Upd.here)
          have hs5 := hs4.perm (perm2' _ _ hc' fr)
          rw [hrec] at hs5 ⊢
          exact hs5
        | ret =>
          obtain ⟨hc', hI', hs3⟩ := q
          have h3 : w3.heap[l]? = some (.loop { rec .ready none with state := .busy }) := hs3.at (by simp)
          refine ⟨_, _, run_endRound (some .ret) h3, false, rfl, .pt l (.loop (rec .done (some .ret))) :: .pt D (.deferred (some [])) :: hc', ?_, .inr ⟨rfl, hc', rfl, hI'⟩⟩
          have hs4 := hs3.setObj (o' := .loop { ({ rec .ready none with state := .busy } : Loop) with state := if (some Code.ret).isNone then .ready else .done, pending := some .ret }) (Upd.right (l := hc') Upd.here)
          have hs5 := hs4.perm (perm2' _ _ hc' fr)
          rw [hrec] at hs5 ⊢
          exact hs5
        | exit id => exact q.elim
        | goto t => exact q.elim
        | panic ch => exact q.elim
        | outgrown => exact q.elim

/-- A function whose body holds a range over a function. -/
def noPan (Q : Exit → Act → World → Prop) : Exit → Act → World → Prop
  | .panic _, _, _ => False
  | e, a, w => Q e a w
theorem noPan_imp {Q : Exit → Act → World → Prop} {e : Exit} {a : Act} {w : World} (h : noPan Q e a w) : Q e a w := by
  cases e <;> first | exact h | exact h.elim
theorem CT.bodyM {f : FuncId} {args : List Value} {R : Value → View → List Res → Prop} {fn : Func} {c : Code} {F0 : Fm} {N : Nat} (he : ∀ as w, (callFunc f as).run P w = .ok (.enter f as) w)
    (hf : P.funcs[f]? = some fn) (hb : fn.body = some c) (hN : fn.ntmps = N) (hl : args.length ≤ N) (hF : enumO 0 args = some F0) (k : WC P c (noPan (bodyPostM (fen none) 0 P fn (RQ m R))) ⟨N, none, []⟩ F0 h m) : CT P f args h m R := by
  have hF := enumO_eq hF
  subst hF hN
  exact ⟨he, fun w hs => callsIn_wide.1 (callsIn_of_wp_marks (F := fen none) (n := 0) hf hb trivial (wpIn_mono (k.e _ w (Fr.enter args fn.ntmps hl) hs) fun _ _ _ q => noPan_imp (cutQ_imp q)))⟩
theorem endM_ {fn : Func} {ex : Exit} {R : Ending → World → Prop} {v : Value} {h1 : List Res} (hex : ex = .ret ∨ ex = .normal) (hr : ∀ a w, Fr n F a → St m h1 w → (results fn a.tmps).run P w = .ok v w) (hR : ∀ w, St m h1 w → R (.returned v) w)
    (hds : (n.ds = [] ∧ h = h1) ∨ ∃ D t, n.ds = [markD D] ∧ h = .pt D (.deferred (some [])) :: t ∧ h1 = t) :
    ∀ a w, Fr n F a → St m h w → bodyPostM (fen none) 0 P fn R ex a w := fun a w ha hs => by
  have key : LeavesInM (fen none) 0 P fn a.tmps R a.defers .returning w := by
    rcases hds with ⟨e, rfl⟩ | ⟨D, t, e, rfl, rfl⟩
    · rw [ha.d, e]
      exact ⟨v, hr a w ha hs, hR w hs⟩
    · rw [ha.d, e]
      have hk : w.heap[D]? = some (.deferred (some [])) := hs.at (by simp)
      have hs2 := (hs.setObj (o' := .deferred none) Upd.here).sub (List.sublist_cons_self _ _)
      exact ⟨by simp, .inl ⟨D, _, rfl, run_takeDeferred hk, v, hr a _ ha hs2, hR _ hs2⟩⟩
  rcases hex with rfl | rfl <;> exact key
end
end Go.Eng

namespace Go.Eng
open Go Go.RowKit
section
variable {P : Program} {ops : Array Oper} {Q : Exit → Act → World → Prop} {n : Cx} {F : Fm} {h h' : List Res} {m : View} {rest : List Oper}
variable {op : Op} {ty : TypeId} {pos : String} {after : Array Edge} {d : Nat} {v : Value} {dst : Option Nat} {g : Option (Nat × Bool)}
end
end Go.Eng

namespace Go.Eng
open Go Go.RowKit
section
variable {P : Program} {ops : Array Oper} {Q : Exit → Act → World → Prop} {n : Cx} {F : Fm} {m : View}
variable {ty : TypeId} {pos : String} {after : Array Edge} {d : Nat} {eff : List Nat} {hs hp : List Res} {i : Nat} {s : Tr} {t' : Tl}
end
end Go.Eng

namespace Go.Eng
open Go Go.RowKit
/-- What a call ends in that may panic. -/
def RX (m : View) (R : Value → View → List Res → Prop) (X : Value → List Res → Prop) (e : Ending) (w : World) : Prop :=
  RQ m R e w ∨ ∃ v h', e = .panicked [{ v := v, recovered := false }] ∧ St m h' w ∧ X v h'
structure CX (P : Program) (f : FuncId) (args : List Value) (h : List Res) (m : View) (R : Value → View → List Res → Prop) (X : Value → List Res → Prop) : Prop where
  enter : ∀ as w, (callFunc f as).run P w = .ok (.enter f as) w
  calls : ∀ w, St m h w → Calls P f args.toArray w (RX m R X)
section
variable {P : Program} {ops : Array Oper} {Q : Exit → Act → World → Prop} {n : Cx} {F : Fm} {h h' : List Res} {m : View} {rest : List Oper}
variable {op : Op} {ty : TypeId} {pos : String} {after : Array Edge} {d : Nat} {v : Value} {dst : Option Nat} {g : Option (Nat × Bool)}
theorem CX.ofCT {f : FuncId} {args : List Value} {R : Value → View → List Res → Prop} {X : Value → List Res → Prop} (c : CT P f args h m R) : CX P f args h m R X := ⟨c.enter, fun w hs => Calls.mono (c.calls w hs) fun _ _ q => .inl q⟩
theorem CX.mono {f : FuncId} {args : List Value} {R R' : Value → View → List Res → Prop} {X X' : Value → List Res → Prop} (c : CX P f args h m R X) (hr : ∀ v m' h', R v m' h' → R' v m' h') (hx : ∀ v h', X v h' → X' v h') : CX P f args h m R' X' :=
  ⟨c.enter, fun w hs => Calls.mono (c.calls w hs) fun _ _ q => q.imp (fun ⟨v, m', h', e, a, b, r⟩ => ⟨v, m', h', e, a, b, hr _ _ _ r⟩) fun ⟨v, h', e, s, x⟩ => ⟨v, h', e, s, hx _ _ x⟩⟩
theorem CX.argsE {f : FuncId} {args args' : List Value} {R : Value → View → List Res → Prop} {X : Value → List Res → Prop} (e : args = args') (c : CX P f args' h m R X) : CX P f args h m R X := e ▸ c
theorem CX.body {f : FuncId} {args : List Value} {R : Value → View → List Res → Prop} {X : Value → List Res → Prop} {fn : Func} {c : Code} {F0 : Fm} {N : Nat} (he : ∀ as w, (callFunc f as).run P w = .ok (.enter f as) w)
    (hf : P.funcs[f]? = some fn) (hb : fn.body = some c) (hN : fn.ntmps = N) (hl : args.length ≤ N) (hF : enumO 0 args = some F0) (k : WC P c (bodyPost P fn (RX m R X)) ⟨N, none, []⟩ F0 h m) : CX P f args h m R X := by
  have hF := enumO_eq hF
  subst hF hN
  exact ⟨he, fun w hs => calls_of_wp hf hb (wpIn_wide.1 (wpIn_mono (k.e _ w (Fr.enter args fn.ntmps hl) hs) fun _ _ _ q => cutQ_imp q))⟩
theorem WL.panic {x : Operand} {t : TypeId} {u : Value} (ex : Ev n F x (.iface t u)) (k : ∀ a w, Fr n F a → St m h w → Q (.panic [{ v := .iface t u, recovered := false }]) a w) :
    WL P ops Q n (⟨dst, .panic x, ty, pos, after, none⟩ :: rest) F h m := .mk fun a w ha hs => by
  refine wpList_of_wp rfl ?_
  unfold Oper.wp
  have hr : (execOp a.eval ⟨dst, .panic x, ty, pos, after, none⟩).run P w = .halt (.panic (.iface t u)) w := by
    simp [execOp, ex a ha]
    rfl
  rw [hr]
  exact k a w ha hs
theorem WL.callX {f : Operand} {args : List Operand} {tys : Array TypeId} {vs first cap : List Value} {q : FuncId} {R : Value → List Res → Prop} {X : Value → List Res → Prop} (ef : Ev n F f (.func (.func q) first.toArray cap.toArray)) (ea : Evs n F args vs)
    (c : CX P q (first ++ vs ++ cap) h m (fun v _ h' => R v h') X) (hd : d < n.num) (kx : ∀ v h', X v h' → ∀ a w, Fr n F a → St m h' w → Q (.panic [{ v := v, recovered := false }]) a w) (k : ∀ v h', R v h' → WL P ops Q n rest ((d, v) :: F) h' m) :
    WL P ops Q n (⟨some d, .call ⟨.value f, args.toArray, tys⟩, ty, pos, after, none⟩ :: rest) F h m := .mk fun a w ha hs => by
  refine wpList_of_wp rfl ?_
  unfold Oper.wp
  rw [run_call ha ef ea c.enter]
  refine Calls.mono (c.calls w hs) ?_
  rintro e w' (⟨v, m', h', rfl, hle, hst, hR⟩ | ⟨v, h', rfl, hst, hX⟩)
  · exact k v h' hR _ _ (ha.put hd v) (hst.back hle)
  · exact kx v h' hX a w' ha hst
theorem SR.callX {eff : List Nat} {t : Tl} {hs hp : List Res} {i : Nat} {s : Tr} {f : Operand} {args : List Operand} {tys : Array TypeId} {vs first cap : List Value} {q : FuncId} {R : Value → List Res → Prop} {X : List Res → Value → List Res → Prop}
    (ho : ops[i]? = some ⟨some d, .call ⟨.value f, args.toArray, tys⟩, ty, pos, after, none⟩) (he : eff.contains i = true) (ef : Ev n F f (.func (.func q) first.toArray cap.toArray)) (ea : Evs n F args vs)
    (c : ∀ fr, CX P q (first ++ vs ++ cap) (hp ++ (fr ++ hs)) m (fun v _ h' => ∃ hp', h' = hp' ++ (fr ++ hs) ∧ R v hp') (X fr)) (hd : d < n.num)
    (kx : ∀ fr v h', X fr v h' → ∀ a w, Fr n [] a → St m h' w → Q (.panic [{ v := v, recovered := false }]) a w) (k : ∀ v hp', R v hp' → SR P ops Q n eff t hs s ((d, v) :: F) hp' m) :
    SR P ops Q n eff t hs (.op i s) F hp m := ⟨_, ho, fun x hx => by cases hx; exact hd, by
  rw [he]
  refine ⟨fun fr a w ha st => ⟨fun _ => ?_, fun h => by simp [Region.wanted] at h⟩⟩
  rw [run_call ha ef ea (c fr).enter]
  have hpm : (fr ++ (hp ++ hs)).Perm (hp ++ (fr ++ hs)) := by
    rw [← List.append_assoc, ← List.append_assoc]
    exact List.perm_append_comm.append_right hs
  refine Calls.mono ((c fr).calls w (st.perm hpm)) ?_
  rintro e w' (⟨v, m', h', rfl, hle, hst, hp', rfl, hR⟩ | ⟨v, h', rfl, hst, hX⟩)
  · refine .inl ⟨v, rfl, m, hp', View.le.refl m, (hst.back hle).perm ?_, nofun, (k v hp' hR).e⟩
    rw [← List.append_assoc, ← List.append_assoc]
    exact List.perm_append_comm.append_right hs
  · exact .inr ⟨_, rfl, fun a' ha' => kx fr v h' hX a' w' ha' hst⟩⟩
theorem SR.callXU {eff : List Nat} {t : Tl} {hs hp : List Res} {i : Nat} {s : Tr} {f : Operand} {args : List Operand} {tys : Array TypeId} {vs first cap : List Value} {q : FuncId} {gd : Nat × Bool} {c : Bool} {R : Value → List Res → Prop} {X : List Res → Value → List Res → Prop}
    (ho : ops[i]? = some ⟨some d, .call ⟨.value f, args.toArray, tys⟩, ty, pos, after, some gd⟩) (he : eff.contains i = true) (hg : GU ops n F gd c) (hc : c = true) (ef : Ev n F f (.func (.func q) first.toArray cap.toArray)) (ea : Evs n F args vs)
    (ct : ∀ fr, CX P q (first ++ vs ++ cap) (hp ++ (fr ++ hs)) m (fun v _ h' => ∃ hp', h' = hp' ++ (fr ++ hs) ∧ R v hp') (X fr)) (hd : d < n.num)
    (kx : ∀ fr v h', X fr v h' → ∀ a w, Fr n [] a → St m h' w → Q (.panic [{ v := v, recovered := false }]) a w) (k : ∀ v hp', R v hp' → SR P ops Q n eff t hs s ((d, v) :: F) hp' m) :
    SR P ops Q n eff t hs (.op i s) F hp m := ⟨_, ho, fun x hx => by cases hx; exact hd, by
  subst hc
  rw [he]
  refine ⟨fun fr a w ha st => ?_⟩
  have hy := hg.wanted (dst := some d) (op := .call ⟨.value f, args.toArray, tys⟩) (ty := ty) (pos := pos) (after := after) ha
  refine ⟨fun _ => ?_, fun h => by rw [hy] at h; cases h⟩
  rw [run_call ha ef ea (ct fr).enter]
  have hpm : (fr ++ (hp ++ hs)).Perm (hp ++ (fr ++ hs)) := by
    rw [← List.append_assoc, ← List.append_assoc]
    exact List.perm_append_comm.append_right hs
  refine Calls.mono ((ct fr).calls w (st.perm hpm)) ?_
  rintro e w' (⟨v, m', h', rfl, hle, hst, hp', rfl, hR⟩ | ⟨v, h', rfl, hst, hX⟩)
  · refine .inl ⟨v, rfl, m, hp', View.le.refl m, (hst.back hle).perm ?_, nofun, (k v hp' hR).e⟩
    rw [← List.append_assoc, ← List.append_assoc]
    exact List.perm_append_comm.append_right hs
  · exact .inr ⟨_, rfl, fun a' ha' => kx fr v h' hX a' w' ha' hst⟩⟩
end
end Go.Eng

namespace Go.Eng
open Go Go.RowKit
def defD (q : FuncId) (cap : List Value) : Deferred := { target := .fn (.func q) cap.toArray, args := #[] }
section
variable {P : Program} {ops : Array Oper} {Q : Exit → Act → World → Prop} {n : Cx} {F : Fm} {h h' : List Res} {m : View} {rest : List Oper}
variable {op : Op} {ty : TypeId} {pos : String} {after : Array Edge} {d : Nat} {v : Value} {dst : Option Nat} {g : Option (Nat × Bool)}
theorem WY.defer {f : Operand} {tys : Array TypeId} {q : FuncId} {cap : List Value} (hro : n.ro = none) (ef : Ev n F f (.func (.func q) #[] cap.toArray))
    (k : ∀ a w, Fr { n with ds := defD q cap :: n.ds } F a → St m h w → Q .normal a w) :
    WY P ops Q n [⟨none, .defer ⟨.value f, #[], tys⟩, ty, pos, after, none⟩] F h m := .mk fun a w ha hs => by
  unfold wpListIn
  rw [if_pos (show Region.wanted _ _ = true from rfl)]
  refine ⟨fun _ _ => trivial, ?_⟩
  show Oper.uponIn (fen n.ro) 0 P _ a _ (cutQ Q) ((Oper.semAt n.ro a.eval _).run P w)
  rw [hro, Oper.semAt_none]
  have hr : (execOp a.eval ⟨none, .defer ⟨.value f, #[], tys⟩, ty, pos, after, none⟩).run P w = .ok (.defer (defD q cap)) w := by
    simp [execOp, resolve, ef a ha, Deferred.ofValue, defD]
  rw [hr]
  exact k _ w ⟨by show defD q cap :: a.defers = _; rw [ha.d], by simpa [Act.put] using ha.sz, fun t v ht => by simpa [Act.put] using ha.get t v ht⟩ hs
end
end Go.Eng

namespace Go.Eng
open Go Go.RowKit
section
variable {P : Program} {ops : Array Oper} {Q : Exit → Act → World → Prop} {n : Cx} {F : Fm} {m : View}
variable {ty : TypeId} {pos : String} {after : Array Edge} {d : Nat}
theorem SR.callF {α : Type} {enc : α → List Value} {e sz : Nat} {xs : List α} {eff : List Nat} {t : Tl} {hs hp : List Res} {i : Nat} {s : Tr} {f : Operand} {args : List Operand} {tys : Array TypeId} {vs first cap : List Value} {q : FuncId}
    (ho : ops[i]? = some ⟨some d, .call ⟨.value f, args.toArray, tys⟩, ty, pos, after, none⟩) (he : eff.contains i = true) (ef : Ev n F f (.func (.func q) first.toArray cap.toArray)) (ea : Evs n F args vs)
    (c : ∀ fr, CT P q (first ++ vs ++ cap) (fr ++ (hp ++ hs)) m (fun v _ h' => OwnF enc e sz (fr ++ (hp ++ hs)) xs v h')) (hd : d < n.num)
    (k : ∀ a c, SR P ops Q n eff t hs s ((d, .slice a xs.length c) :: F) (.row (.slice a xs.length c) e sz xs.length (fl enc xs) :: hp) m) : SR P ops Q n eff t hs (.op i s) F hp m := ⟨_, ho, fun x hx => by cases hx; exact hd, by
  rw [he]
  refine ⟨fun fr a w ha st => ⟨fun _ => ?_, fun h => by simp [Region.wanted] at h⟩⟩
  rw [run_call ha ef ea (c fr).enter]
  refine Calls.mono ((c fr).calls w st) ?_
  rintro e w' ⟨v', m', h', rfl, hle, hst, a1, c1, k1, rfl, rfl, rfl⟩
  exact .inl ⟨_, rfl, m, _, View.le.refl m, (hst.perm (List.perm_middle (l₁ := fr) (l₂ := hp ++ hs)).symm).back hle, nofun, (k a1 c1).e⟩⟩
end
end Go.Eng

namespace Go.Eng
open Go Go.RowKit
section
variable {P : Program} {ops : Array Oper} {Q : Exit → Act → World → Prop} {n : Cx} {F : Fm} {h hp hs : List Res} {m : View}
variable {ty : TypeId} {pos : String} {after : Array Edge} {d : Nat} {dst : Option Nat} {g : Option (Nat × Bool)}
theorem SR.nilP {eff tt : List Nat} {tl : List Oper} {H : List Res} (htl : tt.filterMap (ops[·]?) = tl) (hH : (hp ++ hs).Perm H) (k : WL P ops Q n tl F H m) : SR P ops Q n eff ⟨tt, []⟩ hs .nil F hp m :=
  ⟨by subst htl; exact WL.perm hH k⟩
theorem perm_mid {α : Type} (bl l t : List α) : (bl ++ (l ++ t)).Perm (l ++ (bl ++ t)) := by
  rw [← List.append_assoc, ← List.append_assoc]
  exact List.perm_append_comm.append_right t
end
end Go.Eng

namespace Go.Eng
open Go Go.RowKit
section
variable {H : Type} {enc : TypeId × Value → H} {P : Program} {W : World} {held : Bool} {fuel : Nat} {t : TypeId} {cs : List Value} {x : DataW H × List MemPlace}
theorem slice_argF {α : Type} {Pr : α → Prop} {enc' : α → List Value} {e sz : Nat} (ht : P.underlying t = some (.slice e)) (hsz : P.cellsOf e = sz) (hpos : 0 < sz) (henc : ∀ x, (enc' x).length = sz)
    (hdec : ∀ f ys y, f < fuel → RdT enc P W held f e ys y → (∀ k ∈ y.1.weights P e, k ∈ x.1.weights P t) → ∃ z, ys = enc' z ∧ Pr z) (h : RdT enc P W held fuel t cs x) :
    ∃ a n c l, cs = [.slice a n c] ∧ l.length = n ∧ Sl (viewOf W) a n c sz (fl enc' l) ∧ ∀ z ∈ l, Pr z := by
  rcases rd_sliceW ht h with rfl | ⟨a, n, c, f, rfl, rfl, h1, h2, h3⟩
  · exact ⟨none, 0, 0, [], rfl, rfl, Sl.nil _ _, fun _ h => by cases h⟩
  · rw [hsz] at h3
    have h4 : ∀ i, i < n → ∃ z, W.cells? 0 (a.add (i * sz)) sz = some (enc' z) ∧ Pr z := fun i hi => by
      obtain ⟨ys, y, e1, e2, e3⟩ := h3 i hi
      obtain ⟨z, rfl, hz⟩ := hdec f ys y (Nat.lt_succ_self f) e2 e3
      exact ⟨z, e1, hz⟩
    obtain ⟨l, hl, hp⟩ := choose_list n h4
    refine ⟨some a, n, c, l, rfl, hl, ⟨by rw [fl_len henc, hl], h1, by unfold maxLen at h2; omega, fun j v hj => ?_⟩, fun z hz => ?_⟩
    · have hjl : j < n * sz := by have := (List.getElem?_eq_some_iff.1 hj).1; rwa [fl_len henc, hl] at this
      have hq : j / sz < n := Nat.div_lt_of_lt_mul (by rwa [Nat.mul_comm] at hjl)
      obtain ⟨z, hz⟩ := get_some (l := l) (k := j / sz) (by omega)
      have hm : j % sz < sz := Nat.mod_lt _ hpos
      have hj2 : (enc' z)[j % sz]? = some v := by
        have := flat_get (sz := sz) enc' henc l (j / sz) (j % sz) hm
        rw [Nat.mul_comm, Nat.div_add_mod, hz] at this
        unfold fl at hj
        rw [hj] at this
        exact this.symm
      obtain ⟨hc, _⟩ := hp _ z hz
      have hcell := (cells_get hc).2 _ v hj2
      have hsp : a.spot = none := by
        obtain ⟨z0, hz0⟩ := get_some (l := l) (k := 0) (by rw [hl]; exact Nat.lt_of_le_of_lt (Nat.zero_le _) hq)
        obtain ⟨v0, hv0⟩ := get_some (l := enc' z0) (k := 0) (by rw [henc]; omega)
        have h0 := (cells_get (hp _ z0 hz0).1).2 _ v0 hv0
        have e0 : (a.add (0 * sz)).add 0 = a := by simp [Addr.add]
        rw [e0] at h0
        unfold World.cell? at h0
        split at h0
        · cases hs : a.spot with
          | none => rfl
          | some q => rw [hs] at h0; cases h0
        · cases h0
      obtain ⟨b, off, sp⟩ := a
      cases hsp
      refine ⟨b, off, rfl, ?_⟩
      rw [Addr.add_lit, Addr.add_lit, Nat.add_assoc, show j / sz * sz + j % sz = j by rw [Nat.mul_comm, Nat.div_add_mod]] at hcell
      exact start_cell hcell
    · obtain ⟨i, hi⟩ := List.getElem?_of_mem hz
      exact (hp i z hi).2
end
end Go.Eng
end
/- Eng20 -/
section
namespace Go.Eng
open Go Go.RowKit
section
variable {P : Program} {ops : Array Oper} {Q : Exit → Act → World → Prop} {n : Cx} {F : Fm} {h h' : List Res} {m : View} {rest : List Oper}
variable {op : Op} {ty : TypeId} {pos : String} {after : Array Edge} {d : Nat} {v : Value} {dst : Option Nat} {g : Option (Nat × Bool)}
theorem Et {t : Nat} (h : look F t = some v := by exact rfl) : Ev n F (.tmp t) v := Ev.tmp h
theorem Eg {t : Nat} {c : Bool} (hc : c = true) (h : look F t = some (gv c v) := by exact rfl) : Ev n F (.tmp t) v := Ev.gv h hc
theorem E0 : Evs n F [] [] := Evs.nil
theorem E1 {x : Operand} (a : Ev n F x v) : Evs n F [x] [v] := .cons a .nil
theorem E2 {x x2 : Operand} {v2 : Value} (a : Ev n F x v) (a2 : Ev n F x2 v2) : Evs n F [x, x2] [v, v2] := .cons a (.cons a2 .nil)
theorem E3 {x x2 x3 : Operand} {v2 v3 : Value} (a : Ev n F x v) (a2 : Ev n F x2 v2) (a3 : Ev n F x3 v3) : Evs n F [x, x2, x3] [v, v2, v3] := .cons a (.cons a2 (.cons a3 .nil))
theorem E4 {x x2 x3 x4 : Operand} {v2 v3 v4 : Value} (a : Ev n F x v) (a2 : Ev n F x2 v2) (a3 : Ev n F x3 v3) (a4 : Ev n F x4 v4) : Evs n F [x, x2, x3, x4] [v, v2, v3, v4] := .cons a (.cons a2 (.cons a3 (.cons a4 .nil)))
theorem Me {α : Type} {a : α} {l : List α} (h : List.Mem a l := by repeat (first | exact mem0 _ | apply memT)) : List.Mem a l := h
theorem Sb {α : Type} {l r : List α} (h : l.Sublist r := by repeat (first | exact sub0 _ | exact subA _ _ | exact subL _ _ | refine subC _ ?_ | apply subK | refine subT _ ?_)) : l.Sublist r := h
theorem Up {r r' : Res} {l l' : List Res} (h : Upd l r r' l' := by repeat (first | exact Upd.here | apply Upd.next)) : Upd l r r' l' := h
theorem De {r : Res} {l l' : List Res} (h : Del l r l' := by repeat (first | exact Del.here | apply Del.next)) : Del l r l' := h
theorem Rr {a : Option Addr} {k c sz : Nat} {xs : List Value} (hr : Rd m h a k c sz xs := by first | assumption | exact Rd.ofSl (by assumption) | exact Rd.ofPt rfl (by decide) Me | exact Rd.mono (by assumption) (View.le.refl _) Sb | exact Rd.inRow Me (by assumption) (by assumption) (by assumption)) : Rd m h a k c sz xs := hr
theorem On {ys : List Value} (h : ∀ u ∈ ys, u.oneCell' = true := by first | exact one_of rfl | exact fl_ones (fun _ => rfl) _) : ∀ u ∈ ys, u.oneCell' = true := h
theorem xG (hp : PO P ⟨some d, op, ty, pos, after, none⟩ n F h m v) (k : WL P ops Q n rest ((d, v) :: F) h m) (hn : Nat.ble (d + 1) n.num = true := by exact rfl) :
    WL P ops Q n (⟨some d, op, ty, pos, after, none⟩ :: rest) F h m := WL.po hp (leB hn) k
theorem xM {t : Nat} (k : WL P ops Q n rest ((d, v) :: F) h m) (h1 : look F t = some v := by exact rfl) (hn : Nat.ble (d + 1) n.num = true := by exact rfl) :
    WL P ops Q n (⟨some d, .move (.tmp t), ty, pos, after, none⟩ :: rest) F h m := xG (PO.move (Ev.tmp h1)) k hn
theorem xK (k : WL P ops Q n rest ((d, v) :: F) h m) (hn : Nat.ble (d + 1) n.num = true := by exact rfl) :
    WL P ops Q n (⟨some d, .move (.const v), ty, pos, after, none⟩ :: rest) F h m := xG (PO.move Ev.const) k hn
theorem xA {t : Nat} (k : WL P ops Q n rest ((d, v) :: F) h m) (h1 : look F t = some v := by exact rfl) (hn : Nat.ble (d + 1) n.num = true := by exact rfl) :
    WL P ops Q n (⟨some d, .assign (.tmp t), ty, pos, after, none⟩ :: rest) F h m := xG (PO.assign (Ev.tmp h1)) k hn
theorem xC (k : WL P ops Q n rest ((d, v) :: F) h m) (hn : Nat.ble (d + 1) n.num = true := by exact rfl) :
    WL P ops Q n (⟨some d, .assign (.const v), ty, pos, after, none⟩ :: rest) F h m := xG (PO.assign Ev.const) k hn
theorem xE {t i : Nat} {vs : Array Value} (k : WL P ops Q n rest ((d, v) :: F) h m) (h1 : look F t = some (.tuple vs) := by exact rfl) (h2 : vs[i]? = some v := by exact rfl) (hn : Nat.ble (d + 1) n.num = true := by exact rfl) :
    WL P ops Q n (⟨some d, .extract (.tmp t) i, ty, pos, after, none⟩ :: rest) F h m := xG (PO.extract (Ev.tmp h1) h2) k hn
theorem xP {t u : Nat} {c b : Bool} (k : WL P ops Q n rest ((d, .bool (c && b)) :: F) h m) (h1 : look F t = some (.bool c) := by exact rfl) (h2 : look F u = some (gv c (.bool b)) := by exact rfl) (hn : Nat.ble (d + 1) n.num = true := by exact rfl) :
    WL P ops Q n (⟨some d, .pick (.tmp t) (.tmp u) (.const (.bool false)), ty, pos, after, none⟩ :: rest) F h m := xG (PO.pickAnd h1 h2) k hn
theorem xQ {t u : Nat} {c b : Bool} (k : WL P ops Q n rest ((d, .bool (c || b)) :: F) h m) (h1 : look F t = some (.bool c) := by exact rfl) (h2 : look F u = some (gv (!c) (.bool b)) := by exact rfl) (hn : Nat.ble (d + 1) n.num = true := by exact rfl) :
    WL P ops Q n (⟨some d, .pick (.tmp t) (.const (.bool true)) (.tmp u), ty, pos, after, none⟩ :: rest) F h m := xG (PO.pickOr h1 h2) k hn
theorem xF {x : Operand} {t i : Nat} {fs : Array Field} {f : Field} {b off : Nat} (ht : P.underlying t = some (.struct fs)) (k : WL P ops Q n rest ((d, .pointer (some ⟨b, off + f.offset, none⟩)) :: F) h m) (hf : fs[i]? = some f := by exact rfl) (hz : P.cellsOf f.type ≠ 0 := by exact Nat.ne_of_beq_eq_false rfl)
    (ex : Ev n F x (.pointer (some ⟨b, off, none⟩)) := by exact Ev.tmp rfl) (hn : Nat.ble (d + 1) n.num = true := by exact rfl) : WL P ops Q n (⟨some d, .fieldAddr t x i, ty, pos, after, none⟩ :: rest) F h m := xG (PO.fieldAddr ht hf hz ex) k hn
theorem pL {x : Operand} {t : TypeId} {u : TypeDesc} {b off : Nat} {cs : List Value} {e : TypeId} {fz : Nat × Nat} (ht : P.underlying t = some u) (hp : plainD u = true := by exact rfl)
    (ex : Ev n F x (.pointer (some ⟨b, off, none⟩)) := by exact Ev.tmp rfl) (hm : List.Mem (Res.pt b (.cells cs.toArray e fz)) h := by repeat (first | exact mem0 _ | apply memT)) (hv : cs[off]? = some v := by exact rfl) : PO P ⟨dst, .load t x, ty, pos, after, g⟩ n F h m v := PO.load1 ht hp ex hm hv
theorem pA {x : Operand} {t : TypeId} {u : TypeDesc} {b off : Nat} {cs : List Value} {e : TypeId} {fz : Nat × Nat} {vs : List Value} (ht : P.underlying t = some u) (hp : plainD u = false := by exact rfl)
    (hq : (P.info? t).isSome = true := by exact rfl) (ex : Ev n F x (.pointer (some ⟨b, off, none⟩)) := by exact Ev.tmp rfl) (hm : List.Mem (Res.pt b (.cells cs.toArray e fz)) h := by repeat (first | exact mem0 _ | apply memT)) (hv : seg cs off (P.cellsOf t) = some vs := by exact rfl) :
    PO P ⟨dst, .load t x, ty, pos, after, g⟩ n F h m (.agg vs.toArray) := PO.loadA ht hp hq ex hm hv
theorem pF {x : Operand} {t i : Nat} {fs : Array Field} {f : Field} {b off : Nat} (ht : P.underlying t = some (.struct fs)) (hf : fs[i]? = some f := by exact rfl) (hz : P.cellsOf f.type ≠ 0 := by exact Nat.ne_of_beq_eq_false rfl)
    (ex : Ev n F x (.pointer (some ⟨b, off, none⟩)) := by exact Ev.tmp rfl) : PO P ⟨dst, .fieldAddr t x i, ty, pos, after, g⟩ n F h m (.pointer (some ⟨b, off + f.offset, none⟩)) := PO.fieldAddr ht hf hz ex
theorem xS {x y : Operand} {t : TypeId} {b off : Nat} {cs cs' vs : List Value} {e : TypeId} (k : WL P ops Q n rest F h' m) (ex : Ev n F x (.pointer (some ⟨b, off, none⟩)) := by exact Ev.tmp rfl) (ey : Ev n F y v := by first | exact Ev.tmp rfl | exact Ev.const)
    (hvs : cellsO v = some vs := by exact rfl) (hq : (P.info? t).map (·.size) = some vs.length := by exact rfl) (h1 : vs.all (·.oneCell') = true := by exact rfl) (h0 : vs.isEmpty = false := by exact rfl) 
    (u : Upd h (.pt b (.cells cs.toArray e (0, 0))) (.pt b (.cells cs'.toArray e (0, 0))) h' := by repeat (first | exact Upd.here | apply Upd.next)) (hc : setLs cs off vs = some cs' := by exact rfl) :
    WL P ops Q n (⟨none, .store t x y, ty, pos, after, none⟩ :: rest) F h m := WL.store hq ex ey hvs h1 h0 hc u k
theorem xW {t : TypeId} {z : Value} {zs : List Value} (k : ∀ b, WL P ops Q n rest ((d, .pointer (some ⟨b, 0, none⟩)) :: F) (.pt b (.cells zs.toArray t (0, 0)) :: h) m) (hz : (P.info? t).bind (·.zero) = some z := by exact rfl) (hzs : cellsO z = some zs := by exact rfl) (hn : Nat.ble (d + 1) n.num = true := by exact rfl) :
    WL P ops Q n (⟨some d, .alloc t, ty, pos, after, none⟩ :: rest) F h m := WL.alloc hz hzs (leB hn) k
theorem xX {x : Operand} {t : TypeId} {zs : List Value} (k : ∀ b, WL P ops Q n rest ((d, .pointer (some ⟨b, 0, none⟩)) :: F) (.pt b (.cells zs.toArray t (0, 0)) :: h) m) (ex : Ev n F x v := by exact Ev.tmp rfl) (hzs : cellsO v = some zs := by exact rfl) (hn : Nat.ble (d + 1) n.num = true := by exact rfl) :
    WL P ops Q n (⟨some d, .box t x, ty, pos, after, none⟩ :: rest) F h m := WL.box ex hzs (leB hn) k
theorem xD {x y : Operand} {t e : TypeId} {sz by_ l cap k c l' : Nat} {a b : Option Addr} {xs ys zs : List Value} {hq : Value → List Res} (E : EL P t e sz by_) (ex : Ev n F x (.slice a l cap)) (ey : Ev n F y (.slice b k c)) (hl : l + k = l') (hz : xs ++ ys = zs) (kk : ∀ a' cap', WL P ops Q n rest ((d, .slice a' l' cap') :: F) (hq (.slice a' l' cap')) m)
    (u : ∀ v', Upd h (.row (.slice a l cap) e sz l xs) (.row v' e sz l' zs) (hq v') := by intro v'; repeat (first | exact Upd.here | apply Upd.next)) (rd : Rd m h b k c sz ys := by first | assumption | exact Rd.ofSl (by assumption) | exact Rd.ofPt rfl (by decide) Me | exact Rd.mono (by assumption) (View.le.refl _) Sb | exact Rd.inRow Me (by assumption) (by assumption) (by assumption))
    (h1 : ∀ u ∈ ys, u.oneCell' = true := by first | exact one_of rfl | exact fl_ones (fun _ => rfl) _) (h63 : l' ≤ 9223372036854775807 := by omega) (hbytes : l' * by_ ≤ 140737488355328 := by omega) (hn : Nat.ble (d + 1) n.num = true := by exact rfl) :
    WL P ops Q n (⟨some d, .call ⟨.builtin .append, #[x, y], #[t, t]⟩, ty, pos, after, none⟩ :: rest) F h m := WL.appendE E ex ey rd h1 hl hz h63 hbytes u (leB hn) kk
theorem xY {t e k : Nat} {sz by_ : Nat} {ps : List (Nat × Operand)} {vs : List (Nat × Value)} {z : Value} {zs cs : List Value} (E : EL P t e sz by_) (ev : EvP n F ps vs)
    (kk : ∀ b, WL P ops Q n rest ((d, .slice (some ⟨b, 0, none⟩) k k) :: F) (.pt b (.cells cs.toArray e (0, 0)) :: h) m) (hz : (P.info? e).bind (·.zero) = some z := by exact rfl)
    (hzs : zeros z k = some zs := by exact rfl) (hf : fillO (fun i => some (i * sz, sz)) zs vs = some cs := by exact rfl) (hk : k * sz ≤ 16777216 := by decide) (h0 : Nat.beq (k * sz) 0 = false := by exact rfl) (hn : Nat.ble (d + 1) n.num = true := by exact rfl) :
    WL P ops Q n (⟨some d, .buildSlice t k ps.toArray, ty, pos, after, none⟩ :: rest) F h m := WL.buildSlice E hz ev hzs hf hk h0 (leB hn) kk
theorem xf {args : List Operand} {tys : Array TypeId} {vs : List Value} {q : FuncId} (ea : Evs n F args vs) (c : CT P q vs h m (Pure1 h v)) (k : WL P ops Q n rest ((d, v) :: F) h m) (hn : Nat.ble (d + 1) n.num = true := by exact rfl) :
    WL P ops Q n (⟨some d, .call ⟨.value (.func q), args.toArray, tys⟩, ty, pos, after, none⟩ :: rest) F h m := WL.callP (first := []) (cap := []) Ev.func ea (by simpa using c) (leB hn) k
theorem xg {args : List Operand} {tys : Array TypeId} {vs : List Value} {q : FuncId} {R : Value → List Res → Prop} (ea : Evs n F args vs) (c : CT P q vs h m (fun v _ h' => R v h')) (k : ∀ v h', R v h' → WL P ops Q n rest ((d, v) :: F) h' m) (hn : Nat.ble (d + 1) n.num = true := by exact rfl) :
    WL P ops Q n (⟨some d, .call ⟨.value (.func q), args.toArray, tys⟩, ty, pos, after, none⟩ :: rest) F h m := WL.callK (first := []) (cap := []) Ev.func ea (by simpa using c) (leB hn) k
theorem zG {gd : Nat × Bool} {c : Bool} (hp : c = true → PO P ⟨some d, op, ty, pos, after, some gd⟩ n F h m v) (k : WL P ops Q n rest ((d, gv c v) :: F) h m)
    (hg : GU ops n F gd c := by first | exact GU.t (hG _ _ rfl) rfl | exact GU.f (hG _ _ rfl) rfl | exact GU.nt (hG _ _ rfl) rfl | exact GU.nf (hG _ _ rfl) rfl | exact GU.t rfl rfl | exact GU.f rfl rfl) (hn : Nat.ble (d + 1) n.num = true := by exact rfl) :
    WL P ops Q n (⟨some d, op, ty, pos, after, some gd⟩ :: rest) F h m := WL.poG hg hp (leB hn) k
theorem zM {gd : Nat × Bool} {c : Bool} {t : Nat} (k : WL P ops Q n rest ((d, gv c v) :: F) h m) (h1 : look F t = some v := by exact rfl)
    (hg : GU ops n F gd c := by first | exact GU.t (hG _ _ rfl) rfl | exact GU.f (hG _ _ rfl) rfl | exact GU.nt (hG _ _ rfl) rfl | exact GU.nf (hG _ _ rfl) rfl | exact GU.t rfl rfl | exact GU.f rfl rfl) (hn : Nat.ble (d + 1) n.num = true := by exact rfl) :
    WL P ops Q n (⟨some d, .move (.tmp t), ty, pos, after, some gd⟩ :: rest) F h m := WL.poG hg (fun _ => PO.move (Ev.tmp h1)) (leB hn) k
theorem zV {gd : Nat × Bool} {c : Bool} {t : Nat} (k : WL P ops Q n rest ((d, gv c v) :: F) h m)
    (hg : GU ops n F gd c := by first | exact GU.t (hG _ _ rfl) rfl | exact GU.f (hG _ _ rfl) rfl | exact GU.nt (hG _ _ rfl) rfl | exact GU.nf (hG _ _ rfl) rfl | exact GU.t rfl rfl | exact GU.f rfl rfl) (h1 : look F t = some (gv c v) := by exact rfl) (hn : Nat.ble (d + 1) n.num = true := by exact rfl) :
    WL P ops Q n (⟨some d, .move (.tmp t), ty, pos, after, some gd⟩ :: rest) F h m := WL.poG hg (fun hc => PO.move (Ev.gv h1 hc)) (leB hn) k
theorem zU {gd : Nat × Bool} (k : WL P ops Q n (⟨dst, op, ty, pos, after, none⟩ :: rest) F h m)
    (hg : GU ops n F gd true := by first | exact GU.t (hG _ _ rfl) rfl | exact GU.f (hG _ _ rfl) rfl | exact GU.t rfl rfl | exact GU.f rfl rfl) :
    WL P ops Q n (⟨dst, op, ty, pos, after, some gd⟩ :: rest) F h m := WL.unG hg rfl k
theorem kp (ts : List Nat) {F' : Fm} {K : Act → World → Prop} {y : Code} (k : WC P y Q n F' h m) (hk : keep F ts = some F' := by exact rfl) (hK : ∀ ds F h m, WC P y Q { n with ds := ds } F h m → ∀ a w, Fr { n with ds := ds } F a → St m h w → K a w := by assumption) : ∀ a w, Fr n F a → St m h w → K a w := keepF hk (toK hK k)
theorem wn (ts : List Nat) {F' : Fm} {K : Act → World → Prop} {y : Code} {Q' : Exit → Act → World → Prop} (k : WC P y Q n F' h m) (hq : Q' .normal = K := by exact rfl) (hk : keep F ts = some F' := by exact rfl) (hK : ∀ ds F h m, WC P y Q { n with ds := ds } F h m → ∀ a w, Fr { n with ds := ds } F a → St m h w → K a w := by assumption) :
    WL P ops Q' n [] F h m := WL.nil (hq ▸ keepF hk (toK hK k))
theorem wc {t : Nat} {x y : Code} {b : Bool} (kt : b = true → WC P x Q n F h m) (kf : b = false → WC P y Q n F h m) (h1 : look F t = some (.bool b) := by exact rfl) : WC P (.cond (.tmp t) x y) Q n F h m := WC.cond (Ev.tmp h1) kt kf
theorem wR (hh : List Res) {fn : Func} {m0 : View} {R : Value → View → List Res → Prop} {r : ResultVar} (hR : R v m hh) (hfn : fn.results = #[r] := by exact rfl) (h1 : RV P n F h m r v := by exact RV.tmp rfl) (hle : m0.le m := by exact View.le.refl _) (hd : hh.Sublist h := by repeat (first | exact sub0 _ | exact subA _ _ | exact subL _ _ | refine subC _ ?_ | apply subK | refine subT _ ?_)) (hds : n.ds = [] := by exact rfl) :
    ∀ a w, Fr n F a → St m h w → bodyPost P fn (RQ m0 R) .ret a w := end1 (.inl rfl) hfn h1 hle hd hR hds
theorem wV {l : List Oper} {b b' : Bool} (e : b = b') (k : WL P ops Q n l ((d, .bool b') :: F) h m) : WL P ops Q n l ((d, .bool b) :: F) h m := e ▸ k
theorem sk {x y : Code} (k : ∀ K : Act → World → Prop, (∀ ds F h m, WC P y Q { n with ds := ds } F h m → ∀ a w, Fr { n with ds := ds } F a → St m h w → K a w) → WC P x (Exit.then K Q) n F h m) : WC P (.seq x y) Q n F h m := WC.seqK k
theorem bk {id : Nat} {c : Code} (k : WC P c (Exit.inBlock id Q) n F h m) : WC P (.block id c) Q n F h m := WC.block k
theorem rg {id : Nat} {l : List Oper} {G : List (Option Nat)} (k : ∀ ops : Array Oper, (∀ j t, G[j]? = some (some t) → gslot ops j = some t) → WL P ops Q n l F h m) (hG : dstsP l = some G := by exact rfl) : WC P (.region id l.toArray false) Q n F h m := WC.regionG hG k
theorem rn {id : Nat} {l : List Oper} {G : List (Option Nat)} (k : ∀ ops : Array Oper, WL P ops Q n l F h m) (hG : dstsP l = some G := by exact rfl) : WC P (.region id l.toArray false) Q n F h m := WC.regionG hG fun o _ => k o
end
section
variable {P : Program} {ops : Array Oper} {Q : Exit → Act → World → Prop} {n : Cx} {F : Fm} {m : View} {eff : List Nat} {t : Tl} {hs hp : List Res} {i : Nat} {s : Tr}
variable {op : Op} {ty : TypeId} {pos : String} {after : Array Edge} {d : Nat} {v : Value}
theorem yG (ho : ops[i]? = some ⟨some d, op, ty, pos, after, none⟩) (p : PO P ⟨some d, op, ty, pos, after, none⟩ n F hs m v) (k : SR P ops Q n eff t hs s ((d, v) :: F) hp m) (he : eff.contains i = false := by exact rfl) (hn : Nat.ble (d + 1) n.num = true := by exact rfl) :
    SR P ops Q n eff t hs (.op i s) F hp m := SR.po ho he p (leB hn) k
theorem yU {gd : Nat × Bool} (ho : ops[i]? = some ⟨some d, op, ty, pos, after, some gd⟩) (p : PO P ⟨some d, op, ty, pos, after, some gd⟩ n F hs m v) (k : SR P ops Q n eff t hs s ((d, v) :: F) hp m) (he : eff.contains i = false := by exact rfl)
    (hg : GU ops n F gd true := by first | exact GU.t rfl rfl | exact GU.f rfl rfl) (hn : Nat.ble (d + 1) n.num = true := by exact rfl) : SR P ops Q n eff t hs (.op i s) F hp m := SR.poU ho he hg rfl p (leB hn) k
theorem yf {args : List Operand} {tys : Array TypeId} {vs : List Value} {q : FuncId} (ho : ops[i]? = some ⟨some d, .call ⟨.value (.func q), args.toArray, tys⟩, ty, pos, after, none⟩) (ea : Evs n F args vs) (c : ∀ fr, CT P q vs (fr ++ (hp ++ hs)) m (Pure1 (fr ++ (hp ++ hs)) v)) (k : SR P ops Q n eff t hs s ((d, v) :: F) hp m)
    (he : eff.contains i = true := by exact rfl) (hn : Nat.ble (d + 1) n.num = true := by exact rfl) :
    SR P ops Q n eff t hs (.op i s) F hp m := SR.callP (first := []) (cap := []) ho he Ev.func ea (fun fr => by simpa using c fr) (leB hn) k
end
section
variable {P : Program} {ops : Array Oper} {Q : Exit → Act → World → Prop} {n : Cx} {F : Fm} {h h' : List Res} {m : View} {rest : List Oper}
/- the code's frame, peeled off -/
def Pk (P : Program) (c : Code) (Q : Exit → Act → World → Prop) (n : Cx) (F : Fm) (h : List Res) (m : View) (G : Prop) : Prop := G → WC P c Q n F h m
theorem pkS {x y : Code} {G : (Act → World → Prop) → Prop} (p : ∀ K : Act → World → Prop, Pk P x (Exit.then K Q) n F h m (G K)) :
    Pk P (.seq x y) Q n F h m (∀ K : Act → World → Prop, (∀ ds F h m, WC P y Q { n with ds := ds } F h m → ∀ a w, Fr { n with ds := ds } F a → St m h w → K a w) → G K) := fun g => sk fun K hK => p K (g K hK)
theorem pkB {id : Nat} {c : Code} {G : Prop} (p : Pk P c (Exit.inBlock id Q) n F h m G) : Pk P (.block id c) Q n F h m G := fun g => bk (p g)
theorem pkR {id : Nat} {l : List Oper} {G : List (Option Nat)} (hG : dstsP l = some G := by exact rfl) : Pk P (.region id l.toArray false) Q n F h m (∀ ops : Array Oper, WL P ops Q n l F h m) := fun g => rn g hG
theorem pkG {id : Nat} {l : List Oper} {G : List (Option Nat)} (hG : dstsP l = some G := by exact rfl) : Pk P (.region id l.toArray false) Q n F h m (∀ ops : Array Oper, (∀ j t, G[j]? = some (some t) → gslot ops j = some t) → WL P ops Q n l F h m) := fun g => rg g hG
theorem pkE {c : Code} : Pk P c Q n F h m (WC P c Q n F h m) := id
theorem gD {c : Code} {G : Prop} (k : G) (p : Pk P c Q n F h m G := by (repeat first | (apply pkS; intro _) | apply pkB); first | exact pkR | exact pkE) : WC P c Q n F h m := p k
theorem gE {c : Code} {G : Prop} (k : G) (p : Pk P c Q n F h m G := by (repeat first | (apply pkS; intro _) | apply pkB); exact pkE) : WC P c Q n F h m := p k
theorem gG {c : Code} {G : Prop} (k : G) (p : Pk P c Q n F h m G := by (repeat first | (apply pkS; intro _) | apply pkB); exact pkG) : WC P c Q n F h m := p k
theorem Su {F F' : Fm} (q : Sub F F' := by (repeat (first | exact Sub.nil | refine Sub.cons rfl ?_ | refine Sub.consE rfl (by simp; done) ?_))) : Sub F F' := q
theorem dS {id : Nat} {l : List Oper} (eff : List Nat) (s : Tr) (t : List Nat) (hm : P.follows .mixedOrders = true) {hs : List Res} (k : SR P l.toArray Q n eff ⟨t, []⟩ hs s F [] m) (hQ : ∀ c a w d v, Q (.panic c) (a.put (some d) v) w → Q (.panic c) a w := by exact fun _ _ _ _ _ h => h) (ok : (!eff.contains 4096 && orderOkL l.toArray eff s [] t []) = true := by kernel_rfl) :
    WC P (.region id l.toArray true) Q n F ([] ++ hs) m := WC.drawS eff s t hs [] hm hQ [] ok k
theorem Lb {a b : Nat} (h : Nat.ble a b = true := by exact rfl) : a ≤ b := leB h
section
variable {op : BinOp} {kk : IntKind} {i j : Int} {v : Value} {t t' : TypeId} {pos : String} {after : Array Edge} {ty : TypeId} {d x y : Nat}
theorem bB (k : WL P ops Q n rest ((d, v) :: F) h m) (e1 : look F x = some (.int kk i) := by exact rfl) (hv : iop op kk i j = some v := by exact rfl) (hn : Nat.ble (d + 1) n.num = true := by exact rfl) :
    WL P ops Q n (⟨some d, .binOp op t (.tmp x) (.const (.int kk j)) t', ty, pos, after, none⟩ :: rest) F h m := xG (PO.bin (Ev.tmp e1) Ev.const hv) k hn
theorem bD (k : WL P ops Q n rest ((d, v) :: F) h m) (e1 : look F x = some (.int kk i) := by exact rfl) (e2 : look F y = some (.int kk j) := by exact rfl) (hv : iop op kk i j = some v := by exact rfl) (hn : Nat.ble (d + 1) n.num = true := by exact rfl) :
    WL P ops Q n (⟨some d, .binOp op t (.tmp x) (.tmp y) t', ty, pos, after, none⟩ :: rest) F h m := xG (PO.bin (Ev.tmp e1) (Ev.tmp e2) hv) k hn
theorem bI (k : WL P ops Q n rest ((d, .int .i64 (i + j)) :: F) h m) (e1 : look F x = some (.int .i64 i) := by exact rfl) (h1 : -9223372036854775808 ≤ i + j ∧ i + j ≤ 9223372036854775807 := by omega) (hn : Nat.ble (d + 1) n.num = true := by exact rfl) :
    WL P ops Q n (⟨some d, .binOp .add t (.tmp x) (.const (.int .i64 j)) t', ty, pos, after, none⟩ :: rest) F h m := xG (PO.addI (Ev.tmp e1) Ev.const h1) k hn
end
theorem dF {p : Prop} [Decidable p] (q : decide p = false) : ¬p := of_decide_eq_false q
theorem dT {p : Prop} [Decidable p] (q : decide p = true) : p := of_decide_eq_true q
end
end Go.Eng
end
/- LexM -/
section
namespace Go.Lx
abbrev B := List UInt8
def ltr (z : Int) : Bool := (decide (z ≥ 97) && decide (z ≤ 122)) || (decide (z ≥ 65) && decide (z ≤ 90))
def ltrR (z : Int) : Bool := (decide (z ≥ 65) && decide (z ≤ 90)) || (decide (z ≥ 97) && decide (z ≤ 122))
def dig (z : Int) : Bool := decide (z ≥ 48) && decide (z ≤ 57)
def wch (c : UInt8) : Bool := !(!ltr c.toNat && !dig c.toNat && ((c.toNat : Int) != 46))
def wchR (z : Int) : Bool := ltrR z || dig z || (z == 46)
def run : B → Nat
 | [] => 0
 | c :: l => if wch c then run l + 1 else 0
theorem run_drop {l : B} {k : Nat} {c : UInt8} (hc : l[k]? = some c) : run (l.drop k) = if wch c then run (l.drop (k + 1)) + 1 else 0 := by
 have h1 : k < l.length := (List.getElem?_eq_some_iff.1 hc).1
 rw [List.drop_eq_getElem_cons h1, (List.getElem?_eq_some_iff.1 hc).2]
 rfl
def keysB : B := [32, 65, 70, 84, 69, 82, 32, 65, 76, 84, 32, 65, 78, 68, 32, 66, 79, 79, 76, 32, 66, 89, 84, 69, 32, 67, 65, 83, 69, 32, 67, 72, 65, 78, 32, 69, 76, 83, 69, 32, 70, 65, 76, 83, 69, 32, 70, 79, 82, 32, 73, 70, 32, 73, 78, 84, 32, 73, 83, 32, 77, 73, 78, 85, 83, 32, 78, 79, 84, 32, 79, 70, 32, 79, 82, 32, 80, 65, 82, 32, 80, 76, 65, 67, 69, 68, 32, 80, 76, 85, 83, 32, 80, 82, 73, 32, 80, 82, 79, 67, 32, 80, 82, 79, 67, 69, 83, 83, 79, 82, 32, 80, 82, 79, 84, 79, 67, 79, 76, 32, 83, 69, 81, 32, 83, 73, 90, 69, 32, 83, 75, 73, 80, 32, 83, 84, 79, 80, 32, 84, 73, 77, 69, 82, 32, 84, 73, 77, 69, 83, 32, 84, 82, 85, 69, 32, 86, 65, 76, 32, 87, 72, 73, 76, 69, 32]
def key (s : B) : Bool := !(s == []) && ((run s : Int) == s.length) && Lib.contains keysB ([32] ++ s ++ [32])
def name (s : B) : Bool := !(s == []) && decide ((s.length : Int) ≤ 32) && (match s with | c :: _ => ltr c.toNat | [] => false) && ((run s : Int) == s.length) && !key s
def keysL : List B := [[65, 70, 84, 69, 82], [65, 76, 84], [65, 78, 68], [66, 79, 79, 76], [66, 89, 84, 69], [67, 65, 83, 69], [67, 72, 65, 78], [69, 76, 83, 69], [70, 65, 76, 83, 69], [70, 79, 82], [73, 70], [73, 78, 84], [73, 83], [77, 73, 78, 85, 83], [78, 79, 84], [79, 70], [79, 82], [80, 65, 82], [80, 76, 65, 67, 69, 68], [80, 76, 85, 83], [80, 82, 73], [80, 82, 79, 67], [80, 82, 79, 67, 69, 83, 83, 79, 82], [80, 82, 79, 84, 79, 67, 79, 76], [83, 69, 81], [83, 73, 90, 69], [83, 75, 73, 80], [83, 84, 79, 80], [84, 73, 77, 69, 82], [84, 73, 77, 69, 83], [84, 82, 85, 69], [86, 65, 76], [87, 72, 73, 76, 69]]
def among (s : B) : List B → Bool
 | [] => false
 | x :: l => if x == s then true else among s l
theorem among_drop (s : B) {l : List B} {k : Nat} {x : B} (hx : l[k]? = some x) : among s (l.drop k) = if x == s then true else among s (l.drop (k + 1)) := by
 have h1 : k < l.length := (List.getElem?_eq_some_iff.1 hx).1
 rw [List.drop_eq_getElem_cons h1, (List.getElem?_eq_some_iff.1 hx).2]
 rfl
theorem among_iff (s : B) : ∀ l, among s l = true ↔ s ∈ l
 | [] => by simp [among]
 | x :: l => by
   unfold among
   split
   · rename_i h; simp at h; simp [h]
   · rename_i h
     have h' : ¬ s = x := fun e => h (by simp [e])
     rw [among_iff s l]; simp [h']
def keyR (s : B) : Bool := among s keysL
def allW : B → Bool
 | [] => true
 | c :: l => if wchR c.toNat then allW l else false
theorem allW_drop {l : B} {k : Nat} {c : UInt8} (hc : l[k]? = some c) : allW (l.drop k) = if wchR c.toNat then allW (l.drop (k + 1)) else false := by
 have h1 : k < l.length := (List.getElem?_eq_some_iff.1 hc).1
 rw [List.drop_eq_getElem_cons h1, (List.getElem?_eq_some_iff.1 hc).2]
 rfl
def bad (s : B) : Bool := decide ((s.length : Int) < 1) || decide ((s.length : Int) > 32) || (match s with | c :: _ => !ltrR c.toNat | [] => false) || keyR s
def nameR (s : B) : Bool := if bad s then false else allW s
def encB (s : B) : List Value := [Eng.str s]
theorem encB_len (s : B) : (encB s).length = 1 := rfl
end Go.Lx
end
/- LexP -/
section
namespace Go.Lx
theorem ltr_eq (z : Int) : ltr z = ltrR z := by unfold ltr ltrR; rw [Bool.or_comm]
theorem wch_eq (c : UInt8) : wch c = wchR c.toNat := by
 unfold wch wchR
 rw [← ltr_eq, bne]
 cases ltr c.toNat <;> cases dig c.toNat <;> simp
theorem run_all : ∀ s : B, ((run s : Int) == s.length) = allW s
 | [] => rfl
 | c :: l => by
   have ih := run_all l
   unfold run allW
   rw [wch_eq]
   cases wchR c.toNat
   · simp; omega
   · rw [← ih]
     simp only [if_pos, List.length_cons]
     rw [Bool.eq_iff_iff]
     simp
theorem wch_space : wchR ((32 : UInt8).toNat) = false := by decide
theorem allW_ns : ∀ {s : B}, allW s = true → ∀ c ∈ s, c ≠ 32
 | [], _, c, hc => by cases hc
 | x :: l, h, c, hc => by
   unfold allW at h
   split at h
   · rename_i hw
     rcases List.mem_cons.1 hc with rfl | hc
     · rintro rfl
       rw [wch_space] at hw
       cases hw
     · exact allW_ns h c hc
   · cases h
theorem take_word : ∀ {s r : B}, (∀ c ∈ s, c ≠ 32) → (s ++ 32 :: r).takeWhile (· != 32) = s
 | [], _, _ => rfl
 | x :: s, r, hs => by
   have hx : (x != 32) = true := by simpa using hs x (by simp)
   rw [List.cons_append, List.takeWhile_cons, hx, if_pos rfl, take_word fun c hc => hs c (List.mem_cons_of_mem _ hc)]
theorem keys_words : ∀ i, i < 200 → (match (keysB.drop i).takeWhile (· != 32) with | [] => true | w => among w keysL) = true ∨ keysB[i - 1]? ≠ some 32 := by decide +kernel
theorem keys_in : ∀ s ∈ keysL, key s = true := by decide +kernel
theorem key_eq (s : B) : key s = keyR s := by
 rw [Bool.eq_iff_iff]
 constructor
 · intro h
   unfold key at h
   rw [Bool.and_eq_true, Bool.and_eq_true, run_all] at h
   obtain ⟨⟨h0, h1⟩, h2⟩ := h
   have hns := allW_ns h1
   unfold Lib.contains at h2
   have h2 := of_decide_eq_true h2
   rcases Lib.index_spec keysB ([32] ++ s ++ [32]) with ⟨e, _⟩ | ⟨i, _, hi, ho, _⟩
   · omega
   · unfold Lib.occAt at ho
     obtain ⟨r, hr⟩ := List.isPrefixOf_iff_prefix.1 ho
     have h3 : (keysB.drop i)[0]? = some 32 := by rw [← hr]; rfl
     have h4 : keysB.drop (i + 1) = s ++ 32 :: r := by
       rw [← List.tail_drop, ← hr]
       simp
     rw [List.getElem?_drop] at h3
     have hlt : i < keysB.length := (List.getElem?_eq_some_iff.1 h3).1
     have hl : keysB.length ≤ 198 := by decide +kernel
     rcases keys_words (i + 1) (by omega) with h5 | h5
     · rw [h4, take_word hns] at h5
       unfold keyR
       cases s with
       | nil => simp at h0
       | cons c s => exact h5
     · exact absurd h3 h5
 · intro h
   exact keys_in s ((among_iff s _).1 h)
theorem name_eq (s : B) : name s = nameR s := by
 unfold name nameR bad
 rw [run_all, key_eq]
 cases s with
 | nil => rfl
 | cons c s =>
   simp only [ltr_eq]
   have e : decide (((c :: s).length : Int) < 1) = false := by simp; omega
   rw [e]
   have e2 : decide (((c :: s).length : Int) > 32) = !decide (((c :: s).length : Int) ≤ 32) := by rw [← decide_not]; congr 1; simp [Int.not_le]
   rw [e2]
   rw [show (!(c :: s == [])) = true from rfl]
   simp only [Bool.false_or, Bool.true_and]
   generalize decide (((c :: s).length : Int) ≤ 32) = x
   generalize ltrR c.toNat = y
   generalize keyR (c :: s) = z
   generalize allW (c :: s) = u
   cases x <;> cases y <;> cases z <;> cases u <;> rfl
end Go.Lx
end
/- TypM -/
section
namespace Go.Ty
open Go.Lx
structure Ty where
 kind : Int
 dim : Int
 item : Int
 proto : B
def zeroT : Ty := ⟨0, 0, 0, []⟩
def cellT (t : Ty) : List Value := [.int .u8 t.kind, .int .i64 t.dim, .int .u8 t.item, Eng.str t.proto]
def tyV (t : Ty) : Value := .agg (cellT t).toArray
def eqT (t u : Ty) : Bool := (t.kind == u.kind) && ((t.dim == u.dim) && ((t.item == u.item) && ((t.proto == u.proto) && true)))
theorem eqT_iff (t u : Ty) : eqT t u = true ↔ t = u := by
 cases t; cases u; simp [eqT]
structure Tok where
 kind : Int
 at_ : Int
 text : B
 n : Int
def encK (t : Tok) : List Value := [.int .u8 t.kind, .int .i64 t.at_, Eng.str t.text, .int .i32 t.n]
def eqK (t u : Tok) : Bool := (t.kind == u.kind) && ((t.at_ == u.at_) && ((t.text == u.text) && ((t.n == u.n) && true)))
theorem eqK_iff (t u : Tok) : eqK t u = true ↔ t = u := by
 cases t; cases u; simp [eqK]
structure Pm where
 kind : Int
 word : B
 size : Int
def encP (p : Pm) : List Value := [.int .u8 p.kind, Eng.str p.word, .int .i64 p.size]
def wINT : B := [73, 78, 84]
def wBYTE : B := [66, 89, 84, 69]
def wBOOL : B := [66, 79, 79, 76]
def prims : List Pm := [⟨1, wINT, 4⟩, ⟨2, wBYTE, 1⟩, ⟨3, wBOOL, 1⟩]
def wordIn (k : Int) : List Pm → B × Int × Bool
 | [] => ([], 0, false)
 | p :: l => if p.kind == k then (p.word, p.size, true) else wordIn k l
theorem wordIn_drop (k : Int) {l : List Pm} {i : Nat} {p : Pm} (hp : l[i]? = some p) : wordIn k (l.drop i) = if p.kind == k then (p.word, p.size, true) else wordIn k (l.drop (i + 1)) := by
 have h1 : i < l.length := (List.getElem?_eq_some_iff.1 hp).1
 rw [List.drop_eq_getElem_cons h1, (List.getElem?_eq_some_iff.1 hp).2]
 rfl
def wordS (k : Int) : B × Int × Bool := wordIn k prims
def is (k : Int) : Bool := (wordS k).2.2
def prim (k : Int) : Bool := (k == 1) || (k == 2) || (k == 3)
theorem is_eq (k : Int) : is k = prim k := by
 unfold is wordS prims wordIn wordIn wordIn wordIn prim
 rw [show ((1 : Int) == k) = (k == 1) from Bool.beq_comm, show ((2 : Int) == k) = (k == 2) from Bool.beq_comm, show ((3 : Int) == k) = (k == 3) from Bool.beq_comm]
 cases k == 1 <;> cases k == 2 <;> cases k == 3 <;> rfl
def far (t : Ty) : Bool := decide (t.dim < 0) || decide (t.dim > 64)
def timer : Ty := ⟨5, 0, 0, []⟩
def may (t : Ty) : Bool :=
 if far t then false
 else if is t.kind then (t.item == 0) && (t.proto == [])
 else if t.kind != 4 then eqT t timer
 else if t.item == 0 then name t.proto
 else is t.item && (t.proto == [])
def mayR (t : Ty) : Bool :=
 if far t then false
 else if prim t.kind then (t.item == 0) && (t.proto == [])
 else if t.kind == 4 then (prim t.item && (t.proto == [])) || ((t.item == 0) && nameR t.proto)
 else eqT t timer
theorem may_eq (t : Ty) : may t = mayR t := by
 unfold may mayR
 rw [is_eq, is_eq, name_eq]
 cases far t
 · cases prim t.kind
   · simp only [Bool.false_eq_true, if_false]
     by_cases h4 : t.kind = 4
     · simp only [h4, bne_self_eq_false, Bool.false_eq_true, if_false, beq_self_eq_true, if_true]
       by_cases h0 : t.item = 0
       · rw [h0]; simp [prim]
       · have : (t.item == 0) = false := by simpa using h0
         rw [this]; simp
     · have h : (t.kind == 4) = false := by simpa using h4
       simp [bne, h]
   · rfl
 · rfl
structure Vr where
 tag : B
 a : Option Addr
 n : Nat
 c : Nat
 items : List Int
def encI (k : Int) : List Value := [.int .u8 k]
theorem encI_len (k : Int) : (encI k).length = 1 := rfl
def encV (v : Vr) : List Value := [Eng.str v.tag, .slice v.a v.n v.c]
theorem encV_len (v : Vr) : (encV v).length = 2 := rfl
structure VOk (m : Eng.View) (h : List Eng.Res) (v : Vr) : Prop where
 rd : Eng.Rd m h v.a v.n v.c 1 (Eng.fl encI v.items)
theorem VOk.mono {m m' : Eng.View} {h h' : List Eng.Res} {v : Vr} (o : VOk m h v) (hm : m.le m') (hh : h.Sublist h') : VOk m' h' v := ⟨o.rd.mono hm hh⟩
def prL (cs : Bool) (a : Option Addr) (k c : Nat) : List Value := [.bool cs, .slice a k c]
def prV (cs : Bool) (a : Option Addr) (k c : Nat) : Value := .agg (prL cs a k c).toArray
structure PrOk (m : Eng.View) (h : List Eng.Res) (a : Option Addr) (k c : Nat) (l : List Vr) : Prop where
 rd : Eng.Rd m h a k c 2 (Eng.fl encV l)
 ok : ∀ v, v ∈ l → VOk m h v
 tag : ∀ v, v ∈ l → v.tag.length ≤ 9223372036854775807
theorem PrOk.mono {m m' : Eng.View} {h h' : List Eng.Res} {a : Option Addr} {k c : Nat} {l : List Vr} (o : PrOk m h a k c l) (hm : m.le m') (hh : h.Sublist h') : PrOk m' h' a k c l :=
 ⟨o.rd.mono hm hh, fun v hv => (o.ok v hv).mono hm hh, o.tag⟩
def idxF {α : Type} (q : α → Bool) : List α → Int → Int
 | [], _ => -1
 | x :: l, k => if q x then k else idxF q l (k + 1)
theorem idxF_drop {α : Type} (q : α → Bool) {l : List α} {i : Nat} {x : α} (hx : l[i]? = some x) (k : Int) : idxF q (l.drop i) k = if q x then k else idxF q (l.drop (i + 1)) (k + 1) := by
 have h1 : i < l.length := (List.getElem?_eq_some_iff.1 hx).1
 rw [List.drop_eq_getElem_cons h1, (List.getElem?_eq_some_iff.1 hx).2]
 rfl
theorem idxF_any {α : Type} (q : α → Bool) : ∀ (l : List α) (k : Int), 0 ≤ k → decide (idxF q l k ≥ 0) = l.any q
 | [], _, _ => rfl
 | x :: l, k, hk => by
   unfold idxF
   rw [List.any_cons]
   cases h : q x
   · rw [Bool.false_or, ← idxF_any q l (k + 1) (by omega)]; rfl
   · simp only [if_true, Bool.true_or]; exact decide_eq_true hk
def itemsB (l : List Int) (least : Int) : Bool := decide ((l.length : Int) ≥ least) && decide ((l.length : Int) ≤ 8) && !(l.any fun k => !is k)
def itemsR (l : List Int) (least : Int) : Bool := (l.all prim) && (decide ((l.length : Int) ≥ least) && decide ((l.length : Int) ≤ 8))
theorem items_eq (l : List Int) (least : Int) : itemsB l least = itemsR l least := by
 unfold itemsB itemsR
 have : (!(l.any fun k => !is k)) = l.all prim := by
   rw [List.any_eq_not_all_not]
   simp only [Bool.not_not]
   congr 1
   funext k
   exact is_eq k
 rw [this, Bool.and_comm]
def tagIn (tag : B) (l : List Vr) : Bool := l.any fun w => w.tag == tag
def badV (pre : List Vr) (v : Vr) : Bool := !name v.tag || !itemsB v.items 0 || tagIn v.tag pre
def mayIn (pre : List Vr) : List Vr → Bool
 | [] => true
 | v :: r => if badV pre v then false else mayIn (pre ++ [v]) r
theorem mayIn_drop {l : List Vr} {i : Nat} {v : Vr} (hv : l[i]? = some v) : mayIn (l.take i) (l.drop i) = if badV (l.take i) v then false else mayIn (l.take (i + 1)) (l.drop (i + 1)) := by
 have h1 : i < l.length := (List.getElem?_eq_some_iff.1 hv).1
 rw [Eng.take_snoc hv, List.drop_eq_getElem_cons h1, (List.getElem?_eq_some_iff.1 hv).2]
 rfl
def zeroV : Vr := ⟨[], none, 0, 0, []⟩
def hdV (l : List Vr) : Vr := l.headD zeroV
theorem hdV_get {l : List Vr} (h : ((l.length : Int) == 1) = true) : l[0]? = some (hdV l) := by
 cases l with
 | nil => simp at h
 | cons v l => rfl
def mayPr (cs : Bool) (l : List Vr) : Bool :=
 if !cs then ((l.length : Int) == 1) && ((hdV l).tag == []) && itemsB (hdV l).items 1
 else if decide ((l.length : Int) < 1) || decide ((l.length : Int) > 16) then false
 else mayIn [] l
def findV (tag : B) : List Vr → Nat → Option (Vr × Nat)
 | [], _ => none
 | v :: l, k => if v.tag == tag then some (v, k) else findV tag l (k + 1)
theorem tagIn_drop (tag : B) {l : List Vr} {i : Nat} {w : Vr} (hw : l[i]? = some w) : tagIn tag (l.drop i) = ((w.tag == tag) || tagIn tag (l.drop (i + 1))) := by
 have h1 : i < l.length := (List.getElem?_eq_some_iff.1 hw).1
 rw [List.drop_eq_getElem_cons h1, (List.getElem?_eq_some_iff.1 hw).2]
 rfl
def eqI (x y : Int) : Bool := x == y
theorem eqI_iff (x y : Int) : eqI x y = true ↔ x = y := by simp [eqI]
theorem eqI_ne {x y : Int} (h : (x != y) = true) : eqI x y = false := by simpa [eqI] using h
theorem eqI_eq {x y : Int} (h : (x != y) = false) : eqI x y = true := by simpa [eqI] using h
end Go.Ty
end
/- ExpM -/
section
namespace Go.Xp
open Go.Eng
abbrev B := List UInt8
inductive Ex where
 | mk (k o t n : Int) (s : B) (a : Option Addr) (c : Nat) (l : List Ex)
namespace Ex
def k : Ex → Int | mk k _ _ _ _ _ _ _ => k
def o : Ex → Int | mk _ o _ _ _ _ _ _ => o
def t : Ex → Int | mk _ _ t _ _ _ _ _ => t
def n : Ex → Int | mk _ _ _ n _ _ _ _ => n
def s : Ex → B | mk _ _ _ _ s _ _ _ => s
def a : Ex → Option Addr | mk _ _ _ _ _ a _ _ => a
def c : Ex → Nat | mk _ _ _ _ _ _ c _ => c
def l : Ex → List Ex | mk _ _ _ _ _ _ _ l => l
end Ex
def exE (e : Ex) : List Value := [.int .u8 e.k, .int .u8 e.o, .int .u8 e.t, .int .i32 e.n, str e.s, .slice e.a e.l.length e.c]
theorem exE_len (e : Ex) : (exE e).length = 6 := rfl
def exV (e : Ex) : Value := .agg (exE e).toArray
inductive TOk (m : View) (h : List Res) : Ex → Prop
 | mk {k o t n : Int} {s : B} {a : Option Addr} {c : Nat} {l : List Ex} (hr : Rd m h a l.length c 6 (fl exE l)) (hc : ∀ x ∈ l, TOk m h x) : TOk m h (.mk k o t n s a c l)
theorem TOk.rd {m : View} {h : List Res} {e : Ex} (q : TOk m h e) : Rd m h e.a e.l.length e.c 6 (fl exE e.l) := by cases q; assumption
theorem TOk.part {m : View} {h : List Res} {e x : Ex} (q : TOk m h e) (hx : x ∈ e.l) : TOk m h x := by cases q with | mk hr hc => exact hc x hx
theorem TOk.mono {m : View} {h h' : List Res} {e : Ex} (q : TOk m h e) (hh : h.Sublist h') : TOk m h' e := by
 induction q with
 | mk hr _ ih => exact .mk (hr.mono (View.le.refl m) hh) ih
inductive Wf : Ex → Prop
 | mk {k o t n : Int} {s : B} {a : Option Addr} {c : Nat} {l : List Ex} (hk : 0 ≤ k ∧ k ≤ 255) (ho : 0 ≤ o ∧ o ≤ 255) (ht : 0 ≤ t ∧ t ≤ 255) (hn : -2147483648 ≤ n ∧ n ≤ 2147483647) (hs : s.length ≤ 140737488355328) (hc : ∀ x ∈ l, Wf x) : Wf (.mk k o t n s a c l)
theorem Wf.spec {e : Ex} (q : Wf e) : ((0 ≤ e.k ∧ e.k ≤ 255) ∧ (0 ≤ e.o ∧ e.o ≤ 255) ∧ (0 ≤ e.t ∧ e.t ≤ 255)) ∧ ((-2147483648 ≤ e.n ∧ e.n ≤ 2147483647) ∧ e.s.length ≤ 140737488355328) := by
 cases q with | mk hk ho ht hn hs hc => exact ⟨⟨hk, ho, ht⟩, hn, hs⟩
theorem Wf.part {e x : Ex} (q : Wf e) (hx : x ∈ e.l) : Wf x := by cases q with | mk hk ho ht hn hs hc => exact hc x hx
theorem Ex.ind {p : Ex → Prop} (h : ∀ e : Ex, (∀ x ∈ e.l, p x) → p e) (e : Ex) : p e :=
 Ex.rec (motive_1 := p) (motive_2 := fun l => ∀ x ∈ l, p x) (fun k o t n s a c l ih => h (.mk k o t n s a c l) ih) (fun _ hx => by cases hx)
   (fun y r hy hr x hx => by
     rcases List.mem_cons.1 hx with rfl | hx
     · exact hy
     · exact hr x hx) e
mutual
def cntE : Ex → Nat
 | .mk _ _ _ _ _ _ _ l => 1 + cntL l
def cntL : List Ex → Nat
 | [] => 0
 | x :: r => cntE x + cntL r
end
theorem cntE_eq (e : Ex) : cntE e = 1 + cntL e.l := by cases e; rfl
theorem cnt_mem : ∀ {l : List Ex} {x : Ex}, x ∈ l → cntE x ≤ cntL l
 | y :: r, x, h => by
   unfold cntL
   rcases List.mem_cons.1 h with rfl | h
   · omega
   · have := cnt_mem h
     omega
theorem cnt_len : ∀ l : List Ex, l.length ≤ cntL l
 | [] => Nat.le_refl _
 | x :: r => by
   have := cnt_len r
   unfold cntL
   have := cntE_eq x
   simp only [List.length_cons]
   omega
mutual
def namesE : Ex → List B
 | .mk k _ _ _ s _ _ l => (if (k == 4 || k == 5) || k == 9 then [s] else []) ++ namesL l
def namesL : List Ex → List B
 | [] => []
 | x :: r => namesE x ++ namesL r
end
theorem take_at {α : Type} {l : List α} {k : Nat} {c : α} (hc : l[k]? = some c) : l.take (k + 1) = l.take k ++ [c] := by rw [List.take_add_one, hc]; rfl
def badE (x y : Ex) : Bool := ((((((x.k != y.k) || (x.o != y.o)) || (x.t != y.t)) || (x.n != y.n)) || (x.s != y.s)) || ((x.l.length : Int) != y.l.length))
mutual
def sameE : Ex → Ex → Bool
 | .mk k o t n s a c l, y => !badE (.mk k o t n s a c l) y && sameL l y.l
def sameL : List Ex → List Ex → Bool
 | [], _ => true
 | _ :: _, [] => true
 | x :: r, y :: q => sameE x y && sameL r q
end
theorem sameE_eq (x y : Ex) : sameE x y = (!badE x y && sameL x.l y.l) := by cases x; rfl
theorem sameL_at {l q : List Ex} {k : Nat} {x y : Ex} (hx : l[k]? = some x) (hy : q[k]? = some y) : sameL (l.drop k) (q.drop k) = (sameE x y && sameL (l.drop (k + 1)) (q.drop (k + 1))) := by
 rw [show l.drop k = x :: l.drop (k + 1) by
     have h1 : k < l.length := (List.getElem?_eq_some_iff.1 hx).1
     rw [List.drop_eq_getElem_cons h1, (List.getElem?_eq_some_iff.1 hx).2],
   show q.drop k = y :: q.drop (k + 1) by
     have h1 : k < q.length := (List.getElem?_eq_some_iff.1 hy).1
     rw [List.drop_eq_getElem_cons h1, (List.getElem?_eq_some_iff.1 hy).2]]
 rfl
def fin (o t n : Int) (s : B) : Bool := (((o == 0) && (t == 0)) && (n == 0)) && (s == [])
def primP (k : Int) : B := if k = 1 then [73, 78, 84] else if k = 2 then [66, 89, 84, 69] else if k = 3 then [66, 79, 79, 76] else []
def partsP (e : Ex) : Int × Bool :=
 if e.k = 1 then (0, fin e.o e.t 0 e.s)
 else if e.k = 2 then (if bshr .i32 e.n 8 ≠ 0 then (0, false) else (0, fin e.o e.t 0 e.s))
 else if e.k = 3 then (if bshr .i32 e.n 1 ≠ 0 then (0, false) else (0, fin e.o e.t 0 e.s))
 else if e.k = 4 then (if !Go.Lx.name e.s then (0, false) else (0, fin e.o e.t e.n []))
 else if e.k = 9 then (if !Go.Lx.name e.s then (0, false) else (0, fin e.o e.t e.n []))
 else if e.k = 5 then (if !Go.Lx.name e.s then (0, false) else (1, fin e.o e.t e.n []))
 else if e.k = 6 then (if decide (e.o < 23) || decide (IntKind.u8.wrap (e.o - 23) ≥ 4) then (0, false) else (1, fin 0 e.t e.n e.s))
 else if e.k = 7 then (if decide (e.o < 1) || decide (e.o > 22) then (0, false) else (2, fin 0 e.t e.n e.s))
 else if e.k = 8 then (if primP e.t == [] then (0, false) else (1, fin e.o 0 e.n e.s))
 else (0, false)
def headE (deep left : Int) (e : Ex) : Bool := (((!(partsP e).2 || decide (left - 1 < 0)) || decide (deep > 32)) || ((e.l.length : Int) != (partsP e).1))
mutual
def visitE (deep left : Int) : Ex → Option Int
 | .mk k o t n s a c l => if headE deep left (.mk k o t n s a c l) then none else visitL (deep + 1) (left - 1) l
def visitL (deep left : Int) : List Ex → Option Int
 | [] => some left
 | x :: r => match visitE deep left x with
   | some q => visitL deep q r
   | none => none
end
theorem visitE_eq (deep left : Int) (e : Ex) : visitE deep left e = if headE deep left e then none else visitL (deep + 1) (left - 1) e.l := by cases e; rfl
theorem visitL_at {l : List Ex} {k : Nat} {x : Ex} (hx : l[k]? = some x) (deep left : Int) : visitL deep left (l.drop k) = (visitE deep left x).bind fun q => visitL deep q (l.drop (k + 1)) := by
 have h1 : k < l.length := (List.getElem?_eq_some_iff.1 hx).1
 rw [List.drop_eq_getElem_cons h1, (List.getElem?_eq_some_iff.1 hx).2]
 show (match visitE deep left x with | some q => visitL deep q (l.drop (k + 1)) | none => none) = _
 cases visitE deep left x <;> rfl
theorem head_no {deep left : Int} {e : Ex} (h : headE deep left e = false) : ((partsP e).2 = true ∧ 0 ≤ left - 1) ∧ deep ≤ 32 ∧ (e.l.length : Int) = (partsP e).1 := by
 unfold headE at h
 simp only [Bool.or_eq_false_iff, Bool.not_eq_false', decide_eq_false_iff_not, bne_eq_false_iff_eq] at h
 obtain ⟨⟨⟨h1, h2⟩, h3⟩, h4⟩ := h
 exact ⟨⟨h1, by omega⟩, by omega, h4⟩
theorem visit_rng (e : Ex) : ∀ (deep left q : Int), 0 ≤ left → visitE deep left e = some q → 0 ≤ q ∧ q ≤ left - 1 := by
 refine Ex.ind (p := fun e => ∀ (deep left q : Int), 0 ≤ left → visitE deep left e = some q → 0 ≤ q ∧ q ≤ left - 1) (fun e ih deep left q hl hq => ?_) e
 rw [visitE_eq] at hq
 split at hq
 · cases hq
 · rename_i hh
   have hb := head_no (by simpa using hh)
   have key : ∀ (l : List Ex), (∀ x ∈ l, x ∈ e.l) → ∀ z, 0 ≤ z → visitL (deep + 1) z l = some q → 0 ≤ q ∧ q ≤ z := by
     intro l
     induction l with
     | nil => intro _ z hz h; cases h; omega
     | cons x r ihr =>
       intro hm z hz h
       unfold visitL at h
       split at h
       · rename_i p hp
         have h1 := ih x (hm x (by simp)) _ _ _ hz hp
         have h2 := ihr (fun y hy => hm y (by simp [hy])) p h1.1 h
         omega
       · cases h
   exact key e.l (fun _ h => h) (left - 1) (by omega) hq
def mayE (e : Ex) : Bool := (visitE 1 256 e).isSome
def wordsL : List B := [[], [43], [45], [42], [47], [92], [80, 76, 85, 83], [77, 73, 78, 85, 83], [84, 73, 77, 69, 83], [47, 92], [92, 47], [62, 60], [60, 60], [62, 62], [61], [60, 62], [60], [62], [60, 61], [62, 61], [65, 78, 68], [79, 82], [65, 70, 84, 69, 82], [45], [77, 73, 78, 85, 83], [126], [78, 79, 84]]
def wordP (o : Int) : B × Bool := if o == 0 || decide (o ≥ 27) then ([], false) else (wordsL.getD o.toNat [], true)
theorem drop_at {α : Type} {l : List α} {k : Nat} {c : α} (hc : l[k]? = some c) : l.drop k = c :: l.drop (k + 1) := by
 have h1 : k < l.length := (List.getElem?_eq_some_iff.1 hc).1
 rw [List.drop_eq_getElem_cons h1, (List.getElem?_eq_some_iff.1 hc).2]
end Go.Xp
end
/- LexT -/
section
namespace Go.Lx
open Go.Ty
def singlesB : B := [43, 45, 42, 47, 92, 61, 60, 62, 126, 63, 33, 38, 58, 59, 44, 40, 41, 91, 93]
def doublesB : B := [32, 47, 92, 32, 92, 47, 32, 62, 60, 32, 60, 60, 32, 62, 62, 32, 60, 62, 32, 60, 61, 32, 62, 61, 32, 58, 61, 32]
def sym : B → Bool
 | [a] => Lib.contains singlesB [a]
 | [a, b] => ((a.toNat : Int) != 32) && ((b.toNat : Int) != 32) && Lib.contains doublesB ([32] ++ [a, b] ++ [32])
 | _ => false
def mayK (t : Tok) : Bool :=
 if decide (t.at_ < 0) || decide (t.at_ ≥ 256) then false
 else if t.kind == 1 then (t.n == 0) && name t.text
 else if t.kind == 2 then (t.n == 0) && key t.text
 else if t.kind == 5 then (t.n == 0) && sym t.text
 else if t.kind == 4 then (t.text == []) && decide (t.n ≥ 0) && decide (t.n < 256)
 else (t.kind == 3) && (t.text == [])
end Go.Lx
end
/- LexU -/
section
namespace Go.Lx
open Go.Ty
set_option maxRecDepth 100000
end Go.Lx
end
/- ExpN -/
section
namespace Go.Xp
open Go.Eng Go
def finR (e : Ex) (f : Bool) (n o t v : Int) (s : B) : Bool := (((((f && ((e.l.length : Int) == n)) && (e.o == o)) && (e.t == t)) && (e.n == v)) && (e.s == s))
def ownR (e : Ex) : Bool := (partsP e).2 && ((e.l.length : Int) == (partsP e).1)
theorem shr8 {n : Int} (h : -2147483648 ≤ n ∧ n ≤ 2147483647) : (bshr .i32 n 8 = 0) ↔ (0 ≤ n ∧ n ≤ 255) := by
 unfold bshr
 rw [Int.fdiv_eq_ediv_of_nonneg _ (by decide)]
 simp [IntKind.bits]
 omega
theorem shr1 {n : Int} (h : -2147483648 ≤ n ∧ n ≤ 2147483647) : (bshr .i32 n 1 = 0) ↔ (0 ≤ n ∧ n ≤ 1) := by
 unfold bshr
 rw [Int.fdiv_eq_ediv_of_nonneg _ (by decide)]
 simp [IntKind.bits]
 omega
theorem wrap_mon {o : Int} (h : 23 ≤ o ∧ o ≤ 255) : IntKind.u8.wrap (o - 23) = o - 23 := by
 unfold IntKind.wrap
 simp [IntKind.bits, IntKind.signed]
 omega
theorem own_num {e : Ex} (h : e.k = 1) : ownR e = finR e true 0 0 0 e.n [] := by
 simp only [ownR, finR, partsP, fin, h]
 rw [Bool.eq_iff_iff]
 simp
 constructor <;> (intro h; simp_all)
theorem own_byte {e : Ex} (hn : -2147483648 ≤ e.n ∧ e.n ≤ 2147483647) (h : e.k = 2) : ownR e = finR e (decide (e.n ≥ 0) && decide (e.n ≤ 255)) 0 0 0 e.n [] := by
 have h8 := shr8 hn
 simp only [ownR, finR, partsP, fin, h]
 by_cases hb : bshr .i32 e.n 8 = 0
 · have := h8.1 hb
   rw [Bool.eq_iff_iff]
   simp [hb, this.1, this.2]
   constructor <;> (intro h; simp_all)
 · have h9 : ¬ (0 ≤ e.n ∧ e.n ≤ 255) := fun q => hb (h8.2 q)
   rw [Bool.eq_iff_iff]
   simp [hb]
   intros
   omega
theorem own_bool {e : Ex} (hn : -2147483648 ≤ e.n ∧ e.n ≤ 2147483647) (h : e.k = 3) : ownR e = finR e ((e.n == 0) || (e.n == 1)) 0 0 0 e.n [] := by
 have h8 := shr1 hn
 simp only [ownR, finR, partsP, fin, h]
 by_cases hb : bshr .i32 e.n 1 = 0
 · have := h8.1 hb
   have h10 : e.n = 0 ∨ e.n = 1 := by omega
   rw [Bool.eq_iff_iff]
   simp [hb, h10]
   constructor <;> (intro h; simp_all)
 · have h9 : ¬ (0 ≤ e.n ∧ e.n ≤ 1) := fun q => hb (h8.2 q)
   have h10 : ¬ (e.n = 0 ∨ e.n = 1) := by omega
   rw [Bool.eq_iff_iff]
   simp [hb]
   intros
   omega
theorem own_name {e : Ex} (h : e.k = 4 ∨ e.k = 9) : ownR e = finR e (Go.Lx.nameR e.s) 0 0 0 0 e.s := by
 rw [← Go.Lx.name_eq]
 rcases h with h | h <;>
 · simp only [ownR, finR, partsP, fin, h]
   cases Go.Lx.name e.s
   · simp
   · rw [Bool.eq_iff_iff]
     simp
     constructor <;> (intro h; simp_all)
theorem own_index {e : Ex} (h : e.k = 5) : ownR e = finR e (Go.Lx.nameR e.s) 1 0 0 0 e.s := by
 rw [← Go.Lx.name_eq]
 simp only [ownR, finR, partsP, fin, h]
 cases Go.Lx.name e.s
 · simp
 · rw [Bool.eq_iff_iff]
   simp
   constructor <;> (intro h; simp_all)
theorem own_mon {e : Ex} (ho : 0 ≤ e.o ∧ e.o ≤ 255) (h : e.k = 6) : ownR e = finR e (decide (e.o ≥ 23) && decide (e.o ≤ 26)) 1 e.o 0 0 [] := by
 simp only [ownR, finR, partsP, fin, h]
 by_cases h1 : e.o < 23
 · rw [Bool.eq_iff_iff]
   simp [h1]
   intros
   omega
 · have h2 := wrap_mon (o := e.o) (by omega)
   rw [h2, Bool.eq_iff_iff]
   by_cases h3 : e.o ≤ 26
   · have h4 : 23 ≤ e.o := by omega
     have h5 : ¬ 4 ≤ e.o - 23 := by omega
     simp [h1, h3, h4, h5]
     constructor <;> (intro h; simp_all)
   · have h5 : 4 ≤ e.o - 23 := by omega
     simp [h1, h3, h5]
theorem own_dya {e : Ex} (h : e.k = 7) : ownR e = finR e (decide (e.o ≥ 1) && decide (e.o ≤ 22)) 2 e.o 0 0 [] := by
 simp only [ownR, finR, partsP, fin, h]
 by_cases h1 : e.o < 1
 · rw [Bool.eq_iff_iff]
   simp [h1]
   intros
   omega
 · by_cases h3 : e.o ≤ 22
   · have h4 : 1 ≤ e.o := by omega
     have h5 : ¬ 22 < e.o := by omega
     rw [Bool.eq_iff_iff]
     simp [h1, h3, h4, h5]
     constructor <;> (intro h; simp_all)
   · have h5 : 22 < e.o := by omega
     rw [Bool.eq_iff_iff]
     simp [h1, h3, h5]
theorem own_conv {e : Ex} (h : e.k = 8) : ownR e = finR e (((e.t == 1) || (e.t == 2)) || (e.t == 3)) 1 0 e.t 0 [] := by
 simp only [ownR, finR, partsP, fin, h, primP]
 rw [Bool.eq_iff_iff]
 by_cases h1 : e.t = 1
 · simp [h1]
   constructor <;> (intro h; simp_all)
 · by_cases h2 : e.t = 2
   · simp [h2]
     constructor <;> (intro h; simp_all)
   · by_cases h3 : e.t = 3
     · simp [h3]
       constructor <;> (intro h; simp_all)
     · simp [h1, h2, h3]
theorem own_none {e : Ex} (h1 : e.k ≠ 1) (h2 : e.k ≠ 2) (h3 : e.k ≠ 3) (h4 : e.k ≠ 4) (h9 : e.k ≠ 9) (h5 : e.k ≠ 5) (h6 : e.k ≠ 6) (h7 : e.k ≠ 7) (h8 : e.k ≠ 8) : ownR e = false := by
 simp [ownR, partsP, h1, h2, h3, h4, h5, h6, h7, h8, h9]
theorem head_room {e : Ex} {a b : Int} (ha : 0 ≤ a ∧ a ≤ 32) (hb : 0 ≤ b) : headE (a + 1) b e = ((a == 32) || (b == 0) || !(ownR e)) := by
 unfold headE ownR
 have h1 : decide (b - 1 < 0) = (b == 0) := by rw [Bool.eq_iff_iff]; simp; omega
 have h2 : decide (a + 1 > 32) = (a == 32) := by rw [Bool.eq_iff_iff]; simp; omega
 rw [h1, h2]
 cases (partsP e).2 <;> cases (a == 32) <;> cases (b == 0) <;> simp [bne]
end Go.Xp

namespace Go.Xp
open Go.Eng Go
open Go.Ty (Tok encK)
def symT (s : B) : Tok := ⟨5, 0, s, 0⟩
def keyT (s : B) : Tok := ⟨2, 0, s, 0⟩
def nameT (s : B) : Tok := ⟨1, 0, s, 0⟩
def numT (n : Int) : Tok := ⟨3, 0, [], n⟩
def byteT (n : Int) : Tok := ⟨4, 0, [], n⟩
def markT (s : B) : Tok := if Go.Lx.key s then keyT s else symT s
def operT (o : Int) : Tok := markT (wordP o).1
def par (k : Int) : Bool := (((k == 6) || (k == 7)) || (k == 8)) || (k == 9)
def opndP (p : Bool × List Tok) : List Tok := if p.1 then symT [40] :: (p.2 ++ [symT [41]]) else p.2
def wr (k o t n : Int) (s : B) (ws : List (Bool × List Tok)) : List Tok :=
 if k = 1 then [numT n] else if k = 2 then [byteT n] else if k = 3 then (if n = 0 then [markT [70, 65, 76, 83, 69]] else [markT [84, 82, 85, 69]])
 else if k = 4 then [nameT s] else if k = 9 then [markT [83, 73, 90, 69], nameT s] else if k = 5 then nameT s :: symT [91] :: ((ws.getD 0 (false, [])).2 ++ [symT [93]])
 else if k = 6 then operT o :: opndP (ws.getD 0 (false, [])) else if k = 8 then markT (primP t) :: opndP (ws.getD 0 (false, []))
 else opndP (ws.getD 0 (false, [])) ++ operT o :: opndP (ws.getD 1 (false, []))
mutual
def writeE : Ex → List Tok
 | .mk k o t n s _ _ l => wr k o t n s (writeL l)
def writeL : List Ex → List (Bool × List Tok)
 | [] => []
 | x :: r => (par x.k, writeE x) :: writeL r
end
inductive Fine : Ex → Prop
 | mk {e : Ex} (h1 : (partsP e).2 = true) (h2 : (e.l.length : Int) = (partsP e).1) (h3 : ∀ x ∈ e.l, Fine x) : Fine e
theorem Fine.ok {e : Ex} (g : Fine e) : (partsP e).2 = true := by cases g; assumption
theorem Fine.num {e : Ex} (g : Fine e) : (e.l.length : Int) = (partsP e).1 := by cases g; assumption
theorem Fine.part {e x : Ex} (g : Fine e) (hx : x ∈ e.l) : Fine x := by cases g with | mk h1 h2 h3 => exact h3 x hx
theorem visit_good (e : Ex) : ∀ (deep left q : Int), visitE deep left e = some q → Fine e ∧ (cntE e : Int) = left - q := by
 refine Ex.ind (p := fun e => ∀ (deep left q : Int), visitE deep left e = some q → Fine e ∧ (cntE e : Int) = left - q) (fun e ih deep left q hq => ?_) e
 rw [visitE_eq] at hq
 split at hq
 · cases hq
 · rename_i hh
   have hb := head_no (by simpa using hh)
   have key : ∀ (l : List Ex), (∀ x ∈ l, x ∈ e.l) → ∀ z, visitL (deep + 1) z l = some q → (∀ x ∈ l, Fine x) ∧ (cntL l : Int) = z - q := by
     intro l
     induction l with
     | nil =>
       intro _ z h
       cases h
       exact ⟨fun x hx => (List.not_mem_nil hx).elim, by simp [cntL]⟩
     | cons x r ihr =>
       intro hm z h
       unfold visitL at h
       split at h
       · rename_i p hp
         have h1 := ih x (hm x (by simp)) _ _ _ hp
         have h2 := ihr (fun y hy => hm y (by simp [hy])) p h
         refine ⟨fun y hy => ?_, by unfold cntL; omega⟩
         rcases List.mem_cons.1 hy with rfl | hy
         · exact h1.1
         · exact h2.1 y hy
       · cases h
   have hk := key e.l (fun _ h => h) (left - 1) hq
   have hc := cntE_eq e
   exact ⟨.mk hb.1.1 hb.2.2 hk.1, by omega⟩
theorem may_good {e : Ex} (h : mayE e = true) : Fine e ∧ cntE e ≤ 256 := by
 obtain ⟨q, hq⟩ := Option.isSome_iff_exists.1 h
 have h1 := visit_good e 1 256 q hq
 have h2 := visit_rng e 1 256 q (by decide) hq
 exact ⟨h1.1, by omega⟩
theorem good_kind {e : Ex} (g : Fine e) : e.k = 1 ∨ e.k = 2 ∨ e.k = 3 ∨ e.k = 4 ∨ e.k = 9 ∨ e.k = 5 ∨ e.k = 6 ∨ e.k = 7 ∨ e.k = 8 := by
 have h := g.ok
 unfold partsP at h
 by_cases h1 : e.k = 1
 · simp [h1]
 by_cases h2 : e.k = 2
 · simp [h2]
 by_cases h3 : e.k = 3
 · simp [h3]
 by_cases h4 : e.k = 4
 · simp [h4]
 by_cases h9 : e.k = 9
 · simp [h9]
 by_cases h5 : e.k = 5
 · simp [h5]
 by_cases h6 : e.k = 6
 · simp [h6]
 by_cases h7 : e.k = 7
 · simp [h7]
 by_cases h8 : e.k = 8
 · simp [h8]
 simp [h1, h2, h3, h4, h5, h6, h7, h8, h9] at h
theorem one_part {e : Ex} (g : Fine e) (h : e.k = 5 ∨ e.k = 6 ∨ e.k = 8) : ∃ x, e.l = [x] := by
 have h1 := g.ok
 have h2 := g.num
 have : (partsP e).1 = 1 := by
   unfold partsP at h1 ⊢
   rcases h with h | h | h <;> simp only [h] at h1 ⊢ <;> (revert h1; simp) <;> split <;> simp
 rw [this] at h2
 match hl : e.l with
 | [x] => exact ⟨x, rfl⟩
 | [] => rw [hl] at h2; simp at h2
 | _ :: _ :: _ => rw [hl] at h2; simp at h2; omega
theorem two_parts {e : Ex} (g : Fine e) (h : e.k = 7) : ∃ x y, e.l = [x, y] := by
 have h1 := g.ok
 have h2 := g.num
 have : (partsP e).1 = 2 := by
   unfold partsP at h1 ⊢
   simp only [h] at h1 ⊢
   revert h1
   simp
   split <;> simp
 rw [this] at h2
 match hl : e.l with
 | [x, y] => exact ⟨x, y, rfl⟩
 | [] => rw [hl] at h2; simp at h2
 | [_] => rw [hl] at h2; simp at h2
 | _ :: _ :: _ :: _ => rw [hl] at h2; simp at h2; omega
end Go.Xp

namespace Go.Xp
open Go.Eng Go
open Go.Ty (Tok encK)
open Go.Lx (mayK)
instance : DecidableEq Tok := fun t u => decidable_of_iff (Go.Ty.eqK t u = true) (Go.Ty.eqK_iff t u)
def zeroT : Tok := ⟨0, 0, [], 0⟩
def sx (k o t n : Int) (s : B) (l : List Ex) : Ex := .mk k o t n s none 0 l
mutual
def strip : Ex → Ex
 | .mk k o t n s _ _ l => .mk k o t n s none 0 (stripL l)
def stripL : List Ex → List Ex
 | [] => []
 | x :: r => strip x :: stripL r
end
theorem stripL_eq (l : List Ex) : stripL l = l.map strip := by
 induction l with
 | nil => rfl
 | cons x r ih => rw [stripL, ih]; rfl
end Go.Xp

namespace Go.Xp
open Go.Eng Go
open Go.Ty (Tok encK)
theorem strip_eq (e : Ex) : strip e = .mk e.k e.o e.t e.n e.s none 0 (e.l.map strip) := by
 cases e with
 | mk k o t n s a c l =>
   rw [strip, stripL_eq]
   rfl
theorem parts_strip (e : Ex) : partsP (strip e) = partsP e := by rw [strip_eq]; rfl
theorem len_strip (e : Ex) : (strip e).l.length = e.l.length := by rw [strip_eq]; exact List.length_map _
theorem head_strip (deep left : Int) (e : Ex) : headE deep left (strip e) = headE deep left e := by
 unfold headE
 rw [parts_strip, len_strip]
theorem l_strip (e : Ex) : (strip e).l = e.l.map strip := by rw [strip_eq]; rfl
theorem visit_strip (e : Ex) : ∀ (deep left : Int), visitE deep left (strip e) = visitE deep left e := by
 refine Ex.ind (p := fun e => ∀ (deep left : Int), visitE deep left (strip e) = visitE deep left e) (fun e ih deep left => ?_) e
 rw [visitE_eq, visitE_eq, head_strip, l_strip]
 have key : ∀ (l : List Ex), (∀ x ∈ l, x ∈ e.l) → ∀ z, visitL (deep + 1) z (l.map strip) = visitL (deep + 1) z l := by
   intro l
   induction l with
   | nil => intro _ z; rfl
   | cons x r ihr =>
     intro hm z
     rw [List.map_cons]
     unfold visitL
     rw [ih x (hm x (by simp))]
     split
     · exact ihr (fun y hy => hm y (by simp [hy])) _
     · rfl
 rw [key e.l fun _ h => h]
theorem may_strip (e : Ex) : mayE (strip e) = mayE e := by unfold mayE; rw [visit_strip]
theorem same_strip (x : Ex) : ∀ y : Ex, (sameE x y = true ↔ strip x = strip y) := by
 refine Ex.ind (p := fun x => ∀ y : Ex, (sameE x y = true ↔ strip x = strip y)) (fun x ih y => ?_) x
 have key : ∀ (l q : List Ex), (∀ x' ∈ l, x' ∈ x.l) → l.length = q.length → (sameL l q = true ↔ l.map strip = q.map strip) := by
   intro l
   induction l with
   | nil =>
     intro q _ hl
     match q with
     | [] => simp [sameL]
     | _ :: _ => simp at hl
   | cons u r ihr =>
     intro q hm hl
     match q with
     | [] => simp at hl
     | v :: w =>
       have h1 := ih u (hm u (by simp)) v
       have h2 := ihr w (fun z hz => hm z (by simp [hz])) (by simpa using hl)
       unfold sameL
       rw [Bool.and_eq_true, h1, h2, List.map_cons, List.map_cons, List.cons.injEq]
 rw [sameE_eq, strip_eq x, strip_eq y]
 constructor
 · intro h
   rw [Bool.and_eq_true] at h
   obtain ⟨hb, hl⟩ := h
   unfold badE at hb
   simp only [Bool.not_eq_true', Bool.or_eq_false_iff, bne_eq_false_iff_eq] at hb
   obtain ⟨⟨⟨⟨⟨h1, h2⟩, h3⟩, h4⟩, h5⟩, h6⟩ := hb
   have h7 := (key x.l y.l (fun _ h => h) (by omega)).1 hl
   rw [h1, h2, h3, h4, h5, h7]
 · intro h
   injection h with h1 h2 h3 h4 h5 h6 h7 h8
   have h9 : x.l.length = y.l.length := by simpa using congrArg List.length h8
   have h10 := (key x.l y.l (fun _ h => h) h9).2 h8
   rw [h10]
   unfold badE
   rw [h1, h2, h3, h4, h5, h9]
   simp
def zeroE : Ex := .mk 0 0 0 0 [] none 0 []
end Go.Xp
end
/- PrM -/
section
namespace Go.Pc
open Go.Eng Go.Xp Go
open Go.Ty (Ty Vr cellT encV PrOk)
open Go.Lx (encB)
abbrev B := List UInt8
structure Sli (α : Type) where
 a : Option Addr
 c : Nat
 l : List α
def Sli.v {α : Type} (s : Sli α) : Value := .slice s.a s.l.length s.c
def nilS {α : Type} : Sli α := ⟨none, 0, []⟩
structure Rp where
 name : B
 base : Ex
 count : Ex
structure Fo where
 val : Bool
 ty : Ty
 name : B
mutual
inductive Pr where
 | mk (k : Int) (name : B) (ch : Ex) (tg ex : Sli Ex) (rep : Rp) (ga : Option Addr) (gc : Nat) (gl : List Gu) (la : Option Addr) (lc : Nat) (ll : List Pr) (pn : Sli Int) (sp : Sp)
inductive Gu where
 | mk (k : Int) (name : B) (cond ch : Ex) (tg vl : Sli Ex) (time : Ex) (ba : Option Addr) (bc : Nat) (bl : List Pr)
inductive Sp where
 | mk (k : Int) (ty : Ty) (names : Sli B) (e : Ex) (cs : Bool) (vs : Sli Vr) (fs : Sli Fo) (ba : Option Addr) (bc : Nat) (bl : List Pr)
end
namespace Sp
def k : Sp → Int | mk k _ _ _ _ _ _ _ _ _ => k
def ty : Sp → Ty | mk _ t _ _ _ _ _ _ _ _ => t
def names : Sp → Sli B | mk _ _ n _ _ _ _ _ _ _ => n
def e : Sp → Ex | mk _ _ _ e _ _ _ _ _ _ => e
def cs : Sp → Bool | mk _ _ _ _ c _ _ _ _ _ => c
def vs : Sp → Sli Vr | mk _ _ _ _ _ v _ _ _ _ => v
def fs : Sp → Sli Fo | mk _ _ _ _ _ _ f _ _ _ => f
def ba : Sp → Option Addr | mk _ _ _ _ _ _ _ a _ _ => a
def bc : Sp → Nat | mk _ _ _ _ _ _ _ _ c _ => c
def bl : Sp → List Pr | mk _ _ _ _ _ _ _ _ _ l => l
end Sp
namespace Gu
def k : Gu → Int | mk k _ _ _ _ _ _ _ _ _ => k
def name : Gu → B | mk _ n _ _ _ _ _ _ _ _ => n
def cond : Gu → Ex | mk _ _ e _ _ _ _ _ _ _ => e
def ch : Gu → Ex | mk _ _ _ e _ _ _ _ _ _ => e
def tg : Gu → Sli Ex | mk _ _ _ _ t _ _ _ _ _ => t
def vl : Gu → Sli Ex | mk _ _ _ _ _ v _ _ _ _ => v
def time : Gu → Ex | mk _ _ _ _ _ _ e _ _ _ => e
def ba : Gu → Option Addr | mk _ _ _ _ _ _ _ a _ _ => a
def bc : Gu → Nat | mk _ _ _ _ _ _ _ _ c _ => c
def bl : Gu → List Pr | mk _ _ _ _ _ _ _ _ _ l => l
end Gu
namespace Pr
def k : Pr → Int | mk k _ _ _ _ _ _ _ _ _ _ _ _ _ => k
def name : Pr → B | mk _ n _ _ _ _ _ _ _ _ _ _ _ _ => n
def ch : Pr → Ex | mk _ _ e _ _ _ _ _ _ _ _ _ _ _ => e
def tg : Pr → Sli Ex | mk _ _ _ t _ _ _ _ _ _ _ _ _ _ => t
def ex : Pr → Sli Ex | mk _ _ _ _ e _ _ _ _ _ _ _ _ _ => e
def rep : Pr → Rp | mk _ _ _ _ _ r _ _ _ _ _ _ _ _ => r
def ga : Pr → Option Addr | mk _ _ _ _ _ _ a _ _ _ _ _ _ _ => a
def gc : Pr → Nat | mk _ _ _ _ _ _ _ c _ _ _ _ _ _ => c
def gl : Pr → List Gu | mk _ _ _ _ _ _ _ _ l _ _ _ _ _ => l
def la : Pr → Option Addr | mk _ _ _ _ _ _ _ _ _ a _ _ _ _ => a
def lc : Pr → Nat | mk _ _ _ _ _ _ _ _ _ _ c _ _ _ => c
def ll : Pr → List Pr | mk _ _ _ _ _ _ _ _ _ _ _ l _ _ => l
def pn : Pr → Sli Int | mk _ _ _ _ _ _ _ _ _ _ _ _ p _ => p
def sp : Pr → Sp | mk _ _ _ _ _ _ _ _ _ _ _ _ _ s => s
end Pr
def encN (n : Int) : List Value := [.int .i64 n]
theorem encN_len (n : Int) : (encN n).length = 1 := rfl
def foE (f : Fo) : List Value := [.bool f.val, .int .u8 f.ty.kind, .int .i64 f.ty.dim, .int .u8 f.ty.item, str f.ty.proto, str f.name]
theorem foE_len (f : Fo) : (foE f).length = 6 := rfl
def rpE (r : Rp) : List Value := [str r.name, .int .u8 r.base.k, .int .u8 r.base.o, .int .u8 r.base.t, .int .i32 r.base.n, str r.base.s, .slice r.base.a r.base.l.length r.base.c,
 .int .u8 r.count.k, .int .u8 r.count.o, .int .u8 r.count.t, .int .i32 r.count.n, str r.count.s, .slice r.count.a r.count.l.length r.count.c]
def spE (s : Sp) : List Value := [.int .u8 s.k, .int .u8 s.ty.kind, .int .i64 s.ty.dim, .int .u8 s.ty.item, str s.ty.proto, .slice s.names.a s.names.l.length s.names.c,
 .int .u8 s.e.k, .int .u8 s.e.o, .int .u8 s.e.t, .int .i32 s.e.n, str s.e.s, .slice s.e.a s.e.l.length s.e.c, .bool s.cs, .slice s.vs.a s.vs.l.length s.vs.c, .slice s.fs.a s.fs.l.length s.fs.c, .slice s.ba s.bl.length s.bc]
theorem spE_len (s : Sp) : (spE s).length = 16 := rfl
def guE (g : Gu) : List Value := [.int .u8 g.k, str g.name, .int .u8 g.cond.k, .int .u8 g.cond.o, .int .u8 g.cond.t, .int .i32 g.cond.n, str g.cond.s, .slice g.cond.a g.cond.l.length g.cond.c,
 .int .u8 g.ch.k, .int .u8 g.ch.o, .int .u8 g.ch.t, .int .i32 g.ch.n, str g.ch.s, .slice g.ch.a g.ch.l.length g.ch.c, .slice g.tg.a g.tg.l.length g.tg.c, .slice g.vl.a g.vl.l.length g.vl.c,
 .int .u8 g.time.k, .int .u8 g.time.o, .int .u8 g.time.t, .int .i32 g.time.n, str g.time.s, .slice g.time.a g.time.l.length g.time.c, .slice g.ba g.bl.length g.bc]
theorem guE_len (g : Gu) : (guE g).length = 23 := rfl
def prE (p : Pr) : List Value := [.int .u8 p.k, str p.name, .int .u8 p.ch.k, .int .u8 p.ch.o, .int .u8 p.ch.t, .int .i32 p.ch.n, str p.ch.s, .slice p.ch.a p.ch.l.length p.ch.c,
 .slice p.tg.a p.tg.l.length p.tg.c, .slice p.ex.a p.ex.l.length p.ex.c,
 str p.rep.name, .int .u8 p.rep.base.k, .int .u8 p.rep.base.o, .int .u8 p.rep.base.t, .int .i32 p.rep.base.n, str p.rep.base.s, .slice p.rep.base.a p.rep.base.l.length p.rep.base.c,
 .int .u8 p.rep.count.k, .int .u8 p.rep.count.o, .int .u8 p.rep.count.t, .int .i32 p.rep.count.n, str p.rep.count.s, .slice p.rep.count.a p.rep.count.l.length p.rep.count.c,
 .slice p.ga p.gl.length p.gc, .slice p.la p.ll.length p.lc, .slice p.pn.a p.pn.l.length p.pn.c,
 .int .u8 p.sp.k, .int .u8 p.sp.ty.kind, .int .i64 p.sp.ty.dim, .int .u8 p.sp.ty.item, str p.sp.ty.proto, .slice p.sp.names.a p.sp.names.l.length p.sp.names.c,
 .int .u8 p.sp.e.k, .int .u8 p.sp.e.o, .int .u8 p.sp.e.t, .int .i32 p.sp.e.n, str p.sp.e.s, .slice p.sp.e.a p.sp.e.l.length p.sp.e.c, .bool p.sp.cs, .slice p.sp.vs.a p.sp.vs.l.length p.sp.vs.c, .slice p.sp.fs.a p.sp.fs.l.length p.sp.fs.c, .slice p.sp.ba p.sp.bl.length p.sp.bc]
theorem prE_len (p : Pr) : (prE p).length = 42 := rfl
def foV (f : Fo) : Value := .agg (foE f).toArray
def rpV (r : Rp) : Value := .agg (rpE r).toArray
def spV (s : Sp) : Value := .agg (spE s).toArray
def guV (g : Gu) : Value := .agg (guE g).toArray
def prV (p : Pr) : Value := .agg (prE p).toArray
mutual
def cntP : Pr → Nat
 | .mk _ _ _ _ _ _ _ _ gl _ _ ll _ sp => 1 + (cntPs ll + (cntS sp + cntGs gl))
def cntPs : List Pr → Nat
 | [] => 0
 | x :: r => cntP x + cntPs r
def cntG : Gu → Nat
 | .mk _ _ _ _ _ _ _ _ _ bl => cntPs bl
def cntGs : List Gu → Nat
 | [] => 0
 | x :: r => cntG x + cntGs r
def cntS : Sp → Nat
 | .mk _ _ _ _ _ _ _ _ _ bl => cntPs bl
end
theorem cntP_eq (p : Pr) : cntP p = 1 + (cntPs p.ll + (cntS p.sp + cntGs p.gl)) := by cases p; rfl
theorem cntS_eq (s : Sp) : cntS s = cntPs s.bl := by cases s; rfl
theorem cntG_eq (g : Gu) : cntG g = cntPs g.bl := by cases g; rfl
theorem cntPs_mem : ∀ {l : List Pr} {x : Pr}, x ∈ l → cntP x ≤ cntPs l
 | y :: r, x, h => by
   unfold cntPs
   rcases List.mem_cons.1 h with rfl | h
   · omega
   · have := cntPs_mem h
     omega
theorem cntGs_mem : ∀ {l : List Gu} {x : Gu}, x ∈ l → cntG x ≤ cntGs l
 | y :: r, x, h => by
   unfold cntGs
   rcases List.mem_cons.1 h with rfl | h
   · omega
   · have := cntGs_mem h
     omega
theorem cntP_pos (p : Pr) : 1 ≤ cntP p := by rw [cntP_eq]; omega
inductive In : Pr → Pr → Prop
 | l {x p : Pr} (h : x ∈ p.ll) : In x p
 | s {x p : Pr} (h : x ∈ p.sp.bl) : In x p
 | g {x p : Pr} {g : Gu} (hg : g ∈ p.gl) (h : x ∈ g.bl) : In x p
theorem In.lt {x p : Pr} (h : In x p) : cntP x < cntP p := by
 rw [cntP_eq p]
 cases h with
 | l h => have := cntPs_mem h; omega
 | s h =>
   have := cntPs_mem h
   rw [← cntS_eq] at this
   omega
 | g hg h =>
   have h1 := cntPs_mem h
   have h2 := cntGs_mem hg
   rw [← cntG_eq] at h1
   omega
theorem Pr.ind {q : Pr → Prop} (h : ∀ p, (∀ x, In x p → q x) → q p) (p : Pr) : q p := by
 have key : ∀ n p, cntP p ≤ n → q p := by
   intro n
   induction n with
   | zero => intro p hp; have := cntP_pos p; omega
   | succ n ih => intro p hp; exact h p fun x hx => ih x (by have := hx.lt; omega)
 exact key (cntP p) p (Nat.le_refl _)
structure EOk (m : View) (h : List Res) (e : Ex) : Prop where
 t : TOk m h e
 w : Wf e
theorem EOk.mono {m : View} {h h' : List Res} {e : Ex} (q : EOk m h e) (s : h.Sublist h') : EOk m h' e := ⟨q.t.mono s, q.w⟩
structure LOk (m : View) (h : List Res) (s : Sli Ex) : Prop where
 rd : Rd m h s.a s.l.length s.c 6 (fl exE s.l)
 ok : ∀ x ∈ s.l, EOk m h x
theorem LOk.mono {m : View} {h h' : List Res} {s : Sli Ex} (q : LOk m h s) (r : h.Sublist h') : LOk m h' s := ⟨q.rd.mono (View.le.refl m) r, fun x hx => (q.ok x hx).mono r⟩
abbrev Big : Nat := 140737488355328
structure TyW (t : Ty) : Prop where
 k : 0 ≤ t.kind ∧ t.kind ≤ 255
 i : 0 ≤ t.item ∧ t.item ≤ 255
 d : -9223372036854775808 ≤ t.dim ∧ t.dim ≤ 9223372036854775807
 p : t.proto.length ≤ Big
structure FoW (f : Fo) : Prop where
 t : TyW f.ty
 n : f.name.length ≤ Big
structure SOk (m : View) (h : List Res) (s : Sp) : Prop where
 k : 0 ≤ s.k ∧ s.k ≤ 255
 ty : TyW s.ty
 nr : Rd m h s.names.a s.names.l.length s.names.c 1 (fl encB s.names.l)
 nw : ∀ x ∈ s.names.l, x.length ≤ Big
 e : EOk m h s.e
 v : PrOk m h s.vs.a s.vs.l.length s.vs.c s.vs.l
 vw : ∀ x ∈ s.vs.l, x.items.length = x.n
 fr : Rd m h s.fs.a s.fs.l.length s.fs.c 6 (fl foE s.fs.l)
 fw : ∀ x ∈ s.fs.l, FoW x
 b : Rd m h s.ba s.bl.length s.bc 42 (fl prE s.bl)
structure GOk (m : View) (h : List Res) (g : Gu) : Prop where
 k : 0 ≤ g.k ∧ g.k ≤ 255
 n : g.name.length ≤ Big
 cond : EOk m h g.cond
 ch : EOk m h g.ch
 tg : LOk m h g.tg
 vl : LOk m h g.vl
 time : EOk m h g.time
 b : Rd m h g.ba g.bl.length g.bc 42 (fl prE g.bl)
structure P1 (m : View) (h : List Res) (p : Pr) : Prop where
 k : 0 ≤ p.k ∧ p.k ≤ 255
 n : p.name.length ≤ Big
 ch : EOk m h p.ch
 tg : LOk m h p.tg
 ex : LOk m h p.ex
 rn : p.rep.name.length ≤ Big
 rb : EOk m h p.rep.base
 rc : EOk m h p.rep.count
 g : Rd m h p.ga p.gl.length p.gc 23 (fl guE p.gl)
 gs : ∀ x ∈ p.gl, GOk m h x
 l : Rd m h p.la p.ll.length p.lc 42 (fl prE p.ll)
 pn : Rd m h p.pn.a p.pn.l.length p.pn.c 1 (fl encN p.pn.l)
 pw : ∀ x ∈ p.pn.l, -9223372036854775808 ≤ x ∧ x ≤ 9223372036854775807
 sp : SOk m h p.sp
inductive POk (m : View) (h : List Res) : Pr → Prop
 | mk {p : Pr} (o : P1 m h p) (s : ∀ x, In x p → POk m h x) : POk m h p
theorem POk.own {m : View} {h : List Res} {p : Pr} (q : POk m h p) : P1 m h p := by cases q; assumption
theorem POk.sub {m : View} {h : List Res} {p x : Pr} (q : POk m h p) (hx : In x p) : POk m h x := by cases q with | mk o s => exact s x hx
theorem SOk.mono {m : View} {h h' : List Res} {s : Sp} (q : SOk m h s) (r : h.Sublist h') : SOk m h' s :=
 ⟨q.k, q.ty, q.nr.mono (View.le.refl m) r, q.nw, q.e.mono r, q.v.mono (View.le.refl m) r, q.vw, q.fr.mono (View.le.refl m) r, q.fw, q.b.mono (View.le.refl m) r⟩
theorem GOk.mono {m : View} {h h' : List Res} {g : Gu} (q : GOk m h g) (r : h.Sublist h') : GOk m h' g :=
 ⟨q.k, q.n, q.cond.mono r, q.ch.mono r, q.tg.mono r, q.vl.mono r, q.time.mono r, q.b.mono (View.le.refl m) r⟩
theorem P1.mono {m : View} {h h' : List Res} {p : Pr} (q : P1 m h p) (r : h.Sublist h') : P1 m h' p :=
 ⟨q.k, q.n, q.ch.mono r, q.tg.mono r, q.ex.mono r, q.rn, q.rb.mono r, q.rc.mono r, q.g.mono (View.le.refl m) r, fun x hx => (q.gs x hx).mono r, q.l.mono (View.le.refl m) r, q.pn.mono (View.le.refl m) r, q.pw, q.sp.mono r⟩
theorem POk.mono {m : View} {h h' : List Res} {p : Pr} (q : POk m h p) (r : h.Sublist h') : POk m h' p := by
 induction q with
 | mk o _ ih => exact .mk (o.mono r) ih
end Go.Pc
end
/- TgM -/
section
namespace Go.Tg
open Go.Eng Go.Pc Go
open Go.Xp hiding B
open Go.Ty (Ty eqT)
structure En where
 sp : Sp
 ar : Int
def enE (x : En) : List Value := [.int .u8 x.sp.k, .int .u8 x.sp.ty.kind, .int .i64 x.sp.ty.dim, .int .u8 x.sp.ty.item, str x.sp.ty.proto, .slice x.sp.names.a x.sp.names.l.length x.sp.names.c,
 .int .u8 x.sp.e.k, .int .u8 x.sp.e.o, .int .u8 x.sp.e.t, .int .i32 x.sp.e.n, str x.sp.e.s, .slice x.sp.e.a x.sp.e.l.length x.sp.e.c, .bool x.sp.cs, .slice x.sp.vs.a x.sp.vs.l.length x.sp.vs.c, .slice x.sp.fs.a x.sp.fs.l.length x.sp.fs.c, .slice x.sp.ba x.sp.bl.length x.sp.bc, .int .i64 x.ar]
theorem enE_len (x : En) : (enE x).length = 17 := rfl
def enV (x : En) : Value := .agg (enE x).toArray
structure Hd where
 t : Ty
 ar : Int
def hdE (h : Hd) : List Value := [.int .u8 h.t.kind, .int .i64 h.t.dim, .int .u8 h.t.item, str h.t.proto, .int .i64 h.ar]
def hdV (h : Hd) : Value := .agg (hdE h).toArray
def zeroH : Hd := ⟨Go.Ty.zeroT, 0⟩
def tyK (k : Int) : Ty := ⟨k, 0, 0, []⟩
def simT (t : Ty) : Bool := (eqT t (tyK t.kind) && decide (t.kind ≥ 1)) && decide (t.kind ≤ 3)
def findN (s : List En) (nm : B) : Nat → Int
 | 0 => -1
 | n + 1 => match s[n]? with
   | some x => if x.sp.names.l.contains nm then (n : Int) else findN s nm n
   | none => findN s nm n
def fnd (s : List En) (nm : B) : Option En := if findN s nm s.length < 0 then none else s[(findN s nm s.length).toNat]?
theorem findN_lt (s : List En) (nm : B) : ∀ n, -1 ≤ findN s nm n ∧ findN s nm n < n
 | 0 => ⟨Int.le_refl _, by show (-1 : Int) < 0; decide⟩
 | n + 1 => by
   have := findN_lt s nm n
   unfold findN
   split
   · split <;> omega
   · omega
def nameT (s : List En) (nm : B) : Except Int Hd := match fnd s nm with
 | none => .error 120
 | some x => if x.sp.k = 1 ∨ x.sp.k = 2 ∨ x.sp.k = 3 then .ok ⟨x.sp.ty, x.ar⟩ else .error 130
def arrT (s : List En) (nm : B) : Except Int Hd := match nameT s nm with
 | .error e => .error e
 | .ok h => if h.t.dim < 1 then .error 130 else .ok h
def resT (o : Int) (t : Ty) : Except Int Ty :=
 if o = 14 ∨ o = 15 then (if simT t then .ok (tyK 3) else .error 130)
 else if o = 16 ∨ o = 17 ∨ o = 18 ∨ o = 19 then (if eqT t (tyK 1) || eqT t (tyK 2) then .ok (tyK 3) else .error 130)
 else if o = 20 ∨ o = 21 ∨ o = 26 then (if eqT t (tyK 3) then .ok (tyK 3) else .error 130)
 else if o = 22 then (if eqT t (tyK 1) then .ok (tyK 3) else .error 130)
 else if eqT t (tyK 1) then .ok (tyK 1) else .error 130
def isT (r : Except Int Hd) (t : Ty) : Int := match r with
 | .error e => e
 | .ok h => if eqT h.t t then 0 else 130
def simpleH (k : Int) : Hd := ⟨tyK k, 0⟩
def tyC (s : List En) (k o t : Int) (nm : B) (ws : List (Except Int Hd)) : Except Int Hd :=
 if k = 1 then .ok (simpleH 1) else if k = 2 then .ok (simpleH 2) else if k = 3 then .ok (simpleH 3)
 else if k = 4 then nameT s nm
 else if k = 9 then (match arrT s nm with | .error e => .error e | .ok _ => .ok (simpleH 1))
 else if k = 5 then (match arrT s nm with
   | .error e => .error e
   | .ok h => if isT (ws.getD 0 (.error 130)) (tyK 1) = 0 then .ok ⟨{ h.t with dim := 0 }, h.ar⟩ else .error (isT (ws.getD 0 (.error 130)) (tyK 1)))
 else match ws.getD 0 (.error 130) with
   | .error e => .error e
   | .ok a => if k = 7 ∧ isT (ws.getD 1 (.error 130)) a.t ≠ 0 then .error (isT (ws.getD 1 (.error 130)) a.t)
     else if k ≠ 8 then (match resT o a.t with | .error e => .error e | .ok r => .ok ⟨r, 0⟩)
     else if simT a.t then .ok (simpleH t) else .error 130
mutual
def typE (s : List En) : Ex → Except Int Hd
 | .mk k o t _ nm _ _ l => tyC s k o t nm (typL s l)
def typL (s : List En) : List Ex → List (Except Int Hd)
 | [] => []
 | x :: r => typE s x :: typL s r
end
theorem typE_eq (s : List En) (e : Ex) : typE s e = tyC s e.k e.o e.t e.s (typL s e.l) := by cases e; rfl
theorem nameT_err (s : List En) (nm : B) : ∀ w, nameT s nm = .error w → w ≠ 0 := by
 intro w h
 unfold nameT at h
 split at h
 · cases h; decide
 · split at h
   · cases h
   · cases h; decide
theorem arrT_err (s : List En) (nm : B) : ∀ w, arrT s nm = .error w → w ≠ 0 := by
 intro w h
 unfold arrT at h
 split at h
 · rename_i e he
   cases h
   exact nameT_err s nm _ he
 · split at h
   · cases h; decide
   · cases h
theorem resT_err (o : Int) (t : Ty) : ∀ w, resT o t = .error w → w ≠ 0 := by
 intro w h
 unfold resT at h
 repeat' split at h
 all_goals first | (cases h; done) | (cases h; decide)
theorem typE_err (s : List En) (e : Ex) : ∀ w, typE s e = .error w → w ≠ 0 := by
 refine Ex.ind (p := fun e => ∀ w, typE s e = .error w → w ≠ 0) (fun e ih w hw => ?_) e
 have h0 : ∀ w, (typL s e.l).getD 0 (.error 130) = .error w → w ≠ 0 := by
   intro w h
   cases hl : e.l with
   | nil => rw [hl] at h; cases h; decide
   | cons x r => rw [hl] at h; exact ih x (by rw [hl]; exact List.Mem.head _) w h
 rw [typE_eq] at hw
 unfold tyC at hw
 split at hw
 · cases hw
 split at hw
 · cases hw
 split at hw
 · cases hw
 split at hw
 · exact nameT_err s _ w hw
 split at hw
 · split at hw
   · rename_i x hx
     cases hw
     exact arrT_err s _ _ hx
   · cases hw
 split at hw
 · split at hw
   · rename_i x hx
     cases hw
     exact arrT_err s _ _ hx
   · split at hw
     · cases hw
     · rename_i hn
       cases hw
       exact hn
 split at hw
 · rename_i x hx
   cases hw
   exact h0 _ hx
 · split at hw
   · rename_i hn
     cases hw
     exact hn.2
   split at hw
   · split at hw
     · rename_i x hx
       cases hw
       exact resT_err _ _ _ hx
     · cases hw
   split at hw
   · cases hw
   · cases hw; decide
def errT {α : Type} (r : Except Int α) : Int := match r with | .error e => e | .ok _ => 0
def okT (r : Except Int Hd) : Hd := match r with | .error _ => zeroH | .ok h => h
def envS : List Sp → Nat → List En
 | [], _ => []
 | x :: r, i => ⟨x, i⟩ :: envS r (i + 1)
end Go.Tg
end
/- Eng21 -/
section
namespace Go.Eng
open Go Go.RowKit

def YieldR2 (P : Program) (l : Nat) (v v2 : Value) (w : World) (R : Bool → World → Prop) : Prop :=
 ∃ fn tmps assign body, (Instr.yield l #[v, v2]).run P w = .ok (.round l fn tmps assign body) w ∧
   RoundIn (fen none) 0 P l fn tmps assign body w fun e w' => ∃ b, e = .returned (.bool b) ∧ R b w'
def YieldK2 {α : Type} (P : Program) (m : View) (l : Nat) (enc enc2 : α → Value) (xs : List α) (J : List α → List Res → Prop) (Jx : List Res → Prop) : Prop :=
 ∀ pre x post h fr w, xs = pre ++ x :: post → J pre h → St m (fr ++ h) w →
   YieldR2 P l (enc x) (enc2 x) w fun b w' => ∃ h', St m (fr ++ h') w' ∧ ((b = true ∧ J (pre ++ [x]) h') ∨ (b = false ∧ Jx h'))

section
variable {P : Program} {ops : Array Oper} {Q : Exit → Act → World → Prop} {n : Cx} {F : Fm} {h h' : List Res} {m : View} {rest : List Oper}
variable {op : Op} {ty : TypeId} {pos : String} {after : Array Edge} {d : Nat} {v v2 : Value}

theorem YieldR2.mono {l : Nat} {w : World} {R R' : Bool → World → Prop} (h : YieldR2 P l v v2 w R) (hr : ∀ b w', R b w' → R' b w') : YieldR2 P l v v2 w R' := by
 obtain ⟨fn, tmps, assign, body, h1, h2⟩ := h
 exact ⟨fn, tmps, assign, body, h1, h2.mono fun e w' ⟨b, e1, e2⟩ => ⟨b, e1, hr b w' e2⟩⟩
theorem WY.yield2 {f x y : Operand} {tys : Array TypeId} {l : Nat} {R : Bool → List Res → Prop} (hro : n.ro = none)
   (ef : Ev n F f (.func (.yield l) #[] #[])) (ex : Ev n F x v) (ey : Ev n F y v2) (hp : ∀ w, St m h w → YieldR2 P l v v2 w fun b w' => ∃ h', St m h' w' ∧ R b h') (hn : d < n.num)
   (k : ∀ b h', R b h' → WY P ops Q n rest ((d, .bool b) :: F) h' m) :
   WY P ops Q n (⟨some d, .call ⟨.value f, #[x, y], tys⟩, ty, pos, after, none⟩ :: rest) F h m := .mk fun a w ha hs => by
 unfold wpListIn
 rw [if_pos (show Region.wanted _ _ = true from rfl)]
 obtain ⟨fn, tmps, assign, body, hrun, hR⟩ := hp w hs
 refine ⟨fun _ _ => trivial, ?_⟩
 show Oper.uponIn _ _ _ _ _ _ _ ((Oper.semAt n.ro a.eval _).run P w)
 rw [hro, Oper.semAt_none]
 have hr : (execOp a.eval ⟨some d, .call ⟨.value f, #[x, y], tys⟩, ty, pos, after, none⟩).run P w = .ok (.round l fn tmps assign body) w := by
   simpa [execOp, resolve, ef a ha, ex a ha, ey a ha, Deferred.ofValue, invoke] using hrun
 rw [hr]
 refine ⟨fun hh => (by cases hh), hR.mono ?_⟩
 rintro e w' ⟨b, rfl, h', hst, hb⟩
 have hz := (k b h' hb).e _ _ (ha.put hn _) hst
 rw [hro] at hz
 exact hz

def roundX (id : Nat) (m : View) (I X : List Res → Prop) (fr : List Res) : Exit → Act → World → Prop
 | .normal, _, w => ∃ hc, I hc ∧ St m (hc ++ fr) w
 | .exit id', _, w => id' = id ∧ ∃ hc, X hc ∧ St m (hc ++ fr) w
 | _, _, _ => False
theorem roundStop {id : Nat} {X : List Res → Prop} {fr : List Res} (hc : List Res) (hd : (hc ++ fr).Sublist h) (hX : X hc) : ∀ a w, Fr n F a → St m h w → id = id ∧ ∃ hc, X hc ∧ St m (hc ++ fr) w := fun _ _ _ st => ⟨rfl, hc, hX, st.sub hd⟩

theorem WC.rangeFunc2 {α : Type} {N : Nat} {g : Operand} {p q : Tmp} {assign body : Code} {gf : FuncId} {lb : List Value} (enc enc2 : α → Value) (id : Nat) (xs : List α) (hi hc0 : List Res) (I : List α → List Res → Prop) (X : List Res → Prop)
   (hpN : p < N) (hqN : q < N) (eg : Ev ⟨N, none, []⟩ F g (.func (.func gf) #[] lb.toArray)) (ee : ∀ as w, (callFunc gf as).run P w = .ok (.enter gf as) w)
   (it : ∀ (l : Nat) (J : List α → List Res → Prop) (Jx : List Res → Prop) (h0 : List Res), YieldK2 P m l enc enc2 xs J Jx → J [] h0 → CT P gf (.func (.yield l) #[] #[] :: lb) (hi ++ h0) m (fun _ _ h' => J xs h' ∨ Jx h'))
   (hI0 : I [] hc0) (hh : h = hi ++ hc0)
   (round : ∀ (l : Nat) pre x post hc, xs = pre ++ x :: post → I pre hc → ∀ fr (K : Act → World → Prop),
     (∀ F1 h1, (∀ fr2, WC P body (roundX id m (I (pre ++ [x])) X fr2) ⟨N, some l, []⟩ F1 (h1 ++ fr2) m) → ∀ a w, Fr ⟨N, some l, []⟩ F1 a → St m (h1 ++ fr) w → K a w) →
     WC P assign (Exit.then K (fun _ _ _ => False)) ⟨N, some l, []⟩ ((q, enc2 x) :: (p, enc x) :: F) (hc ++ fr) m)
   (done : ∀ D hc, I xs hc → ∀ a w, Fr ⟨N, none, [markD D]⟩ F a → St m (.pt D (.deferred (some [])) :: hc) w → Q .normal a w)
   (stop : ∀ D hc, X hc → ∀ a w, Fr ⟨N, none, [markD D]⟩ F a → St m (.pt D (.deferred (some [])) :: hc) w → Q (.exit id) a w) :
   WC P (.rangeFunc g #[p, q] assign body) Q ⟨N, none, []⟩ F h m := .mk fun a w ha hs => by
 subst hh
 have hds : a.defers = [] := ha.d
 refine wpIn_rangeFunc fun fn hfn => ?_
 obtain ⟨rec, hrec⟩ : ∃ rec : LoopState → Option Code → Loop, rec = fun st pe => { state := st, pending := pe, fn, tmps := a.tmps, params := #[p, q], assign, body, defers := w.heap.size } := ⟨_, rfl⟩
 obtain ⟨D, hD⟩ : ∃ D, D = w.heap.size := ⟨_, rfl⟩
 obtain ⟨l, hl⟩ : ∃ l, l = w.heap.size + 1 := ⟨_, rfl⟩
 have st1 := (hs.alloc (.deferred (some []))).alloc (.loop (rec .ready none))
 rw [World.size_alloc] at st1
 obtain ⟨W1, hW1⟩ : ∃ W1, W1 = (w.alloc (.deferred (some []))).alloc (.loop (rec .ready none)) := ⟨_, rfl⟩
 rw [← hW1, ← hD, show D + 1 = l by omega] at st1
 have frm : Fr ⟨N, none, [markD D]⟩ F { a with defers := [markD D] ++ a.defers } := ⟨by show [markD D] ++ a.defers = _; rw [hds]; rfl, ha.sz, ha.get⟩
 refine ⟨l, [markD D], W1, { target := .fn (.func gf) lb.toArray, args := #[.func (.yield l) #[] #[]] }, W1, gf, #[.func (.yield l) #[] #[]] ++ lb.toArray, W1, ?_, ?_, fun _ _ => trivial, ?_, fun hx => (by cases hx), ?_⟩
 · rw [hW1, hrec, hl, hD]
   exact run_enterLoop_outer _ _ _ _ _
 · simp only [resolve, eg a ha]
   simp [go_sem]
 · simp [invoke, go_sem, ee]
 · have hct := it l (fun pre h' => ∃ hc, h' = .pt l (.loop (rec .ready none)) :: .pt D (.deferred (some [])) :: hc ∧ I pre hc) (fun h' => ∃ hc, h' = .pt l (.loop (rec .done (some (.exit id)))) :: .pt D (.deferred (some [])) :: hc ∧ X hc)
     (.pt l (.loop (rec .ready none)) :: .pt D (.deferred (some [])) :: hc0) ?_ ⟨hc0, rfl, hI0⟩
   · have hcl := hct.calls W1 (st1.perm (perm2 _ _ hi hc0 |>.trans ((List.perm_append_comm.cons _).cons _) |>.symm))
     have e0 : (#[.func (.yield l) #[] #[]] ++ lb.toArray : Array Value) = (.func (.yield l) #[] #[] :: lb).toArray := by simp
     rw [e0]
     refine callsIn_wide.2 (Calls.mono hcl ?_)
     rintro e w' ⟨v, m', h', rfl, hle, hst, hR⟩
     have hst := hst.back hle
     rcases hR with ⟨hc, rfl, hI⟩ | ⟨hc, rfl, hX⟩
     · have h1 : w'.heap[l]? = some (.loop (rec .ready none)) := hst.at (by simp)
       refine ⟨none, _, by have := run_endLoop (P := P) h1 (by rw [hrec]; simp); rw [hrec] at this; exact this, ?_⟩
       exact done D hc hI _ _ frm ((hst.setObj Upd.here).sub (List.sublist_cons_self _ _))
     · have h1 : w'.heap[l]? = some (.loop (rec .done (some (.exit id)))) := hst.at (by simp)
       refine ⟨some (.exit id), _, by have := run_endLoop (P := P) h1 (by rw [hrec]; simp); rw [hrec] at this; exact this, ?_⟩
       exact wpIn_exit (stop D hc hX _ _ frm ((hst.setObj Upd.here).sub (List.sublist_cons_self _ _)))
   · rintro pre x post h' fr w2 hx ⟨hc, rfl, hI⟩ st2
     have h1 : w2.heap[l]? = some (.loop (rec .ready none)) := st2.at (by simp)
     have hy : (Instr.yield l #[enc x, enc2 x]).run P w2 = .ok (.round l fn ((a.tmps.setIfInBounds p (enc x)).setIfInBounds q (enc2 x)) assign body) w2 := by
       have := run_yield (P := P) (args := #[enc x, enc2 x]) h1 (by rw [hrec]; rfl)
       rw [hrec] at this
       simpa using this
     refine ⟨fn, _, assign, body, hy, ?_⟩
     refine roundIn_of_wpIn hfn ?_
     obtain ⟨fr1, hfr1⟩ : ∃ fr1, fr1 = Res.pt l (.loop (rec .ready none)) :: .pt D (.deferred (some [])) :: fr := ⟨_, rfl⟩
     have fr0 : Fr ⟨N, some l, []⟩ ((q, enc2 x) :: (p, enc x) :: F) { tmps := (a.tmps.setIfInBounds p (enc x)).setIfInBounds q (enc2 x), defers := [] } := by
       have h2 := (ha.put hpN (enc x)).put hqN (enc2 x)
       exact ⟨rfl, h2.sz, h2.get⟩
     have hw := (round l pre x post hc hx hI fr1 (fun a₁ w₁ => ∃ w₂, (Instr.beginRound l).run P w₁ = .ok () w₂ ∧ body.wpIn (fen (some l)) 0 P
       (roundPost P l fun e w' => ∃ b, e = .returned (.bool b) ∧ ∃ h', St m (fr ++ h') w' ∧ ((b = true ∧ ∃ hc, h' = .pt l (.loop (rec .ready none)) :: .pt D (.deferred (some [])) :: hc ∧ I (pre ++ [x]) hc) ∨ (b = false ∧ ∃ hc, h' = .pt l (.loop (rec .done (some (.exit id)))) :: .pt D (.deferred (some [])) :: hc ∧ X hc))) a₁ w₂) ?_).e _ w2 fr0
       (by rw [hfr1]; exact st2.perm (perm2' _ _ fr hc))
     · exact wpIn_mono hw fun e a' w' q => cutQ_imp q
     · intro F1 h1' hb a1 w1 hf1 hs1
       rw [hfr1] at hs1
       have h2 : w1.heap[l]? = some (.loop (rec .ready none)) := hs1.at (by simp)
       refine ⟨_, run_beginRound h2 (by rw [hrec]), ?_⟩
       have hs2 := hs1.setObj (o' := .loop { rec .ready none with state := .busy }) (Upd.right (l := h1') Upd.here)
       refine wpIn_mono ((hb _).e a1 _ hf1 hs2) ?_
       intro e a3 w3 q
       cases e with
       | normal =>
         obtain ⟨hc', hI', hs3⟩ := q
         have h3 : w3.heap[l]? = some (.loop { rec .ready none with state := .busy }) := hs3.at (by simp)
         refine ⟨_, _, run_endRound none h3, true, rfl, .pt l (.loop (rec .ready none)) :: .pt D (.deferred (some [])) :: hc', ?_, .inl ⟨rfl, hc', rfl, hI'⟩⟩
         have hs4 := hs3.setObj (o' := .loop { ({ rec .ready none with state := .busy } : Loop) with state := if (none : Option Code).isNone then .ready else .done, pending := none }) (Upd.right (l := hc') Upd.here)
         have hs5 := hs4.perm (perm2' _ _ hc' fr)
         rw [hrec] at hs5 ⊢
         exact hs5
       | exit id' =>
         obtain ⟨rfl, hc', hI', hs3⟩ := q
         have h3 : w3.heap[l]? = some (.loop { rec .ready none with state := .busy }) := hs3.at (by simp)
         refine ⟨_, _, run_endRound (some (.exit id')) h3, false, rfl, .pt l (.loop (rec .done (some (.exit id')))) :: .pt D (.deferred (some [])) :: hc', ?_, .inr ⟨rfl, hc', rfl, hI'⟩⟩
         have hs4 := hs3.setObj (o' := .loop { ({ rec .ready none with state := .busy } : Loop) with state := if (some (Code.exit id')).isNone then .ready else .done, pending := some (.exit id') }) (Upd.right (l := hc') Upd.here)
         have hs5 := hs4.perm (perm2' _ _ hc' fr)
         rw [hrec] at hs5 ⊢
         exact hs5
       | ret => exact q.elim
       | goto t => exact q.elim
       | panic ch => exact q.elim
       | outgrown => exact q.elim

theorem endM1 {fn : Func} {ex : Exit} {m0 : View} {R : Value → View → List Res → Prop} {r : ResultVar} {v : Value} {h1 : List Res} (hex : ex = .ret ∨ ex = .normal)
   (hds : (n.ds = [] ∧ h = h1) ∨ ∃ D t, n.ds = [markD D] ∧ h = .pt D (.deferred (some [])) :: t ∧ h1 = t) (hfn : fn.results = #[r]) (x1 : RV P n F h1 m r v)
   (hle : m0.le m) (hd : h'.Sublist h1) (hR : R v m h') :
   ∀ a w, Fr n F a → St m h w → bodyPostM (fen none) 0 P fn (RQ m0 R) ex a w :=
 endM_ hex (fun a w ha hs => by
   have h1 := x1.e a w ha hs
   simp [results_eq, hfn, h1]) (fun w hs => ⟨_, m, h', rfl, hle, hs.sub hd, hR⟩) hds
end
end Go.Eng
end
/- TgX -/
section
namespace Go.Tg
open Go.Eng Go.Pc Go
open Go.Xp hiding B nameT
open Go.Ty (Ty eqT Vr zeroT)
structure Ent where
 k : Int
 ty : Ty
 names : List B
 fs : List Fo
 cs : Bool
 ok : Bool
 vs : List (B × List Int)
 ar : Int
def prS (l : List Vr) : List (B × List Int) := l.map fun v => (v.tag, v.items)
def shS (x : Sp) (ar : Int) : Ent := ⟨x.k, x.ty, x.names.l, x.fs.l, x.cs, Go.Ty.mayPr x.cs x.vs.l, prS x.vs.l, ar⟩
def shE (x : En) : Ent := shS x.sp x.ar
def findE (S : List Ent) (nm : B) : Nat → Int
 | 0 => -1
 | n + 1 => match S[n]? with
   | some x => if x.names.contains nm then (n : Int) else findE S nm n
   | none => findE S nm n
theorem findE_eq (s : List En) (nm : B) : ∀ n, findN s nm n = findE (s.map shE) nm n
 | 0 => rfl
 | n + 1 => by
   unfold findN findE
   rw [List.getElem?_map, findE_eq s nm n]
   cases s[n]? <;> rfl
theorem findE_lt (S : List Ent) (nm : B) : ∀ n, -1 ≤ findE S nm n ∧ findE S nm n < n
 | 0 => ⟨Int.le_refl _, by show (-1 : Int) < 0; decide⟩
 | n + 1 => by
   have := findE_lt S nm n
   unfold findE
   split
   · split <;> omega
   · omega
def nameE (S : List Ent) (nm : B) : Except Int Hd := match (if findE S nm S.length < 0 then none else S[(findE S nm S.length).toNat]?) with
 | none => .error 120
 | some x => if x.k = 1 ∨ x.k = 2 ∨ x.k = 3 then .ok ⟨x.ty, x.ar⟩ else .error 130
theorem nameE_eq (s : List En) (nm : B) : nameT s nm = nameE (s.map shE) nm := by
 unfold nameT nameE fnd
 rw [← findE_eq s nm]
 rw [List.length_map]
 by_cases h : findN s nm s.length < 0
 · rw [if_pos h, if_pos h]
 · rw [if_neg h, if_neg h, List.getElem?_map]
   cases s[(findN s nm s.length).toNat]? <;> rfl
def arrF (r : Except Int Hd) : Except Int Hd := match r with
 | .error e => .error e
 | .ok h => if h.t.dim < 1 then .error 130 else .ok h
def tyF (N A : Except Int Hd) (k o t : Int) (ws : List (Except Int Hd)) : Except Int Hd :=
 if k = 1 then .ok (simpleH 1) else if k = 2 then .ok (simpleH 2) else if k = 3 then .ok (simpleH 3)
 else if k = 4 then N
 else if k = 9 then (match A with | .error e => .error e | .ok _ => .ok (simpleH 1))
 else if k = 5 then (match A with
   | .error e => .error e
   | .ok h => if isT (ws.getD 0 (.error 130)) (tyK 1) = 0 then .ok ⟨{ h.t with dim := 0 }, h.ar⟩ else .error (isT (ws.getD 0 (.error 130)) (tyK 1)))
 else match ws.getD 0 (.error 130) with
   | .error e => .error e
   | .ok a => if k = 7 ∧ isT (ws.getD 1 (.error 130)) a.t ≠ 0 then .error (isT (ws.getD 1 (.error 130)) a.t)
     else if k ≠ 8 then (match resT o a.t with | .error e => .error e | .ok r => .ok ⟨r, 0⟩)
     else if simT a.t then .ok (simpleH t) else .error 130
mutual
def typF (f : B → Except Int Hd) : Ex → Except Int Hd
 | .mk k o t _ nm _ _ l => tyF (f nm) (arrF (f nm)) k o t (typFL f l)
def typFL (f : B → Except Int Hd) : List Ex → List (Except Int Hd)
 | [] => []
 | x :: r => typF f x :: typFL f r
end
theorem typF_eq (f : B → Except Int Hd) (e : Ex) : typF f e = tyF (f e.s) (arrF (f e.s)) e.k e.o e.t (typFL f e.l) := by cases e; rfl
theorem typF_of (s : List En) (e : Ex) : typE s e = typF (nameT s) e := by
 refine Ex.ind (p := fun e => typE s e = typF (nameT s) e) (fun e ih => ?_) e
 have hL : ∀ l : List Ex, (∀ x ∈ l, typE s x = typF (nameT s) x) → typL s l = typFL (nameT s) l := by
   intro l
   induction l with
   | nil => intro _; rfl
   | cons x r ihr =>
     intro h
     show typE s x :: typL s r = typF (nameT s) x :: typFL (nameT s) r
     rw [h x (List.Mem.head _), ihr fun y hy => h y (List.Mem.tail _ hy)]
 rw [typE_eq, typF_eq, hL e.l ih]
 rfl
def typX (S : List Ent) (e : Ex) : Except Int Hd := typF (nameE S) e
theorem typX_eq (s : List En) (e : Ex) : typE s e = typX (s.map shE) e := by
 rw [typF_of, show nameT s = nameE (s.map shE) from funext (nameE_eq s)]
 rfl
theorem tyF_ar {N : Except Int Hd} {k o t : Int} {ws : List (Except Int Hd)} {b : Int} (h0 : 0 ≤ b) (hN : ∀ hd, N = .ok hd → 0 ≤ hd.ar ∧ hd.ar ≤ b) :
   ∀ hd, tyF N (arrF N) k o t ws = .ok hd → 0 ≤ hd.ar ∧ hd.ar ≤ b := by
 intro hd h
 have hA : ∀ q, arrF N = .ok q → 0 ≤ q.ar ∧ q.ar ≤ b := by
   intro q hq
   unfold arrF at hq
   split at hq
   · cases hq
   · split at hq
     · cases hq
     · cases hq
       exact hN _ rfl
 unfold tyF at h
 split at h
 · cases h; exact ⟨Int.le_refl _, h0⟩
 split at h
 · cases h; exact ⟨Int.le_refl _, h0⟩
 split at h
 · cases h; exact ⟨Int.le_refl _, h0⟩
 split at h
 · exact hN _ h
 split at h
 · split at h
   · cases h
   · cases h; exact ⟨Int.le_refl _, h0⟩
 split at h
 · split at h
   · cases h
   · rename_i q hq
     split at h
     · cases h
       exact hA q hq
     · cases h
 split at h
 · cases h
 · split at h
   · cases h
   split at h
   · split at h
     · cases h
     · cases h; exact ⟨Int.le_refl _, h0⟩
   split at h
   · cases h; exact ⟨Int.le_refl _, h0⟩
   · cases h
def ArOk (S : List Ent) : Prop := ∀ (i : Nat) x, S[i]? = some x → 0 ≤ x.ar ∧ x.ar ≤ i
theorem nameE_ar {S : List Ent} (hS : ArOk S) (nm : B) : ∀ hd, nameE S nm = .ok hd → 0 ≤ hd.ar ∧ hd.ar ≤ S.length := by
 intro hd h
 unfold nameE at h
 split at h
 · cases h
 · rename_i x hx
   split at hx
   · cases hx
   · have hb := findE_lt S nm S.length
     have := hS _ _ hx
     split at h
     · cases h
       show 0 ≤ x.ar ∧ x.ar ≤ (S.length : Int)
       omega
     · cases h
theorem typX_ar {S : List Ent} (hS : ArOk S) (e : Ex) : ∀ hd, typX S e = .ok hd → 0 ≤ hd.ar ∧ hd.ar ≤ S.length := by
 intro hd h
 unfold typX at h
 rw [typF_eq] at h
 exact tyF_ar (by omega) (nameE_ar hS e.s) hd h
def isX (S : List Ent) (e : Ex) (t : Ty) : Int := isT (typX S e) t
def kindX (S : List Ent) (nm : B) : Int := match S[(findE S nm S.length).toNat]? with
 | some x => x.k
 | none => 0
def tgtX (S : List Ent) (e : Ex) : Except Int Ty := match typX S e with
 | .error w => .error w
 | .ok h => if (e.k ≠ 4 ∧ e.k ≠ 5) ∨ simT h.t = false ∨ kindX S e.s = 2 then .error 130 else .ok h.t
def isY (r : Except Int Ty) (t : Ty) : Int := match r with
 | .error w => w
 | .ok x => if eqT x t then 0 else 130
def takesX (S : List Ent) (e : Ex) (t : Ty) : Int := isY (tgtX S e) t
abbrev Pz := Bool × List (B × List Int)
def protoX (S : List Ent) (h : Hd) : Except Int Pz :=
 if h.t.proto = [] then .ok (false, [([], [h.t.item])])
 else if findE S h.t.proto h.ar.toNat < 0 then .error 120
 else match S[(findE S h.t.proto h.ar.toNat).toNat]? with
   | some x => if x.k ≠ 4 ∨ x.ok = false then .error 130 else .ok (x.cs, x.vs)
   | none => .error 130
def chanX (S : List Ent) (e : Ex) (kind : Int) : Except Int Pz := match typX S e with
 | .error w => .error w
 | .ok h => if kind = 5 ∧ eqT h.t (tyK kind) then .ok (false, []) else if kind = 5 ∨ h.t.kind ≠ kind ∨ h.t.dim ≠ 0 then .error 130 else protoX S h
theorem mayPr_ne {l : List Vr} (h : Go.Ty.mayPr false l = true) : l ≠ [] := by
 intro h0
 rw [h0] at h
 revert h
 decide
theorem chanX_ne {s : List En} {e : Ex} {p : Pz} (h : chanX (s.map shE) e 4 = .ok p) (hp : p.1 = false) : p.2 ≠ [] := by
 unfold chanX at h
 split at h
 · cases h
 · rename_i hd _
   rw [if_neg (by intro q; exact absurd q.1 (by decide))] at h
   split at h
   · cases h
   · unfold protoX at h
     split at h
     · cases h
       intro q
       cases q
     · split at h
       · cases h
       · split at h
         · rename_i x hx
           split at h
           · cases h
           · rename_i hok
             cases h
             rw [List.getElem?_map] at hx
             cases hq : s[(findE (s.map shE) hd.t.proto hd.ar.toNat).toNat]? with
             | none => rw [hq] at hx; cases hx
             | some y =>
               rw [hq] at hx
               cases hx
               have h1 : Go.Ty.mayPr y.sp.cs y.sp.vs.l = true := by
                 cases hm : Go.Ty.mayPr y.sp.cs y.sp.vs.l with
                 | true => rfl
                 | false => exact absurd (.inr hm) hok
               have h2 : y.sp.cs = false := hp
               rw [h2] at h1
               intro h3
               have h4 : prS y.sp.vs.l = [] := h3
               unfold prS at h4
               exact mayPr_ne h1 (List.map_eq_nil_iff.1 h4)
         · cases h
def matchX (f : Ex → Int → Int) : List Int → List Ex → Int
 | [], [] => 0
 | _ :: _, [] => 130
 | [], _ :: _ => 130
 | k :: ks, x :: r => if f x k ≠ 0 then f x k else matchX f ks r
def variantX (p : Pz) (tag : B) : Except Int (List Int) := match (if p.1 then p.2.find? (fun v => v.1 == tag) else none) with
 | some v => .ok v.2
 | none => .error 130
def itemsX (p : Pz) : List Int := (p.2.headD ([], [])).2
def setX (S : List Ent) (e : Ex) (k : Int) : Int := takesX S e (tyK k)
def recvX (S : List Ent) (c : Ex) (to : List Ex) : Int := match chanX S c 4 with
 | .error w => w
 | .ok p => if p.1 then 130 else matchX (setX S) (itemsX p) to
def inX (S : List Ent) (c : Ex) (to : List Ex) : Int := match typX S c with
 | .error w => w
 | .ok h => if eqT h.t (tyK 5) then matchX (setX S) [1] to else recvX S c to
def giveX (S : List Ent) (e : Ex) (k : Int) : Int := isX S e (tyK k)
def outX (S : List Ent) (c : Ex) (l : List Ex) : Int := match chanX S c 4 with
 | .error w => w
 | .ok p => if p.1 = false then matchX (giveX S) (itemsX p) l
   else match l with
     | [] => 130
     | e :: r => if e.k ≠ 4 then 130 else match variantX p e.s with
       | .error w => w
       | .ok ks => matchX (giveX S) ks r
def afterX (S : List Ent) (c e : Ex) : Int := match chanX S c 5 with
 | .error w => w
 | .ok _ => isX S e (tyK 1)
def hdX (l : List Ex) : Ex := l.headD zeroE
def asgX (S : List Ent) : List Ex → List Ex → Int
 | [], [] => 0
 | _ :: _, [] => 130
 | [], _ :: _ => 130
 | x :: l, e :: r => match tgtX S x with
   | .error w => w
   | .ok t => if isX S e t ≠ 0 then isX S e t else asgX S l r
def repX (S : List Ent) (r : Rp) : Int := if r.name = [] then 0 else if isX S r.base (tyK 1) ≠ 0 then isX S r.base (tyK 1) else isX S r.count (tyK 1)
def inE (k : Int) (ty : Ty) (nm : B) (ar : Int) : Ent := ⟨k, ty, [nm], [], false, Go.Ty.mayPr false [], [], ar⟩
def repS (S : List Ent) (r : Rp) : List Ent := if r.name = [] then S else S ++ [inE 2 (tyK 1) r.name S.length]
def actX (S : List Ent) (place : Nat) (f : Fo) (e : Ex) : Int :=
 if f.val then isX S e f.ty
 else if simT f.ty then takesX S e f.ty
 else match typX S e with
   | .error w => w
   | .ok h => if eqT h.t f.ty = false ∨ (h.t.proto ≠ [] ∧ findE S h.t.proto h.ar.toNat ≠ findE S f.ty.proto place) then 130 else 0
def actsX (S : List Ent) (place : Nat) : List Fo → List Ex → Int
 | f :: fs, e :: r => if actX S place f e ≠ 0 then actX S place f e else actsX S place fs r
 | _, _ => 0
def callX (S : List Ent) (nm : B) (l : List Ex) : Int :=
 if findE S nm S.length < 0 then 120
 else match S[(findE S nm S.length).toNat]? with
   | some x => if x.k ≠ 5 ∨ x.fs.length ≠ l.length then 130 else actsX S (findE S nm S.length).toNat x.fs l
   | none => 130
def foE1 (f : Fo) (ar : Int) : Ent := inE (if f.val then 2 else 1) f.ty f.name ar
def fosX (S : List Ent) : List Fo → Int
 | [] => 0
 | f :: r => if f.val ∧ simT f.ty = false then 130 else match protoX S ⟨f.ty, S.length⟩ with
   | .error w => w
   | .ok _ => fosX S r
def selX (S : List Ent) : List Ex → Ty → Int
 | [], _ => 0
 | v :: r, t => if isX S v t ≠ 0 then isX S v t else selX S r t
mutual
def chkP : Pr → List Ent → Int
 | .mk k name ch tg ex rep _ _ gl _ _ ll _ sp, S =>
   if k = 3 then asgX S tg.l ex.l
   else if k = 4 then inX S ch tg.l
   else if k = 5 then outX S ch ex.l
   else if k = 6 then afterX S ch (hdX ex.l)
   else if k = 7 then (match chanX S ch 4 with
     | .error w => w
     | .ok p => chkV gl S p [])
   else if k = 12 ∨ k = 13 ∨ k = 14 then (if repX S rep ≠ 0 then repX S rep else chkG gl (repS S rep))
   else if k = 15 then (match typX S (hdX ex.l) with
     | .error w => w
     | .ok h => if eqT h.t (tyK 1) = false ∧ eqT h.t (tyK 2) = false then 130 else chkC gl S h.t 0)
   else if k = 16 then (if isX S (hdX ex.l) (tyK 3) ≠ 0 then isX S (hdX ex.l) (tyK 3) else chkH ll S)
   else if k = 17 then callX S name ex.l
   else if k = 18 then (if chkS sp S ≠ 0 then chkS sp S else chkH ll (S ++ [shS sp S.length]))
   else if repX S rep ≠ 0 then repX S rep else chkL ll (repS S rep)
def chkL : List Pr → List Ent → Int
 | [], _ => 0
 | x :: r, S => if chkP x S ≠ 0 then chkP x S else chkL r S
def chkH : List Pr → List Ent → Int
 | [], _ => 0
 | x :: _, S => chkP x S
def chkG1 : Gu → List Ent → Int
 | .mk k _ cond ch tg _ time _ _ bl, S =>
   let c := if cond.k = 0 then 0 else isX S cond (tyK 3)
   let d := if k = 3 then recvX S ch tg.l else if k = 4 then afterX S ch time else 0
   if c ≠ 0 then c else if d ≠ 0 then d else chkH bl S
def chkG : List Gu → List Ent → Int
 | [], _ => 0
 | g :: r, S => if chkG1 g S ≠ 0 then chkG1 g S else chkG r S
def chkV1 : Gu → List Ent → Pz → Int
 | .mk _ name _ _ tg _ _ _ _ bl, S, p => match variantX p name with
   | .error w => w
   | .ok ks => if matchX (setX S) ks tg.l ≠ 0 then matchX (setX S) ks tg.l else chkH bl S
def chkV : List Gu → List Ent → Pz → List B → Int
 | [], _, _, _ => 0
 | g :: r, S, p, seen => if seen.contains g.name then 130 else if chkV1 g S p ≠ 0 then chkV1 g S p else chkV r S p (g.name :: seen)
def chkC1 : Gu → List Ent → Ty → Int
 | .mk _ _ _ _ _ vl _ _ _ bl, S, t => if selX S vl.l t ≠ 0 then selX S vl.l t else chkH bl S
def chkC : List Gu → List Ent → Ty → Int → Int
 | [], _, _, _ => 0
 | g :: r, S, t, others => if g.k = 6 ∧ others ≥ 1 then 130 else if chkC1 g S t ≠ 0 then chkC1 g S t else chkC r S t (if g.k = 6 then others + 1 else others)
def chkS : Sp → List Ent → Int
 | .mk k ty _ e _ _ fs _ _ bl, S =>
   if k = 1 then errT (protoX S ⟨ty, S.length⟩)
   else if k = 2 then (if simT ty = false then 130 else isX S e ty)
   else if k = 3 then (if simT ty = false then 130 else takesX S e ty)
   else if k = 5 then (if fosX S fs.l ≠ 0 then fosX S fs.l else chkH bl (S ++ fs.l.map fun f => foE1 f S.length))
   else 0
end
def ofX (S : List Ent) (e : Ex) : Ty × Int := if mayE e then (match typX S e with | .error w => (zeroT, w) | .ok h => (h.t, 0)) else (zeroT, 2)
def checkX (may : Bool) (S : List Ent) (p : Pr) : Int := if may then chkP p S else 2
end Go.Tg
end
/- Eng22 -/
section
namespace Go.Eng
open Go Go.RowKit
def Lend (m : View) (h : List Res) (m' : View) : Prop := ∀ (a : Option Addr) (n cap sz : Nat) (xs : List Value), Rd m h a n cap sz xs → Rd m' [] a n cap sz xs
section
variable {P : Program} {m m' : View} {h h' : List Res} {w w' : World}
theorem view_le (s : St m h w) : m.le (viewOf w) := ⟨s.os, s.out, s.tape, fun b o hb => s.blk b o hb⟩
theorem St.grow {m2 : View} {h2 : List Res} (s : St m h w) (hle : (viewOf w).le m2) (s2 : St m2 h2 w') : St m h w' ∧ ∀ r ∈ h, ∀ b, r.fp = some b → ∃ o, m2.blk b = some o := by
 have same : ∀ b, b < w.heap.size → w'.heap[b]? = w.heap[b]? := fun b hb => by
   have e : w.heap[b]? = some w.heap[b] := Array.getElem?_eq_getElem hb
   rw [e]
   exact s2.blk b _ (hle.blk b _ e)
 have hm := view_le s
 refine ⟨⟨s2.os.trans (hle.os.trans s.os), s2.out.trans (hle.out.trans s.out), s2.tape.trans (hle.tape.trans s.tape), fun b o hb => s2.blk b o (hle.blk b o (hm.blk b o hb)),
   fun r hr => Res.ok_of_block (s.ok r hr) fun b hb => same b (Res.lt (s.ok r hr) b hb), s.nd, s.fr⟩, fun r hr b hb => ?_⟩
 have hlt := Res.lt (s.ok r hr) b hb
 exact ⟨_, hle.blk b _ (show w.heap[b]? = some w.heap[b] from Array.getElem?_eq_getElem hlt)⟩
theorem lend_view (s : St m h w) : Lend m h (viewOf w) := fun _ _ _ _ _ r =>
 ⟨r.len, r.le, r.mx, fun w' s' => r.at_ w' (s.grow (View.le.refl _) s').1⟩
theorem CT.lend {f : FuncId} {args : List Value} {R : Value → List Res → Prop} (he : ∀ as w, (callFunc f as).run P w = .ok (.enter f as) w)
   (c : ∀ m', m.le m' → Lend m h m' → CT P f args [] m' (fun v _ h2 => R v h2)) : CT P f args h m (fun v _ h' => ∃ hs, R v hs ∧ h' = hs ++ h) :=
 ⟨he, fun w s => Calls.mono ((c (viewOf w) (view_le s) (lend_view s)).calls w (St.start w)) (by
   rintro e w' ⟨v, m2, h2, rfl, hle, s2, hR⟩
   obtain ⟨s3, hb⟩ := s.grow hle s2
   refine ⟨v, m, h2 ++ h, rfl, View.le.refl m, ⟨s3.os, s3.out, s3.tape, s3.blk, fun r hr => ?_, ?_, fun r hr b hb' => ?_⟩, h2, hR, rfl⟩
   · rcases List.mem_append.1 hr with hr | hr
     · exact s2.ok r hr
     · exact s3.ok r hr
   · refine List.pairwise_append.2 ⟨s2.nd, s3.nd, fun x hx y hy b h1 h3 => ?_⟩
     obtain ⟨o, ho⟩ := hb y hy b h3
     rw [s2.fr x hx b h1] at ho
     cases ho
   · rcases List.mem_append.1 hr with hr | hr
     · have h1 := s2.fr r hr b hb'
       cases hm : m.blk b with
       | none => rfl
       | some o =>
         have := hle.blk b o (s.blk b o hm)
         rw [h1] at this
         cases this
     · exact s3.fr r hr b hb')⟩
theorem CT.lendP {f : FuncId} {args : List Value} {v : Value} (he : ∀ as w, (callFunc f as).run P w = .ok (.enter f as) w)
   (c : ∀ m', m.le m' → Lend m h m' → CT P f args [] m' (Pure1 [] v)) : CT P f args h m (Pure1 h v) :=
 (CT.lend (R := fun u h2 => u = v ∧ h2 = []) he c).mono (by rintro u _ _ _ ⟨hs, ⟨rfl, rfl⟩, rfl⟩; exact ⟨rfl, rfl⟩)
theorem CT.lendV {f : FuncId} {args : List Value} {R : Value → Prop} (he : ∀ as w, (callFunc f as).run P w = .ok (.enter f as) w)
   (c : ∀ m', m.le m' → Lend m h m' → CT P f args [] m' (fun v _ h2 => R v ∧ h2 = [])) : CT P f args h m (fun v _ h' => R v ∧ h' = h) :=
 (CT.lend (R := fun u h2 => R u ∧ h2 = []) he c).mono (by rintro u _ _ _ ⟨hs, ⟨hR, rfl⟩, rfl⟩; exact ⟨hR, rfl⟩)
theorem Rd.permH {a : Option Addr} {n cap sz : Nat} {xs : List Value} (r : Rd m h a n cap sz xs) (p : h.Perm h') : Rd m h' a n cap sz xs :=
 ⟨r.len, r.le, r.mx, fun w' s => r.at_ w' (s.perm p.symm)⟩
theorem CT.swap {f : FuncId} {args : List Value} {R : List Res → Value → Prop} (c : CT P f args h m (fun v _ h' => ∃ hs, h' = hs ++ h ∧ R hs v)) : CT P f args h m (fun v _ h' => ∃ hs, h' = h ++ hs ∧ R hs v) :=
 c.conv fun v m2 h2 w2 _ st hR => by
   obtain ⟨hs, rfl, hR⟩ := hR
   exact ⟨m2, h ++ hs, View.le.refl _, st.perm List.perm_append_comm, hs, rfl, hR⟩
end
section
variable {P : Program} {ops : Array Oper} {Q : Exit → Act → World → Prop} {n : Cx} {F : Fm} {h h' : List Res} {m : View} {rest : List Oper}
variable {ty : TypeId} {pos : String} {after : Array Edge} {dst : Option Tmp} {g : Option (Nat × Bool)} {d : Nat}
theorem PO.sliceHM {x hi mx : Operand} {t e : TypeId} {a : Option Addr} {len cap sz u q : Nat} {j i : Int} {k k' : IntKind} (ht : P.underlying t = some (.slice e)) (hsz : (P.info? e).map (·.size) = some sz)
   (ex : Ev n F x (.slice a len cap)) (eh : Ev n F hi (.int k' j)) (em : Ev n F mx (.int k i)) (hj : j = (u : Int)) (hq : i = (q : Int)) (h1 : u ≤ q) (h2 : q ≤ cap) :
   PO P ⟨dst, .slice t x none (some hi) (some mx), ty, pos, after, g⟩ n F h m (.slice (sl1 a 0 q sz) u q) := .mk fun b w ha _ => by
 subst hj hq
 have e1 : (u : Int) ≤ q := by omega
 have e2 : (q : Int) ≤ cap := by omega
 cases hi0 : P.info? e with
 | none => simp [hi0] at hsz
 | some i0 =>
   simp [execOp, ex b ha, eh b ha, em b ha, Instr.sliceAt, Instr.slice, run_underlying ht, Instr.sliceBounds, run_sliceBound, sizeOf, typeInfo, hi0, e1, e2, sl1]
theorem PO.loadFfA {α : Type} {enc : α → List Value} {x : Operand} {t : TypeId} {u : TypeDesc} {a : Option Addr} {len cap q sz o k : Nat} {l : List α} {y : α} {vs : List Value} (ht : P.underlying t = some u) (hp : plainD u = false) (hq : (P.info? t).isSome = true) (henc : ∀ x, (enc x).length = sz)
   (hs : Rd m h a len cap sz (fl enc l)) (ex : Ev n F x (.pointer (elt a (q * sz + o)))) (hx : l[q]? = some y) (hl : P.cellsOf t = k) (hv : seg (enc y) o k = some vs) (h0 : 0 < k) : PO P ⟨dst, .load t x, ty, pos, after, g⟩ n F h m (.agg vs.toArray) :=
 PO.loadEA ht hp hq hs ex (by rw [hl, (seg_spec hv).1]) (by rw [(seg_spec hv).1]; exact h0) (fun j v hj => by rw [Nat.add_assoc]; exact fl_at henc hx (o + j) v ((seg_spec hv).2 j v hj))
theorem Rd.sub0 {a : Option Addr} {k c sz : Nat} {xs : List Value} (s : Rd m h a k c sz xs) (q : Nat) (h1 : k ≤ q) (h2 : q ≤ c) : Rd m h (sl1 a 0 q sz) k q sz xs :=
 ⟨s.len, h1, Nat.le_trans h2 s.mx, fun w st j u hj => by
   obtain ⟨b, off, rfl, hc⟩ := s.at_ w st j u hj
   refine ⟨b, off, ?_, hc⟩
   unfold sl1
   split
   · rfl
   · simp [Addr.add_lit]⟩
theorem run_appR (w : World) {t e ty : TypeId} {sz by_ : Nat} (E : EL P t e sz by_) {a b : Option Addr} {l k c : Nat} {xs ys : List Value} (hlx : xs.length = l * sz) (hxs : ∀ j u, xs[j]? = some u → ∃ b0 off, a = some ⟨b0, off, none⟩ ∧ w.cell? ⟨b0, off + j, none⟩ = some u)
   (hl : ys.length = k * sz) (hys : ∀ j u, ys[j]? = some u → ∃ b0 off, b = some ⟨b0, off, none⟩ ∧ w.cell? ⟨b0, off + j, none⟩ = some u) (h0 : 0 < k)
   (h63 : l + k ≤ 9223372036854775807) (hbytes : (l + k) * by_ ≤ 140737488355328) :
   ∃ cs cap', (Builtin.append_ #[t, t] ty #[.slice a l l, .slice b k c]).run P w = .ok (.slice (some ⟨w.heap.size, 0, none⟩) (l + k) cap') (w.drew.alloc (.cells cs e)) ∧
     (w.drew.alloc (.cells cs e)).ownsRow 0 e sz (.slice (some ⟨w.heap.size, 0, none⟩) (l + k) cap') (l + k) (xs ++ ys) := by
 obtain ⟨i, z, ht, hi, hz, hsize, hby, hzs, hsz⟩ := E.ex
 subst hsize hby
 have hm63 : l + k ≤ maxLen := by unfold maxLen; omega
 have hlen : (xs ++ ys).length = (l + k) * i.size := by rw [List.length_append, hlx, hl, Nat.add_mul]
 have hky : 0 < ys.length := by rw [hl]; exact Nat.mul_pos h0 hsz
 obtain ⟨y0, hy0⟩ := get_some hky
 obtain ⟨b0, o0, rfl, _⟩ := hys 0 y0 hy0
 have hnews : ∀ j u, ys[j]? = some u → w.cell? ((⟨b0, o0, none⟩ : Addr).add j) = some u := by
   intro j u hj
   obtain ⟨b1, off, e0, hc⟩ := hys j u hj
   cases e0
   rw [Addr.add_lit]; exact hc
 have grown : ∀ (old : Nat),
     (w.drew.alloc (.cells (xs.toArray ++ ys.toArray ++ Builtin.zeroCells z.cells (grownCap w (l + k) old e - (l + k))) e)).ownsRow 0 e i.size
       (.slice (some ⟨w.heap.size, 0, none⟩) (l + k) (grownCap w (l + k) old e)) (l + k) (xs ++ ys) := by
   intro old
   have hge := grownCap_ge w (l + k) old e
   have hcm : grownCap w (l + k) old e ≤ maxLen := grownCap_le_maxLen w (l + k) old e hm63
   refine ⟨hlen, .inr ⟨w.heap.size, _, _, rfl, Nat.zero_le _, new_block w.drew _, hge, hcm, ?_, ?_⟩⟩
   · simp only [Array.size_append, List.size_toArray, size_zeroCells, hzs, hlx, hl, ← Nat.add_mul]
     congr 1
     omega
   · simp only [Array.toList_append, List.append_assoc]
     rw [← List.append_assoc, ← hlen]
     exact List.take_left
 cases a with
 | none =>
   have hx : xs = [] := by
     cases xs with
     | nil => rfl
     | cons x xs => obtain ⟨b1, off, e0, _⟩ := hxs 0 x rfl; cases e0
   subst hx
   have hl0 : l = 0 := by
     rcases Nat.mul_eq_zero.1 hlx.symm with h | h
     · exact h
     · omega
   subst hl0
   have hr := run_append_nil (P := P) w t ty e i z ht hi hz ⟨b0, o0, none⟩ k c ys hl hnews h0 (by omega) (by have hb := hbytes; simp only [Nat.zero_add] at hb; omega)
   have hgr := grown 0
   simp only [Nat.zero_add, List.nil_append, Array.empty_append] at hgr ⊢
   exact ⟨_, _, hr, hgr⟩
 | some ad =>
   have holds : ∀ j u, xs[j]? = some u → w.cell? (ad.add j) = some u := by
     intro j u hj
     obtain ⟨b1, off, e0, hc⟩ := hxs j u hj
     cases e0
     rw [Addr.add_lit]; exact hc
   have hr := run_append_grow (P := P) w t ty e i z ht hi hz ad l l xs hlx holds ⟨b0, o0, none⟩ k c ys hl hnews (by omega) (by omega) (growslice_fits (by omega) hbytes)
   exact ⟨_, _, hr, grown l⟩
theorem WL.appendR {x y : Operand} {t e : TypeId} {sz by_ l k c l' : Nat} {a b : Option Addr} {xs ys zs : List Value} (E : EL P t e sz by_) (ex : Ev n F x (.slice a l l)) (ey : Ev n F y (.slice b k c))
   (rx : Rd m h a l l sz xs) (rd : Rd m h b k c sz ys) (h0 : 0 < k) (hl : l + k = l') (hz : xs ++ ys = zs) (h63 : l' ≤ 9223372036854775807) (hbytes : l' * by_ ≤ 140737488355328)
   (hd : d < n.num) (kk : ∀ b' cap', WL P ops Q n rest ((d, .slice (some ⟨b', 0, none⟩) l' cap') :: F) (.row (.slice (some ⟨b', 0, none⟩) l' cap') e sz l' zs :: h) m) :
   WL P ops Q n (⟨some d, .call ⟨.builtin .append, #[x, y], #[t, t]⟩, ty, pos, after, none⟩ :: rest) F h m := .mk fun f w hf hs => by
 subst hl hz
 obtain ⟨cs, cap', hr, hown⟩ := run_appR (P := P) w (ty := ty) (c := c) E rx.len (rx.at_ w hs) rd.len (rd.at_ w hs) h0 h63 hbytes
 refine wpList_of_wp rfl (wp_of_run (v := .slice (some ⟨w.heap.size, 0, none⟩) (l + k) cap') (w' := w.drew.alloc (.cells cs e)) ?_ (kk w.heap.size cap' _ _ (hf.put hd _) ?_))
 · simp [execOp, resolve, invoke, builtin, ex f hf, ey f hf, hr]
 · exact ((hs.drew).alloc (.cells cs e)).conv (r' := .row (.slice (some ⟨w.heap.size, 0, none⟩) (l + k) cap') e sz (l + k) (xs ++ ys)) Upd.here rfl fun _ => hown
theorem SR.appendR {eff : List Nat} {t' : Tl} {hs hp : List Res} {i : Nat} {s : Tr} {x y : Operand} {t e : TypeId} {sz by_ l k c l' : Nat} {a b : Option Addr} {xs ys zs : List Value}
   (ho : ops[i]? = some ⟨some d, .call ⟨.builtin .append, #[x, y], #[t, t]⟩, ty, pos, after, none⟩) (he : eff.contains i = true) (E : EL P t e sz by_) (ex : Ev n F x (.slice a l l)) (ey : Ev n F y (.slice b k c))
   (rx : Rd m (hp ++ hs) a l l sz xs) (rd : Rd m (hp ++ hs) b k c sz ys) (h0 : 0 < k) (hl : l + k = l') (hz : xs ++ ys = zs) (h63 : l' ≤ 9223372036854775807) (hbytes : l' * by_ ≤ 140737488355328)
   (hd : d < n.num) (kk : ∀ b' cap', SR P ops Q n eff t' hs s ((d, .slice (some ⟨b', 0, none⟩) l' cap') :: F) (.row (.slice (some ⟨b', 0, none⟩) l' cap') e sz l' zs :: hp) m) :
   SR P ops Q n eff t' hs (.op i s) F hp m := ⟨_, ho, fun y hy => by cases hy; exact hd, by
 subst hl hz
 rw [he]
 refine ⟨fun fr f w hf st => ⟨fun _ => ?_, fun h => by simp [Region.wanted] at h⟩⟩
 have st' := st.sub (List.sublist_append_right fr (hp ++ hs))
 obtain ⟨cs, cap', hr, hown⟩ := run_appR (P := P) w (ty := ty) (c := c) E rx.len (rx.at_ w st') rd.len (rd.at_ w st') h0 h63 hbytes
 have hrun : (execOp f.eval ⟨some d, .call ⟨.builtin .append, #[x, y], #[t, t]⟩, ty, pos, after, none⟩).run P w = .ok (.value (.slice (some ⟨w.heap.size, 0, none⟩) (l + k) cap')) (w.drew.alloc (.cells cs e)) := by
   simp [execOp, resolve, invoke, builtin, ex f hf, ey f hf, hr]
 rw [hrun]
 have st2 := ((st.drew).alloc (.cells cs e)).conv (r' := .row (.slice (some ⟨w.heap.size, 0, none⟩) (l + k) cap') e sz (l + k) (xs ++ ys)) Upd.here rfl fun _ => hown
 exact ⟨m, .row (.slice (some ⟨w.heap.size, 0, none⟩) (l + k) cap') e sz (l + k) (xs ++ ys) :: hp, View.le.refl m, st2.perm (List.perm_middle.symm), fun _ => List.sublist_cons_self _ _, (kk _ _).e⟩⟩
theorem SR.callV {eff : List Nat} {t : Tl} {hs hp : List Res} {i : Nat} {s : Tr} {f : Operand} {args : List Operand} {tys : Array TypeId} {vs first cap : List Value} {q : FuncId} {R : Value → Prop}
   (ho : ops[i]? = some ⟨some d, .call ⟨.value f, args.toArray, tys⟩, ty, pos, after, none⟩) (he : eff.contains i = true) (ef : Ev n F f (.func (.func q) first.toArray cap.toArray)) (ea : Evs n F args vs)
   (c : ∀ fr, CT P q (first ++ vs ++ cap) (fr ++ (hp ++ hs)) m (fun v _ h' => R v ∧ h' = fr ++ (hp ++ hs))) (hd : d < n.num)
   (k : ∀ v, R v → SR P ops Q n eff t hs s ((d, v) :: F) hp m) : SR P ops Q n eff t hs (.op i s) F hp m := ⟨_, ho, fun x hx => by cases hx; exact hd, by
 rw [he]
 refine ⟨fun fr a w ha st => ⟨fun _ => ?_, fun h => by simp [Region.wanted] at h⟩⟩
 rw [run_call ha ef ea (c fr).enter]
 refine Calls.mono ((c fr).calls w st) ?_
 rintro e w' ⟨v', m', h', rfl, hle, hst, hR, rfl⟩
 exact .inl ⟨_, rfl, m, _, View.le.refl m, hst.back hle, nofun, (k v' hR).e⟩⟩
theorem CT.know {f : FuncId} {args : List Value} {R : Value → View → List Res → Prop} {A : Prop} (he : ∀ as w, (callFunc f as).run P w = .ok (.enter f as) w) (ha : ∀ w, St m h w → A) (k : A → CT P f args h m R) : CT P f args h m R :=
 ⟨he, fun w hs => (k (ha w hs)).calls w hs⟩
theorem CT.knowRow {f : FuncId} {args : List Value} {R : Value → View → List Res → Prop} {a : Option Addr} {k cap sz : Nat} {e : TypeId} {ys : List Value} (he : ∀ as w, (callFunc f as).run P w = .ok (.enter f as) w) (hm : Res.row (.slice a k cap) e sz k ys ∈ h)
   (kk : k ≤ cap → cap ≤ 9223372036854775807 → ys.length = k * sz → CT P f args h m R) : CT P f args h m R :=
 CT.know he (fun _ st => row_le (st.ok _ hm)) fun ⟨h1, h2, h3⟩ => kk h1 h2 h3
end
end Go.Eng
end
/- PrS -/
section
namespace Go.Pc
open Go.Eng Go.Xp Go
open Go.Ty (Ty Vr)
def noneE (e : Ex) : Bool := sameE e zeroE
def elemE (e : Ex) : Bool := ((e.k == 4) || (e.k == 5)) && mayE e
def span (a b : Int) (n : Int) : Bool := decide (n ≥ a) && decide (n ≤ b)
def each {α : Type} (l : List α) (a b : Int) (q : α → Bool) : Bool := span a b l.length && !(l.any fun x => !q x)
structure Us where
 rep : Bool
 name : Bool
 chan : Bool
 spec : Bool
 procs : Bool
 t0 : Int
 t1 : Int
 e0 : Int
 e1 : Int
 p0 : Int
 p1 : Int
 g0 : Int
 g1 : Int
 lo : Int
 hi : Int
def usE (u : Us) : List Value := [.bool u.rep, .bool u.name, .bool u.chan, .bool u.spec, .bool u.procs, .int .i64 u.t0, .int .i64 u.t1, .int .i64 u.e0, .int .i64 u.e1, .int .i64 u.p0, .int .i64 u.p1, .int .i64 u.g0, .int .i64 u.g1, .int .u8 u.lo, .int .u8 u.hi]
def us0 : Us := ⟨false, false, false, false, false, 0, 0, 0, 0, 0, 0, 0, 0, 0, 0⟩
def fieldsP (k : Int) : Us × Bool :=
 if k = 1 then (us0, true) else if k = 2 then (us0, true)
 else if k = 3 then ({ us0 with t0 := 1, t1 := 8, e0 := 1, e1 := 8 }, true)
 else if k = 4 then ({ us0 with chan := true, t0 := 1, t1 := 8 }, true)
 else if k = 5 then ({ us0 with chan := true, e0 := 1, e1 := 9 }, true)
 else if k = 6 then ({ us0 with chan := true, e0 := 1, e1 := 1 }, true)
 else if k = 7 then ({ us0 with chan := true, g0 := 1, g1 := 16, lo := 7, hi := 7 }, true)
 else if k = 8 then ({ us0 with rep := true, p0 := 0, p1 := 2048 }, true) else if k = 9 then ({ us0 with rep := true, p0 := 0, p1 := 2048 }, true)
 else if k = 10 then ({ us0 with p0 := 2, p1 := 2 }, true)
 else if k = 11 then ({ us0 with procs := true, p0 := 1, p1 := 8 }, true)
 else if k = 12 then ({ us0 with rep := true, g0 := 0, g1 := 16, lo := 2, hi := 4 }, true) else if k = 13 then ({ us0 with rep := true, g0 := 0, g1 := 16, lo := 2, hi := 4 }, true)
 else if k = 14 then ({ us0 with rep := true, g0 := 0, g1 := 16, lo := 1, hi := 1 }, true)
 else if k = 15 then ({ us0 with e0 := 1, e1 := 1, g0 := 0, g1 := 16, lo := 5, hi := 6 }, true)
 else if k = 16 then ({ us0 with e0 := 1, e1 := 1, p0 := 1, p1 := 1 }, true)
 else if k = 17 then ({ us0 with name := true, e0 := 0, e1 := 8 }, true)
 else if k = 18 then ({ us0 with spec := true, p0 := 1, p1 := 1 }, true)
 else (us0, false)
def primT (t : Ty) : Bool := Go.Ty.may t && (t.dim == 0) && decide (t.kind ≤ 3)
def repP (r : Rp) : Bool := if r.name == [] then noneE r.base && noneE r.count else Go.Lx.name r.name && mayE r.base && mayE r.count
def foP (f : Fo) : Bool := Go.Lx.name f.name && Go.Ty.may f.ty && (!f.val || primT f.ty)
def either (u a z : Bool) : Bool := if u then a else z
def condP (g : Gu) : Bool := if (g.k == 3) || (g.k == 4) then mayE g.cond || noneE g.cond else mayE g.cond
def guP (g : Gu) : Bool :=
 (g.k != 0) && decide (g.k ≤ 7) && ((g.bl.length : Int) == 1) &&
 either ((g.k == 1) || (g.k == 2) || (g.k == 3) || (g.k == 4)) (condP g) (noneE g.cond) &&
 either (g.k == 7) (Go.Lx.name g.name) (g.name == []) &&
 either ((g.k == 3) || (g.k == 4)) (elemE g.ch) (noneE g.ch) &&
 either (g.k == 4) (mayE g.time) (noneE g.time) &&
 each g.tg.l (if g.k = 3 then 1 else 0) (if g.k = 3 then 8 else if g.k = 7 then 8 else 0) elemE && each g.vl.l (if g.k = 5 then 1 else 0) (if g.k = 5 then 8 else 0) mayE
def eqFo (f g : Fo) : Bool := (f.val == g.val) && (Go.Ty.eqT f.ty g.ty && ((f.name == g.name) && true))
def sameVr (x y : Vr) : Bool := (x.tag == y.tag) && (x.items == y.items)
def sameSF (a b : Sp) : Bool := ((((((((a.k == b.k) && Go.Ty.eqT a.ty b.ty) && (a.names.l == b.names.l)) && sameE a.e b.e) && (a.cs == b.cs)) && eqL sameVr a.vs.l b.vs.l) && eqL eqFo a.fs.l b.fs.l) && ((a.bl.length : Int) == b.bl.length))
def wantS (s : Sp) : Sp :=
 if s.k = 1 then .mk s.k s.ty s.names zeroE false nilS nilS none 0 []
 else if s.k = 2 then .mk s.k s.ty s.names s.e false nilS nilS none 0 []
 else if s.k = 3 then .mk s.k s.ty s.names s.e false nilS nilS none 0 []
 else if s.k = 4 then .mk s.k Go.Ty.zeroT s.names zeroE s.cs s.vs nilS none 0 []
 else .mk s.k Go.Ty.zeroT s.names zeroE false nilS s.fs s.ba s.bc s.bl
def fineS (s : Sp) : Bool :=
 if s.k = 1 then Go.Ty.may s.ty
 else if s.k = 2 then primT s.ty && mayE s.e
 else if s.k = 3 then primT s.ty && elemE s.e
 else if s.k = 4 then Go.Ty.mayPr s.cs s.vs.l
 else ((s.bl.length : Int) == 1) && each s.fs.l 0 8 foP
def spP (s : Sp) : Bool :=
 if 1 ≤ s.k ∧ s.k ≤ 5 then fineS s && each s.names.l 1 (if s.k = 1 then 8 else 1) Go.Lx.name && sameSF s (wantS s) else false
def zeroS : Sp := .mk 0 Go.Ty.zeroT nilS zeroE false nilS nilS none 0 []
def inG (u : Us) (g : Gu) : Bool := decide (g.k ≥ u.lo) && decide (g.k ≤ u.hi) && guP g
def allU (u : Us) : Bool := (u.p0 == 0) && (u.p1 == 2048)
def repU (u : Us) : Us := if allU u then { u with p0 := 1, p1 := 1 } else { u with g0 := 1, g1 := 1 }
def plainU (p : Pr) (u : Us) : Bool :=
 span u.p0 u.p1 p.ll.length && each p.gl u.g0 u.g1 (inG u) &&
 either u.name (Go.Lx.name p.name) (p.name == []) &&
 either u.chan (elemE p.ch) (noneE p.ch) &&
 each p.tg.l u.t0 u.t1 elemE && each p.ex.l u.e0 u.e1 mayE &&
 each p.pn.l (if u.procs then (p.ll.length : Int) else 0) (if u.procs then (p.ll.length : Int) else 0) (fun n => decide (n ≥ 0) && decide (n < 8)) &&
 ((u.spec && spP p.sp) || (!u.spec && (sameSF p.sp zeroS)))
def plainP (p : Pr) : Bool :=
 if !(fieldsP p.k).2 || !repP p.rep then false
 else if p.rep.name != [] then (if !(fieldsP p.k).1.rep then false else plainU p (repU (fieldsP p.k).1)) else plainU p (fieldsP p.k).1
end Go.Pc
end
/- PrV -/
section
namespace Go.Pc
open Go.Eng Go.Xp Go
open Go.Ty (Ty Vr)
theorem each_all {α : Type} {l : List α} {a b : Int} {q : α → Bool} (h : each l a b q = true) : (∀ x ∈ l, q x = true) ∧ a ≤ l.length ∧ (l.length : Int) ≤ b := by
 unfold each span at h
 simp only [Bool.and_eq_true, decide_eq_true_eq, Bool.not_eq_true', List.any_eq_false] at h
 exact ⟨fun x hx => by have := h.2 x hx; simpa using this, h.1.1, h.1.2⟩
theorem elem_may {e : Ex} (h : elemE e = true) : mayE e = true := by
 unfold elemE at h
 simp only [Bool.and_eq_true] at h
 exact h.2
theorem elem_kind {e : Ex} (h : elemE e = true) : e.k = 4 ∨ e.k = 5 := by
 unfold elemE at h
 simp only [Bool.and_eq_true, Bool.or_eq_true, beq_iff_eq] at h
 exact h.1
structure Pl (p : Pr) : Prop where
 kd : (fieldsP p.k).2 = true
 rep : repP p.rep = true
 ch : (fieldsP p.k).1.chan = true → elemE p.ch = true
 nc : (fieldsP p.k).1.chan = false → noneE p.ch = true
 tg : ∀ x ∈ p.tg.l, elemE x = true
 ex : ∀ x ∈ p.ex.l, mayE x = true
 tn : (fieldsP p.k).1.t0 ≤ p.tg.l.length ∧ (p.tg.l.length : Int) ≤ (fieldsP p.k).1.t1
 en : (fieldsP p.k).1.e0 ≤ p.ex.l.length ∧ (p.ex.l.length : Int) ≤ (fieldsP p.k).1.e1
 gs : ∀ g ∈ p.gl, guP g = true ∧ (fieldsP p.k).1.lo ≤ g.k ∧ g.k ≤ (fieldsP p.k).1.hi
 gn : p.rep.name = [] → (fieldsP p.k).1.g0 ≤ p.gl.length ∧ (p.gl.length : Int) ≤ (fieldsP p.k).1.g1
 pn : p.rep.name = [] → (fieldsP p.k).1.p0 ≤ p.ll.length ∧ (p.ll.length : Int) ≤ (fieldsP p.k).1.p1
 rp : p.rep.name ≠ [] → (fieldsP p.k).1.rep = true
 sp : (fieldsP p.k).1.spec = true → spP p.sp = true
 ns : (fieldsP p.k).1.spec = false → sameSF p.sp zeroS = true
theorem plU {p : Pr} {u : Us} (h : plainU p u = true) : ((span u.p0 u.p1 p.ll.length = true ∧ each p.gl u.g0 u.g1 (inG u) = true) ∧ either u.chan (elemE p.ch) (noneE p.ch) = true) ∧ (each p.tg.l u.t0 u.t1 elemE = true ∧ each p.ex.l u.e0 u.e1 mayE = true) ∧ ((u.spec && spP p.sp) || (!u.spec && (sameSF p.sp zeroS))) = true := by
 unfold plainU at h
 simp only [Bool.and_eq_true] at h
 obtain ⟨⟨⟨⟨⟨⟨⟨h1, h2⟩, h3⟩, h4⟩, h5⟩, h6⟩, h7⟩, h8⟩ := h
 exact ⟨⟨⟨h1, h2⟩, h4⟩, ⟨h5, h6⟩, h8⟩
theorem inG_spec {u : Us} {g : Gu} (h : inG u g = true) : guP g = true ∧ u.lo ≤ g.k ∧ g.k ≤ u.hi := by
 unfold inG at h
 simp only [Bool.and_eq_true, decide_eq_true_eq] at h
 exact ⟨h.2, h.1.1, h.1.2⟩
theorem span_spec {a b n : Int} (h : span a b n = true) : a ≤ n ∧ n ≤ b := by
 unfold span at h
 simp only [Bool.and_eq_true, decide_eq_true_eq] at h
 exact h
theorem plain_spec {p : Pr} (h : plainP p = true) : Pl p := by
 unfold plainP at h
 split at h
 · cases h
 · rename_i h0
   have h1 : (fieldsP p.k).2 = true ∧ repP p.rep = true := by
     cases h2 : (fieldsP p.k).2 <;> cases h3 : repP p.rep <;> simp_all
   have key : ∀ u : Us, plainU p u = true → u.chan = (fieldsP p.k).1.chan → u.spec = (fieldsP p.k).1.spec → u.t0 = (fieldsP p.k).1.t0 → u.t1 = (fieldsP p.k).1.t1 → u.e0 = (fieldsP p.k).1.e0 → u.e1 = (fieldsP p.k).1.e1 → u.lo = (fieldsP p.k).1.lo → u.hi = (fieldsP p.k).1.hi →
       (p.rep.name = [] → u = (fieldsP p.k).1) → (p.rep.name ≠ [] → (fieldsP p.k).1.rep = true) → Pl p := by
     intro u hu e1 e2 e3 e4 e5 e6 e7 e8 e9 e10
     obtain ⟨⟨⟨q1, q2⟩, q3⟩, ⟨q4, q5⟩, q6⟩ := plU hu
     obtain ⟨g1, g2, g3⟩ := each_all q2
     obtain ⟨t1, t2, t3⟩ := each_all q4
     obtain ⟨x1, x2, x3⟩ := each_all q5
     refine ⟨h1.1, h1.2, fun hc => ?_, fun hc => ?_, t1, x1, ⟨e3 ▸ t2, e4 ▸ t3⟩, ⟨e5 ▸ x2, e6 ▸ x3⟩, fun g hg => ?_, fun hr => ?_, fun hr => ?_, e10, fun hc => ?_, fun hc => ?_⟩
     · rw [e1, hc] at q3; exact q3
     · rw [e1, hc] at q3; exact q3
     · have := inG_spec (g1 g hg)
       rw [e7, e8] at this
       exact this
     · rw [e9 hr] at g2 g3; exact ⟨g2, g3⟩
     · rw [e9 hr] at q1; exact span_spec q1
     · rw [e2, hc] at q6; simpa using q6
     · rw [e2, hc] at q6; simpa using q6
   split at h
   · rename_i hr
     have hr' : p.rep.name ≠ [] := by simpa using hr
     split at h
     · cases h
     · rename_i h4
       have h5 : (fieldsP p.k).1.rep = true := by simpa using h4
       unfold repU at h
       split at h
       · exact key _ h rfl rfl rfl rfl rfl rfl rfl rfl (fun q => absurd q hr') (fun _ => h5)
       · exact key _ h rfl rfl rfl rfl rfl rfl rfl rfl (fun q => absurd q hr') (fun _ => h5)
   · rename_i hr
     have hr' : p.rep.name = [] := by simpa using hr
     exact key _ h rfl rfl rfl rfl rfl rfl rfl rfl (fun _ => rfl) (fun q => absurd hr' q)
structure GuV (g : Gu) : Prop where
 body : g.bl.length = 1
 cond : 1 ≤ g.k → g.k ≤ 4 → mayE g.cond = true ∨ noneE g.cond = true
 ch : g.k = 3 ∨ g.k = 4 → elemE g.ch = true
 time : g.k = 4 → mayE g.time = true
 tg : ∀ x ∈ g.tg.l, elemE x = true
 vl : ∀ x ∈ g.vl.l, mayE x = true
theorem gu_spec {g : Gu} (h : guP g = true) : GuV g := by
 unfold guP at h
 simp only [Bool.and_eq_true] at h
 obtain ⟨⟨⟨⟨⟨⟨⟨⟨h1, h2⟩, h3⟩, h4⟩, h5⟩, h6⟩, h7⟩, h8⟩, h9⟩ := h
 refine ⟨by simp only [beq_iff_eq] at h3; omega, fun a b => ?_, fun a => ?_, fun a => ?_, (each_all h8).1, (each_all h9).1⟩
 · have hk : ((g.k == 1) || (g.k == 2) || (g.k == 3) || (g.k == 4)) = true := by
     have : g.k = 1 ∨ g.k = 2 ∨ g.k = 3 ∨ g.k = 4 := by omega
     rcases this with q | q | q | q <;> rw [q] <;> rfl
   rw [hk] at h4
   replace h4 : condP g = true := h4
   unfold condP at h4
   split at h4
   · simp only [Bool.or_eq_true] at h4; exact h4
   · exact .inl h4
 · have hk : ((g.k == 3) || (g.k == 4)) = true := by rcases a with q | q <;> rw [q] <;> rfl
   rw [hk] at h6
   exact h6
 · have hk : (g.k == 4) = true := by rw [a]; rfl
   rw [hk] at h7
   exact h7
theorem none_kind {e : Ex} (h : noneE e = true) : e.k = 0 := by
 unfold noneE at h
 rw [sameE_eq] at h
 simp only [Bool.and_eq_true, Bool.not_eq_true'] at h
 have h1 := h.1
 unfold badE at h1
 simp only [Bool.or_eq_false_iff, bne_eq_false_iff_eq] at h1
 exact h1.1.1.1.1.1
structure SpV (s : Sp) : Prop where
 kd : 1 ≤ s.k ∧ s.k ≤ 5
 ev : s.k = 2 → mayE s.e = true
 es : s.k = 3 → elemE s.e = true
 body : s.k = 5 → s.bl.length = 1
 fs : s.k = 5 → s.fs.l.length ≤ 8
theorem sp_spec {s : Sp} (h : spP s = true) : SpV s := by
 unfold spP at h
 split at h
 · rename_i hk
   simp only [Bool.and_eq_true] at h
   have hf := h.1.1
   unfold fineS at hf
   refine ⟨hk, fun e => ?_, fun e => ?_, fun e => ?_, fun e => ?_⟩
   · rw [if_neg (by omega), if_pos e] at hf
     simp only [Bool.and_eq_true] at hf
     exact hf.2
   · rw [if_neg (by omega), if_neg (by omega), if_pos e] at hf
     simp only [Bool.and_eq_true] at hf
     exact hf.2
   · rw [if_neg (by omega), if_neg (by omega), if_neg (by omega), if_neg (by omega)] at hf
     simp only [Bool.and_eq_true, beq_iff_eq] at hf
     omega
   · rw [if_neg (by omega), if_neg (by omega), if_neg (by omega), if_neg (by omega)] at hf
     simp only [Bool.and_eq_true, beq_iff_eq] at hf
     have := (each_all hf.2).2.2
     omega
 · cases h
inductive Vld : Pr → Prop
 | mk {p : Pr} (h : plainP p = true) (s : ∀ x, In x p → Vld x) : Vld p
theorem Vld.own {p : Pr} (q : Vld p) : Pl p := by cases q with | mk h _ => exact plain_spec h
theorem Vld.sub {p x : Pr} (q : Vld p) (hx : In x p) : Vld x := by cases q with | mk _ s => exact s x hx
end Go.Pc
end
/- Eng24 -/
section
namespace Go.Eng
open Go Go.RowKit
theorem beq_bytes (a b : ByteArray) : (a == b) = (a.data == b.data) := rfl
theorem beq_str {n k : List UInt8} (h : ¬ n = k) : ((⟨n.toArray⟩ : ByteArray) == ⟨k.toArray⟩) = false := by
 rw [beq_bytes]
 exact beq_eq_false_iff_ne.2 fun e => h (by simpa using e)
theorem beq_str_self (n : List UInt8) : ((⟨n.toArray⟩ : ByteArray) == ⟨n.toArray⟩) = true := by
 rw [beq_bytes]
 exact beq_self_eq_true _

structure MapS (es : Array MapEntry) (ks : List (List UInt8)) : Prop where
 a : ∀ e ∈ es.toList, ∃ n, e.key = str n ∧ e.val = .bool true ∧ n ∈ ks
 b : ∀ n ∈ ks, ∃ e ∈ es.toList, e.key = str n
theorem MapS.nil : MapS #[] [] := ⟨fun e h => by simp at h, fun n h => by cases h⟩

theorem find_str {n : List UInt8} : ∀ (l : List MapEntry) (i : Nat), (∀ e ∈ l, ∃ n, e.key = str n) →
   (Instr.findNow .string (str n) l i = some none ∧ ∀ e ∈ l, e.key ≠ str n) ∨ ∃ j e, l[j]? = some e ∧ e.key = str n ∧ Instr.findNow .string (str n) l i = some (some (i + j, e.val))
 | [], i, _ => .inl ⟨rfl, fun e h => by cases h⟩
 | e :: l, i, h => by
   obtain ⟨k, hk⟩ := h e (by simp)
   by_cases hn : n = k
   · subst hn
     refine .inr ⟨0, e, rfl, hk, ?_⟩
     simp [Instr.findNow, hk, Instr.sameNow, beq_str_self]
   · have hb : ((⟨n.toArray⟩ : ByteArray) == ⟨k.toArray⟩) = false := beq_str hn
     have e1 : Instr.findNow .string (str n) (e :: l) i = Instr.findNow .string (str n) l (i + 1) := by
       simp [Instr.findNow, hk, Instr.sameNow, hb]
     rcases find_str l (i + 1) (fun e he => h e (by simp [he])) with ⟨h1, h2⟩ | ⟨j, e', h1, h2, h3⟩
     · refine .inl ⟨by rw [e1, h1], fun e' he' => ?_⟩
       rcases List.mem_cons.1 he' with rfl | he'
       · rw [hk]; intro hq; cases hq; exact hn rfl
       · exact h2 e' he'
     · exact .inr ⟨j + 1, e', by simpa using h1, h2, by rw [e1, h3]; congr 3; omega⟩

section
variable {P : Program} {ops : Array Oper} {Q : Exit → Act → World → Prop} {n : Cx} {F : Fm} {h h' : List Res} {m : View} {rest : List Oper}
variable {ty : TypeId} {pos : String} {after : Array Edge} {dst : Option Tmp} {g : Option (Nat × Bool)} {d : Nat}

theorem run_mapSetS (w : World) {t kt et : TypeId} {b : Nat} {es : Array MapEntry} {clock : Nat} {ks : List (List UInt8)} {x : List UInt8} (ht : P.underlying t = some (.map kt et)) (hk : P.underlying kt = some (.string)) (hM : MapS es ks)
   (hb : w.heap[b]? = some (.map es clock)) : ∃ es' clock', MapS es' (x :: ks) ∧ (Instr.mapUpdate t (.map (some b)) (str x) (.bool true)).run P w = .ok () { w with heap := w.heap.setIfInBounds b (.map es' clock') } := by
 have hck : (Instr.checkKey false 10000 kt (str x)).run P w = .ok () w := by
   unfold Instr.checkKey
   simp [run_underlying hk]
 have hint : ∀ e ∈ es.toList, ∃ n, e.key = str n := fun e he => by obtain ⟨n, h1, _⟩ := hM.a e he; exact ⟨n, h1⟩
 have hget : (getObj b).run P w = .ok (.map es clock) w := by simp [getObj, Sem.run, hb]
 have hset : ∀ o, (setObj b o).run P w = .ok () { w with heap := w.heap.setIfInBounds b o } := fun o => by simp [setObj, Sem.run, hb]
 rcases find_str (n := x) es.toList 0 hint with ⟨h1, h2⟩ | ⟨j, e, h1, h2, h3⟩
 · refine ⟨es.push { key := str x, val := .bool true, born := clock }, clock + 1, ⟨fun e he => ?_, fun y hy => ?_⟩, ?_⟩
   · simp only [Array.toList_push, List.mem_append, List.mem_singleton] at he
     rcases he with he | rfl
     · obtain ⟨y, a1, a2, a3⟩ := hM.a e he; exact ⟨y, a1, a2, by simp [a3]⟩
     · exact ⟨x, rfl, rfl, by simp⟩
   · rcases List.mem_cons.1 hy with rfl | hy
     · exact ⟨{ key := str y, val := .bool true, born := clock }, by simp, rfl⟩
     · obtain ⟨e, e1, e2⟩ := hM.b y hy; exact ⟨e, by simp only [Array.toList_push, List.mem_append]; exact .inl e1, e2⟩
   · simp [Instr.mapUpdate, run_underlying ht, hget, hck, Instr.findKey, run_underlying hk, h1, hset]
 · have hj : es[j]? = some e := by simpa using h1
   refine ⟨es.modify j fun e => { e with key := str x, val := .bool true }, clock, ⟨fun e' he' => ?_, fun y hy => ?_⟩, ?_⟩
   · obtain ⟨i, hi⟩ := List.getElem?_of_mem he'
     have hi2 : (es.modify j fun e => { e with key := str x, val := .bool true })[i]? = some e' := by rw [Array.getElem?_toList] at hi; exact hi
     rw [Array.getElem?_modify] at hi2
     split at hi2
     · cases hq : es[i]? with
       | none => simp [hq] at hi2
       | some e0 => simp [hq] at hi2; subst hi2; exact ⟨x, rfl, rfl, by simp⟩
     · obtain ⟨y, a1, a2, a3⟩ := hM.a e' (by
         exact Array.mem_def.1 (Array.mem_of_getElem? hi2))
       exact ⟨y, a1, a2, by simp [a3]⟩
   · have key : ∀ i e0, es[i]? = some e0 → ∃ e1 ∈ (es.modify j fun e => { e with key := str x, val := .bool true }).toList, e1.key = if j = i then str x else e0.key := fun i e0 h0 => by
       have : (es.modify j fun e => { e with key := str x, val := .bool true })[i]? = some (if j = i then { e0 with key := str x, val := .bool true } else e0) := by
         rw [Array.getElem?_modify, h0]; split <;> simp
       have hm := Array.mem_of_getElem? this
       refine ⟨_, Array.mem_def.1 hm, ?_⟩
       split <;> rfl
     rcases List.mem_cons.1 hy with rfl | hy
     · obtain ⟨e1, m1, k1⟩ := key j e hj
       exact ⟨e1, m1, by rw [k1, if_pos rfl]⟩
     · obtain ⟨e0, m0, k0⟩ := hM.b y hy
       obtain ⟨i, hi⟩ := List.getElem?_of_mem m0
       obtain ⟨e1, m1, k1⟩ := key i e0 (by simpa using hi)
       by_cases hji : j = i
       · subst hji
         have e00 : e0 = e := by rw [show es[j]? = some e0 by simpa using hi] at hj; exact Option.some.inj hj
         subst e00
         refine ⟨e1, m1, ?_⟩
         rw [k1, if_pos rfl, ← k0, h2]
       · exact ⟨e1, m1, by rw [k1, if_neg hji, k0]⟩
   · simp [Instr.mapUpdate, run_underlying ht, hget, hck, Instr.findKey, run_underlying hk, h3, hj, h2, Instr.keyThatStays, Instr.sameBits, beq_str_self, hset]

theorem WL.mapSetS {op : Op} {x y z : Operand} {t kt et : TypeId} {b : Nat} {es : Array MapEntry} {clock : Nat} {ks : List (List UInt8)} {i : List UInt8} {hq : Array MapEntry → Nat → List Res} (hop : op = .mapUpdate t x y z ∨ op = .insert t x y z) (ht : P.underlying t = some (.map kt et)) (hk : P.underlying kt = some (.string)) (hM : MapS es ks)
   (ex : Ev n F x (.map (some b))) (ey : Ev n F y (str i)) (ez : Ev n F z (.bool true)) (u : ∀ es' c', Upd h (.pt b (.map es clock)) (.pt b (.map es' c')) (hq es' c')) (k : ∀ es' c', MapS es' (i :: ks) → WL P ops Q n rest F (hq es' c') m) :
   WL P ops Q n (⟨none, op, ty, pos, after, none⟩ :: rest) F h m := .mk fun a w ha hs => by
 obtain ⟨es', c', h1, h2⟩ := run_mapSetS (P := P) w (x := i) ht hk hM (hs.ok _ (u es clock).mem)
 have hrun : (execOp a.eval ⟨none, op, ty, pos, after, none⟩).run P w = .ok .skip { w with heap := w.heap.setIfInBounds b (.map es' c') } := by
   rcases hop with rfl | rfl <;> simp [execOp, ex a ha, ey a ha, ez a ha, h2]
 exact wpList_of_wp rfl (wp_of_skip hrun (k es' c' h1 _ _ ha (hs.setObj (u es' c'))))

theorem PO.mapGetS {x y : Operand} {t kt et : TypeId} {b : Nat} {es : Array MapEntry} {clock : Nat} {ks : List (List UInt8)} {i : List UInt8} (ht : P.underlying t = some (.map kt et)) (hk : P.underlying kt = some (.string)) (hz : (P.info? et).bind (·.zero) = some (.bool false)) (hM : MapS es ks)
   (ex : Ev n F x (.map (some b))) (ey : Ev n F y (str i)) (hm : Res.pt b (.map es clock) ∈ h) : PO P ⟨dst, .lookup t x y false, ty, pos, after, g⟩ n F h m (.bool (decide (i ∈ ks))) := .mk fun a w ha hs => by
 have hb : w.heap[b]? = some (.map es clock) := hs.ok _ hm
 have hck : (Instr.checkKey es.isEmpty 10000 kt (str i)).run P w = .ok () w := by
   unfold Instr.checkKey
   simp [run_underlying hk]
 have hint : ∀ e ∈ es.toList, ∃ n, e.key = str n := fun e he => by obtain ⟨n, h1, _⟩ := hM.a e he; exact ⟨n, h1⟩
 have hget : (getObj b).run P w = .ok (.map es clock) w := by simp [getObj, Sem.run, hb]
 have hzr : (zeroValue et).run P w = .ok (.bool false) w := by
   cases hi : P.info? et with
   | none => simp [hi] at hz
   | some j =>
     have : j.zero = some (.bool false) := by simpa [hi] using hz
     simp [zeroValue, typeInfo, hi, this]
 rcases find_str (n := i) es.toList 0 hint with ⟨h1, h2⟩ | ⟨j, e, h1, h2, h3⟩
 · have hno : ¬ i ∈ ks := fun hi => by obtain ⟨e, e1, e2⟩ := hM.b i hi; exact h2 e e1 e2
   simp [execOp, ex a ha, ey a ha, Instr.lookup, run_underlying ht, hget, hck, Instr.findKey, run_underlying hk, h1, hzr, hno]
 · have hm := List.mem_of_getElem? h1
   obtain ⟨y', a1, a2, a3⟩ := hM.a e hm
   have : i = y' := by rw [h2] at a1; cases a1; rfl
   subst this
   simp [execOp, ex a ha, ey a ha, Instr.lookup, run_underlying ht, hget, hck, Instr.findKey, run_underlying hk, h3, a2, a3]
end

section
variable {P : Program} {ops : Array Oper} {Q : Exit → Act → World → Prop} {n : Cx} {F : Fm} {m : View} {eff : List Nat} {t : Tl} {hs hp : List Res}
variable {ty : TypeId} {pos : String} {after : Array Edge} {d : Nat}
abbrev nilR (e : TypeId) (sz : Nat) : Res := .row (.slice none 0 0) e sz 0 []
theorem St.insNil (e : TypeId) (sz : Nat) {fr l1 l2 hs : List Res} {w : World} (s : St m (fr ++ ((l1 ++ l2) ++ hs)) w) : St m (fr ++ ((l1 ++ nilR e sz :: l2) ++ hs)) w := by
 refine (s.addNil e sz).perm ?_
 have h1 : (fr ++ ((l1 ++ nilR e sz :: l2) ++ hs)).Perm (nilR e sz :: (fr ++ ((l1 ++ l2) ++ hs))) := by
   refine (List.Perm.append_left fr ((List.perm_middle (l₁ := l1) (l₂ := l2)).append_right hs)).trans ?_
   exact List.perm_middle
 exact h1.symm
theorem baseK_insNil (e : TypeId) (sz : Nat) {l1 l2 : List Res} : ∀ (r : List Fl) {F : Fm} {fr : List Res}, baseK P ops Q n t r F (fr ++ ((l1 ++ nilR e sz :: l2) ++ hs)) m → baseK P ops Q n t r F (fr ++ ((l1 ++ l2) ++ hs)) m
 | [], _, _, h => WL.mk fun a w ha st => h.e a w ha (st.insNil e sz)
 | (_, _, _) :: r, _, fr, h => fun b => baseK_insNil e sz r (fr := _ :: fr) (h b)
theorem UPON.imp {r : Result Next} {R R' : Value → World → Prop} {X : List PanicEntry → World → Prop} (h : UPON P r R X) (k : ∀ v w, R v w → R' v w) : UPON P r R' X := by
 cases r with
 | ok x w =>
   cases x with
   | value v => exact k _ _ h
   | skip => exact k _ _ h
   | enter f args =>
     refine Calls.mono h fun e w' q => ?_
     rcases q with ⟨v, rfl, hv⟩ | q
     · exact .inl ⟨v, rfl, k v w' hv⟩
     · exact .inr q
   | _ => exact h
 | halt _ _ => exact h
theorem SRr.insNil (e : TypeId) (sz : Nat) {l1 l2 : List Res} : ∀ (T : Tr) {F : Fm}, SRr P ops Q n eff t hs T F (l1 ++ nilR e sz :: l2) m → SRr P ops Q n eff t hs T F (l1 ++ l2) m
 | .nil, _, h => baseK_insNil e sz t.fl (fr := []) h
 | .alt a b, _, h => ⟨SRr.insNil e sz a h.1, SRr.insNil e sz b h.2⟩
 | .op i s, _, h => by
   obtain ⟨o, ho, hd, h⟩ := h
   refine ⟨o, ho, hd, ?_⟩
   have hsub : (l1 ++ l2).Sublist (l1 ++ nilR e sz :: l2) := (List.sublist_cons_self _ _).append_left l1
   cases he : eff.contains i with
   | false =>
     rw [he] at h
     obtain ⟨v, pg, hk⟩ := h
     exact ⟨v, pg, SRr.insNil e sz s hk⟩
   | true =>
     rw [he] at h
     dsimp only at h ⊢
     cases hr : isRd o with
     | true =>
       rw [hr] at h
       obtain ⟨v, pg, hk⟩ := h
       exact ⟨v, ⟨fun a w ha st => pg.e a w ha (St.insNil e sz (fr := []) st)⟩, SRr.insNil e sz s hk⟩
     | false =>
       rw [hr] at h
       dsimp only at h ⊢
       have sat : ∀ {G : Fm} {l : List Res}, Sat n hs G (l ++ l2) m → Sat n hs G (l ++ nilR e sz :: l2) m := fun ⟨fr, a, w, ha, st⟩ => ⟨fr, a, w, ha, st.insNil e sz⟩
       cases hmk : isMk o && eff.contains 4096 with
       | true =>
         rw [hmk] at h
         exact ⟨fun s a ha => h.ex (sat s) a ha, fun a ha k cs el hout b s' => SRr.insNil e sz (l1 := _ :: l1) s (h.k a ha k cs el hout b (sat (l := _ :: l1) s'))⟩
       | false =>
       rw [hmk] at h
       dsimp only at h ⊢
       refine ⟨fun fr a w ha st => ?_⟩
       obtain ⟨h1, h2⟩ := h.e fr a w ha (St.insNil e sz st)
       refine ⟨fun hw => (h1 hw).imp fun v w' q => ?_, fun hw => ?_⟩
       · obtain ⟨m', hp', q1, q2, q3, q4⟩ := q
         exact ⟨m', hp', q1, q2, fun ha => hsub.trans (q3 ha), q4⟩
       · exact ⟨fun _ => List.Sublist.refl _, SRr.insNil e sz s (h2 hw).2⟩
theorem SR.buildSliceG {q : Nat} {s : Tr} {tt e k : Nat} {sz by_ : Nat} {ps : List (Nat × Operand)} {vs : List (Nat × Value)} {z : Value} {zs cs : List Value} {gd : Nat × Bool} {c : Bool}
   (ho : ops[q]? = some ⟨some d, .buildSlice tt k ps.toArray, ty, pos, after, some gd⟩) (he : eff.contains q = true) (hg : GU ops n F gd c) (E : EL P tt e sz by_) (hz : (P.info? e).bind (·.zero) = some z) (ev : c = true → EvP n F ps vs)
   (hzs : zeros z k = some zs) (hf : fillO (fun i => some (i * sz, sz)) zs vs = some cs) (hk : k * sz ≤ 16777216) (h0 : Nat.beq (k * sz) 0 = false) (hd : d < n.num)
   (kk : ∀ b r, (c = true → r = .pt b (.cells cs.toArray e (0, 0))) → SR P ops Q n eff t hs s ((d, gv c (.slice (some ⟨b, 0, none⟩) k k)) :: F) (r :: hp) m) :
   SR P ops Q n eff t hs (.op q s) F hp m := ⟨_, ho, fun y hy => by cases hy; exact hd, by
 rw [he]
 simp only [isRd_guard, isMk_guard, Bool.false_and]
 refine ⟨fun fr f w hf' st => ?_⟩
 have hy := hg.wanted (dst := some d) (op := .buildSlice tt k ps.toArray) (ty := ty) (pos := pos) (after := after) hf'
 cases c with
 | true =>
   refine ⟨fun _ => ?_, fun h => by rw [hy] at h; cases h⟩
   have hrun := run_buildSlice (P := P) w (dst := some d) (ty := ty) (pos := pos) (after := after) (g := some gd) E hz (ev rfl) hzs hf hk h0 hf'
   rw [hrun]
   exact ⟨m, .pt w.heap.size (.cells cs.toArray e) :: hp, View.le.refl m, (st.alloc _).perm List.perm_middle.symm, fun _ => List.sublist_cons_self _ _, (kk w.heap.size _ (fun _ => rfl)).e⟩
 | false =>
   refine ⟨fun h => (by rw [hy] at h; cases h), fun _ => ⟨fun _ => List.Sublist.refl _, ?_⟩⟩
   exact SRr.insNil e sz (l1 := []) s (kk 0 (nilR e sz) (fun h => by cases h)).e⟩
end

section
variable {P : Program} {n : Cx} {F : Fm} {h : List Res} {m : View}
variable {ty : TypeId} {pos : String} {after : Array Edge} {dst : Option Tmp} {g : Option (Nat × Bool)}
def eqP (P : Program) (o : TypeId) (t : TypeId) (xs ys : List Value) (off : Nat) : Option Bool := match P.underlying t with
 | some (.struct gs) => match Nat.beq t o with
   | true => match (P.info? t).map (·.size) with
     | some k => match seg xs off k with
       | some as => match seg ys off k with
         | some bs => eqFs P as bs gs.toList
         | none => none
       | none => none
     | none => none
   | false => none
 | some d => match plainD d with
   | true => match xs[off]? with
     | some a => match ys[off]? with
       | some b => eqC d a b
       | none => none
     | none => none
   | false => none
 | none => none
def eqFs2 (P : Program) (o : TypeId) (xs ys : List Value) : List Field → Option Bool
 | [] => some true
 | f :: fs => match eqP P o f.type xs ys f.offset with
   | some r => match eqFs2 P o xs ys fs with
     | some q => match (f.name != "_") with
       | true => some (r && q)
       | false => none
     | none => none
   | none => none
theorem seg_take {xs as : List Value} {off k : Nat} (h : seg xs off k = some as) : (xs.drop off).take k = as := by
 obtain ⟨h1, h2⟩ := seg_spec h
 subst h1
 refine List.ext_getElem? fun i => ?_
 rcases Nat.lt_or_ge i as.length with hi | hi
 · have := h2 i _ (List.getElem?_eq_getElem hi)
   rw [List.getElem?_take_of_lt hi, List.getElem?_drop, this, List.getElem?_eq_getElem hi]
 · rw [List.getElem?_eq_none hi, List.getElem?_eq_none (by rw [List.length_take]; omega)]
theorem run_eqP (w : World) (d : Nat) {o t : TypeId} (ho : P.stoodInHeld o = false) {xs ys : List Value} {off : Nat} {r : Bool} (he : eqP P o t xs ys off = some r) : ∃ a b, (part t xs.toArray off).run P w = .ok a w ∧ (part t ys.toArray off).run P w = .ok b w ∧ (Op.equalIn (d + 2) t a b).run P w = .ok r w := by
 unfold eqP at he
 split at he
 · rename_i gs ht
   split at he
   · rename_i hto
     have hto := Nat.eq_of_beq_eq_true hto
     subst hto
     have hs := ho
     split at he
     · rename_i k hk
       split at he
       · rename_i as ha
         split at he
         · rename_i bs hb
           cases hi : P.info? t with
           | none => rw [hi] at hk; cases hk
           | some i0 =>
             have hsz : i0.size = k := by rw [hi] at hk; simpa using hk
             have hf : P.fieldsOf t = gs := by simp [Program.fieldsOf, ht]
             have hag := run_isAgg_agg (P := P) w ht rfl
             refine ⟨.agg as.toArray, .agg bs.toArray, ?_, ?_, ?_⟩
             · simp [part, hag, sizeOf, typeInfo, hi, hsz, seg_take ha]
             · simp [part, hag, sizeOf, typeInfo, hi, hsz, seg_take hb]
             · rw [run_equalIn_struct (P := P) w (d + 1) t as.toArray bs.toArray (by rw [hf]; exact ht) hs, hf]
               exact run_eqFs w d as bs he
         · cases he
       · cases he
     · cases he
   · cases he
 · rename_i ds _ ht
   split at he
   · rename_i hp
     split at he
     · rename_i a ha
       split at he
       · rename_i b hb
         refine ⟨a, b, ?_, ?_, run_eqC w (d := d + 1) ht he⟩
         · simp [part, run_isAgg_plain w ht hp, ha]
         · simp [part, run_isAgg_plain w ht hp, hb]
       · cases he
     · cases he
   · cases he
 · cases he
theorem run_eqFs2 (w : World) (d : Nat) {o : TypeId} (ho : P.stoodInHeld o = false) (xs ys : List Value) : ∀ {fs : List Field} {r : Bool}, eqFs2 P o xs ys fs = some r → (Op.eqFields (d + 2) xs.toArray ys.toArray fs).run P w = .ok r w
 | [], r, he => by cases he; simp [Op.eqFields]
 | f :: fs, r, he => by
   unfold eqFs2 at he
   split at he
   · rename_i c hc
     split at he
     · rename_i q hq
       split at he
       · rename_i h7
         cases he
         have h8 : f.name ≠ "_" := by simpa using h7
         have ih := run_eqFs2 w d ho xs ys hq
         obtain ⟨a, b, ea, eb, e5⟩ := run_eqP (P := P) w d ho hc
         simp only [Op.eqFields, if_pos h8, Sem.run_bind]
         rw [ea, Result.andThen_ok, eb, Result.andThen_ok, e5, Result.andThen_ok]
         cases c
         · simp
         · simpa using ih
       · cases he
     · cases he
   · cases he
theorem PO.neqA2 {o : TypeId} {x y : Operand} {t t' : TypeId} {fs : Array Field} {as bs : List Value} {r : Bool} (ht : P.underlying t = some (.struct fs)) (hs : P.stoodInHeld t = false) (hm : P.eqGuardType P.depth t = false) (ex : Ev n F x (.agg as.toArray)) (ey : Ev n F y (.agg bs.toArray))
   (ho : P.stoodInHeld o = false) (hr : eqFs2 P o as bs fs.toList = some r) : PO P ⟨dst, .binOp .neq t x y t', ty, pos, after, g⟩ n F h m (.bool (!r)) := .mk fun a w ha _ => by
 have hf : P.fieldsOf t = fs := by simp [Program.fieldsOf, ht]
 have e1 := run_equalIn_struct (P := P) w 9999 t as.toArray bs.toArray (by rw [hf]; exact ht) hs
 rw [hf, run_eqFs2 w 9997 ho as bs hr] at e1
 simp [execOp, ex a ha, ey a ha, run_eqGuard_agg w _ t _ _ _ _ hm, run_neq_struct, e1]
end
end Go.Eng
end

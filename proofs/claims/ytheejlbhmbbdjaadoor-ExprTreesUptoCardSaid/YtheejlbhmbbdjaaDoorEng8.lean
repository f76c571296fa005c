/- Eng8, Eng9, Eng10, Eng11, Eng12 as one text. -/
import Derived.Test.YtheejlbhmbbdjaaDoorEng5
import Derived.Laws.StructEq
import Derived.LaidLaws
import Derived.ChangeMaps5
import Derived.Lib.ConvBytes
import Derived.Laws.AppendOwn
import Derived.Lib.AppendIntMem
/- Calls that leave the view as it stands; guards within guards; structs compared; lists as cells; loops whose unchanged slots are kept. -/
namespace Go.Eng
open Go Go.RowKit

theorem and_l {a b : Bool} (h : (a && b) = true) : a = true := by cases a <;> simp_all
theorem and_r {a b : Bool} (h : (a && b) = true) : b = true := by cases a <;> simp_all
theorem and_n {a b : Bool} (h : (a && !b) = true) : b = false := by cases a <;> simp_all

theorem t_eq {α : Type} [BEq α] [LawfulBEq α] {x y : α} (h : (x == y) = true) : x = y := eq_of_beq h
theorem f_eq {α : Type} [BEq α] [LawfulBEq α] {x y : α} (h : (x == y) = false) : x ≠ y := ne_of_beq_false h
theorem t_ne {α : Type} [BEq α] [LawfulBEq α] {x y : α} (h : (x != y) = true) : x ≠ y := bne_iff_ne.1 h
theorem f_ne {α : Type} [BEq α] [LawfulBEq α] {x y : α} (h : (x != y) = false) : x = y := by simpa using h

section
variable {P : Program} {ops : Array Oper} {Q : Exit → Act → World → Prop} {n : Cx} {F : Fm} {h h' : List Res} {m : View} {rest : List Oper}
variable {ty : TypeId} {pos : String} {after : Array Edge} {dst : Option Tmp} {g : Option (Nat × Bool)} {d : Nat}

theorem St.back {m m' : View} {h : List Res} {w : World} (s : St m' h w) (hm : m.le m') : St m h w := s.weaken hm (List.Sublist.refl _)

/-- A call whose result does not speak of the view. -/
theorem WL.callK {f : Operand} {args : List Operand} {tys : Array TypeId} {vs first cap : List Value} {q : FuncId} {R : Value → List Res → Prop} (ef : Ev n F f (.func (.func q) first.toArray cap.toArray)) (ea : Evs n F args vs)
    (c : CT P q (first ++ vs ++ cap) h m (fun v _ h' => R v h')) (hd : d < n.num) (k : ∀ v h', R v h' → WL P ops Q n rest ((d, v) :: F) h' m) :
    WL P ops Q n (⟨some d, .call ⟨.value f, args.toArray, tys⟩, ty, pos, after, none⟩ :: rest) F h m := .mk fun a w ha hs => by
  refine wpList_of_wp rfl ?_
  unfold Oper.wp
  rw [run_call ha ef ea c.enter]
  refine Calls.mono (c.calls w hs) ?_
  rintro e w' ⟨v, m', h', rfl, hle, hst, hR⟩
  exact k v h' hR _ _ (ha.put hd v) (hst.back hle)
theorem WL.callP {f : Operand} {args : List Operand} {tys : Array TypeId} {vs first cap : List Value} {q : FuncId} {v : Value} (ef : Ev n F f (.func (.func q) first.toArray cap.toArray)) (ea : Evs n F args vs)
    (c : CT P q (first ++ vs ++ cap) h m (Pure1 h v)) (hd : d < n.num) (k : WL P ops Q n rest ((d, v) :: F) h m) :
    WL P ops Q n (⟨some d, .call ⟨.value f, args.toArray, tys⟩, ty, pos, after, none⟩ :: rest) F h m :=
  WL.callK (R := fun v' h' => v' = v ∧ h' = h) ef ea c hd fun _ _ hR => by obtain ⟨rfl, rfl⟩ := hR; exact k

/- guards -/
structure GU (ops : Array Oper) (n : Cx) (F : Fm) (g : Nat × Bool) (c : Bool) : Prop where
  e : ∀ a, Fr n F a → (yielded ops a.tmps g.1 == some g.2) = c
theorem yielded_undef {j t : Nat} {a : Act} (hj : gslot ops j = some t) (hc : a.tmps[t]? = some undef) : yielded ops a.tmps j = none := by
  unfold yielded
  unfold gslot at hj
  simp [hj, hc, undef]
theorem GU.t {j t : Nat} {c : Bool} (hj : gslot ops j = some t) (hc : look F t = some (.bool c)) : GU ops n F (j, true) c := ⟨fun a ha => by
  rw [yielded_of hj (ha.get t _ hc)]; cases c <;> rfl⟩
theorem GU.f {j t : Nat} {c : Bool} (hj : gslot ops j = some t) (hc : look F t = some (.bool c)) : GU ops n F (j, false) (!c) := ⟨fun a ha => by
  rw [yielded_of hj (ha.get t _ hc)]; cases c <;> rfl⟩
theorem GU.nt {j t : Nat} {c b : Bool} (hj : gslot ops j = some t) (hc : look F t = some (gv c (.bool b))) : GU ops n F (j, true) (c && b) := ⟨fun a ha => by
  have h1 := ha.get t _ hc
  cases c with
  | true => rw [yielded_of hj h1]; cases b <;> rfl
  | false => rw [yielded_undef hj h1]; rfl⟩
theorem GU.nf {j t : Nat} {c b : Bool} (hj : gslot ops j = some t) (hc : look F t = some (gv c (.bool b))) : GU ops n F (j, false) (c && !b) := ⟨fun a ha => by
  have h1 := ha.get t _ hc
  cases c with
  | true => rw [yielded_of hj h1]; cases b <;> rfl
  | false => rw [yielded_undef hj h1]; rfl⟩
theorem GU.wanted {op : Op} {gd : Nat × Bool} {c : Bool} (hg : GU ops n F gd c) {a : Act} (ha : Fr n F a) : Region.wanted ⟨dst, op, ty, pos, after, some gd⟩ (yielded ops a.tmps) = c := hg.e a ha

theorem WL.poG {op : Op} {gd : Nat × Bool} {c : Bool} {v : Value} (hg : GU ops n F gd c) (hp : c = true → PO P ⟨some d, op, ty, pos, after, some gd⟩ n F h m v) (hd : d < n.num) (k : WL P ops Q n rest ((d, gv c v) :: F) h m) :
    WL P ops Q n (⟨some d, op, ty, pos, after, some gd⟩ :: rest) F h m := .mk fun a w ha hs => by
  have hy := hg.wanted (dst := some d) (op := op) (ty := ty) (pos := pos) (after := after) ha
  cases c with
  | true => exact wpList_of_wp hy (wp_of_run (hp rfl a w ha hs) (k _ _ (ha.put hd v) hs))
  | false =>
    unfold wpList
    rw [if_neg (by rw [hy]; decide)]
    exact k _ _ (ha.put hd undef) hs
theorem WL.callG {f : Operand} {args : List Operand} {tys : Array TypeId} {vs first cap : List Value} {q : FuncId} {gd : Nat × Bool} {c : Bool} {v : Value} (hg : GU ops n F gd c)
    (hp : c = true → Ev n F f (.func (.func q) first.toArray cap.toArray) ∧ Evs n F args vs ∧ CT P q (first ++ vs ++ cap) h m (Pure1 h v)) (hd : d < n.num) (k : WL P ops Q n rest ((d, gv c v) :: F) h m) :
    WL P ops Q n (⟨some d, .call ⟨.value f, args.toArray, tys⟩, ty, pos, after, some gd⟩ :: rest) F h m := .mk fun a w ha hs => by
  have hy := hg.wanted (dst := some d) (op := .call ⟨.value f, args.toArray, tys⟩) (ty := ty) (pos := pos) (after := after) ha
  cases c with
  | true =>
    obtain ⟨ef, ea, ct⟩ := hp rfl
    refine wpList_of_wp hy ?_
    unfold Oper.wp
    rw [run_call ha ef ea ct.enter]
    refine Calls.mono (ct.calls w hs) ?_
    rintro e w' ⟨v', m', h', rfl, hle, hst, rfl, rfl⟩
    exact k _ _ (ha.put hd _) (hst.back hle)
  | false =>
    unfold wpList
    rw [if_neg (by rw [hy]; decide)]
    exact k _ _ (ha.put hd undef) hs
/-- A guard that is known to say yes. -/
theorem WL.unG {op : Op} {gd : Nat × Bool} {c : Bool} (hg : GU ops n F gd c) (hc : c = true) (k : WL P ops Q n (⟨dst, op, ty, pos, after, none⟩ :: rest) F h m) :
    WL P ops Q n (⟨dst, op, ty, pos, after, some gd⟩ :: rest) F h m := .mk fun a w ha hs => by
  subst hc
  have hy := hg.wanted (dst := dst) (op := op) (ty := ty) (pos := pos) (after := after) ha
  have := k a w ha hs
  unfold wpList at this ⊢
  rw [if_pos hy]
  rw [show Region.wanted (⟨dst, op, ty, pos, after, none⟩ : Oper) (yielded ops a.tmps) = true from rfl, if_pos rfl] at this
  exact this
/-- A guard that is known to say no. -/
theorem WL.skG {op : Op} {gd : Nat × Bool} {c : Bool} (hg : GU ops n F gd c) (hc : c = false) (hd : d < n.num) (k : WL P ops Q n rest ((d, undef) :: F) h m) :
    WL P ops Q n (⟨some d, op, ty, pos, after, some gd⟩ :: rest) F h m := .mk fun a w ha hs => by
  subst hc
  have hy := hg.wanted (dst := some d) (op := op) (ty := ty) (pos := pos) (after := after) ha
  unfold wpList
  rw [if_neg (by rw [hy]; decide)]
  exact k _ _ (ha.put hd undef) hs

theorem PO.pickAndN {t u : Nat} {c0 c b : Bool} (h0 : c0 = true) (e : look F t = some (gv c0 (.bool c))) (e1 : look F u = some (gv (c0 && c) (.bool b))) :
    PO P ⟨dst, .pick (.tmp t) (.tmp u) (.const (.bool false)), ty, pos, after, g⟩ n F h m (.bool (c && b)) := by
  subst h0
  exact PO.pickAnd e (by simpa using e1)
theorem PO.pickOrN {t u : Nat} {c0 c b : Bool} (h0 : c0 = true) (e : look F t = some (gv c0 (.bool c))) (e1 : look F u = some (gv (c0 && !c) (.bool b))) :
    PO P ⟨dst, .pick (.tmp t) (.const (.bool true)) (.tmp u), ty, pos, after, g⟩ n F h m (.bool (c || b)) := by
  subst h0
  exact PO.pickOr e (by simpa using e1)
theorem PO.nilCheck {x : Operand} {a : Addr} (e : Ev n F x (.pointer (some a))) : PO P ⟨dst, .nilCheck x, ty, pos, after, g⟩ n F h m (.pointer (some a)) := .mk fun b w hb _ => by
  simp [execOp, e b hb]
theorem PO.min {x y : Operand} {i j : Int} {t : TypeId} (ex : Ev n F x (.int .i64 i)) (ey : Ev n F y (.int .i64 j)) :
    PO P ⟨dst, .call ⟨.builtin .min, #[x, y], #[t, t]⟩, ty, pos, after, g⟩ n F h m (.int .i64 (if j < i then j else i)) := .mk fun b w ha _ => by
  simp [execOp, resolve, invoke, builtin, ex b ha, ey b ha, run_min_int2]

/- the same in a region whose order is drawn -/
section
variable {eff : List Nat} {t : Tl} {hs hp : List Res} {i : Nat} {s : Tr} {op : Op} {v : Value}
theorem SR.poG {gd : Nat × Bool} {c : Bool} (ho : ops[i]? = some ⟨some d, op, ty, pos, after, some gd⟩) (he : eff.contains i = false) (hg : GU ops n F gd c)
    (p : c = true → PO P ⟨some d, op, ty, pos, after, some gd⟩ n F hs m v) (hd : d < n.num) (k : SR P ops Q n eff t hs s ((d, gv c v) :: F) hp m) :
    SR P ops Q n eff t hs (.op i s) F hp m := ⟨_, ho, fun x hx => by cases hx; exact hd, by
  rw [he]
  refine ⟨gv c v, ⟨fun a w ha st => ?_⟩, k.e⟩
  have hy := hg.wanted (dst := some d) (op := op) (ty := ty) (pos := pos) (after := after) ha
  cases c with
  | true => exact ⟨fun _ => p rfl a w ha st, fun h => by rw [hy] at h; cases h⟩
  | false => exact ⟨fun h => (by rw [hy] at h; cases h), fun _ => rfl⟩⟩
theorem SR.poU {gd : Nat × Bool} {c : Bool} (ho : ops[i]? = some ⟨some d, op, ty, pos, after, some gd⟩) (he : eff.contains i = false) (hg : GU ops n F gd c) (hc : c = true)
    (p : PO P ⟨some d, op, ty, pos, after, some gd⟩ n F hs m v) (hd : d < n.num) (k : SR P ops Q n eff t hs s ((d, v) :: F) hp m) :
    SR P ops Q n eff t hs (.op i s) F hp m := by subst hc; exact SR.poG ho he hg (fun _ => p) hd k
theorem St.backF {fr : List Res} {m' : View} {w : World} (s : St m' (fr ++ (hp ++ hs)) w) (hm : m.le m') : St m (fr ++ (hp ++ hs)) w := s.back hm
theorem Upd.right {l h h' : List Res} {r r' : Res} (u : Upd h r r' h') : Upd (l ++ h) r r' (l ++ h') := by
  induction l with
  | nil => exact u
  | cons x l ih => exact .next ih
theorem Upd.left {l h h' : List Res} {r r' : Res} (u : Upd h r r' h') : Upd (h ++ l) r r' (h' ++ l) := by
  induction u with
  | here => exact .here
  | next _ ih => exact .next ih
theorem SR.store {x y : Operand} {tt : TypeId} {b off : Nat} {cs cs' vs : List Value} {e : TypeId} {v : Value} {hp' : List Res} (ho : ops[i]? = some ⟨none, .store tt x y, ty, pos, after, none⟩) (he : eff.contains i = true)
    (hq : (P.info? tt).map (·.size) = some vs.length) (ex : Ev n F x (.pointer (some ⟨b, off, none⟩))) (ey : Ev n F y v)
    (hvs : cellsO v = some vs) (h1 : vs.all (·.oneCell') = true) (h0 : vs.isEmpty = false) (hc : setLs cs off vs = some cs')
    (u : Upd hp (.pt b (.cells cs.toArray e (0, 0))) (.pt b (.cells cs'.toArray e (0, 0))) hp') (k : SR P ops Q n eff t hs s F hp' m) : SR P ops Q n eff t hs (.op i s) F hp m := ⟨_, ho, fun x hx => (by cases hx), by
  rw [he]
  refine ⟨fun fr a w ha st => ⟨fun _ => ?_, fun h => by simp [Region.wanted] at h⟩⟩
  have hne : vs ≠ [] := by cases vs <;> simp_all
  have e1 := setLs_eq hc
  subst e1
  have h1 : ∀ u ∈ vs, u.oneCell' = true := by simpa using h1
  have hvs := cellsO_spec hvs
  subst hvs
  have uu : Upd (fr ++ (hp ++ hs)) _ _ (fr ++ (hp' ++ hs)) := (u.left).right
  have hb : w.heap[b]? = some (.cells cs.toArray e (0, 0)) := st.ok _ uu.mem
  have hr := run_storeCells_at P b off e v.cells.toList 0 cs.toArray w hb (by have := setLs_len hc hne; simpa using this) h1
  have hrun : (execOp a.eval ⟨none, .store tt x y, ty, pos, after, none⟩).run P w = .ok .skip (w.setRow b (cs.take off ++ v.cells.toList ++ cs.drop (off + v.cells.toList.length)).toArray) := by
    cases hi : P.info? tt with
    | none => simp [hi] at hq
    | some i =>
      have e1 : i.size = v.cells.size := by simpa [hi] using hq
      have hr' := hr
      simp only [Nat.add_zero] at hr'
      simp [execOp, ex a ha, ey a ha, Instr.storeAt, Instr.sureAddr, storeVar, sizeOf, typeInfo, hi, e1] at hr' ⊢
      rw [hr']; rfl
  rw [hrun]
  exact ⟨m, hp', View.le.refl m, st.setRow uu, nofun, k.e⟩⟩
theorem WL.take {l : List Oper} {r : Res} (dl : Del h r h') (k : WL P ops Q n l F (r :: h') m) : WL P ops Q n l F h m := .mk fun a w ha hs => k a w ha (hs.perm dl.perm)
theorem WC.take {c : Code} {r : Res} (dl : Del h r h') (k : WC P c Q n F (r :: h') m) : WC P c Q n F h m := .mk fun a w ha hs => k a w ha (hs.perm dl.perm)
theorem SR.callP {f : Operand} {args : List Operand} {tys : Array TypeId} {vs first cap : List Value} {q : FuncId} {v : Value} (ho : ops[i]? = some ⟨some d, .call ⟨.value f, args.toArray, tys⟩, ty, pos, after, none⟩)
    (he : eff.contains i = true) (ef : Ev n F f (.func (.func q) first.toArray cap.toArray)) (ea : Evs n F args vs) (c : ∀ fr, CT P q (first ++ vs ++ cap) (fr ++ (hp ++ hs)) m (Pure1 (fr ++ (hp ++ hs)) v)) (hd : d < n.num)
    (k : SR P ops Q n eff t hs s ((d, v) :: F) hp m) : SR P ops Q n eff t hs (.op i s) F hp m := ⟨_, ho, fun x hx => by cases hx; exact hd, by
  rw [he]
  refine ⟨fun fr a w ha st => ⟨fun _ => ?_, fun h => by simp [Region.wanted] at h⟩⟩
  rw [run_call ha ef ea (c fr).enter]
  refine Calls.mono ((c fr).calls w st) ?_
  rintro e w' ⟨v, m', h', rfl, hle, hst, rfl, rfl⟩
  exact .inl ⟨_, rfl, m, hp, View.le.refl m, hst.back hle, nofun, k.e⟩⟩
theorem SR.callG {f : Operand} {args : List Operand} {tys : Array TypeId} {vs first cap : List Value} {q : FuncId} {gd : Nat × Bool} {c : Bool} {v : Value} (ho : ops[i]? = some ⟨some d, .call ⟨.value f, args.toArray, tys⟩, ty, pos, after, some gd⟩)
    (he : eff.contains i = true) (hg : GU ops n F gd c)
    (p : c = true → Ev n F f (.func (.func q) first.toArray cap.toArray) ∧ Evs n F args vs ∧ ∀ fr, CT P q (first ++ vs ++ cap) (fr ++ (hp ++ hs)) m (Pure1 (fr ++ (hp ++ hs)) v)) (hd : d < n.num)
    (k : SR P ops Q n eff t hs s ((d, gv c v) :: F) hp m) : SR P ops Q n eff t hs (.op i s) F hp m := ⟨_, ho, fun x hx => by cases hx; exact hd, by
  rw [he]
  refine ⟨fun fr a w ha st => ?_⟩
  have hy := hg.wanted (dst := some d) (op := .call ⟨.value f, args.toArray, tys⟩) (ty := ty) (pos := pos) (after := after) ha
  cases c with
  | true =>
    refine ⟨fun _ => ?_, fun h => by rw [hy] at h; cases h⟩
    obtain ⟨ef, ea, ct⟩ := p rfl
    rw [run_call ha ef ea (ct fr).enter]
    refine Calls.mono ((ct fr).calls w st) ?_
    rintro e w' ⟨v', m', h', rfl, hle, hst, rfl, rfl⟩
    exact .inl ⟨_, rfl, m, hp, View.le.refl m, hst.back hle, nofun, k.e⟩
  | false => exact ⟨fun h => (by rw [hy] at h; cases h), fun _ => ⟨nofun, k.e⟩⟩⟩
end

/- structs compared -/
def eqC (d : TypeDesc) : Value → Value → Option Bool
  | .bool a, .bool b => match d with
    | .bool => some (a == b)
    | _ => none
  | .int k a, .int k' b => match d with
    | .int _ => if k = k' then some (a == b) else none
    | _ => none
  | .string ⟨⟨a⟩⟩, .string ⟨⟨b⟩⟩ => match d with
    | .string => some (a == b)
    | _ => none
  | _, _ => none
def eqFs (P : Program) (xs ys : List Value) : List Field → Option Bool
  | [] => some true
  | f :: fs => match P.underlying f.type with
    | some d => match plainD d with
      | true => match xs[f.offset]? with
        | some a => match ys[f.offset]? with
          | some b => match eqC d a b with
            | some r => match eqFs P xs ys fs with
              | some q => match (f.name != "_") with
                | true => some (r && q)
                | false => none
              | none => none
            | none => none
          | none => none
        | none => none
      | false => none
    | none => none

theorem run_eqC (w : World) {d : Nat} {t : TypeId} {ds : TypeDesc} (ht : P.underlying t = some ds) {a b : Value} {r : Bool} (he : eqC ds a b = some r) : (Op.equalIn (d + 1) t a b).run P w = .ok r w := by
  unfold eqC at he
  split at he
  · split at he
    · cases he; exact run_equalIn_bool' w d t _ _ ht
    · cases he
  · split at he
    · split at he
      · rename_i hk; subst hk; cases he; exact run_equalIn_int w d t _ _ _ _ ht
      · cases he
    · cases he
  · split at he
    · cases he
      rename_i a b _
      rw [run_equalIn_string w d t _ _ ht, ByteArray.toList_eq, ByteArray.toList_eq]
    · cases he
  · cases he
theorem run_eqFs (w : World) (d : Nat) (xs ys : List Value) : ∀ {fs : List Field} {r : Bool}, eqFs P xs ys fs = some r → (Op.eqFields (d + 1) xs.toArray ys.toArray fs).run P w = .ok r w
  | [], r, he => by cases he; simp [Op.eqFields]
  | f :: fs, r, he => by
    unfold eqFs at he
    cases h1 : P.underlying f.type with
    | none => simp [h1] at he
    | some ds =>
      simp only [h1] at he
      cases h2 : plainD ds with
      | false => simp [h2] at he
      | true =>
        simp only [h2] at he
        cases h3 : xs[f.offset]? with
        | none => simp [h3] at he
        | some a =>
          simp only [h3] at he
          cases h4 : ys[f.offset]? with
          | none => simp [h4] at he
          | some b =>
            simp only [h4] at he
            cases h5 : eqC ds a b with
            | none => simp [h5] at he
            | some c =>
              simp only [h5] at he
              cases h6 : eqFs P xs ys fs with
              | none => simp [h6] at he
              | some q =>
                simp only [h6] at he
                cases h7 : (f.name != "_") with
                | false => simp [h7] at he
                | true =>
                  simp only [h7, Option.some.injEq] at he
                  subst he
                  have h8 : f.name ≠ "_" := by simpa using h7
                  have ih := run_eqFs w d xs ys h6
                  have e5 := run_eqC (P := P) w (d := d) h1 h5
                  simp only [Op.eqFields, if_pos h8, Sem.run_bind]
                  have ea : (part f.type xs.toArray f.offset).run P w = .ok a w := by simp [part, run_isAgg_plain w h1 h2, h3]
                  have eb : (part f.type ys.toArray f.offset).run P w = .ok b w := by simp [part, run_isAgg_plain w h1 h2, h4]
                  rw [ea, Result.andThen_ok, eb, Result.andThen_ok, e5, Result.andThen_ok]
                  cases c
                  · simp
                  · simpa using ih

theorem PO.eqlA {x y : Operand} {t t' : TypeId} {fs : Array Field} {as bs : List Value} {r : Bool} (ht : P.underlying t = some (.struct fs)) (hs : P.stoodInHeld t = false) (hm : P.eqGuardType P.depth t = false) (ex : Ev n F x (.agg as.toArray)) (ey : Ev n F y (.agg bs.toArray))
    (hr : eqFs P as bs fs.toList = some r) : PO P ⟨dst, .binOp .eql t x y t', ty, pos, after, g⟩ n F h m (.bool r) := .mk fun a w ha _ => by
  have hf : P.fieldsOf t = fs := by simp [Program.fieldsOf, ht]
  have e1 := run_equalIn_struct (P := P) w 9999 t as.toArray bs.toArray (by rw [hf]; exact ht) hs
  rw [hf, run_eqFs w 9998 as bs hr] at e1
  simp [execOp, ex a ha, ey a ha, run_eqGuard_agg w _ t _ _ _ _ hm, run_eql_struct, e1]
theorem PO.neqA {x y : Operand} {t t' : TypeId} {fs : Array Field} {as bs : List Value} {r : Bool} (ht : P.underlying t = some (.struct fs)) (hs : P.stoodInHeld t = false) (hm : P.eqGuardType P.depth t = false) (ex : Ev n F x (.agg as.toArray)) (ey : Ev n F y (.agg bs.toArray))
    (hr : eqFs P as bs fs.toList = some r) : PO P ⟨dst, .binOp .neq t x y t', ty, pos, after, g⟩ n F h m (.bool (!r)) := .mk fun a w ha _ => by
  have hf : P.fieldsOf t = fs := by simp [Program.fieldsOf, ht]
  have e1 := run_equalIn_struct (P := P) w 9999 t as.toArray bs.toArray (by rw [hf]; exact ht) hs
  rw [hf, run_eqFs w 9998 as bs hr] at e1
  simp [execOp, ex a ha, ey a ha, run_eqGuard_agg w _ t _ _ _ _ hm, run_neq_struct, e1]

/- lists as cells -/
def fl {α : Type} (enc : α → List Value) (l : List α) : List Value := l.flatMap enc
section
variable {α : Type} {enc : α → List Value} {sz : Nat}
theorem fl_app (l r : List α) : fl enc (l ++ r) = fl enc l ++ fl enc r := by simp [fl]
theorem fl_one (x : α) : fl enc [x] = enc x := by simp [fl]
theorem fl_snoc (l : List α) (x : α) : fl enc l ++ enc x = fl enc (l ++ [x]) := by simp [fl]
theorem fl_len (henc : ∀ x, (enc x).length = sz) (l : List α) : (fl enc l).length = l.length * sz := by
  induction l with
  | nil => simp [fl]
  | cons x l ih => simp only [fl, List.flatMap_cons, List.length_append, henc, List.length_cons, Nat.add_mul] at ih ⊢; omega
theorem fl_drop (henc : ∀ x, (enc x).length = sz) (l : List α) (k : Nat) : (fl enc l).drop (k * sz) = fl enc (l.drop k) := by
  induction l generalizing k with
  | nil => simp [fl]
  | cons x l ih =>
    cases k with
    | zero => simp
    | succ k =>
      have := ih k
      simp only [fl, List.flatMap_cons, List.drop_succ_cons] at this ⊢
      rw [List.drop_append, henc, List.drop_eq_nil_of_le (by rw [henc, Nat.add_mul]; omega), List.nil_append, show (k + 1) * sz - sz = k * sz by rw [Nat.add_mul]; omega, this]
theorem fl_take (henc : ∀ x, (enc x).length = sz) (l : List α) (k : Nat) : (fl enc l).take (k * sz) = fl enc (l.take k) := by
  induction l generalizing k with
  | nil => simp [fl]
  | cons x l ih =>
    cases k with
    | zero => simp [fl]
    | succ k =>
      have := ih k
      simp only [fl, List.flatMap_cons, List.take_succ_cons] at this ⊢
      rw [List.take_append, henc, List.take_of_length_le (by rw [henc, Nat.add_mul]; omega), show (k + 1) * sz - sz = k * sz by rw [Nat.add_mul]; omega, this]
theorem fl_at (henc : ∀ x, (enc x).length = sz) {l : List α} {q : Nat} {x : α} (hx : l[q]? = some x) : ∀ j v, (enc x)[j]? = some v → (fl enc l)[q * sz + j]? = some v := by
  intro j v hj
  have h1 : j < sz := by have := (List.getElem?_eq_some_iff.1 hj).1; rwa [henc] at this
  have := flat_get (sz := sz) enc henc l q j h1
  rw [fl, this, hx]
  exact hj
theorem Rd.subF {a : Option Addr} {k cap : Nat} {l : List α} (henc : ∀ x, (enc x).length = sz) (s : Rd m h a k cap sz (fl enc l)) {i j : Nat} (h1 : i ≤ j) (h2 : j ≤ k) :
    Rd m h (sl1 a i cap sz) (j - i) (cap - i) sz (fl enc ((l.drop i).take (j - i))) := by
  have := s.sub h1 h2
  rwa [fl_drop henc, fl_take henc] at this
theorem Rd.takeF {a : Option Addr} {k cap : Nat} {l : List α} (henc : ∀ x, (enc x).length = sz) (s : Rd m h a k cap sz (fl enc l)) {j : Nat} (h2 : j ≤ k) :
    Rd m h (sl1 a 0 cap sz) j cap sz (fl enc (l.take j)) := by
  have := s.subF henc (Nat.zero_le j) h2
  simpa using this
theorem Rd.lenF {a : Option Addr} {k cap : Nat} {l : List α} (henc : ∀ x, (enc x).length = sz) (h0 : 0 < sz) (s : Rd m h a k cap sz (fl enc l)) : l.length = k := by
  have := s.len
  rw [fl_len henc] at this
  exact Nat.eq_of_mul_eq_mul_right h0 this
theorem Rd.dropF {a : Option Addr} {k cap : Nat} {l : List α} (henc : ∀ x, (enc x).length = sz) (h0 : 0 < sz) (s : Rd m h a k cap sz (fl enc l)) {i : Nat} (h1 : i ≤ k) :
    Rd m h (sl1 a i cap sz) (k - i) (cap - i) sz (fl enc (l.drop i)) := by
  have := s.subF henc h1 (Nat.le_refl k)
  rwa [List.take_of_length_le (by have := s.lenF henc h0; simp; omega)] at this
theorem Sl.subF {a : Option Addr} {k cap : Nat} {l : List α} (henc : ∀ x, (enc x).length = sz) (s : Sl m a k cap sz (fl enc l)) {i j : Nat} (h1 : i ≤ j) (h2 : j ≤ k) :
    Sl m (sl1 a i cap sz) (j - i) (cap - i) sz (fl enc ((l.drop i).take (j - i))) := by
  have := s.sub h1 h2
  rwa [fl_drop henc, fl_take henc] at this
end
theorem Rd.nilF {α : Type} (enc : α → List Value) (sz : Nat) (m : View) (h : List Res) : Rd m h none 0 0 sz (fl enc []) := ⟨by simp [fl], Nat.le_refl _, by omega, fun _ _ j u hj => by simp [fl] at hj⟩
theorem get_some {α : Type} {l : List α} {k : Nat} (hk : k < l.length) : ∃ x, l[k]? = some x := ⟨l[k], List.getElem?_eq_getElem hk⟩
theorem take_snoc {α : Type} {l : List α} {k : Nat} {x : α} (hx : l[k]? = some x) : l.take (k + 1) = l.take k ++ [x] := by
  rw [List.take_add_one, hx]; rfl

theorem Rd.inRow {a : Option Addr} {k cap sz : Nat} {e : TypeId} {ys : List Value} (hm : Res.row (.slice a k cap) e sz k ys ∈ h) (hl : ys.length = k * sz) (hle : k ≤ cap) (hmx : cap ≤ 9223372036854775807) : Rd m h a k cap sz ys := Rd.ofRow hl hle hmx hm
/- an element of a list, loaded -/
theorem PO.loadB {x : Operand} {t : TypeId} {u : TypeDesc} {a : Option Addr} {len cap q : Nat} {bs : List UInt8} {b : UInt8} (ht : P.underlying t = some u) (hp : plainD u = true) (hs : Rd m h a len cap 1 (bv bs))
    (ex : Ev n F x (.pointer (elt a (q * 1)))) (hx : bs[q]? = some b) : PO P ⟨dst, .load t x, ty, pos, after, g⟩ n F h m (.int .u8 b.toNat) :=
  PO.loadE ht hp hs ex (by rw [Nat.mul_one]; exact bv_get hx)
theorem PO.loadF1 {α : Type} {enc : α → List Value} {x : Operand} {t : TypeId} {u : TypeDesc} {a : Option Addr} {len cap q : Nat} {l : List α} {y : α} {v : Value} (ht : P.underlying t = some u) (hp : plainD u = true) (henc : ∀ x, (enc x).length = 1) (hs : Rd m h a len cap 1 (fl enc l))
    (ex : Ev n F x (.pointer (elt a (q * 1)))) (hx : l[q]? = some y) (hv : enc y = [v]) : PO P ⟨dst, .load t x, ty, pos, after, g⟩ n F h m v :=
  PO.loadE ht hp hs ex (by have := fl_at henc hx 0 v (by rw [hv]; rfl); simpa using this)
theorem PO.loadFA {α : Type} {enc : α → List Value} {x : Operand} {t : TypeId} {u : TypeDesc} {a : Option Addr} {len cap q sz : Nat} {l : List α} {y : α} {vs : List Value} (ht : P.underlying t = some u) (hp : plainD u = false) (hq : (P.info? t).isSome = true) (henc : ∀ x, (enc x).length = sz)
    (hs : Rd m h a len cap sz (fl enc l)) (ex : Ev n F x (.pointer (elt a (q * sz)))) (hx : l[q]? = some y) (hv : enc y = vs) (hl : P.cellsOf t = vs.length) (h0 : 0 < vs.length) : PO P ⟨dst, .load t x, ty, pos, after, g⟩ n F h m (.agg vs.toArray) :=
  PO.loadEA ht hp hq hs ex hl h0 (fun j v hj => fl_at henc hx j v (by rw [hv]; exact hj))
theorem PO.loadFf {α : Type} {enc : α → List Value} {x : Operand} {t : TypeId} {u : TypeDesc} {a : Option Addr} {len cap q sz o : Nat} {l : List α} {y : α} {v : Value} (ht : P.underlying t = some u) (hp : plainD u = true) (henc : ∀ x, (enc x).length = sz) (hs : Rd m h a len cap sz (fl enc l))
    (ex : Ev n F x (.pointer (elt a (q * sz + o)))) (hx : l[q]? = some y) (hv : (enc y)[o]? = some v) : PO P ⟨dst, .load t x, ty, pos, after, g⟩ n F h m v :=
  PO.loadE ht hp hs ex (fl_at henc hx o v hv)
theorem one_of {ys : List Value} (h : ys.all (·.oneCell') = true) : ∀ u ∈ ys, u.oneCell' = true := by simpa using h
theorem fl_ones {α : Type} {enc : α → List Value} (h : ∀ x, (enc x).all (·.oneCell') = true) (l : List α) : ∀ u ∈ fl enc l, u.oneCell' = true := by
  intro u hu
  simp only [fl, List.mem_flatMap] at hu
  obtain ⟨x, _, hx⟩ := hu
  exact one_of (h x) u hx

/- lists compared -/
def eqL {α : Type} (e : α → α → Bool) : List α → List α → Bool
  | [], [] => true
  | x :: xs, y :: ys => e x y && eqL e xs ys
  | _, _ => false
theorem eqL_len {α : Type} (e : α → α → Bool) : ∀ (xs ys : List α), xs.length ≠ ys.length → eqL e xs ys = false
  | [], [], h => absurd rfl h
  | [], _ :: _, _ => rfl
  | _ :: _, [], _ => rfl
  | x :: xs, y :: ys, h => by rw [eqL, eqL_len e xs ys (by simpa using h), Bool.and_false]
theorem eqL_drop {α : Type} (e : α → α → Bool) {xs ys : List α} {k : Nat} {x y : α} (hx : xs[k]? = some x) (hy : ys[k]? = some y) : eqL e (xs.drop k) (ys.drop k) = (e x y && eqL e (xs.drop (k + 1)) (ys.drop (k + 1))) := by
  obtain ⟨h1, rfl⟩ := List.getElem?_eq_some_iff.1 hx
  obtain ⟨h2, rfl⟩ := List.getElem?_eq_some_iff.1 hy
  rw [List.drop_eq_getElem_cons h1, List.drop_eq_getElem_cons h2, eqL]
theorem eqL_iff {α : Type} {e : α → α → Bool} (he : ∀ x y, e x y = true ↔ x = y) : ∀ {xs ys : List α}, eqL e xs ys = true ↔ xs = ys
  | [], [] => by simp [eqL]
  | [], _ :: _ => by simp [eqL]
  | _ :: _, [] => by simp [eqL]
  | x :: xs, y :: ys => by simp [eqL, he, eqL_iff he]
theorem eqL_self {α : Type} {e : α → α → Bool} (he : ∀ x y, e x y = true ↔ x = y) (xs : List α) : eqL e xs xs = true := (eqL_iff he).2 rfl
/-- A slice of the call's own, over everything that was owned before. -/
def OwnF {α : Type} (enc : α → List Value) (e sz : Nat) (h : List Res) (xs : List α) : Value → List Res → Prop := fun v h' => ∃ a c k, k = xs.length ∧ v = .slice a k c ∧ h' = .row (.slice a k c) e sz k (fl enc xs) :: h

/- an element of an array in memory -/
theorem PO.idxA {x i : Operand} {t e len : Nat} {b off sz q : Nat} {k : IntKind} {j : Int} (ht : P.underlying t = some (.array len e)) (hsz : (P.info? e).map (·.size) = some sz)
    (ex : Ev n F x (.pointer (some ⟨b, off, none⟩))) (ei : Ev n F i (.int k j)) (hj : j = (q : Int)) (hq : q < len) :
    PO P ⟨dst, .indexAddr t x i, ty, pos, after, g⟩ n F h m (.pointer (some ⟨b, off + q * sz, none⟩)) := .mk fun c w ha st => by
  subst hj
  cases hi : P.info? e with
  | none => simp [hi] at hsz
  | some i0 =>
    have e1 : i0.size = sz := by simpa [hi] using hsz
    have e2 : (q : Int) < len := by omega
    simp [execOp, ex c ha, ei c ha, Instr.indexAt, asIntOf, Instr.sureAddr, run_underlying ht, sizeOf, typeInfo, hi, e1, hq, Addr.add_lit]
theorem PO.buildArr {t e len sz : Nat} {ps : List (Nat × Operand)} {vs : List (Nat × Value)} {z : Value} {zs cs : List Value} (ht : P.underlying t = some (.array len e)) (hsz : (P.info? e).map (·.size) = some sz)
    (hz : (P.info? t).bind (·.zero) = some z) (hzs : cellsO z = some zs) (ev : EvP n F ps vs) (hf : fillO (fun i => some (i * sz, sz)) zs vs = some cs) : PO P ⟨dst, .build t ps.toArray, ty, pos, after, g⟩ n F h m (.agg cs.toArray) := .mk fun f w hf' _ => by
  have hfill := fill_of_fillO hf
  have em : (ps.toArray.map fun (i, x) => (i, f.eval x)) = vs.toArray := by
    rw [List.map_toArray]; exact congrArg List.toArray (ev.map hf')
  have hzc : z.cells = zs.toArray := by rw [← cellsO_spec hzs]
  simp only [execOp]
  rw [em]
  have hrun : (Instr.build t vs.toArray).run P w = .ok (.agg cs.toArray) w := by
    cases hi : P.info? t with
    | none => simp [hi] at hz
    | some i =>
      cases hi2 : P.info? e with
      | none => simp [hi2] at hsz
      | some i2 =>
        have hz' : i.zero = some z := by simpa [hi] using hz
        have hs' : i2.size = sz := by simpa [hi2] using hsz
        simp only [Instr.build, zeroValue, sizeOf, typeInfo, Sem.run_bind, run_program, Result.andThen_ok, hi, hi2, Sem.run_pure, hz', run_underlying ht, hs', hzc]
        simp only [hfill]
        rfl
  simp [hrun]
/-- The whole of an array as a slice. -/
theorem PO.sliceArr {x : Operand} {t e len : Nat} {b sz : Nat} (ht : P.underlying t = some (.array len e)) (hsz : (P.info? e).map (·.size) = some sz) (h0 : 0 < len)
    (ex : Ev n F x (.pointer (some ⟨b, 0, none⟩))) : PO P ⟨dst, .slice t x none none none, ty, pos, after, g⟩ n F h m (.slice (some ⟨b, 0, none⟩) len len) := .mk fun c w ha st => by
  cases hi : P.info? e with
  | none => simp [hi] at hsz
  | some i0 =>
    have h1 : len ≠ 0 := by omega
    simp [execOp, ex c ha, Instr.sliceAt, Instr.sureAddr, run_underlying ht, Instr.sliceBounds, sizeOf, typeInfo, hi, Addr.add_lit]
/-- A store of one cell at any place of a block. -/
theorem WL.storeC {x y : Operand} {t : TypeId} {b off : Nat} {cs : List Value} {e : TypeId} {v : Value} (hq : (P.info? t).map (·.size) = some 1) (ex : Ev n F x (.pointer (some ⟨b, off, none⟩))) (ey : Ev n F y v)
    (hvs : cellsO v = some [v]) (h1 : v.oneCell' = true) (hl : off < cs.length)
    (u : Upd h (.pt b (.cells cs.toArray e (0, 0))) (.pt b (.cells (cs.set off v).toArray e (0, 0))) h') (k : WL P ops Q n rest F h' m) :
    WL P ops Q n (⟨none, .store t x y, ty, pos, after, none⟩ :: rest) F h m := by
  refine WL.storeW (vs := [v]) (cs := cs) (e := e) hq ex ey (cellsO_spec hvs) (by simpa using h1) hl ?_ k
  have : cs.take off ++ [v] ++ cs.drop (off + [v].length) = cs.set off v := by
    rw [List.set_eq_take_append_cons_drop, if_pos hl]; simp
  rw [this]
  exact u

/-- The cells of a block are what they are said to be. -/
theorem WL.ptE {l : List Oper} {b : Nat} {cs cs' : List Value} {e : TypeId} {fz : Nat × Nat} (he : cs = cs') (u : Upd h (.pt b (.cells cs.toArray e fz)) (.pt b (.cells cs'.toArray e fz)) h') (k : WL P ops Q n l F h' m) : WL P ops Q n l F h m :=
  WL.conv u rfl (fun w hw => by subst he; exact hw) k
theorem WL.rowE {l : List Oper} {v v' : Value} {e : TypeId} {sz k k' : Nat} {xs xs' : List Value} (hv : v = v') (hk : k = k') (he : xs = xs') (u : Upd h (.row v e sz k xs) (.row v' e sz k' xs') h') (kk : WL P ops Q n l F h' m) : WL P ops Q n l F h m :=
  WL.conv u (by subst hv; rfl) (fun w hw => by subst hv hk he; exact hw) kk
theorem WC.rowE {c : Code} {v v' : Value} {e : TypeId} {sz k k' : Nat} {xs xs' : List Value} (hv : v = v') (hk : k = k') (he : xs = xs') (u : Upd h (.row v e sz k xs) (.row v' e sz k' xs') h') (kk : WC P c Q n F h' m) : WC P c Q n F h m :=
  .mk fun a w ha hs => kk a w ha (hs.conv u (by subst hv; rfl) (fun hw => by subst hv hk he; exact hw))

/-- append; what the slice holds then is said in one's own words. -/
theorem WL.appendE {x y : Operand} {t e : TypeId} {sz by_ l cap k c l' : Nat} {a b : Option Addr} {xs ys zs : List Value} {hq : Value → List Res} (E : EL P t e sz by_) (ex : Ev n F x (.slice a l cap)) (ey : Ev n F y (.slice b k c))
    (rd : Rd m h b k c sz ys) (h1 : ∀ u ∈ ys, u.oneCell' = true) (hl : l + k = l') (hz : xs ++ ys = zs) (h63 : l' ≤ 9223372036854775807) (hbytes : l' * by_ ≤ 140737488355328)
    (u : ∀ v', Upd h (.row (.slice a l cap) e sz l xs) (.row v' e sz l' zs) (hq v')) (hd : d < n.num) (kk : ∀ a' cap', WL P ops Q n rest ((d, .slice a' l' cap') :: F) (hq (.slice a' l' cap')) m) :
    WL P ops Q n (⟨some d, .call ⟨.builtin .append, #[x, y], #[t, t]⟩, ty, pos, after, none⟩ :: rest) F h m := by
  subst hl hz
  exact WL.append E ex ey rd h1 h63 hbytes u hd kk

/- values said in one's own words -/
theorem WL.val {l : List Oper} {d : Nat} {v v' : Value} (e : v = v') (k : WL P ops Q n l ((d, v') :: F) h m) : WL P ops Q n l ((d, v) :: F) h m := e ▸ k

/- a loop; the slots of `inv` hold at every round's head what they hold at its start -/
theorem Sub.app {F A B : Fm} (ha : Sub F A) (hb : Sub F B) : Sub F (A ++ B) := by
  induction ha with
  | nil => exact hb
  | cons h _ ih => exact .cons h ih
theorem Sub.ofKeep {F : Fm} : ∀ {ts : List Nat} {F' : Fm}, keep F ts = some F' → Sub F F'
  | [], F', h => by simp only [keep, Option.some.injEq] at h; subst h; exact .nil
  | s :: ts, F', h => by
    simp only [keep] at h
    cases h2 : keep F ts with
    | none => simp [h2] at h
    | some r =>
      cases h1 : Eng.look F s with
      | none => simp only [h1, h2, Option.some.injEq] at h; subst h; exact Sub.ofKeep h2
      | some u => simp only [h1, h2, Option.some.injEq] at h; subst h; exact .cons h1 (Sub.ofKeep h2)
def appF : Fm → Fm → Option Fm
  | [], r => some r
  | x :: l, r => match appF l r with
    | some t => some (x :: t)
    | none => none
theorem appF_eq : ∀ {l r t : Fm}, appF l r = some t → l ++ r = t
  | [], r, t, h => by simp only [appF, Option.some.injEq] at h; exact h
  | x :: l, r, t, h => by
    simp only [appF] at h
    cases h1 : appF l r with
    | none => simp [h1] at h
    | some q => simp only [h1, Option.some.injEq] at h; subst h; simp [appF_eq h1]
theorem WC.frm {c : Code} {A B G : Fm} (hG : appF A B = some G) (k : WC P c Q n G h m) : WC P c Q n (A ++ B) h m := appF_eq hG ▸ k
theorem WC.loopI {c : Code} (inv : List Nat) {Fi : Fm} (hk : keep F inv = some Fi) (J : Nat → Fm → List Res → Prop) (μ : Nat) (F0 : Fm) (hsub : Sub F F0) {h0 : List Res} (hh : h0.Sublist h) (hJ : J μ F0 h0)
    (round : ∀ μ F' h', J μ F' h' → WC P c (Exit.then (fun a w => ∃ μ' F'' h'', μ' < μ ∧ J μ' F'' h'' ∧ Fr n (F'' ++ Fi) a ∧ St m h'' w) Q) n (F' ++ Fi) h' m) :
    WC P (.loop c) Q n F h m := by
  refine WC.drop hh (WC.loop (fun μ G h' m' => ∃ F', G = F' ++ Fi ∧ J μ F' h' ∧ m' = m) μ (F0 ++ Fi) (hsub.app (Sub.ofKeep hk)) ⟨F0, rfl, hJ, rfl⟩ ?_)
  rintro μ G h' m' ⟨F', rfl, hJ, rfl⟩
  refine .mk fun a w ha hs => wpIn_mono ((round μ F' h' hJ).e a w ha hs) fun e a' w' hq => ?_
  cases e with
  | normal =>
    obtain ⟨μ', F'', h'', hlt, hJ', hf, hst⟩ := hq
    exact ⟨μ', F'' ++ Fi, h'', m', hlt, ⟨F'', rfl, hJ', rfl⟩, hf, hst⟩
  | _ => exact hq
theorem loopBackI {J : Nat → Fm → List Res → Prop} {Fi : Fm} {μ : Nat} (μ' : Nat) (F'' : Fm) {h'' : List Res} (hlt : μ' < μ) (hs : Sub F F'') (hi : Sub F Fi) (hh : h''.Sublist h) (hJ : J μ' F'' h'') :
    ∀ a w, Fr n F a → St m h w → ∃ μ' F'' h'', μ' < μ ∧ J μ' F'' h'' ∧ Fr n (F'' ++ Fi) a ∧ St m h'' w :=
  fun _ _ ha st => ⟨μ', F'', h'', hlt, hJ, ha.sub (hs.app hi).look, st.sub hh⟩
theorem Sub.consE {F r : Fm} {t : Nat} {u v : Value} (hl : Eng.look F t = some u) (e : u = v) (k : Sub F r) : Sub F ((t, v) :: r) := .cons (e ▸ hl) k

/-- Two ways meet: J says what holds then. -/
theorem WC.cut {x y : Code} (J : Fm → List Res → Prop) (k1 : WC P x (Exit.then (fun a w => ∃ F' h', J F' h' ∧ Fr n F' a ∧ St m h' w) Q) n F h m)
    (k2 : ∀ F' h', J F' h' → WC P y Q n F' h' m) : WC P (.seq x y) Q n F h m := .mk fun a w ha hs => by
  refine wpIn_seq (wpIn_mono (k1.e a w ha hs) fun e a' w' hq => ?_)
  cases e with
  | normal =>
    obtain ⟨F', h', hJ, hf, hst⟩ := hq
    exact (k2 F' h' hJ).e a' w' hf hst
  | _ => exact hq
theorem meet {J : Fm → List Res → Prop} (F' : Fm) {h'' : List Res} (hs : Sub F F') (hh : h''.Sublist h) (hJ : J F' h'') :
    ∀ a w, Fr n F a → St m h w → ∃ F' h', J F' h' ∧ Fr n F' a ∧ St m h' w :=
  fun _ _ ha st => ⟨F', h'', hJ, ha.sub hs.look, st.sub hh⟩
/-- Two ways meet; the slots of `inv` hold what they held ahead of the parting. -/
theorem WC.cutK {x y : Code} {K : Act → World → Prop} (hK : ∀ ds F h m, WC P y Q { n with ds := ds } F h m → ∀ a w, Fr { n with ds := ds } F a → St m h w → K a w) (inv : List Nat) {Fi : Fm} (hk : keep F inv = some Fi) (J : Fm → List Res → Prop)
    (k1 : WC P x (Exit.then (fun a w => ∃ F' h', J F' h' ∧ Fr n (F' ++ Fi) a ∧ St m h' w) Q) n F h m)
    (k2 : ∀ F' h', J F' h' → WC P y Q n (F' ++ Fi) h' m) : WC P x (Exit.then K Q) n F h m := .mk fun a w ha hs => by
  have _ := hk
  refine wpIn_mono (k1.e a w ha hs) fun e a' w' hq => ?_
  cases e with
  | normal =>
    obtain ⟨F', h', hJ, hf, hst⟩ := hq
    exact hK n.ds _ _ _ (k2 F' h' hJ) a' w' hf hst
  | _ => exact hq
theorem meetI {J : Fm → List Res → Prop} {Fi : Fm} (F'' : Fm) {h'' : List Res} (hs : Sub F F'') (hi : Sub F Fi) (hh : h''.Sublist h) (hJ : J F'' h'') :
    ∀ a w, Fr n F a → St m h w → ∃ F' h', J F' h' ∧ Fr n (F' ++ Fi) a ∧ St m h' w :=
  fun _ _ ha st => ⟨F'', h'', hJ, ha.sub (hs.app hi).look, st.sub hh⟩
end
end Go.Eng

/- How a law's arguments lie in memory. -/
namespace Go.Eng
open Go Go.RowKit Go.ChangeShapes Go.WideShapes Go.ChangeAt Go.Joins

theorem mapM_some {α β : Type} {f : α → Option β} : ∀ {l : List α} {xs : List β}, l.mapM f = some xs → ∀ a ∈ l, ∃ y, f a = some y
  | [], _, _, a, ha => by cases ha
  | b :: l, xs, h, a, ha => by
    simp only [List.mapM_cons] at h
    cases h1 : f b with
    | none => simp [h1] at h
    | some y =>
      cases h2 : l.mapM f with
      | none => simp [h1, h2] at h
      | some ys =>
        rcases List.mem_cons.1 ha with rfl | ha
        · exact ⟨y, h1⟩
        · exact mapM_some h2 a ha
theorem mapM_get {α β : Type} {f : α → Option β} : ∀ {l : List α} {xs : List β}, l.mapM f = some xs → xs.length = l.length ∧ ∀ (i : Nat) (a : α), l[i]? = some a → ∃ y, xs[i]? = some y ∧ f a = some y
  | [], xs, h => by simp at h; subst h; simp
  | b :: l, xs, h => by
    simp only [List.mapM_cons] at h
    cases h1 : f b with
    | none => simp [h1] at h
    | some y =>
      cases h2 : l.mapM f with
      | none => simp [h1, h2] at h
      | some ys =>
        simp [h1, h2] at h
        subst h
        obtain ⟨e, k⟩ := mapM_get h2
        refine ⟨by simp [e], fun i a hi => ?_⟩
        cases i with
        | zero => simp at hi; subst hi; exact ⟨y, rfl, h1⟩
        | succ i => simpa using k i a (by simpa using hi)

section
variable {H : Type} {enc : TypeId × Value → H} {P : Program} {W : World} {held : Bool} {fuel : Nat} {t : TypeId} {cs : List Value} {x : DataW H × List MemPlace}
abbrev RdT (enc : TypeId × Value → H) (P : Program) (W : World) (held : Bool) (fuel : Nat) (t : TypeId) (cs : List Value) (x : DataW H × List MemPlace) : Prop := DataW.trod enc P W 0 (fun _ => true) held fuel t cs = some x

theorem rd_pos (h : RdT enc P W held fuel t cs x) : ∃ f, fuel = f + 1 := by
  cases fuel with
  | zero => simp [RdT, DataW.trod] at h
  | succ f => exact ⟨f, rfl⟩
theorem rd_bool (ht : P.underlying t = some .bool) (h : RdT enc P W held fuel t cs x) : ∃ b, cs = [.bool b] := by
  obtain ⟨f, rfl⟩ := rd_pos h
  unfold RdT DataW.trod at h
  rw [ht] at h
  split at h <;> simp_all
theorem rd_int {k : IntKind} (ht : P.underlying t = some (.int k)) (h : RdT enc P W held fuel t cs x) : ∃ n, cs = [.int k n] ∧ (Lit.int k n).wf = true := by
  obtain ⟨f, rfl⟩ := rd_pos h
  unfold RdT DataW.trod at h
  rw [ht] at h
  split at h <;> simp_all
theorem rd_str (ht : P.underlying t = some .string) (h : RdT enc P W held fuel t cs x) : ∃ l : List UInt8, cs = [str l] ∧ l.length ≤ maxLen := by
  obtain ⟨f, rfl⟩ := rd_pos h
  unfold RdT DataW.trod at h
  rw [ht] at h
  split at h <;> simp_all
  rename_i s
  exact ⟨s.data.toList, by simp, by rw [Array.length_toList]; exact h.1⟩
theorem rd_struct {fs : Array Field} (ht : P.underlying t = some (.struct fs)) (h : RdT enc P W held fuel t cs x) :
    cs.length = P.cellsOf t ∧ ∃ f, fuel = f + 1 ∧ ∀ q ∈ fs.toList, ∃ y, RdT enc P W held f q.type ((cs.drop q.offset).take (P.cellsOf q.type)) y := by
  obtain ⟨f, rfl⟩ := rd_pos h
  unfold RdT DataW.trod at h
  rw [ht] at h
  split at h <;> simp_all
  obtain ⟨h1, xs, h2, _⟩ := h
  intro q hq
  obtain ⟨y, hy⟩ := mapM_some h2 q (by simpa using hq)
  exact ⟨y.1, y.2, hy⟩
theorem cells_get {a : Addr} {n : Nat} {cs : List Value} (h : W.cells? 0 a n = some cs) : cs.length = n ∧ ∀ j v, cs[j]? = some v → W.cell? (a.add j) = some v := by
  unfold World.cells? at h
  rw [if_pos (Nat.zero_le _)] at h
  obtain ⟨h1, h2⟩ := mapM_get h
  rw [List.length_range] at h1
  refine ⟨h1, fun j v hj => ?_⟩
  have hlt : j < n := by rw [← h1]; exact (List.getElem?_eq_some_iff.1 hj).1
  obtain ⟨y, e1, e2⟩ := h2 j j (by simp [hlt])
  rw [hj] at e1
  cases e1
  exact e2
theorem rd_slice {e : TypeId} (ht : P.underlying t = some (.slice e)) (h : RdT enc P W held fuel t cs x) :
    cs = [.slice none 0 0] ∨ ∃ a n c f, cs = [.slice (some a) n c] ∧ fuel = f + 1 ∧ n ≤ c ∧ c ≤ maxLen ∧ ∀ i, i < c → ∃ ys y, W.cells? 0 (a.add (i * P.cellsOf e)) (P.cellsOf e) = some ys ∧ RdT enc P W held f e ys y := by
  rcases DataW.trod_slice ht h with ⟨rfl, _⟩ | ⟨a, n, c, el, rs, f, rfl, rfl, _, _, h1, h2, h3, h4, h5, _⟩
  · exact .inl rfl
  · refine .inr ⟨a, n, c, f, rfl, rfl, h1, h2, fun i hi => ?_⟩
    obtain ⟨h6, h7⟩ := h5 rfl
    have key : ∀ i (z : DataW H × List MemPlace), (W.cells? 0 (a.add (i * P.cellsOf e)) (P.cellsOf e)).bind (DataW.trod enc P W 0 (fun _ => true) held f e) = some z → ∃ ys y, W.cells? 0 (a.add (i * P.cellsOf e)) (P.cellsOf e) = some ys ∧ RdT enc P W held f e ys y := by
      intro i z hi
      cases hc : W.cells? 0 (a.add (i * P.cellsOf e)) (P.cellsOf e) with
      | none => rw [hc] at hi; cases hi
      | some ys => rw [hc] at hi; exact ⟨ys, z, rfl, hi⟩
    rcases Nat.lt_or_ge i n with h' | h'
    · exact key i _ ((h4 i h').trans (List.getElem?_eq_getElem (by omega)))
    · have := h7 (i - n) (by omega)
      rw [show n + (i - n) = i by omega] at this
      exact key i _ (this.trans (List.getElem?_eq_getElem (by omega)))

theorem choose_list {α : Type} {p : Nat → α → Prop} : ∀ n, (∀ i, i < n → ∃ x, p i x) → ∃ l : List α, l.length = n ∧ ∀ i x, l[i]? = some x → p i x
  | 0, _ => ⟨[], rfl, fun i x h => by simp at h⟩
  | n + 1, h => by
    obtain ⟨l, h1, h2⟩ := choose_list n fun i hi => h i (by omega)
    obtain ⟨x, hx⟩ := h n (by omega)
    refine ⟨l ++ [x], by simp [h1], fun i y hi => ?_⟩
    rcases Nat.lt_or_ge i n with h' | h'
    · rw [List.getElem?_append_left (by omega)] at hi; exact h2 i y hi
    · have : i = n := by
        have := (List.getElem?_eq_some_iff.1 hi).1
        simp at this; omega
      subst this
      rw [← h1] at hi
      simp at hi
      subst hi; rw [h1] at *; exact hx

/-- A slice of elements that read as α's. -/
theorem slice_arg {α : Type} {Pr : α → Prop} {enc' : α → List Value} {e sz : Nat} (ht : P.underlying t = some (.slice e)) (hsz : P.cellsOf e = sz) (hpos : 0 < sz) (henc : ∀ x, (enc' x).length = sz)
    (hdec : ∀ f ys y, RdT enc P W held f e ys y → ∃ z, ys = enc' z ∧ Pr z) (h : RdT enc P W held fuel t cs x) :
    ∃ a n c l, cs = [.slice a n c] ∧ l.length = n ∧ Sl (viewOf W) a n c sz (fl enc' l) ∧ ∀ z ∈ l, Pr z := by
  rcases rd_slice ht h with rfl | ⟨a, n, c, f, rfl, rfl, h1, h2, h3⟩
  · exact ⟨none, 0, 0, [], rfl, rfl, Sl.nil _ _, fun _ h => by cases h⟩
  · rw [hsz] at h3
    have h4 : ∀ i, i < n → ∃ z, W.cells? 0 (a.add (i * sz)) sz = some (enc' z) ∧ Pr z := fun i hi => by
      obtain ⟨ys, y, e1, e2⟩ := h3 i (by omega)
      obtain ⟨z, rfl, hz⟩ := hdec f ys y e2
      exact ⟨z, e1, hz⟩
    obtain ⟨l, hl, hp⟩ := choose_list n h4
    refine ⟨some a, n, c, l, rfl, hl, ⟨by rw [fl_len henc, hl], h1, by unfold maxLen at h2; omega, fun j v hj => ?_⟩, fun z hz => ?_⟩
    · have hjl : j < n * sz := by have := (List.getElem?_eq_some_iff.1 hj).1; rwa [fl_len henc, hl] at this
      have hq : j / sz < n := Nat.div_lt_of_lt_mul (by rwa [Nat.mul_comm] at hjl)
      obtain ⟨z, hz⟩ := get_some (l := l) (k := j / sz) (by omega)
      have hm : j % sz < sz := Nat.mod_lt _ hpos
      have hj2 : (enc' z)[j % sz]? = some v := by
        have := flat_get (sz := sz) enc' henc l (j / sz) (j % sz) hm
        rw [Nat.mul_comm, Nat.div_add_mod, hz] at this
        unfold fl at hj
        rw [hj] at this
        exact this.symm
      obtain ⟨hc, _⟩ := hp _ z hz
      have hcell := (cells_get hc).2 _ v hj2
      have hsp : a.spot = none := by
        obtain ⟨z0, hz0⟩ := get_some (l := l) (k := 0) (by rw [hl]; exact Nat.lt_of_le_of_lt (Nat.zero_le _) hq)
        obtain ⟨v0, hv0⟩ := get_some (l := enc' z0) (k := 0) (by rw [henc]; omega)
        have h0 := (cells_get (hp _ z0 hz0).1).2 _ v0 hv0
        have e0 : (a.add (0 * sz)).add 0 = a := by simp [Addr.add]
        rw [e0] at h0
        unfold World.cell? at h0
        split at h0
        · cases hs : a.spot with
          | none => rfl
          | some q => rw [hs] at h0; cases h0
        · cases h0
      obtain ⟨b, off, sp⟩ := a
      cases hsp
      refine ⟨b, off, rfl, ?_⟩
      rw [Addr.add_lit, Addr.add_lit, Nat.add_assoc, show j / sz * sz + j % sz = j by rw [Nat.mul_comm, Nat.div_add_mod]] at hcell
      exact start_cell hcell
    · obtain ⟨i, hi⟩ := List.getElem?_of_mem hz
      exact (hp i z hi).2
/-- An argument that is one cell. -/
theorem arg_cell {v : Value} {d : DataW H} {p : List MemPlace} (h : DataW.Trod enc P W 0 (fun _ => true) true t v d p) :
    ∃ fuel x, RdT enc P W true fuel t v.cells.toList x := by
  obtain ⟨fuel, hf⟩ := h
  exact ⟨fuel, _, hf⟩
/-- An argument that is a struct. -/
theorem arg_struct {r : Reach} {base : Nat} {v : Value} {d : DataW H} {p : List MemPlace} {fs : Array Field} (ht : P.underlying t = some (.struct fs)) (hv : Value.okWide P W r base t v) (h : DataW.Trod enc P W 0 (fun _ => true) true t v d p) :
    ∃ cs fuel x, v = .agg cs.toArray ∧ RdT enc P W true fuel t cs x := by
  obtain ⟨cs, rfl, _⟩ := okWide_struct ht hv
  obtain ⟨fuel, hf⟩ := h
  exact ⟨cs.toList, fuel, _, by simp, hf⟩
end
end Go.Eng

/- A map from ints to true: a set of ints. -/
namespace Go.Eng
open Go Go.RowKit

/-- The entries of a map whose keys are the ints ks, each with true. -/
structure MapI (es : Array MapEntry) (ks : List Int) : Prop where
  a : ∀ e ∈ es.toList, ∃ n, e.key = .int .i64 n ∧ e.val = .bool true ∧ n ∈ ks
  b : ∀ n ∈ ks, ∃ e ∈ es.toList, e.key = .int .i64 n
theorem MapI.nil : MapI #[] [] := ⟨fun e h => by simp at h, fun n h => by cases h⟩

theorem find_int {q : IntKind} {n : Int} : ∀ (l : List MapEntry) (i : Nat), (∀ e ∈ l, ∃ n, e.key = .int .i64 n) →
    (Instr.findNow (.int q) (.int .i64 n) l i = some none ∧ ∀ e ∈ l, e.key ≠ .int .i64 n) ∨ ∃ j e, l[j]? = some e ∧ e.key = .int .i64 n ∧ Instr.findNow (.int q) (.int .i64 n) l i = some (some (i + j, e.val))
  | [], i, _ => .inl ⟨rfl, fun e h => by cases h⟩
  | e :: l, i, h => by
    obtain ⟨k, hk⟩ := h e (by simp)
    by_cases hn : n = k
    · subst hn
      refine .inr ⟨0, e, rfl, hk, ?_⟩
      simp [Instr.findNow, hk, Instr.sameNow]
    · have hb : (n == k) = false := by simpa using hn
      have e1 : Instr.findNow (.int q) (.int .i64 n) (e :: l) i = Instr.findNow (.int q) (.int .i64 n) l (i + 1) := by
        simp [Instr.findNow, hk, Instr.sameNow, hb]
      rcases find_int l (i + 1) (fun e he => h e (by simp [he])) with ⟨h1, h2⟩ | ⟨j, e', h1, h2, h3⟩
      · refine .inl ⟨by rw [e1, h1], fun e' he' => ?_⟩
        rcases List.mem_cons.1 he' with rfl | he'
        · rw [hk]; intro hq; cases hq; exact hn rfl
        · exact h2 e' he'
      · exact .inr ⟨j + 1, e', by simpa using h1, h2, by rw [e1, h3]; congr 3; omega⟩

section
variable {P : Program} {ops : Array Oper} {Q : Exit → Act → World → Prop} {n : Cx} {F : Fm} {h h' : List Res} {m : View} {rest : List Oper}
variable {ty : TypeId} {pos : String} {after : Array Edge} {dst : Option Tmp} {g : Option (Nat × Bool)} {d : Nat}

theorem St.setObj {w : World} {b : Nat} {o o' : Obj} (s : St m h w) (u : Upd h (.pt b o) (.pt b o') h') : St m h' { w with heap := w.heap.setIfInBounds b o' } := by
  have hb : w.heap[b]? = some o := s.ok _ u.mem
  have hlt := lt_of_some hb
  refine s.upd u rfl rfl rfl (fun k _ hk => ?_) ?_ (fun k hk => .inl hk)
  · have : b ≠ k := fun e => hk (by rw [e]; rfl)
    simp [Array.getElem?_setIfInBounds_ne this]
  · show ({ w with heap := w.heap.setIfInBounds b o' } : World).heap[b]? = some o'
    simp [hlt]

theorem WL.makeMap {t : TypeId} (hd : d < n.num) (k : ∀ b, WL P ops Q n rest ((d, .map (some b)) :: F) (.pt b (.map #[] 0) :: h) m) :
    WL P ops Q n (⟨some d, .makeMap t none, ty, pos, after, none⟩ :: rest) F h m := .mk fun a w ha hs => by
  have hrun : (execOp a.eval ⟨some d, .makeMap t none, ty, pos, after, none⟩).run P w = .ok (.value (.map (some w.heap.size))) (w.alloc (.map #[] 0)) := by
    simp [execOp, Instr.makeMap]
  exact wpList_of_wp rfl (wp_of_run hrun (k _ _ _ (ha.put hd _) (hs.alloc _)))

theorem run_mapSet (w : World) {t kt et : TypeId} {q : IntKind} {b : Nat} {es : Array MapEntry} {clock : Nat} {ks : List Int} {x : Int} (ht : P.underlying t = some (.map kt et)) (hk : P.underlying kt = some (.int q)) (hM : MapI es ks)
    (hb : w.heap[b]? = some (.map es clock)) : ∃ es' clock', MapI es' (x :: ks) ∧ (Instr.mapUpdate t (.map (some b)) (.int .i64 x) (.bool true)).run P w = .ok () { w with heap := w.heap.setIfInBounds b (.map es' clock') } := by
  have hck : (Instr.checkKey false 10000 kt (.int .i64 x)).run P w = .ok () w := by
    unfold Instr.checkKey
    simp [run_underlying hk]
  have hint : ∀ e ∈ es.toList, ∃ n, e.key = .int .i64 n := fun e he => by obtain ⟨n, h1, _⟩ := hM.a e he; exact ⟨n, h1⟩
  have hget : (getObj b).run P w = .ok (.map es clock) w := by simp [getObj, Sem.run, hb]
  have hset : ∀ o, (setObj b o).run P w = .ok () { w with heap := w.heap.setIfInBounds b o } := fun o => by simp [setObj, Sem.run, hb]
  rcases find_int (q := q) (n := x) es.toList 0 hint with ⟨h1, h2⟩ | ⟨j, e, h1, h2, h3⟩
  · refine ⟨es.push { key := .int .i64 x, val := .bool true, born := clock }, clock + 1, ⟨fun e he => ?_, fun y hy => ?_⟩, ?_⟩
    · simp only [Array.toList_push, List.mem_append, List.mem_singleton] at he
      rcases he with he | rfl
      · obtain ⟨y, a1, a2, a3⟩ := hM.a e he; exact ⟨y, a1, a2, by simp [a3]⟩
      · exact ⟨x, rfl, rfl, by simp⟩
    · rcases List.mem_cons.1 hy with rfl | hy
      · exact ⟨{ key := .int .i64 y, val := .bool true, born := clock }, by simp, rfl⟩
      · obtain ⟨e, e1, e2⟩ := hM.b y hy; exact ⟨e, by simp only [Array.toList_push, List.mem_append]; exact .inl e1, e2⟩
    · simp [Instr.mapUpdate, run_underlying ht, hget, hck, Instr.findKey, run_underlying hk, h1, hset]
  · have hj : es[j]? = some e := by simpa using h1
    refine ⟨es.modify j fun e => { e with key := .int .i64 x, val := .bool true }, clock, ⟨fun e' he' => ?_, fun y hy => ?_⟩, ?_⟩
    · obtain ⟨i, hi⟩ := List.getElem?_of_mem he'
      have hi2 : (es.modify j fun e => { e with key := .int .i64 x, val := .bool true })[i]? = some e' := by rw [Array.getElem?_toList] at hi; exact hi
      rw [Array.getElem?_modify] at hi2
      split at hi2
      · cases hq : es[i]? with
        | none => simp [hq] at hi2
        | some e0 => simp [hq] at hi2; subst hi2; exact ⟨x, rfl, rfl, by simp⟩
      · obtain ⟨y, a1, a2, a3⟩ := hM.a e' (by
          exact Array.mem_def.1 (Array.mem_of_getElem? hi2))
        exact ⟨y, a1, a2, by simp [a3]⟩
    · have key : ∀ i e0, es[i]? = some e0 → ∃ e1 ∈ (es.modify j fun e => { e with key := .int .i64 x, val := .bool true }).toList, e1.key = if j = i then .int .i64 x else e0.key := fun i e0 h0 => by
        have : (es.modify j fun e => { e with key := .int .i64 x, val := .bool true })[i]? = some (if j = i then { e0 with key := .int .i64 x, val := .bool true } else e0) := by
          rw [Array.getElem?_modify, h0]; split <;> simp
        have hm := Array.mem_of_getElem? this
        refine ⟨_, Array.mem_def.1 hm, ?_⟩
        split <;> rfl
      rcases List.mem_cons.1 hy with rfl | hy
      · obtain ⟨e1, m1, k1⟩ := key j e hj
        exact ⟨e1, m1, by rw [k1, if_pos rfl]⟩
      · obtain ⟨e0, m0, k0⟩ := hM.b y hy
        obtain ⟨i, hi⟩ := List.getElem?_of_mem m0
        obtain ⟨e1, m1, k1⟩ := key i e0 (by simpa using hi)
        by_cases hji : j = i
        · subst hji
          have e00 : e0 = e := by rw [show es[j]? = some e0 by simpa using hi] at hj; exact Option.some.inj hj
          subst e00
          refine ⟨e1, m1, ?_⟩
          rw [k1, if_pos rfl, ← k0, h2]
        · exact ⟨e1, m1, by rw [k1, if_neg hji, k0]⟩
    · simp [Instr.mapUpdate, run_underlying ht, hget, hck, Instr.findKey, run_underlying hk, h3, hj, h2, Instr.keyThatStays, Instr.sameBits, hset]

theorem WL.mapSet {op : Op} {x y z : Operand} {t kt et : TypeId} {q : IntKind} {b : Nat} {es : Array MapEntry} {clock : Nat} {ks : List Int} {i : Int} {hq : Array MapEntry → Nat → List Res} (hop : op = .mapUpdate t x y z ∨ op = .insert t x y z) (ht : P.underlying t = some (.map kt et)) (hk : P.underlying kt = some (.int q)) (hM : MapI es ks)
    (ex : Ev n F x (.map (some b))) (ey : Ev n F y (.int .i64 i)) (ez : Ev n F z (.bool true)) (u : ∀ es' c', Upd h (.pt b (.map es clock)) (.pt b (.map es' c')) (hq es' c')) (k : ∀ es' c', MapI es' (i :: ks) → WL P ops Q n rest F (hq es' c') m) :
    WL P ops Q n (⟨none, op, ty, pos, after, none⟩ :: rest) F h m := .mk fun a w ha hs => by
  obtain ⟨es', c', h1, h2⟩ := run_mapSet (P := P) w (x := i) ht hk hM (hs.ok _ (u es clock).mem)
  have hrun : (execOp a.eval ⟨none, op, ty, pos, after, none⟩).run P w = .ok .skip { w with heap := w.heap.setIfInBounds b (.map es' c') } := by
    rcases hop with rfl | rfl <;> simp [execOp, ex a ha, ey a ha, ez a ha, h2]
  exact wpList_of_wp rfl (wp_of_skip hrun (k es' c' h1 _ _ ha (hs.setObj (u es' c'))))

theorem PO.mapGet {x y : Operand} {t kt et : TypeId} {q : IntKind} {b : Nat} {es : Array MapEntry} {clock : Nat} {ks : List Int} {i : Int} (ht : P.underlying t = some (.map kt et)) (hk : P.underlying kt = some (.int q)) (hz : (P.info? et).bind (·.zero) = some (.bool false)) (hM : MapI es ks)
    (ex : Ev n F x (.map (some b))) (ey : Ev n F y (.int .i64 i)) (hm : Res.pt b (.map es clock) ∈ h) : PO P ⟨dst, .lookup t x y false, ty, pos, after, g⟩ n F h m (.bool (decide (i ∈ ks))) := .mk fun a w ha hs => by
  have hb : w.heap[b]? = some (.map es clock) := hs.ok _ hm
  have hck : (Instr.checkKey es.isEmpty 10000 kt (.int .i64 i)).run P w = .ok () w := by
    unfold Instr.checkKey
    simp [run_underlying hk]
  have hint : ∀ e ∈ es.toList, ∃ n, e.key = .int .i64 n := fun e he => by obtain ⟨n, h1, _⟩ := hM.a e he; exact ⟨n, h1⟩
  have hget : (getObj b).run P w = .ok (.map es clock) w := by simp [getObj, Sem.run, hb]
  have hzr : (zeroValue et).run P w = .ok (.bool false) w := by
    cases hi : P.info? et with
    | none => simp [hi] at hz
    | some j =>
      have : j.zero = some (.bool false) := by simpa [hi] using hz
      simp [zeroValue, typeInfo, hi, this]
  rcases find_int (q := q) (n := i) es.toList 0 hint with ⟨h1, h2⟩ | ⟨j, e, h1, h2, h3⟩
  · have hno : ¬ i ∈ ks := fun hi => by obtain ⟨e, e1, e2⟩ := hM.b i hi; exact h2 e e1 e2
    simp [execOp, ex a ha, ey a ha, Instr.lookup, run_underlying ht, hget, hck, Instr.findKey, run_underlying hk, h1, hzr, hno]
  · have hm := List.mem_of_getElem? h1
    obtain ⟨y', a1, a2, a3⟩ := hM.a e hm
    have : i = y' := by rw [h2] at a1; cases a1; rfl
    subst this
    simp [execOp, ex a ha, ey a ha, Instr.lookup, run_underlying ht, hget, hck, Instr.findKey, run_underlying hk, h3, a2, a3]
end
end Go.Eng

/- Rows over listed package variables; contracts of the library's; an array's element; data that decides its cells. -/
namespace Go.Eng
open Go Go.RowKit Go.ChangeShapes Go.WideShapes Go.ChangeAt Go.Joins

/-- A contract that leaves the world as it was. -/
theorem CT.ofCalls {P : Program} {f : FuncId} {args : List Value} {h : List Res} {m : View} {v : Value} (he : ∀ as w, (callFunc f as).run P w = .ok (.enter f as) w)
    (hc : ∀ w, St m h w → Calls P f args.toArray w fun e w' => e = .returned v ∧ w' = w) : CT P f args h m (Pure1 h v) :=
  ⟨he, fun w st => Calls.mono (hc w st) (by rintro e w' ⟨rfl, rfl⟩; exact ⟨v, m, h, rfl, View.le.refl m, st, rfl, rfl⟩)⟩

theorem CT.argsE {P : Program} {f : FuncId} {args args' : List Value} {h : List Res} {m : View} {R : Value → View → List Res → Prop} (e : args = args') (c : CT P f args' h m R) : CT P f args h m R := e ▸ c

theorem WC.resE {P : Program} {Q : Exit → Act → World → Prop} {n : Cx} {F : Fm} {h h' : List Res} {m : View} {c : Code} (e : h = h') (k : WC P c Q n F h' m) : WC P c Q n F h m := e ▸ k
theorem WL.resE {P : Program} {ops : Array Oper} {Q : Exit → Act → World → Prop} {n : Cx} {F : Fm} {h h' : List Res} {m : View} {l : List Oper} (e : h = h') (k : WL P ops Q n l F h' m) : WL P ops Q n l F h m := e ▸ k

section
variable {P : Program} {n : Cx} {F : Fm} {h : List Res} {m : View} {ty : TypeId} {pos : String} {after : Array Edge} {dst : Option Nat} {g : Option (Nat × Bool)}
theorem PO.fieldF {α : Type} {en : α → List Value} {l : List α} {q : Nat} {z : α} {x : Operand} {t i o len cap sz : Nat} {fs : Array Field} {f : Field} {a : Option Addr} (ht : P.underlying t = some (.struct fs)) (hf : fs[i]? = some f) (hz : P.cellsOf f.type ≠ 0)
    (henc : ∀ x, (en x).length = sz) (h0 : 0 < sz) (hs : Rd m h a len cap sz (fl en l)) (hx : l[q]? = some z) (ex : Ev n F x (.pointer (elt a o))) :
    PO P ⟨dst, .fieldAddr t x i, ty, pos, after, g⟩ n F h m (.pointer (elt a (o + f.offset))) :=
  PO.fieldE ht hf hz hs (j := 0) (by
    rw [fl_len henc]
    have : 0 < l.length := by
      cases l with
      | nil => simp at hx
      | cons y l => simp
    exact Nat.mul_pos this h0) ex
theorem PO.max {x y : Operand} {i j : Int} {t : TypeId} (ex : Ev n F x (.int .i64 i)) (ey : Ev n F y (.int .i64 j)) :
    PO P ⟨dst, .call ⟨.builtin .max, #[x, y], #[t, t]⟩, ty, pos, after, g⟩ n F h m (.int .i64 (if i < j then j else i)) := .mk fun b w ha _ => by
  simp [execOp, resolve, invoke, builtin, ex b ha, ey b ha, run_max_int2]
theorem PO.idxArr {x i : Operand} {t e len sz : Nat} {u : TypeDesc} {k : IntKind} {j : Int} {q : Nat} {cs vs : List Value} (ht : P.underlying t = some (.array len e)) (he : P.underlying e = some u) (hp : plainD u = false)
    (hsz : (P.info? e).map (·.size) = some sz) (ex : Ev n F x (.agg cs.toArray)) (ei : Ev n F i (.int k j)) (hj : j = (q : Int)) (hq : q < len) (hv : (cs.drop (q * sz)).take sz = vs) :
    PO P ⟨dst, .index t x i, ty, pos, after, g⟩ n F h m (.agg vs.toArray) := .mk fun b w ha _ => by
  subst hj hv
  have e1 : ¬ len ≤ q := by omega
  have hs : (sizeOf e).run P w = .ok sz w := by
    cases hi : P.info? e with
    | none => rw [hi] at hsz; cases hsz
    | some y => rw [hi] at hsz; simp at hsz; simp [sizeOf, typeInfo, hi, hsz]
  simp [execOp, ex b ha, ei b ha, Instr.index, asIntOf, run_underlying ht, part, run_isAgg_agg w he hp, hs]
  exact fun hh => absurd hh e1
end

section
variable {H : Type} {enc : TypeId × Value → H} {P : Program} {W : World} {sp : Nat → Bool} {held : Bool} {fuel : Nat} {t : TypeId} {cs : List Value}
theorem data_int {k k' : IntKind} {z : Int} {p : List MemPlace} (ht : P.underlying t = some (.int k)) (h : DataW.trod enc P W 0 sp held fuel t cs = some (.lit (.int k' z), p)) : cs = [.int k z] := by
  cases fuel with
  | zero => simp [DataW.trod] at h
  | succ f =>
    unfold DataW.trod at h
    rw [ht] at h
    split at h <;> simp_all
theorem data_str {l : List UInt8} {p : List MemPlace} (ht : P.underlying t = some .string) (h : DataW.trod enc P W 0 sp held fuel t cs = some (.lit (.string l), p)) : cs = [str l] := by
  cases fuel with
  | zero => simp [DataW.trod] at h
  | succ f =>
    unfold DataW.trod at h
    rw [ht] at h
    split at h <;> simp_all
    obtain ⟨-, rfl, -⟩ := h
    simp
theorem data_struct {fs : Array Field} {ds : List (DataW H)} {p : List MemPlace} (ht : P.underlying t = some (.struct fs)) (h : DataW.trod enc P W 0 sp held fuel t cs = some (.agg ds, p)) :
    ∃ f, ∀ (i : Nat) (q : Field) (d : DataW H), fs[i]? = some q → ds[i]? = some d → ∃ p', DataW.trod enc P W 0 sp held f q.type ((cs.drop q.offset).take (P.cellsOf q.type)) = some (d, p') := by
  cases fuel with
  | zero => simp [DataW.trod] at h
  | succ f =>
    unfold DataW.trod at h
    rw [ht] at h
    split at h <;> simp_all
    obtain ⟨-, xs, h2, rfl, -⟩ := h
    refine ⟨f, fun i q d hq hd => ?_⟩
    obtain ⟨y, e1, e2⟩ := (mapM_get h2).2 i q (by simpa using hq)
    rw [List.getElem?_map, e1] at hd
    simp at hd
    subst hd
    exact ⟨y.2, e2⟩
theorem data_array {len e : Nat} {ds : List (DataW H)} {p : List MemPlace} (ht : P.underlying t = some (.array len e)) (h : DataW.trod enc P W 0 sp held fuel t cs = some (.agg ds, p)) :
    ∃ f, ∀ (i : Nat) (d : DataW H), i < len → ds[i]? = some d → ∃ p', DataW.trod enc P W 0 sp held f e ((cs.drop (i * P.cellsOf e)).take (P.cellsOf e)) = some (d, p') := by
  cases fuel with
  | zero => simp [DataW.trod] at h
  | succ f =>
    unfold DataW.trod at h
    rw [ht] at h
    split at h <;> simp_all
    obtain ⟨-, xs, h2, rfl, -⟩ := h
    refine ⟨f, fun i d hi hd => ?_⟩
    obtain ⟨y, e1, e2⟩ := (mapM_get h2).2 i i (by simp [hi])
    rw [List.getElem?_map, e1] at hd
    simp at hd
    subst hd
    exact ⟨y.2, e2⟩
theorem cell_of_cut {l : List Value} {a k : Nat} {v : Value} (h : (l.drop a).take k = [v]) : l[a]? = some v := by
  have : ((l.drop a).take k)[0]? = some v := by rw [h]; rfl
  cases k with
  | zero => simp at h
  | succ k => simpa using this
end

/-- The wrap of a row whose listed variables read as listed: the world's shape is kept. -/
theorem returnsInHanded_laid {H : Type} {enc : TypeId × Value → H} {a : Assume} {C : Checked} {os : Os} {f : FuncId} {fn : Func} {s : ChangeSpec} {conds : List PathCond} {apart fresh handsOn again : Bool} {laid : List (String × DataW Unit)}
    (own : ownKnob C.prog.godebug = none) (started : os.Started) (noInit : C.prog.inits.idxOf? f = none) (hfn : C.prog.funcs[f]? = some fn)
    (witness : ∃ (w : World) (tape : Tape) (i : Input), w.os = os ∧ (w.forCall tape i).Shaped C.prog ∧ i.vars = [] ∧ Input.okWide C.prog (w.forCall tape i) .any w.heap.size f i ∧
      ((s.pre enc C.prog fn conds apart (w.forCall tape i).memory i.args ∧ laidMet C.prog laid (w.forCall tape i).memory) ∧ sizedMet enc C.prog fn (OpenSpec.ofChange s) apart (w.forCall tape i).memory i.args) ∧ a.holds C.prog (lone (Frame.enter C.prog f i.args .normal) [] (w.forCall tape i)))
    (contract : ∀ (W : World) (base : Nat) (args : Array Value) (ds gs : List (DataW H)) (before : List MemPlace),
      (∀ (j : Nat) t v, fn.params[j]? = some t → args[j]? = some v → Value.okWide C.prog W .any base t v) →
      DataW.Whole enc C.prog fn.params.toList s.vars apart W args.toList ds gs before →
      (DataW.weightsEach C.prog (fn.params.toList ++ s.plain.varTypes C.prog) (ds ++ gs)).all (· ≤ reachBytes) = true → laidMet C.prog laid W → W.ShapedOpen C.prog →
      Calls C.prog f args W fun e W' => ∃ v, e = .returned v ∧ s.post enc C.prog fn apart fresh handsOn again W args v W') :
    ReturnsInHanded a C os f .any (fun w args => (s.pre enc C.prog fn conds apart w args ∧ laidMet C.prog laid w) ∧ sizedMet enc C.prog fn (OpenSpec.ofChange s) apart w args) (s.post enc C.prog fn apart fresh handsOn again) := by
  refine returnsInHanded_of_calls own started noInit witness fun w tape i _ hsh _ hok hpre _ => ?_
  obtain ⟨_, _, _, fn', hfn', _, _, _, _, hval⟩ := hok
  cases Option.some.inj (hfn'.symm.trans hfn)
  obtain ⟨⟨⟨ds, gs, before, hw, _⟩, hl⟩, hz⟩ := hpre
  refine Calls.mono (contract (w.forCall tape i) w.heap.size i.args ds gs before hval (DataW.Whole.of_heap (w' := w.forCall tape i) (by rfl) hw) (hz.weights hw) (laidMet.of_heap (w' := w.forCall tape i) (by rfl) hl) hsh) ?_
  rintro e W' ⟨v, rfl, hp⟩
  exact ChangeSpec.post_blind hp
end Go.Eng

/- Eng12, Eng13, Eng14, Eng15, Eng16, Eng17 as one text. -/
/- Guarded calls that change what is owned. -/
namespace Go.Eng
open Go
section
variable {P : Program} {ops : Array Oper} {Q : Exit → Act → World → Prop} {n : Cx} {F : Fm} {h h' : List Res} {m : View} {rest : List Oper}
variable {ty : TypeId} {pos : String} {after : Array Edge} {d : Nat} {v : Value}
theorem CT.perm {f : FuncId} {args : List Value} {h1 h2 h1' h2' : List Res} (hp : h1.Perm h2) (c : CT P f args h2 m (Pure1 h2' v)) (hp' : h2'.Perm h1') : CT P f args h1 m (Pure1 h1' v) :=
  ⟨c.enter, fun w st => Calls.mono (c.calls w (st.perm hp)) (by rintro e w' ⟨v', m', h', rfl, hle, hst, rfl, rfl⟩; exact ⟨v', m', h1', rfl, hle, hst.perm hp', rfl, rfl⟩)⟩
theorem CT.outE {f : FuncId} {args : List Value} {h1 h2 : List Res} (e : h1 = h2) (c : CT P f args h m (Pure1 h1 v)) : CT P f args h m (Pure1 h2 v) := e ▸ c
theorem CT.frame {f : FuncId} {args : List Value} {fr hp hp' hs : List Res} (c : CT P f args (hp ++ (fr ++ hs)) m (Pure1 (hp' ++ (fr ++ hs)) v)) : CT P f args (fr ++ (hp ++ hs)) m (Pure1 (fr ++ (hp' ++ hs)) v) :=
  CT.perm (List.perm_append_comm_assoc fr hp hs) c (List.perm_append_comm_assoc hp' fr hs)
theorem perm_four {fr h : List Res} (x5 x3 x2 x1 : Res) : (fr ++ ([x3, x2] ++ (x5 :: x1 :: h))).Perm ([x5, x3, x2, x1] ++ (fr ++ h)) := by
  refine (List.perm_append_comm_assoc fr [x3, x2] (x5 :: x1 :: h)).trans ?_
  refine ((List.perm_append_comm_assoc fr [x5, x1] h).append_left [x3, x2]).trans ?_
  exact List.perm_middle (l₁ := [x3, x2])
theorem WL.callGK {f : Operand} {args : List Operand} {tys : Array TypeId} {vs first cap : List Value} {q : FuncId} {gd : Nat × Bool} {c : Bool} (hg : GU ops n F gd c)
    (p : c = true → Ev n F f (.func (.func q) first.toArray cap.toArray) ∧ Evs n F args vs ∧ CT P q (first ++ vs ++ cap) h m (Pure1 h' v)) (h0 : c = false → h' = h) (hd : d < n.num)
    (k : WL P ops Q n rest ((d, gv c v) :: F) h' m) : WL P ops Q n (⟨some d, .call ⟨.value f, args.toArray, tys⟩, ty, pos, after, some gd⟩ :: rest) F h m := by
  cases c with
  | false =>
    cases h0 rfl
    exact WL.skG hg rfl hd k
  | true =>
    obtain ⟨ef, ea, ct⟩ := p rfl
    refine WL.unG hg rfl (WL.callK ef ea ct hd ?_)
    rintro _ _ ⟨rfl, rfl⟩
    exact k
theorem SR.callGK {eff : List Nat} {t : Tl} {hs hp hp' : List Res} {i : Nat} {s : Tr} {f : Operand} {args : List Operand} {tys : Array TypeId} {vs first cap : List Value} {q : FuncId} {gd : Nat × Bool} {c : Bool}
    (ho : ops[i]? = some ⟨some d, .call ⟨.value f, args.toArray, tys⟩, ty, pos, after, some gd⟩) (he : eff.contains i = true) (hg : GU ops n F gd c)
    (p : c = true → Ev n F f (.func (.func q) first.toArray cap.toArray) ∧ Evs n F args vs ∧ ∀ fr, CT P q (first ++ vs ++ cap) (fr ++ (hp ++ hs)) m (Pure1 (fr ++ (hp' ++ hs)) v)) (h0 : c = false → hp' = hp) (hd : d < n.num)
    (k : SR P ops Q n eff t hs s ((d, gv c v) :: F) hp' m) : SR P ops Q n eff t hs (.op i s) F hp m := ⟨_, ho, fun x hx => by cases hx; exact hd, by
  rw [he]
  refine ⟨fun fr a w ha st => ?_⟩
  have hy := hg.wanted (dst := some d) (op := .call ⟨.value f, args.toArray, tys⟩) (ty := ty) (pos := pos) (after := after) ha
  cases c with
  | true =>
    refine ⟨fun _ => ?_, fun h => by rw [hy] at h; cases h⟩
    obtain ⟨ef, ea, ct⟩ := p rfl
    rw [run_call ha ef ea (ct fr).enter]
    refine Calls.mono ((ct fr).calls w st) ?_
    rintro e w' ⟨v', m', h', rfl, hle, hst, rfl, rfl⟩
    exact .inl ⟨_, rfl, m, hp', View.le.refl m, hst.back hle, nofun, k.e⟩
  | false =>
    cases h0 rfl
    exact ⟨fun h => (by rw [hy] at h; cases h), fun _ => ⟨nofun, k.e⟩⟩⟩
section
variable {eff : List Nat} {t : Tl} {hs hp : List Res} {i : Nat} {s : Tr} {op : Op}
/-- Reading what the region itself turns: ordered as an effect. -/
theorem SR.poE (ho : ops[i]? = some ⟨some d, op, ty, pos, after, none⟩) (he : eff.contains i = true) (p : ∀ fr, PO P ⟨some d, op, ty, pos, after, none⟩ n F (fr ++ (hp ++ hs)) m v) (hd : d < n.num)
    (k : SR P ops Q n eff t hs s ((d, v) :: F) hp m) : SR P ops Q n eff t hs (.op i s) F hp m := ⟨_, ho, fun x hx => by cases hx; exact hd, by
  rw [he]
  cases hr : isRd ⟨some d, op, ty, pos, after, none⟩ with
  | true => exact ⟨v, ⟨fun a w ha st => ⟨fun _ => (p []).e a w ha st, fun h => by simp [Region.wanted] at h⟩⟩, k.e⟩
  | false =>
    simp only
    refine ⟨fun fr a w ha st => ⟨fun _ => ?_, fun h => by simp [Region.wanted] at h⟩⟩
    rw [(p fr).e a w ha st]
    exact ⟨m, hp, View.le.refl m, st, fun _ => List.Sublist.refl _, k.e⟩⟩
theorem isRd_guard {dst : Option Nat} {gd : Nat × Bool} : isRd ⟨dst, op, ty, pos, after, some gd⟩ = false := by
  unfold isRd
  split <;> simp_all
theorem SR.poEG {gd : Nat × Bool} {c : Bool} (ho : ops[i]? = some ⟨some d, op, ty, pos, after, some gd⟩) (he : eff.contains i = true) (hg : GU ops n F gd c)
    (p : c = true → ∀ fr, PO P ⟨some d, op, ty, pos, after, some gd⟩ n F (fr ++ (hp ++ hs)) m v) (hd : d < n.num) (k : SR P ops Q n eff t hs s ((d, gv c v) :: F) hp m) :
    SR P ops Q n eff t hs (.op i s) F hp m := ⟨_, ho, fun x hx => by cases hx; exact hd, by
  rw [he]
  simp only [isRd_guard]
  refine ⟨fun fr a w ha st => ?_⟩
  have hy := hg.wanted (dst := some d) (op := op) (ty := ty) (pos := pos) (after := after) ha
  cases c with
  | true =>
    refine ⟨fun _ => ?_, fun h => by rw [hy] at h; cases h⟩
    rw [(p rfl fr).e a w ha st]
    exact ⟨m, hp, View.le.refl m, st, fun _ => List.Sublist.refl _, k.e⟩
  | false => exact ⟨fun h => (by rw [hy] at h; cases h), fun _ => ⟨fun _ => List.Sublist.refl _, k.e⟩⟩⟩
end
end
end Go.Eng

/- A call in a drawn region that gives a slice of its own. -/
namespace Go.Eng
open Go
section
variable {P : Program} {ops : Array Oper} {Q : Exit → Act → World → Prop} {n : Cx} {F : Fm} {h h' : List Res} {m : View} {rest : List Oper}
variable {ty : TypeId} {pos : String} {after : Array Edge} {d : Nat} {v : Value}
theorem SR.callN {eff : List Nat} {t : Tl} {hs hp : List Res} {i : Nat} {s : Tr} {f : Operand} {args : List Operand} {tys : Array TypeId} {vs first cap : List Value} {q : FuncId} {V : Option Addr → Nat → Value} {row : Option Addr → Nat → Res}
    (ho : ops[i]? = some ⟨some d, .call ⟨.value f, args.toArray, tys⟩, ty, pos, after, none⟩) (he : eff.contains i = true) (ef : Ev n F f (.func (.func q) first.toArray cap.toArray)) (ea : Evs n F args vs)
    (c : ∀ fr, CT P q (first ++ vs ++ cap) (fr ++ (hp ++ hs)) m (fun v _ h' => ∃ a c, v = V a c ∧ h' = row a c :: (fr ++ (hp ++ hs)))) (hd : d < n.num)
    (k : ∀ a c, SR P ops Q n eff t hs s ((d, V a c) :: F) (row a c :: hp) m) : SR P ops Q n eff t hs (.op i s) F hp m := ⟨_, ho, fun x hx => by cases hx; exact hd, by
  rw [he]
  refine ⟨fun fr a w ha st => ⟨fun _ => ?_, fun h => by simp [Region.wanted] at h⟩⟩
  rw [run_call ha ef ea (c fr).enter]
  refine Calls.mono ((c fr).calls w st) ?_
  rintro e w' ⟨v', m', h', rfl, hle, hst, a1, c1, rfl, rfl⟩
  exact .inl ⟨_, rfl, m, row a1 c1 :: hp, View.le.refl m, (hst.perm (List.perm_middle (l₁ := fr) (l₂ := hp ++ hs)).symm).back hle, nofun, (k a1 c1).e⟩⟩
end
/-- A string that a law is given. -/
theorem str_arg {H : Type} {enc : TypeId × Value → H} {P : Program} {W : World} {base b0 : Nat} {sp : Nat → Bool} {held : Bool} {r : Reach} {t : TypeId} {v : Value} {d : DataW H} {ps : List MemPlace} (ht : P.underlying t = some .string) (hv : Value.okWide P W r b0 t v) (hd : DataW.Trod enc P W base sp held t v d ps) :
    ∃ s : List UInt8, v = str s ∧ s.length ≤ 9223372036854775807 := by
  obtain ⟨s, rfl, _, _, hs⟩ := Go.ChangeMaps.open_string ht hv hd
  refine ⟨s.data.toList, by simp [str], ?_⟩
  rw [Array.length_toList]
  exact hs
end Go.Eng

/- []byte(s) of a string that is no constant; string(n) of a character. -/
namespace Go.Eng
open Go
section
variable {P : Program} {ops : Array Oper} {Q : Exit → Act → World → Prop} {n : Cx} {F : Fm} {h h' : List Res} {m : View} {rest : List Oper}
variable {ty : TypeId} {pos : String} {after : Array Edge} {d : Nat} {v : Value}
/-- A slice over the first part of a block. -/
theorem Rd.ofPtP {b k cap sz : Nat} {cs zs : List Value} {e : TypeId} {fz : Nat × Nat} (hl : cs.length = k * sz) (hle : k ≤ cap) (hmx : cap ≤ 9223372036854775807) (hm : Res.pt b (.cells (cs ++ zs).toArray e fz) ∈ h) : Rd m h (some ⟨b, 0, none⟩) k cap sz cs :=
  ⟨hl, hle, hmx, fun w st j u hj => ⟨b, 0, rfl, by
    rw [st.pt_cell hm, Nat.zero_add]
    have := (List.getElem?_eq_some_iff.1 hj).1
    simp only [List.getElem?_toArray, List.getElem?_append_left this]
    exact hj⟩⟩
theorem WL.strBytes {x : Operand} {t0 t e : TypeId} {s : List UInt8} (ht0 : P.underlying t0 = some .string) (ht : P.underlying t = some (.slice e)) (he : P.underlying e = some (.int .u8)) (ex : Ev n F x (str s)) (hd : d < n.num) (hs : s.length ≤ 9223372036854775807)
    (kk : ∀ b zs fz cap, s.length ≤ cap → cap ≤ 9223372036854775807 → WL P ops Q n rest ((d, .slice (some ⟨b, 0, none⟩) s.length cap) :: F) (.pt b (.cells (bv s ++ zs).toArray e fz) :: h) m) :
    WL P ops Q n (⟨some d, .convert t0 t x, ty, pos, after, none⟩ :: rest) F h m := .mk fun f w ha st => by
  have hr := Lib.run_convert_string_bytes (P := P) w t0 t e ⟨s.toArray⟩ ht0 ht he
  have hsz : (⟨s.toArray⟩ : ByteArray).size = s.length := by simp [ByteArray.size]
  rw [hsz] at hr
  have hrun : (execOp f.eval ⟨some d, .convert t0 t x, ty, pos, after, none⟩).run P w = .ok (.value (.slice (some ⟨w.heap.size, 0, none⟩) s.length (grownCap w s.length 0 e))) (Lib.bytesWorld w e ⟨s.toArray⟩) := by
    simp [execOp, ex f ha, hr]
  have hC : Lib.bytesCells w e ⟨s.toArray⟩ = (bv s ++ List.replicate (grownCap w s.length 0 e - s.length) (Value.int .u8 0)).toArray := by
    unfold Lib.bytesCells
    rw [hsz]
    simp [bv]
  have hnew : (w.drew.alloc (.cells (Lib.bytesCells w e ⟨s.toArray⟩) e)).heap[w.heap.size]? = some (.cells (Lib.bytesCells w e ⟨s.toArray⟩) e (0, 0)) := new_block w.drew _
  obtain ⟨h1, h2, h3, h4, h5⟩ := freeze_at _ w.heap.size (Lib.bytesCells w e ⟨s.toArray⟩) e (Lib.bytesCells w e ⟨s.toArray⟩).size hnew
  refine wpList_of_wp rfl (wp_of_run hrun (kk w.heap.size (List.replicate (grownCap w s.length 0 e - s.length) (Value.int .u8 0)) ((Lib.bytesCells w e ⟨s.toArray⟩).size, (Lib.bytesCells w e ⟨s.toArray⟩).size + 1) (grownCap w s.length 0 e) (grownCap_ge w s.length 0 e) (grownCap_le_maxLen w s.length 0 e (by unfold maxLen; exact hs)) _ _ (ha.put hd _) ?_))
  have := (st.drew.alloc (.cells (Lib.bytesCells w e ⟨s.toArray⟩) e)).upd (r' := .pt w.heap.size (.cells (Lib.bytesCells w e ⟨s.toArray⟩) e ((Lib.bytesCells w e ⟨s.toArray⟩).size, (Lib.bytesCells w e ⟨s.toArray⟩).size + 1))) Upd.here h3 h4 h5 (fun q _ hq => h2 q (fun e => hq (by rw [e]; rfl))) h1 (fun b hb => .inl hb)
  rw [← hC]
  exact this
end
end Go.Eng

/- Characters, own heaps that grow. -/
namespace Go.Eng
open Go Go.Sort
section
variable {P : Program} {ops : Array Oper} {Q : Exit → Act → World → Prop} {n : Cx} {F : Fm} {h h' : List Res} {m : View} {rest : List Oper} {dst : Option Nat} {g : Option (Nat × Bool)}
variable {ty : TypeId} {pos : String} {after : Array Edge} {d : Nat} {v : Value}
theorem SR.val {eff : List Nat} {t : Tl} {hs hp : List Res} {s : Tr} {v' : Value} (e : v = v') (k : SR P ops Q n eff t hs s ((d, v') :: F) hp m) : SR P ops Q n eff t hs s ((d, v) :: F) hp m := e ▸ k
theorem enc_byte : ∀ c, c < 128 → (Utf8.encode ((c : Nat) : Int)).data.toList = [UInt8.ofNat c] := by decide +kernel
theorem PO.intS {x : Operand} {k : IntKind} {i : Int} {s t : TypeId} {u : TypeDesc} {c : Nat} (hs : P.underlying s = some u) (ht : P.underlying t = some .string) (ex : Ev n F x (.int k i)) (hi : i = (c : Int)) (hc : c < 128) :
    PO P ⟨dst, .convert s t x, ty, pos, after, g⟩ n F h m (str [UInt8.ofNat c]) := .mk fun a w ha _ => by
  subst hi
  have e : Utf8.encode ((c : Nat) : Int) = ⟨[UInt8.ofNat c].toArray⟩ := by
    have := enc_byte c hc
    apply ByteArray.ext
    apply Array.ext'
    simpa using this
  simp [execOp, ex a ha, convert, run_underlying hs, run_underlying ht, Conv.intToString, e]
theorem St.wider {w w' : World} (s : St m h w) (h1 : w'.os = w.os) (h2 : w'.output = w.output) (h3 : w'.tape = w.tape) (hh : ∀ b, b < w.heap.size → w'.heap[b]? = w.heap[b]?) : St m h w' where
  os := h1.trans s.os
  out := h2.trans s.out
  tape := h3.trans s.tape
  blk b o hb := by
    have e := s.blk b o hb
    rw [hh b (lt_of_some e)]
    exact e
  ok r hr := Res.ok_of_block (s.ok r hr) fun b hb => hh b (Res.lt (s.ok r hr) b hb)
  nd := s.nd
  fr := s.fr
theorem CT.ofGrow {f : FuncId} {args : List Value} (he : ∀ as w, (callFunc f as).run P w = .ok (.enter f as) w)
    (hc : ∀ w, St m h w → Calls P f args.toArray w fun e w' => e = .returned v ∧ ∃ k os, w' = grow (w.drewN k) os) : CT P f args h m (Pure1 h v) :=
  ⟨he, fun w st => Calls.mono (hc w st) (by rintro e w' ⟨rfl, k, os, rfl⟩; exact ⟨v, m, h, rfl, View.le.refl m, st.wider rfl rfl rfl (fun b hb => by simp [grow, World.drewN, Array.getElem?_append, hb]), rfl, rfl⟩)⟩
end
end Go.Eng

/- Reading a law's arguments, with their sizes. -/
namespace Go.Eng
open Go
section
variable {H : Type} {enc : TypeId × Value → H} {P : Program} {W : World} {held : Bool} {fuel : Nat} {t : TypeId} {cs : List Value} {x : DataW H × List MemPlace}
theorem rd_strW (ht : P.underlying t = some .string) (h : RdT enc P W held fuel t cs x) : ∃ l : List UInt8, cs = [str l] ∧ l.length ∈ x.1.weights P t := by
  obtain ⟨f, rfl⟩ := rd_pos h
  unfold RdT DataW.trod at h
  rw [ht] at h
  split at h <;> simp_all
  rename_i s
  obtain ⟨_, rfl⟩ := h
  exact ⟨s.data.toList, by simp, by simp [DataW.weights]⟩
theorem rd_structW {fs : Array Field} (ht : P.underlying t = some (.struct fs)) (h : RdT enc P W held fuel t cs x) :
    cs.length = P.cellsOf t ∧ ∃ f, fuel = f + 1 ∧ ∀ q ∈ fs.toList, ∃ (d : DataW H) (p : List MemPlace), RdT enc P W held f q.type ((cs.drop q.offset).take (P.cellsOf q.type)) (d, p) ∧ ∀ n ∈ d.weights P q.type, n ∈ x.1.weights P t := by
  have ht' := ht
  obtain ⟨f, rfl⟩ := rd_pos h
  unfold RdT DataW.trod at h
  rw [ht] at h
  split at h <;> simp_all
  obtain ⟨h1, xs, h2, hx⟩ := h
  intro q hq
  obtain ⟨j, hj⟩ := Array.getElem?_of_mem hq
  obtain ⟨e, k⟩ := mapM_get h2
  obtain ⟨y, hy, hr⟩ := k j q (by simpa using hj)
  refine ⟨y.1, ⟨y.2, hr⟩, fun n hn => ?_⟩
  subst hx
  unfold DataW.weights
  rw [ht']
  exact DataW.weights_mem_each (j := j) (by simp [hj]) (by simp [hy]) n hn
theorem weightsAll_mem {e : TypeId} {d : DataW H} : ∀ {l : List (DataW H)}, d ∈ l → ∀ n ∈ d.weights P e, n ∈ DataW.weightsAll P e l
  | y :: l, hd, n, hn => by
    unfold DataW.weightsAll
    rcases List.mem_cons.1 hd with rfl | hd
    · exact List.mem_append_left _ hn
    · exact List.mem_append_right _ (weightsAll_mem hd n hn)
theorem rd_sliceW {e : TypeId} (ht : P.underlying t = some (.slice e)) (h : RdT enc P W held fuel t cs x) :
    cs = [.slice none 0 0] ∨ ∃ a n c f, cs = [.slice (some a) n c] ∧ fuel = f + 1 ∧ n ≤ c ∧ c ≤ maxLen ∧ ∀ i, i < n → ∃ ys y, W.cells? 0 (a.add (i * P.cellsOf e)) (P.cellsOf e) = some ys ∧ RdT enc P W held f e ys y ∧ ∀ k ∈ y.1.weights P e, k ∈ x.1.weights P t := by
  rcases DataW.trod_slice ht h with ⟨rfl, _⟩ | ⟨a, n, c, el, rs, f, rfl, rfl, rfl, _, h1, h2, h3, h4, _, _⟩
  · exact .inl rfl
  · refine .inr ⟨a, n, c, f, rfl, rfl, h1, h2, fun i hi => ?_⟩
    have he := h4 i hi
    rw [List.getElem?_eq_getElem (by omega)] at he
    cases hc : W.cells? 0 (a.add (i * P.cellsOf e)) (P.cellsOf e) with
    | none => rw [hc] at he; cases he
    | some ys =>
      rw [hc] at he
      refine ⟨ys, el[i]'(by omega), rfl, he, fun k hk => ?_⟩
      unfold DataW.weights
      rw [ht]
      exact List.mem_cons_of_mem _ (List.mem_append_left _ (weightsAll_mem (List.mem_map.2 ⟨_, List.getElem_mem _, rfl⟩) k hk))
theorem slice_argW {α : Type} {Pr : α → Prop} {enc' : α → List Value} {e sz : Nat} (ht : P.underlying t = some (.slice e)) (hsz : P.cellsOf e = sz) (hpos : 0 < sz) (henc : ∀ x, (enc' x).length = sz)
    (hdec : ∀ f ys y, RdT enc P W held f e ys y → (∀ k ∈ y.1.weights P e, k ∈ x.1.weights P t) → ∃ z, ys = enc' z ∧ Pr z) (h : RdT enc P W held fuel t cs x) :
    ∃ a n c l, cs = [.slice a n c] ∧ l.length = n ∧ Sl (viewOf W) a n c sz (fl enc' l) ∧ ∀ z ∈ l, Pr z := by
  rcases rd_sliceW ht h with rfl | ⟨a, n, c, f, rfl, rfl, h1, h2, h3⟩
  · exact ⟨none, 0, 0, [], rfl, rfl, Sl.nil _ _, fun _ h => by cases h⟩
  · rw [hsz] at h3
    have h4 : ∀ i, i < n → ∃ z, W.cells? 0 (a.add (i * sz)) sz = some (enc' z) ∧ Pr z := fun i hi => by
      obtain ⟨ys, y, e1, e2, e3⟩ := h3 i hi
      obtain ⟨z, rfl, hz⟩ := hdec f ys y e2 e3
      exact ⟨z, e1, hz⟩
    obtain ⟨l, hl, hp⟩ := choose_list n h4
    refine ⟨some a, n, c, l, rfl, hl, ⟨by rw [fl_len henc, hl], h1, by unfold maxLen at h2; omega, fun j v hj => ?_⟩, fun z hz => ?_⟩
    · have hjl : j < n * sz := by have := (List.getElem?_eq_some_iff.1 hj).1; rwa [fl_len henc, hl] at this
      have hq : j / sz < n := Nat.div_lt_of_lt_mul (by rwa [Nat.mul_comm] at hjl)
      obtain ⟨z, hz⟩ := get_some (l := l) (k := j / sz) (by omega)
      have hm : j % sz < sz := Nat.mod_lt _ hpos
      have hj2 : (enc' z)[j % sz]? = some v := by
        have := flat_get (sz := sz) enc' henc l (j / sz) (j % sz) hm
        rw [Nat.mul_comm, Nat.div_add_mod, hz] at this
        unfold fl at hj
        rw [hj] at this
        exact this.symm
      obtain ⟨hc, _⟩ := hp _ z hz
      have hcell := (cells_get hc).2 _ v hj2
      have hsp : a.spot = none := by
        obtain ⟨z0, hz0⟩ := get_some (l := l) (k := 0) (by rw [hl]; exact Nat.lt_of_le_of_lt (Nat.zero_le _) hq)
        obtain ⟨v0, hv0⟩ := get_some (l := enc' z0) (k := 0) (by rw [henc]; omega)
        have h0 := (cells_get (hp _ z0 hz0).1).2 _ v0 hv0
        have e0 : (a.add (0 * sz)).add 0 = a := by simp [Addr.add]
        rw [e0] at h0
        unfold World.cell? at h0
        split at h0
        · cases hs : a.spot with
          | none => rfl
          | some q => rw [hs] at h0; cases h0
        · cases h0
      obtain ⟨b, off, sp⟩ := a
      cases hsp
      refine ⟨b, off, rfl, ?_⟩
      rw [Addr.add_lit, Addr.add_lit, Nat.add_assoc, show j / sz * sz + j % sz = j by rw [Nat.mul_comm, Nat.div_add_mod]] at hcell
      exact start_cell hcell
    · obtain ⟨i, hi⟩ := List.getElem?_of_mem hz
      exact (hp i z hi).2
end
end Go.Eng

/- Guards known to say yes, in drawn regions. -/
namespace Go.Eng
open Go
section
variable {P : Program} {ops : Array Oper} {Q : Exit → Act → World → Prop} {n : Cx} {F : Fm} {h h' : List Res} {m : View} {rest : List Oper}
variable {ty : TypeId} {pos : String} {after : Array Edge} {d : Nat} {v : Value} {eff : List Nat} {hs hp : List Res} {i : Nat} {s : Tr}
theorem SR.callU {t : Tl} {f : Operand} {args : List Operand} {tys : Array TypeId} {vs first cap : List Value} {q : FuncId} {gd : Nat × Bool} {c : Bool} {v : Value} (ho : ops[i]? = some ⟨some d, .call ⟨.value f, args.toArray, tys⟩, ty, pos, after, some gd⟩)
    (he : eff.contains i = true) (hg : GU ops n F gd c) (hc : c = true) (ef : Ev n F f (.func (.func q) first.toArray cap.toArray)) (ea : Evs n F args vs) (ct : ∀ fr, CT P q (first ++ vs ++ cap) (fr ++ (hp ++ hs)) m (Pure1 (fr ++ (hp ++ hs)) v)) (hd : d < n.num)
    (k : SR P ops Q n eff t hs s ((d, v) :: F) hp m) : SR P ops Q n eff t hs (.op i s) F hp m := by
  subst hc
  exact SR.callG ho he hg (fun _ => ⟨ef, ea, ct⟩) hd k
theorem SR.buildSliceU {t' : Tl} {t e k : Nat} {sz by_ : Nat} {ps : List (Nat × Operand)} {vs : List (Nat × Value)} {z : Value} {zs cs : List Value} {gd : Nat × Bool} {c : Bool}
    (ho : ops[i]? = some ⟨some d, .buildSlice t k ps.toArray, ty, pos, after, some gd⟩) (he : eff.contains i = true) (hg : GU ops n F gd c) (hc : c = true) (E : EL P t e sz by_) (hz : (P.info? e).bind (·.zero) = some z) (ev : EvP n F ps vs)
    (hzs : zeros z k = some zs) (hf : fillO (fun i => some (i * sz, sz)) zs vs = some cs) (hk : k * sz ≤ 16777216) (h0 : Nat.beq (k * sz) 0 = false) (hd : d < n.num)
    (kk : ∀ b, SR P ops Q n eff t' hs s ((d, .slice (some ⟨b, 0, none⟩) k k) :: F) (.pt b (.cells cs.toArray e (0, 0)) :: hp) m) :
    SR P ops Q n eff t' hs (.op i s) F hp m := ⟨_, ho, fun y hy => by cases hy; exact hd, by
  subst hc
  rw [he]
  refine ⟨fun fr f w hf' st => ?_⟩
  have hy := hg.wanted (dst := some d) (op := .buildSlice t k ps.toArray) (ty := ty) (pos := pos) (after := after) hf'
  refine ⟨fun _ => ?_, fun h => by rw [hy] at h; cases h⟩
  have hrun := run_buildSlice (P := P) w (dst := some d) (ty := ty) (pos := pos) (after := after) (g := some gd) E hz ev hzs hf hk h0 hf'
  rw [hrun]
  exact ⟨m, .pt w.heap.size (.cells cs.toArray e) :: hp, View.le.refl m, (st.alloc _).perm List.perm_middle.symm, fun _ => List.sublist_cons_self _ _, (kk _).e⟩⟩
end
end Go.Eng

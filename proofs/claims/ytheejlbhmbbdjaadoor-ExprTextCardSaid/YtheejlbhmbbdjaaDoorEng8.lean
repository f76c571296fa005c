/- Calls that leave the view as it stands; guards within guards; structs compared; lists as cells; loops whose unchanged slots are kept. -/
import Derived.Test.YtheejlbhmbbdjaaDoorEng7
import Derived.Laws.StructEq
namespace Go.Eng
open Go Go.RowKit

theorem and_l {a b : Bool} (h : (a && b) = true) : a = true := by cases a <;> simp_all
theorem and_r {a b : Bool} (h : (a && b) = true) : b = true := by cases a <;> simp_all
theorem and_n {a b : Bool} (h : (a && !b) = true) : b = false := by cases a <;> simp_all

theorem t_eq {α : Type} [BEq α] [LawfulBEq α] {x y : α} (h : (x == y) = true) : x = y := eq_of_beq h
theorem f_eq {α : Type} [BEq α] [LawfulBEq α] {x y : α} (h : (x == y) = false) : x ≠ y := ne_of_beq_false h
theorem t_ne {α : Type} [BEq α] [LawfulBEq α] {x y : α} (h : (x != y) = true) : x ≠ y := bne_iff_ne.1 h
theorem f_ne {α : Type} [BEq α] [LawfulBEq α] {x y : α} (h : (x != y) = false) : x = y := by simpa using h

section
variable {P : Program} {ops : Array Oper} {Q : Exit → Act → World → Prop} {n : Cx} {F : Fm} {h h' : List Res} {m : View} {rest : List Oper}
variable {ty : TypeId} {pos : String} {after : Array Edge} {dst : Option Tmp} {g : Option (Nat × Bool)} {d : Nat}

theorem St.back {m m' : View} {h : List Res} {w : World} (s : St m' h w) (hm : m.le m') : St m h w := s.weaken hm (List.Sublist.refl _)

/-- A call whose result does not speak of the view. -/
theorem WL.callK {f : Operand} {args : List Operand} {tys : Array TypeId} {vs first cap : List Value} {q : FuncId} {R : Value → List Res → Prop} (ef : Ev n F f (.func (.func q) first.toArray cap.toArray)) (ea : Evs n F args vs)
    (c : CT P q (first ++ vs ++ cap) h m (fun v _ h' => R v h')) (hd : d < n.num) (k : ∀ v h', R v h' → WL P ops Q n rest ((d, v) :: F) h' m) :
    WL P ops Q n (⟨some d, .call ⟨.value f, args.toArray, tys⟩, ty, pos, after, none⟩ :: rest) F h m := .mk fun a w ha hs => by
  refine wpList_of_wp rfl ?_
  unfold Oper.wp
  rw [run_call ha ef ea c.enter]
  refine Calls.mono (c.calls w hs) ?_
  rintro e w' ⟨v, m', h', rfl, hle, hst, hR⟩
  exact k v h' hR _ _ (ha.put hd v) (hst.back hle)
theorem WL.callP {f : Operand} {args : List Operand} {tys : Array TypeId} {vs first cap : List Value} {q : FuncId} {v : Value} (ef : Ev n F f (.func (.func q) first.toArray cap.toArray)) (ea : Evs n F args vs)
    (c : CT P q (first ++ vs ++ cap) h m (Pure1 h v)) (hd : d < n.num) (k : WL P ops Q n rest ((d, v) :: F) h m) :
    WL P ops Q n (⟨some d, .call ⟨.value f, args.toArray, tys⟩, ty, pos, after, none⟩ :: rest) F h m :=
  WL.callK (R := fun v' h' => v' = v ∧ h' = h) ef ea c hd fun _ _ hR => by obtain ⟨rfl, rfl⟩ := hR; exact k

/- guards -/
structure GU (ops : Array Oper) (n : Cx) (F : Fm) (g : Nat × Bool) (c : Bool) : Prop where
  e : ∀ a, Fr n F a → (yielded ops a.tmps g.1 == some g.2) = c
theorem yielded_undef {j t : Nat} {a : Act} (hj : gslot ops j = some t) (hc : a.tmps[t]? = some undef) : yielded ops a.tmps j = none := by
  unfold yielded
  unfold gslot at hj
  simp [hj, hc, undef]
theorem GU.t {j t : Nat} {c : Bool} (hj : gslot ops j = some t) (hc : look F t = some (.bool c)) : GU ops n F (j, true) c := ⟨fun a ha => by
  rw [yielded_of hj (ha.get t _ hc)]; cases c <;> rfl⟩
theorem GU.f {j t : Nat} {c : Bool} (hj : gslot ops j = some t) (hc : look F t = some (.bool c)) : GU ops n F (j, false) (!c) := ⟨fun a ha => by
  rw [yielded_of hj (ha.get t _ hc)]; cases c <;> rfl⟩
theorem GU.nt {j t : Nat} {c b : Bool} (hj : gslot ops j = some t) (hc : look F t = some (gv c (.bool b))) : GU ops n F (j, true) (c && b) := ⟨fun a ha => by
  have h1 := ha.get t _ hc
  cases c with
  | true => rw [yielded_of hj h1]; cases b <;> rfl
  | false => rw [yielded_undef hj h1]; rfl⟩
theorem GU.nf {j t : Nat} {c b : Bool} (hj : gslot ops j = some t) (hc : look F t = some (gv c (.bool b))) : GU ops n F (j, false) (c && !b) := ⟨fun a ha => by
  have h1 := ha.get t _ hc
  cases c with
  | true => rw [yielded_of hj h1]; cases b <;> rfl
  | false => rw [yielded_undef hj h1]; rfl⟩
theorem GU.wanted {op : Op} {gd : Nat × Bool} {c : Bool} (hg : GU ops n F gd c) {a : Act} (ha : Fr n F a) : Region.wanted ⟨dst, op, ty, pos, after, some gd⟩ (yielded ops a.tmps) = c := hg.e a ha

theorem WL.poG {op : Op} {gd : Nat × Bool} {c : Bool} {v : Value} (hg : GU ops n F gd c) (hp : c = true → PO P ⟨some d, op, ty, pos, after, some gd⟩ n F h m v) (hd : d < n.num) (k : WL P ops Q n rest ((d, gv c v) :: F) h m) :
    WL P ops Q n (⟨some d, op, ty, pos, after, some gd⟩ :: rest) F h m := .mk fun a w ha hs => by
  have hy := hg.wanted (dst := some d) (op := op) (ty := ty) (pos := pos) (after := after) ha
  cases c with
  | true => exact wpList_of_wp hy (wp_of_run (hp rfl a w ha hs) (k _ _ (ha.put hd v) hs))
  | false =>
    unfold wpList
    rw [if_neg (by rw [hy]; decide)]
    exact k _ _ (ha.put hd undef) hs
theorem WL.callG {f : Operand} {args : List Operand} {tys : Array TypeId} {vs first cap : List Value} {q : FuncId} {gd : Nat × Bool} {c : Bool} {v : Value} (hg : GU ops n F gd c)
    (hp : c = true → Ev n F f (.func (.func q) first.toArray cap.toArray) ∧ Evs n F args vs ∧ CT P q (first ++ vs ++ cap) h m (Pure1 h v)) (hd : d < n.num) (k : WL P ops Q n rest ((d, gv c v) :: F) h m) :
    WL P ops Q n (⟨some d, .call ⟨.value f, args.toArray, tys⟩, ty, pos, after, some gd⟩ :: rest) F h m := .mk fun a w ha hs => by
  have hy := hg.wanted (dst := some d) (op := .call ⟨.value f, args.toArray, tys⟩) (ty := ty) (pos := pos) (after := after) ha
  cases c with
  | true =>
    obtain ⟨ef, ea, ct⟩ := hp rfl
    refine wpList_of_wp hy ?_
    unfold Oper.wp
    rw [run_call ha ef ea ct.enter]
    refine Calls.mono (ct.calls w hs) ?_
    rintro e w' ⟨v', m', h', rfl, hle, hst, rfl, rfl⟩
    exact k _ _ (ha.put hd _) (hst.back hle)
  | false =>
    unfold wpList
    rw [if_neg (by rw [hy]; decide)]
    exact k _ _ (ha.put hd undef) hs
/-- A guard that is known to say yes. -/
theorem WL.unG {op : Op} {gd : Nat × Bool} {c : Bool} (hg : GU ops n F gd c) (hc : c = true) (k : WL P ops Q n (⟨dst, op, ty, pos, after, none⟩ :: rest) F h m) :
    WL P ops Q n (⟨dst, op, ty, pos, after, some gd⟩ :: rest) F h m := .mk fun a w ha hs => by
  subst hc
  have hy := hg.wanted (dst := dst) (op := op) (ty := ty) (pos := pos) (after := after) ha
  have := k a w ha hs
  unfold wpList at this ⊢
  rw [if_pos hy]
  rw [show Region.wanted (⟨dst, op, ty, pos, after, none⟩ : Oper) (yielded ops a.tmps) = true from rfl, if_pos rfl] at this
  exact this
/-- A guard that is known to say no. -/
theorem WL.skG {op : Op} {gd : Nat × Bool} {c : Bool} (hg : GU ops n F gd c) (hc : c = false) (hd : d < n.num) (k : WL P ops Q n rest ((d, undef) :: F) h m) :
    WL P ops Q n (⟨some d, op, ty, pos, after, some gd⟩ :: rest) F h m := .mk fun a w ha hs => by
  subst hc
  have hy := hg.wanted (dst := some d) (op := op) (ty := ty) (pos := pos) (after := after) ha
  unfold wpList
  rw [if_neg (by rw [hy]; decide)]
  exact k _ _ (ha.put hd undef) hs

theorem PO.pickAndN {t u : Nat} {c0 c b : Bool} (h0 : c0 = true) (e : look F t = some (gv c0 (.bool c))) (e1 : look F u = some (gv (c0 && c) (.bool b))) :
    PO P ⟨dst, .pick (.tmp t) (.tmp u) (.const (.bool false)), ty, pos, after, g⟩ n F h m (.bool (c && b)) := by
  subst h0
  exact PO.pickAnd e (by simpa using e1)
theorem PO.pickOrN {t u : Nat} {c0 c b : Bool} (h0 : c0 = true) (e : look F t = some (gv c0 (.bool c))) (e1 : look F u = some (gv (c0 && !c) (.bool b))) :
    PO P ⟨dst, .pick (.tmp t) (.const (.bool true)) (.tmp u), ty, pos, after, g⟩ n F h m (.bool (c || b)) := by
  subst h0
  exact PO.pickOr e (by simpa using e1)
theorem PO.nilCheck {x : Operand} {a : Addr} (e : Ev n F x (.pointer (some a))) : PO P ⟨dst, .nilCheck x, ty, pos, after, g⟩ n F h m (.pointer (some a)) := .mk fun b w hb _ => by
  simp [execOp, e b hb]
theorem PO.min {x y : Operand} {i j : Int} {t : TypeId} (ex : Ev n F x (.int .i64 i)) (ey : Ev n F y (.int .i64 j)) :
    PO P ⟨dst, .call ⟨.builtin .min, #[x, y], #[t, t]⟩, ty, pos, after, g⟩ n F h m (.int .i64 (if j < i then j else i)) := .mk fun b w ha _ => by
  simp [execOp, resolve, invoke, builtin, ex b ha, ey b ha, run_min_int2]

/- the same in a region whose order is drawn -/
section
variable {eff : List Nat} {t : Tl} {hs hp : List Res} {i : Nat} {s : Tr} {op : Op} {v : Value}
theorem SR.poG {gd : Nat × Bool} {c : Bool} (ho : ops[i]? = some ⟨some d, op, ty, pos, after, some gd⟩) (he : eff.contains i = false) (hg : GU ops n F gd c)
    (p : c = true → PO P ⟨some d, op, ty, pos, after, some gd⟩ n F hs m v) (hd : d < n.num) (k : SR P ops Q n eff t hs s ((d, gv c v) :: F) hp m) :
    SR P ops Q n eff t hs (.op i s) F hp m := ⟨_, ho, fun x hx => by cases hx; exact hd, by
  rw [he]
  refine ⟨gv c v, ⟨fun a w ha st => ?_⟩, k.e⟩
  have hy := hg.wanted (dst := some d) (op := op) (ty := ty) (pos := pos) (after := after) ha
  cases c with
  | true => exact ⟨fun _ => p rfl a w ha st, fun h => by rw [hy] at h; cases h⟩
  | false => exact ⟨fun h => (by rw [hy] at h; cases h), fun _ => rfl⟩⟩
theorem SR.poU {gd : Nat × Bool} {c : Bool} (ho : ops[i]? = some ⟨some d, op, ty, pos, after, some gd⟩) (he : eff.contains i = false) (hg : GU ops n F gd c) (hc : c = true)
    (p : PO P ⟨some d, op, ty, pos, after, some gd⟩ n F hs m v) (hd : d < n.num) (k : SR P ops Q n eff t hs s ((d, v) :: F) hp m) :
    SR P ops Q n eff t hs (.op i s) F hp m := by subst hc; exact SR.poG ho he hg (fun _ => p) hd k
theorem St.backF {fr : List Res} {m' : View} {w : World} (s : St m' (fr ++ (hp ++ hs)) w) (hm : m.le m') : St m (fr ++ (hp ++ hs)) w := s.back hm
theorem Upd.right {l h h' : List Res} {r r' : Res} (u : Upd h r r' h') : Upd (l ++ h) r r' (l ++ h') := by
  induction l with
  | nil => exact u
  | cons x l ih => exact .next ih
theorem Upd.left {l h h' : List Res} {r r' : Res} (u : Upd h r r' h') : Upd (h ++ l) r r' (h' ++ l) := by
  induction u with
  | here => exact .here
  | next _ ih => exact .next ih
theorem SR.store {x y : Operand} {tt : TypeId} {b off : Nat} {cs cs' vs : List Value} {e : TypeId} {v : Value} {hp' : List Res} (ho : ops[i]? = some ⟨none, .store tt x y, ty, pos, after, none⟩) (he : eff.contains i = true)
    (hq : (P.info? tt).map (·.size) = some vs.length) (ex : Ev n F x (.pointer (some ⟨b, off, none⟩))) (ey : Ev n F y v)
    (hvs : cellsO v = some vs) (h1 : vs.all (·.oneCell') = true) (h0 : vs.isEmpty = false) (hc : setLs cs off vs = some cs')
    (u : Upd hp (.pt b (.cells cs.toArray e (0, 0))) (.pt b (.cells cs'.toArray e (0, 0))) hp') (k : SR P ops Q n eff t hs s F hp' m) : SR P ops Q n eff t hs (.op i s) F hp m := ⟨_, ho, fun x hx => (by cases hx), by
  rw [he]
  refine ⟨fun fr a w ha st => ⟨fun _ => ?_, fun h => by simp [Region.wanted] at h⟩⟩
  have hne : vs ≠ [] := by cases vs <;> simp_all
  have e1 := setLs_eq hc
  subst e1
  have h1 : ∀ u ∈ vs, u.oneCell' = true := by simpa using h1
  have hvs := cellsO_spec hvs
  subst hvs
  have uu : Upd (fr ++ (hp ++ hs)) _ _ (fr ++ (hp' ++ hs)) := (u.left).right
  have hb : w.heap[b]? = some (.cells cs.toArray e (0, 0)) := st.ok _ uu.mem
  have hr := run_storeCells_at P b off e v.cells.toList 0 cs.toArray w hb (by have := setLs_len hc hne; simpa using this) h1
  have hrun : (execOp a.eval ⟨none, .store tt x y, ty, pos, after, none⟩).run P w = .ok .skip (w.setRow b (cs.take off ++ v.cells.toList ++ cs.drop (off + v.cells.toList.length)).toArray) := by
    cases hi : P.info? tt with
    | none => simp [hi] at hq
    | some i =>
      have e1 : i.size = v.cells.size := by simpa [hi] using hq
      have hr' := hr
      simp only [Nat.add_zero] at hr'
      simp [execOp, ex a ha, ey a ha, Instr.storeAt, Instr.sureAddr, storeVar, sizeOf, typeInfo, hi, e1] at hr' ⊢
      rw [hr']; rfl
  rw [hrun]
  exact ⟨m, hp', View.le.refl m, st.setRow uu, nofun, k.e⟩⟩
theorem WL.take {l : List Oper} {r : Res} (dl : Del h r h') (k : WL P ops Q n l F (r :: h') m) : WL P ops Q n l F h m := .mk fun a w ha hs => k a w ha (hs.perm dl.perm)
theorem WC.take {c : Code} {r : Res} (dl : Del h r h') (k : WC P c Q n F (r :: h') m) : WC P c Q n F h m := .mk fun a w ha hs => k a w ha (hs.perm dl.perm)
theorem SR.callP {f : Operand} {args : List Operand} {tys : Array TypeId} {vs first cap : List Value} {q : FuncId} {v : Value} (ho : ops[i]? = some ⟨some d, .call ⟨.value f, args.toArray, tys⟩, ty, pos, after, none⟩)
    (he : eff.contains i = true) (ef : Ev n F f (.func (.func q) first.toArray cap.toArray)) (ea : Evs n F args vs) (c : ∀ fr, CT P q (first ++ vs ++ cap) (fr ++ (hp ++ hs)) m (Pure1 (fr ++ (hp ++ hs)) v)) (hd : d < n.num)
    (k : SR P ops Q n eff t hs s ((d, v) :: F) hp m) : SR P ops Q n eff t hs (.op i s) F hp m := ⟨_, ho, fun x hx => by cases hx; exact hd, by
  rw [he]
  refine ⟨fun fr a w ha st => ⟨fun _ => ?_, fun h => by simp [Region.wanted] at h⟩⟩
  rw [run_call ha ef ea (c fr).enter]
  refine Calls.mono ((c fr).calls w st) ?_
  rintro e w' ⟨v, m', h', rfl, hle, hst, rfl, rfl⟩
  exact .inl ⟨_, rfl, m, hp, View.le.refl m, hst.back hle, nofun, k.e⟩⟩
theorem SR.callG {f : Operand} {args : List Operand} {tys : Array TypeId} {vs first cap : List Value} {q : FuncId} {gd : Nat × Bool} {c : Bool} {v : Value} (ho : ops[i]? = some ⟨some d, .call ⟨.value f, args.toArray, tys⟩, ty, pos, after, some gd⟩)
    (he : eff.contains i = true) (hg : GU ops n F gd c)
    (p : c = true → Ev n F f (.func (.func q) first.toArray cap.toArray) ∧ Evs n F args vs ∧ ∀ fr, CT P q (first ++ vs ++ cap) (fr ++ (hp ++ hs)) m (Pure1 (fr ++ (hp ++ hs)) v)) (hd : d < n.num)
    (k : SR P ops Q n eff t hs s ((d, gv c v) :: F) hp m) : SR P ops Q n eff t hs (.op i s) F hp m := ⟨_, ho, fun x hx => by cases hx; exact hd, by
  rw [he]
  refine ⟨fun fr a w ha st => ?_⟩
  have hy := hg.wanted (dst := some d) (op := .call ⟨.value f, args.toArray, tys⟩) (ty := ty) (pos := pos) (after := after) ha
  cases c with
  | true =>
    refine ⟨fun _ => ?_, fun h => by rw [hy] at h; cases h⟩
    obtain ⟨ef, ea, ct⟩ := p rfl
    rw [run_call ha ef ea (ct fr).enter]
    refine Calls.mono ((ct fr).calls w st) ?_
    rintro e w' ⟨v', m', h', rfl, hle, hst, rfl, rfl⟩
    exact .inl ⟨_, rfl, m, hp, View.le.refl m, hst.back hle, nofun, k.e⟩
  | false => exact ⟨fun h => (by rw [hy] at h; cases h), fun _ => ⟨nofun, k.e⟩⟩⟩
end

/- structs compared -/
def eqC (d : TypeDesc) : Value → Value → Option Bool
  | .bool a, .bool b => match d with
    | .bool => some (a == b)
    | _ => none
  | .int k a, .int k' b => match d with
    | .int _ => if k = k' then some (a == b) else none
    | _ => none
  | .string ⟨⟨a⟩⟩, .string ⟨⟨b⟩⟩ => match d with
    | .string => some (a == b)
    | _ => none
  | _, _ => none
def eqFs (P : Program) (xs ys : List Value) : List Field → Option Bool
  | [] => some true
  | f :: fs => match P.underlying f.type with
    | some d => match plainD d with
      | true => match xs[f.offset]? with
        | some a => match ys[f.offset]? with
          | some b => match eqC d a b with
            | some r => match eqFs P xs ys fs with
              | some q => match (f.name != "_") with
                | true => some (r && q)
                | false => none
              | none => none
            | none => none
          | none => none
        | none => none
      | false => none
    | none => none

theorem run_eqC (w : World) {d : Nat} {t : TypeId} {ds : TypeDesc} (ht : P.underlying t = some ds) {a b : Value} {r : Bool} (he : eqC ds a b = some r) : (Op.equalIn (d + 1) t a b).run P w = .ok r w := by
  unfold eqC at he
  split at he
  · split at he
    · cases he; exact run_equalIn_bool' w d t _ _ ht
    · cases he
  · split at he
    · split at he
      · rename_i hk; subst hk; cases he; exact run_equalIn_int w d t _ _ _ _ ht
      · cases he
    · cases he
  · split at he
    · cases he
      rename_i a b _
      rw [run_equalIn_string w d t _ _ ht, ByteArray.toList_eq, ByteArray.toList_eq]
    · cases he
  · cases he
theorem run_eqFs (w : World) (d : Nat) (xs ys : List Value) : ∀ {fs : List Field} {r : Bool}, eqFs P xs ys fs = some r → (Op.eqFields (d + 1) xs.toArray ys.toArray fs).run P w = .ok r w
  | [], r, he => by cases he; simp [Op.eqFields]
  | f :: fs, r, he => by
    unfold eqFs at he
    cases h1 : P.underlying f.type with
    | none => simp [h1] at he
    | some ds =>
      simp only [h1] at he
      cases h2 : plainD ds with
      | false => simp [h2] at he
      | true =>
        simp only [h2] at he
        cases h3 : xs[f.offset]? with
        | none => simp [h3] at he
        | some a =>
          simp only [h3] at he
          cases h4 : ys[f.offset]? with
          | none => simp [h4] at he
          | some b =>
            simp only [h4] at he
            cases h5 : eqC ds a b with
            | none => simp [h5] at he
            | some c =>
              simp only [h5] at he
              cases h6 : eqFs P xs ys fs with
              | none => simp [h6] at he
              | some q =>
                simp only [h6] at he
                cases h7 : (f.name != "_") with
                | false => simp [h7] at he
                | true =>
                  simp only [h7, Option.some.injEq] at he
                  subst he
                  have h8 : f.name ≠ "_" := by simpa using h7
                  have ih := run_eqFs w d xs ys h6
                  have e5 := run_eqC (P := P) w (d := d) h1 h5
                  simp only [Op.eqFields, if_pos h8, Sem.run_bind]
                  have ea : (part f.type xs.toArray f.offset).run P w = .ok a w := by simp [part, run_isAgg_plain w h1 h2, h3]
                  have eb : (part f.type ys.toArray f.offset).run P w = .ok b w := by simp [part, run_isAgg_plain w h1 h2, h4]
                  rw [ea, Result.andThen_ok, eb, Result.andThen_ok, e5, Result.andThen_ok]
                  cases c
                  · simp
                  · simpa using ih

theorem PO.eqlA {x y : Operand} {t t' : TypeId} {fs : Array Field} {as bs : List Value} {r : Bool} (ht : P.underlying t = some (.struct fs)) (hs : P.stoodInHeld t = false) (hm : P.eqGuardType P.depth t = false) (ex : Ev n F x (.agg as.toArray)) (ey : Ev n F y (.agg bs.toArray))
    (hr : eqFs P as bs fs.toList = some r) : PO P ⟨dst, .binOp .eql t x y t', ty, pos, after, g⟩ n F h m (.bool r) := .mk fun a w ha _ => by
  have hf : P.fieldsOf t = fs := by simp [Program.fieldsOf, ht]
  have e1 := run_equalIn_struct (P := P) w 9999 t as.toArray bs.toArray (by rw [hf]; exact ht) hs
  rw [hf, run_eqFs w 9998 as bs hr] at e1
  simp [execOp, ex a ha, ey a ha, run_eqGuard_agg w _ t _ _ _ _ hm, run_eql_struct, e1]
theorem PO.neqA {x y : Operand} {t t' : TypeId} {fs : Array Field} {as bs : List Value} {r : Bool} (ht : P.underlying t = some (.struct fs)) (hs : P.stoodInHeld t = false) (hm : P.eqGuardType P.depth t = false) (ex : Ev n F x (.agg as.toArray)) (ey : Ev n F y (.agg bs.toArray))
    (hr : eqFs P as bs fs.toList = some r) : PO P ⟨dst, .binOp .neq t x y t', ty, pos, after, g⟩ n F h m (.bool (!r)) := .mk fun a w ha _ => by
  have hf : P.fieldsOf t = fs := by simp [Program.fieldsOf, ht]
  have e1 := run_equalIn_struct (P := P) w 9999 t as.toArray bs.toArray (by rw [hf]; exact ht) hs
  rw [hf, run_eqFs w 9998 as bs hr] at e1
  simp [execOp, ex a ha, ey a ha, run_eqGuard_agg w _ t _ _ _ _ hm, run_neq_struct, e1]

/- lists as cells -/
def fl {α : Type} (enc : α → List Value) (l : List α) : List Value := l.flatMap enc
section
variable {α : Type} {enc : α → List Value} {sz : Nat}
theorem fl_app (l r : List α) : fl enc (l ++ r) = fl enc l ++ fl enc r := by simp [fl]
theorem fl_one (x : α) : fl enc [x] = enc x := by simp [fl]
theorem fl_snoc (l : List α) (x : α) : fl enc l ++ enc x = fl enc (l ++ [x]) := by simp [fl]
theorem fl_len (henc : ∀ x, (enc x).length = sz) (l : List α) : (fl enc l).length = l.length * sz := by
  induction l with
  | nil => simp [fl]
  | cons x l ih => simp only [fl, List.flatMap_cons, List.length_append, henc, List.length_cons, Nat.add_mul] at ih ⊢; omega
theorem fl_drop (henc : ∀ x, (enc x).length = sz) (l : List α) (k : Nat) : (fl enc l).drop (k * sz) = fl enc (l.drop k) := by
  induction l generalizing k with
  | nil => simp [fl]
  | cons x l ih =>
    cases k with
    | zero => simp
    | succ k =>
      have := ih k
      simp only [fl, List.flatMap_cons, List.drop_succ_cons] at this ⊢
      rw [List.drop_append, henc, List.drop_eq_nil_of_le (by rw [henc, Nat.add_mul]; omega), List.nil_append, show (k + 1) * sz - sz = k * sz by rw [Nat.add_mul]; omega, this]
theorem fl_take (henc : ∀ x, (enc x).length = sz) (l : List α) (k : Nat) : (fl enc l).take (k * sz) = fl enc (l.take k) := by
  induction l generalizing k with
  | nil => simp [fl]
  | cons x l ih =>
    cases k with
    | zero => simp [fl]
    | succ k =>
      have := ih k
      simp only [fl, List.flatMap_cons, List.take_succ_cons] at this ⊢
      rw [List.take_append, henc, List.take_of_length_le (by rw [henc, Nat.add_mul]; omega), show (k + 1) * sz - sz = k * sz by rw [Nat.add_mul]; omega, this]
theorem fl_at (henc : ∀ x, (enc x).length = sz) {l : List α} {q : Nat} {x : α} (hx : l[q]? = some x) : ∀ j v, (enc x)[j]? = some v → (fl enc l)[q * sz + j]? = some v := by
  intro j v hj
  have h1 : j < sz := by have := (List.getElem?_eq_some_iff.1 hj).1; rwa [henc] at this
  have := flat_get (sz := sz) enc henc l q j h1
  rw [fl, this, hx]
  exact hj
theorem Rd.subF {a : Option Addr} {k cap : Nat} {l : List α} (henc : ∀ x, (enc x).length = sz) (s : Rd m h a k cap sz (fl enc l)) {i j : Nat} (h1 : i ≤ j) (h2 : j ≤ k) :
    Rd m h (sl1 a i cap sz) (j - i) (cap - i) sz (fl enc ((l.drop i).take (j - i))) := by
  have := s.sub h1 h2
  rwa [fl_drop henc, fl_take henc] at this
theorem Rd.takeF {a : Option Addr} {k cap : Nat} {l : List α} (henc : ∀ x, (enc x).length = sz) (s : Rd m h a k cap sz (fl enc l)) {j : Nat} (h2 : j ≤ k) :
    Rd m h (sl1 a 0 cap sz) j cap sz (fl enc (l.take j)) := by
  have := s.subF henc (Nat.zero_le j) h2
  simpa using this
theorem Rd.lenF {a : Option Addr} {k cap : Nat} {l : List α} (henc : ∀ x, (enc x).length = sz) (h0 : 0 < sz) (s : Rd m h a k cap sz (fl enc l)) : l.length = k := by
  have := s.len
  rw [fl_len henc] at this
  exact Nat.eq_of_mul_eq_mul_right h0 this
theorem Rd.dropF {a : Option Addr} {k cap : Nat} {l : List α} (henc : ∀ x, (enc x).length = sz) (h0 : 0 < sz) (s : Rd m h a k cap sz (fl enc l)) {i : Nat} (h1 : i ≤ k) :
    Rd m h (sl1 a i cap sz) (k - i) (cap - i) sz (fl enc (l.drop i)) := by
  have := s.subF henc h1 (Nat.le_refl k)
  rwa [List.take_of_length_le (by have := s.lenF henc h0; simp; omega)] at this
theorem Sl.subF {a : Option Addr} {k cap : Nat} {l : List α} (henc : ∀ x, (enc x).length = sz) (s : Sl m a k cap sz (fl enc l)) {i j : Nat} (h1 : i ≤ j) (h2 : j ≤ k) :
    Sl m (sl1 a i cap sz) (j - i) (cap - i) sz (fl enc ((l.drop i).take (j - i))) := by
  have := s.sub h1 h2
  rwa [fl_drop henc, fl_take henc] at this
end
theorem Rd.nilF {α : Type} (enc : α → List Value) (sz : Nat) (m : View) (h : List Res) : Rd m h none 0 0 sz (fl enc []) := ⟨by simp [fl], Nat.le_refl _, by omega, fun _ _ j u hj => by simp [fl] at hj⟩
theorem get_some {α : Type} {l : List α} {k : Nat} (hk : k < l.length) : ∃ x, l[k]? = some x := ⟨l[k], List.getElem?_eq_getElem hk⟩
theorem take_snoc {α : Type} {l : List α} {k : Nat} {x : α} (hx : l[k]? = some x) : l.take (k + 1) = l.take k ++ [x] := by
  rw [List.take_add_one, hx]; rfl

theorem Rd.inRow {a : Option Addr} {k cap sz : Nat} {e : TypeId} {ys : List Value} (hm : Res.row (.slice a k cap) e sz k ys ∈ h) (hl : ys.length = k * sz) (hle : k ≤ cap) (hmx : cap ≤ 9223372036854775807) : Rd m h a k cap sz ys := Rd.ofRow hl hle hmx hm
/- an element of a list, loaded -/
theorem PO.loadB {x : Operand} {t : TypeId} {u : TypeDesc} {a : Option Addr} {len cap q : Nat} {bs : List UInt8} {b : UInt8} (ht : P.underlying t = some u) (hp : plainD u = true) (hs : Rd m h a len cap 1 (bv bs))
    (ex : Ev n F x (.pointer (elt a (q * 1)))) (hx : bs[q]? = some b) : PO P ⟨dst, .load t x, ty, pos, after, g⟩ n F h m (.int .u8 b.toNat) :=
  PO.loadE ht hp hs ex (by rw [Nat.mul_one]; exact bv_get hx)
theorem PO.loadF1 {α : Type} {enc : α → List Value} {x : Operand} {t : TypeId} {u : TypeDesc} {a : Option Addr} {len cap q : Nat} {l : List α} {y : α} {v : Value} (ht : P.underlying t = some u) (hp : plainD u = true) (henc : ∀ x, (enc x).length = 1) (hs : Rd m h a len cap 1 (fl enc l))
    (ex : Ev n F x (.pointer (elt a (q * 1)))) (hx : l[q]? = some y) (hv : enc y = [v]) : PO P ⟨dst, .load t x, ty, pos, after, g⟩ n F h m v :=
  PO.loadE ht hp hs ex (by have := fl_at henc hx 0 v (by rw [hv]; rfl); simpa using this)
theorem PO.loadFA {α : Type} {enc : α → List Value} {x : Operand} {t : TypeId} {u : TypeDesc} {a : Option Addr} {len cap q sz : Nat} {l : List α} {y : α} {vs : List Value} (ht : P.underlying t = some u) (hp : plainD u = false) (hq : (P.info? t).isSome = true) (henc : ∀ x, (enc x).length = sz)
    (hs : Rd m h a len cap sz (fl enc l)) (ex : Ev n F x (.pointer (elt a (q * sz)))) (hx : l[q]? = some y) (hv : enc y = vs) (hl : P.cellsOf t = vs.length) (h0 : 0 < vs.length) : PO P ⟨dst, .load t x, ty, pos, after, g⟩ n F h m (.agg vs.toArray) :=
  PO.loadEA ht hp hq hs ex hl h0 (fun j v hj => fl_at henc hx j v (by rw [hv]; exact hj))
theorem PO.loadFf {α : Type} {enc : α → List Value} {x : Operand} {t : TypeId} {u : TypeDesc} {a : Option Addr} {len cap q sz o : Nat} {l : List α} {y : α} {v : Value} (ht : P.underlying t = some u) (hp : plainD u = true) (henc : ∀ x, (enc x).length = sz) (hs : Rd m h a len cap sz (fl enc l))
    (ex : Ev n F x (.pointer (elt a (q * sz + o)))) (hx : l[q]? = some y) (hv : (enc y)[o]? = some v) : PO P ⟨dst, .load t x, ty, pos, after, g⟩ n F h m v :=
  PO.loadE ht hp hs ex (fl_at henc hx o v hv)
theorem one_of {ys : List Value} (h : ys.all (·.oneCell') = true) : ∀ u ∈ ys, u.oneCell' = true := by simpa using h
theorem fl_ones {α : Type} {enc : α → List Value} (h : ∀ x, (enc x).all (·.oneCell') = true) (l : List α) : ∀ u ∈ fl enc l, u.oneCell' = true := by
  intro u hu
  simp only [fl, List.mem_flatMap] at hu
  obtain ⟨x, _, hx⟩ := hu
  exact one_of (h x) u hx

/- lists compared -/
def eqL {α : Type} (e : α → α → Bool) : List α → List α → Bool
  | [], [] => true
  | x :: xs, y :: ys => e x y && eqL e xs ys
  | _, _ => false
theorem eqL_len {α : Type} (e : α → α → Bool) : ∀ (xs ys : List α), xs.length ≠ ys.length → eqL e xs ys = false
  | [], [], h => absurd rfl h
  | [], _ :: _, _ => rfl
  | _ :: _, [], _ => rfl
  | x :: xs, y :: ys, h => by rw [eqL, eqL_len e xs ys (by simpa using h), Bool.and_false]
theorem eqL_drop {α : Type} (e : α → α → Bool) {xs ys : List α} {k : Nat} {x y : α} (hx : xs[k]? = some x) (hy : ys[k]? = some y) : eqL e (xs.drop k) (ys.drop k) = (e x y && eqL e (xs.drop (k + 1)) (ys.drop (k + 1))) := by
  obtain ⟨h1, rfl⟩ := List.getElem?_eq_some_iff.1 hx
  obtain ⟨h2, rfl⟩ := List.getElem?_eq_some_iff.1 hy
  rw [List.drop_eq_getElem_cons h1, List.drop_eq_getElem_cons h2, eqL]
theorem eqL_iff {α : Type} {e : α → α → Bool} (he : ∀ x y, e x y = true ↔ x = y) : ∀ {xs ys : List α}, eqL e xs ys = true ↔ xs = ys
  | [], [] => by simp [eqL]
  | [], _ :: _ => by simp [eqL]
  | _ :: _, [] => by simp [eqL]
  | x :: xs, y :: ys => by simp [eqL, he, eqL_iff he]
theorem eqL_self {α : Type} {e : α → α → Bool} (he : ∀ x y, e x y = true ↔ x = y) (xs : List α) : eqL e xs xs = true := (eqL_iff he).2 rfl
/-- A slice of the call's own, over everything that was owned before. -/
def OwnF {α : Type} (enc : α → List Value) (e sz : Nat) (h : List Res) (xs : List α) : Value → List Res → Prop := fun v h' => ∃ a c k, k = xs.length ∧ v = .slice a k c ∧ h' = .row (.slice a k c) e sz k (fl enc xs) :: h

/- an element of an array in memory -/
theorem PO.idxA {x i : Operand} {t e len : Nat} {b off sz q : Nat} {k : IntKind} {j : Int} (ht : P.underlying t = some (.array len e)) (hsz : (P.info? e).map (·.size) = some sz)
    (ex : Ev n F x (.pointer (some ⟨b, off, none⟩))) (ei : Ev n F i (.int k j)) (hj : j = (q : Int)) (hq : q < len) :
    PO P ⟨dst, .indexAddr t x i, ty, pos, after, g⟩ n F h m (.pointer (some ⟨b, off + q * sz, none⟩)) := .mk fun c w ha st => by
  subst hj
  cases hi : P.info? e with
  | none => simp [hi] at hsz
  | some i0 =>
    have e1 : i0.size = sz := by simpa [hi] using hsz
    have e2 : (q : Int) < len := by omega
    simp [execOp, ex c ha, ei c ha, Instr.indexAt, asIntOf, Instr.sureAddr, run_underlying ht, sizeOf, typeInfo, hi, e1, hq, Addr.add_lit]
theorem PO.buildArr {t e len sz : Nat} {ps : List (Nat × Operand)} {vs : List (Nat × Value)} {z : Value} {zs cs : List Value} (ht : P.underlying t = some (.array len e)) (hsz : (P.info? e).map (·.size) = some sz)
    (hz : (P.info? t).bind (·.zero) = some z) (hzs : cellsO z = some zs) (ev : EvP n F ps vs) (hf : fillO (fun i => some (i * sz, sz)) zs vs = some cs) : PO P ⟨dst, .build t ps.toArray, ty, pos, after, g⟩ n F h m (.agg cs.toArray) := .mk fun f w hf' _ => by
  have hfill := fill_of_fillO hf
  have em : (ps.toArray.map fun (i, x) => (i, f.eval x)) = vs.toArray := by
    rw [List.map_toArray]; exact congrArg List.toArray (ev.map hf')
  have hzc : z.cells = zs.toArray := by rw [← cellsO_spec hzs]
  simp only [execOp]
  rw [em]
  have hrun : (Instr.build t vs.toArray).run P w = .ok (.agg cs.toArray) w := by
    cases hi : P.info? t with
    | none => simp [hi] at hz
    | some i =>
      cases hi2 : P.info? e with
      | none => simp [hi2] at hsz
      | some i2 =>
        have hz' : i.zero = some z := by simpa [hi] using hz
        have hs' : i2.size = sz := by simpa [hi2] using hsz
        simp only [Instr.build, zeroValue, sizeOf, typeInfo, Sem.run_bind, run_program, Result.andThen_ok, hi, hi2, Sem.run_pure, hz', run_underlying ht, hs', hzc]
        simp only [hfill]
        rfl
  simp [hrun]
/-- The whole of an array as a slice. -/
theorem PO.sliceArr {x : Operand} {t e len : Nat} {b sz : Nat} (ht : P.underlying t = some (.array len e)) (hsz : (P.info? e).map (·.size) = some sz) (h0 : 0 < len)
    (ex : Ev n F x (.pointer (some ⟨b, 0, none⟩))) : PO P ⟨dst, .slice t x none none none, ty, pos, after, g⟩ n F h m (.slice (some ⟨b, 0, none⟩) len len) := .mk fun c w ha st => by
  cases hi : P.info? e with
  | none => simp [hi] at hsz
  | some i0 =>
    have h1 : len ≠ 0 := by omega
    simp [execOp, ex c ha, Instr.sliceAt, Instr.sureAddr, run_underlying ht, Instr.sliceBounds, sizeOf, typeInfo, hi, Addr.add_lit]
/-- A store of one cell at any place of a block. -/
theorem WL.storeC {x y : Operand} {t : TypeId} {b off : Nat} {cs : List Value} {e : TypeId} {v : Value} (hq : (P.info? t).map (·.size) = some 1) (ex : Ev n F x (.pointer (some ⟨b, off, none⟩))) (ey : Ev n F y v)
    (hvs : cellsO v = some [v]) (h1 : v.oneCell' = true) (hl : off < cs.length)
    (u : Upd h (.pt b (.cells cs.toArray e (0, 0))) (.pt b (.cells (cs.set off v).toArray e (0, 0))) h') (k : WL P ops Q n rest F h' m) :
    WL P ops Q n (⟨none, .store t x y, ty, pos, after, none⟩ :: rest) F h m := by
  refine WL.storeW (vs := [v]) (cs := cs) (e := e) hq ex ey (cellsO_spec hvs) (by simpa using h1) hl ?_ k
  have : cs.take off ++ [v] ++ cs.drop (off + [v].length) = cs.set off v := by
    rw [List.set_eq_take_append_cons_drop, if_pos hl]; simp
  rw [this]
  exact u

/-- The cells of a block are what they are said to be. -/
theorem WL.ptE {l : List Oper} {b : Nat} {cs cs' : List Value} {e : TypeId} {fz : Nat × Nat} (he : cs = cs') (u : Upd h (.pt b (.cells cs.toArray e fz)) (.pt b (.cells cs'.toArray e fz)) h') (k : WL P ops Q n l F h' m) : WL P ops Q n l F h m :=
  WL.conv u rfl (fun w hw => by subst he; exact hw) k
theorem WL.rowE {l : List Oper} {v v' : Value} {e : TypeId} {sz k k' : Nat} {xs xs' : List Value} (hv : v = v') (hk : k = k') (he : xs = xs') (u : Upd h (.row v e sz k xs) (.row v' e sz k' xs') h') (kk : WL P ops Q n l F h' m) : WL P ops Q n l F h m :=
  WL.conv u (by subst hv; rfl) (fun w hw => by subst hv hk he; exact hw) kk
theorem WC.rowE {c : Code} {v v' : Value} {e : TypeId} {sz k k' : Nat} {xs xs' : List Value} (hv : v = v') (hk : k = k') (he : xs = xs') (u : Upd h (.row v e sz k xs) (.row v' e sz k' xs') h') (kk : WC P c Q n F h' m) : WC P c Q n F h m :=
  .mk fun a w ha hs => kk a w ha (hs.conv u (by subst hv; rfl) (fun hw => by subst hv hk he; exact hw))

/-- append; what the slice holds then is said in one's own words. -/
theorem WL.appendE {x y : Operand} {t e : TypeId} {sz by_ l cap k c l' : Nat} {a b : Option Addr} {xs ys zs : List Value} {hq : Value → List Res} (E : EL P t e sz by_) (ex : Ev n F x (.slice a l cap)) (ey : Ev n F y (.slice b k c))
    (rd : Rd m h b k c sz ys) (h1 : ∀ u ∈ ys, u.oneCell' = true) (hl : l + k = l') (hz : xs ++ ys = zs) (h63 : l' ≤ 9223372036854775807) (hbytes : l' * by_ ≤ 140737488355328)
    (u : ∀ v', Upd h (.row (.slice a l cap) e sz l xs) (.row v' e sz l' zs) (hq v')) (hd : d < n.num) (kk : ∀ a' cap', WL P ops Q n rest ((d, .slice a' l' cap') :: F) (hq (.slice a' l' cap')) m) :
    WL P ops Q n (⟨some d, .call ⟨.builtin .append, #[x, y], #[t, t]⟩, ty, pos, after, none⟩ :: rest) F h m := by
  subst hl hz
  exact WL.append E ex ey rd h1 h63 hbytes u hd kk

/- values said in one's own words -/
theorem WL.val {l : List Oper} {d : Nat} {v v' : Value} (e : v = v') (k : WL P ops Q n l ((d, v') :: F) h m) : WL P ops Q n l ((d, v) :: F) h m := e ▸ k

/- a loop; the slots of `inv` hold at every round's head what they hold at its start -/
theorem Sub.app {F A B : Fm} (ha : Sub F A) (hb : Sub F B) : Sub F (A ++ B) := by
  induction ha with
  | nil => exact hb
  | cons h _ ih => exact .cons h ih
theorem Sub.ofKeep {F : Fm} : ∀ {ts : List Nat} {F' : Fm}, keep F ts = some F' → Sub F F'
  | [], F', h => by simp only [keep, Option.some.injEq] at h; subst h; exact .nil
  | s :: ts, F', h => by
    simp only [keep] at h
    cases h2 : keep F ts with
    | none => simp [h2] at h
    | some r =>
      cases h1 : Eng.look F s with
      | none => simp only [h1, h2, Option.some.injEq] at h; subst h; exact Sub.ofKeep h2
      | some u => simp only [h1, h2, Option.some.injEq] at h; subst h; exact .cons h1 (Sub.ofKeep h2)
def appF : Fm → Fm → Option Fm
  | [], r => some r
  | x :: l, r => match appF l r with
    | some t => some (x :: t)
    | none => none
theorem appF_eq : ∀ {l r t : Fm}, appF l r = some t → l ++ r = t
  | [], r, t, h => by simp only [appF, Option.some.injEq] at h; exact h
  | x :: l, r, t, h => by
    simp only [appF] at h
    cases h1 : appF l r with
    | none => simp [h1] at h
    | some q => simp only [h1, Option.some.injEq] at h; subst h; simp [appF_eq h1]
theorem WC.frm {c : Code} {A B G : Fm} (hG : appF A B = some G) (k : WC P c Q n G h m) : WC P c Q n (A ++ B) h m := appF_eq hG ▸ k
theorem WC.loopI {c : Code} (inv : List Nat) {Fi : Fm} (hk : keep F inv = some Fi) (J : Nat → Fm → List Res → Prop) (μ : Nat) (F0 : Fm) (hsub : Sub F F0) {h0 : List Res} (hh : h0.Sublist h) (hJ : J μ F0 h0)
    (round : ∀ μ F' h', J μ F' h' → WC P c (Exit.then (fun a w => ∃ μ' F'' h'', μ' < μ ∧ J μ' F'' h'' ∧ Fr n (F'' ++ Fi) a ∧ St m h'' w) Q) n (F' ++ Fi) h' m) :
    WC P (.loop c) Q n F h m := by
  refine WC.drop hh (WC.loop (fun μ G h' m' => ∃ F', G = F' ++ Fi ∧ J μ F' h' ∧ m' = m) μ (F0 ++ Fi) (hsub.app (Sub.ofKeep hk)) ⟨F0, rfl, hJ, rfl⟩ ?_)
  rintro μ G h' m' ⟨F', rfl, hJ, rfl⟩
  refine .mk fun a w ha hs => wpIn_mono ((round μ F' h' hJ).e a w ha hs) fun e a' w' hq => ?_
  cases e with
  | normal =>
    obtain ⟨μ', F'', h'', hlt, hJ', hf, hst⟩ := hq
    exact ⟨μ', F'' ++ Fi, h'', m', hlt, ⟨F'', rfl, hJ', rfl⟩, hf, hst⟩
  | _ => exact hq
theorem loopBackI {J : Nat → Fm → List Res → Prop} {Fi : Fm} {μ : Nat} (μ' : Nat) (F'' : Fm) {h'' : List Res} (hlt : μ' < μ) (hs : Sub F F'') (hi : Sub F Fi) (hh : h''.Sublist h) (hJ : J μ' F'' h'') :
    ∀ a w, Fr n F a → St m h w → ∃ μ' F'' h'', μ' < μ ∧ J μ' F'' h'' ∧ Fr n (F'' ++ Fi) a ∧ St m h'' w :=
  fun _ _ ha st => ⟨μ', F'', h'', hlt, hJ, ha.sub (hs.app hi).look, st.sub hh⟩
theorem Sub.consE {F r : Fm} {t : Nat} {u v : Value} (hl : Eng.look F t = some u) (e : u = v) (k : Sub F r) : Sub F ((t, v) :: r) := .cons (e ▸ hl) k

/-- Two ways meet: J says what holds then. -/
theorem WC.cut {x y : Code} (J : Fm → List Res → Prop) (k1 : WC P x (Exit.then (fun a w => ∃ F' h', J F' h' ∧ Fr n F' a ∧ St m h' w) Q) n F h m)
    (k2 : ∀ F' h', J F' h' → WC P y Q n F' h' m) : WC P (.seq x y) Q n F h m := .mk fun a w ha hs => by
  refine wpIn_seq (wpIn_mono (k1.e a w ha hs) fun e a' w' hq => ?_)
  cases e with
  | normal =>
    obtain ⟨F', h', hJ, hf, hst⟩ := hq
    exact (k2 F' h' hJ).e a' w' hf hst
  | _ => exact hq
theorem meet {J : Fm → List Res → Prop} (F' : Fm) {h'' : List Res} (hs : Sub F F') (hh : h''.Sublist h) (hJ : J F' h'') :
    ∀ a w, Fr n F a → St m h w → ∃ F' h', J F' h' ∧ Fr n F' a ∧ St m h' w :=
  fun _ _ ha st => ⟨F', h'', hJ, ha.sub hs.look, st.sub hh⟩
/-- Two ways meet; the slots of `inv` hold what they held ahead of the parting. -/
theorem WC.cutK {x y : Code} {K : Act → World → Prop} (hK : ∀ ds F h m, WC P y Q { n with ds := ds } F h m → ∀ a w, Fr { n with ds := ds } F a → St m h w → K a w) (inv : List Nat) {Fi : Fm} (hk : keep F inv = some Fi) (J : Fm → List Res → Prop)
    (k1 : WC P x (Exit.then (fun a w => ∃ F' h', J F' h' ∧ Fr n (F' ++ Fi) a ∧ St m h' w) Q) n F h m)
    (k2 : ∀ F' h', J F' h' → WC P y Q n (F' ++ Fi) h' m) : WC P x (Exit.then K Q) n F h m := .mk fun a w ha hs => by
  have _ := hk
  refine wpIn_mono (k1.e a w ha hs) fun e a' w' hq => ?_
  cases e with
  | normal =>
    obtain ⟨F', h', hJ, hf, hst⟩ := hq
    exact hK n.ds _ _ _ (k2 F' h' hJ) a' w' hf hst
  | _ => exact hq
theorem meetI {J : Fm → List Res → Prop} {Fi : Fm} (F'' : Fm) {h'' : List Res} (hs : Sub F F'') (hi : Sub F Fi) (hh : h''.Sublist h) (hJ : J F'' h'') :
    ∀ a w, Fr n F a → St m h w → ∃ F' h', J F' h' ∧ Fr n (F' ++ Fi) a ∧ St m h' w :=
  fun _ _ ha st => ⟨F'', h'', hJ, ha.sub (hs.app hi).look, st.sub hh⟩
end
end Go.Eng

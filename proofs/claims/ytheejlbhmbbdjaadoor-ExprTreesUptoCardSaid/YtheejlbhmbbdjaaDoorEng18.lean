/- Eng18, Eng19, Eng20, Eng21, Eng22, Eng23 as one text. -/
import Derived.Test.YtheejlbhmbbdjaaDoorEng8
import Derived.RangeFuncRecord
import Derived.Scope
import Derived.Lib.AppendStr
import Derived.Lib.UnsafeStr
import Derived.Lib.Builder
import Derived.Laws.Externs
import Derived.Recover
import Derived.Defers
/- A range over a function: the loop's record, its rounds, what comes behind; a function that leaves with the loop's mark. -/
namespace Go.Eng
open Go Go.RowKit

/-- A call of yield: a round is asked for, and ends in R. -/
def YieldR (P : Program) (l : Nat) (v : Value) (w : World) (R : Bool → World → Prop) : Prop :=
  ∃ fn tmps assign body, (Instr.yield l #[v]).run P w = .ok (.round l fn tmps assign body) w ∧
    RoundIn (fen none) 0 P l fn tmps assign body w fun e w' => ∃ b, e = .returned (.bool b) ∧ R b w'
theorem YieldR.mono {P : Program} {l : Nat} {v : Value} {w : World} {R R' : Bool → World → Prop} (h : YieldR P l v w R) (hr : ∀ b w', R b w' → R' b w') : YieldR P l v w R' := by
  obtain ⟨fn, tmps, assign, body, h1, h2⟩ := h
  exact ⟨fn, tmps, assign, body, h1, h2.mono fun e w' ⟨b, e1, e2⟩ => ⟨b, e1, hr b w' e2⟩⟩
/-- What the function that is ranged over knows of yield. -/
def YieldK {α : Type} (P : Program) (m : View) (l : Nat) (enc : α → Value) (xs : List α) (J : List α → List Res → Prop) (Jx : List Res → Prop) : Prop :=
  ∀ pre x post h fr w, xs = pre ++ x :: post → J pre h → St m (fr ++ h) w →
    YieldR P l (enc x) w fun b w' => ∃ h', St m (fr ++ h') w' ∧ ((b = true ∧ J (pre ++ [x]) h') ∨ (b = false ∧ Jx h'))

section
variable {P : Program} {ops : Array Oper} {Q : Exit → Act → World → Prop} {n : Cx} {F : Fm} {h h' : List Res} {m : View} {rest : List Oper}
variable {op : Op} {ty : TypeId} {pos : String} {after : Array Edge} {d : Nat} {v : Value}

theorem St.at {b : Nat} {o : Obj} {w : World} (s : St m h w) (hm : Res.pt b o ∈ h) : w.heap[b]? = some o := s.ok _ hm
theorem SR.appendE {eff : List Nat} {t' : Tl} {hs hp : List Res} {i : Nat} {s : Tr} {x y : Operand} {t e : TypeId} {sz by_ l cap k c l' : Nat} {a b : Option Addr} {xs ys zs : List Value} {hq : Value → List Res}
    (ho : ops[i]? = some ⟨some d, .call ⟨.builtin .append, #[x, y], #[t, t]⟩, ty, pos, after, none⟩) (he : eff.contains i = true) (E : EL P t e sz by_) (ex : Ev n F x (.slice a l cap)) (ey : Ev n F y (.slice b k c))
    (rd : Rd m (hp ++ hs) b k c sz ys) (h1 : ∀ u ∈ ys, u.oneCell' = true) (hl : l + k = l') (hz : xs ++ ys = zs) (h63 : l' ≤ 9223372036854775807) (hbytes : l' * by_ ≤ 140737488355328)
    (u : ∀ v', Upd hp (.row (.slice a l cap) e sz l xs) (.row v' e sz l' zs) (hq v')) (hd : d < n.num) (kk : ∀ a' cap', SR P ops Q n eff t' hs s ((d, .slice a' l' cap') :: F) (hq (.slice a' l' cap')) m) :
    SR P ops Q n eff t' hs (.op i s) F hp m := by
  subst hl hz
  exact SR.append ho he E ex ey rd h1 h63 hbytes u hd kk
/-- A list of operations among which yield is called. -/
structure WY (P : Program) (ops : Array Oper) (Q : Exit → Act → World → Prop) (n : Cx) (l : List Oper) (F : Fm) (h : List Res) (m : View) : Prop where
  e : ∀ a w, Fr n F a → St m h w → wpListIn (fen n.ro) 0 P ops (cutQ Q) l a w
theorem WY.ofWL {l : List Oper} (hp : l.all plainOp = true) (k : WL P ops Q n l F h m) : WY P ops Q n l F h m :=
  .mk fun a w ha hs => list_to_in l a w (by simpa using hp) (k.e a w ha hs)
theorem WC.regionY {id : Nat} {l : List Oper} {G : List (Option Nat)} (hG : dsts l = some G) (k : ∀ ops : Array Oper, (∀ j t, G[j]? = some (some t) → gslot ops j = some t) → WY P ops Q n l F h m) : WC P (.region id l.toArray false) Q n F h m := .mk fun a w ha hs =>
  wpIn_region_lit ((k _ fun j t hj => by
    have hG := dsts_eq hG
    subst hG
    unfold gslot
    simp only [List.getElem?_map] at hj
    simp only [List.getElem?_toArray]
    cases hl : l[j]? with
    | none => simp [hl] at hj
    | some o => simpa [hl] using hj).e a w ha hs)

theorem cutQ_noGoto {Q : Exit → Act → World → Prop} {e : Exit} {a : Act} {w : World} (h : cutQ (Exit.noGoto Q) e a w) : Exit.noGoto (cutQ Q) e a w := by
  cases e <;> exact h
theorem WC.scope {c : Code} (hro : n.ro = none) (k : WC P c (Exit.noGoto Q) n F h m) : WC P (.scope c) Q n F h m := .mk fun a w ha hs => by
  have hk := k.e a w ha hs
  rw [hro] at hk ⊢
  exact wpIn_wide.2 (wp_scope_straight (wpIn_wide.1 (wpIn_mono hk fun _ _ _ q => cutQ_noGoto q)))
theorem wpIn_of_run {o : Oper} {a : Act} {w w' : World} {K : Act → World → Prop} {v : Value} (hro : n.ro = none) (hr : (execOp a.eval o).run P w = .ok (.value v) w') (h : K (a.put o.dst v) w') : o.wpIn (fen n.ro) 0 P a w K Q := by
  refine ⟨fun _ _ => trivial, ?_⟩
  show o.uponIn (fen n.ro) 0 P a K Q ((o.semAt n.ro a.eval).run P w)
  rw [hro, Oper.semAt_none, hr]
  exact h
theorem WY.po (hro : n.ro = none) (hp : PO P ⟨some d, op, ty, pos, after, none⟩ n F h m v) (hn : d < n.num) (k : WY P ops Q n rest ((d, v) :: F) h m) :
    WY P ops Q n (⟨some d, op, ty, pos, after, none⟩ :: rest) F h m := .mk fun a w ha hs => by
  unfold wpListIn
  rw [if_pos (show Region.wanted _ _ = true from rfl)]
  exact wpIn_of_run hro (hp a w ha hs) (k.e _ _ (ha.put hn v) hs)
theorem WY.poG {gd : Nat × Bool} {c : Bool} (hro : n.ro = none) (hg : GU ops n F gd c) (hp : c = true → PO P ⟨some d, op, ty, pos, after, some gd⟩ n F h m v) (hn : d < n.num) (k : WY P ops Q n rest ((d, gv c v) :: F) h m) :
    WY P ops Q n (⟨some d, op, ty, pos, after, some gd⟩ :: rest) F h m := .mk fun a w ha hs => by
  have hy := hg.wanted (dst := some d) (op := op) (ty := ty) (pos := pos) (after := after) ha
  unfold wpListIn
  cases c with
  | true =>
    rw [if_pos hy]
    exact wpIn_of_run hro (hp rfl a w ha hs) (k.e _ _ (ha.put hn v) hs)
  | false =>
    rw [if_neg (by rw [hy]; decide)]
    exact ⟨fun _ _ => trivial, k.e _ _ (ha.put hn undef) hs⟩
theorem WY.yieldG {gd : Nat × Bool} {c : Bool} {f x : Operand} {tys : Array TypeId} {l : Nat} {R : Bool → List Res → Prop} (hro : n.ro = none) (hg : GU ops n F gd c)
    (hp : c = true → Ev n F f (.func (.yield l) #[] #[]) ∧ Ev n F x v ∧ ∀ w, St m h w → YieldR P l v w fun b w' => ∃ h', St m h' w' ∧ R b h') (hn : d < n.num)
    (k : ∀ b h', (c = true → R b h') → (c = false → h' = h) → WY P ops Q n rest ((d, gv c (.bool b)) :: F) h' m) :
    WY P ops Q n (⟨some d, .call ⟨.value f, #[x], tys⟩, ty, pos, after, some gd⟩ :: rest) F h m := .mk fun a w ha hs => by
  have hy := hg.wanted (dst := some d) (op := .call ⟨.value f, #[x], tys⟩) (ty := ty) (pos := pos) (after := after) ha
  unfold wpListIn
  cases c with
  | true =>
    rw [if_pos hy]
    obtain ⟨ef, ex, hk⟩ := hp rfl
    obtain ⟨fn, tmps, assign, body, hrun, hR⟩ := hk w hs
    refine ⟨fun _ _ => trivial, ?_⟩
    show Oper.uponIn _ _ _ _ _ _ _ ((Oper.semAt n.ro a.eval _).run P w)
    rw [hro, Oper.semAt_none]
    have hr : (execOp a.eval ⟨some d, .call ⟨.value f, #[x], tys⟩, ty, pos, after, some gd⟩).run P w = .ok (.round l fn tmps assign body) w := by
      simpa [execOp, resolve, ef a ha, ex a ha, Deferred.ofValue, invoke] using hrun
    rw [hr]
    refine ⟨fun hh => (by cases hh), hR.mono ?_⟩
    rintro e w' ⟨b, rfl, h', hst, hb⟩
    have hz := (k b h' (fun _ => hb) (fun hh => by cases hh)).e _ _ (ha.put hn _) hst
    rw [hro] at hz
    exact hz
  | false =>
    rw [if_neg (by rw [hy]; decide)]
    exact ⟨fun _ _ => trivial, (k true h (fun hh => by cases hh) (fun _ => rfl)).e _ _ (ha.put hn undef) hs⟩

def markD (D : Nat) : Deferred := { target := .collected D, args := #[] }
/-- How the body of a round may be left. -/
def roundQ (m : View) (I X : List Res → Prop) (fr : List Res) : Exit → Act → World → Prop
  | .normal, _, w => ∃ hc, I hc ∧ St m (hc ++ fr) w
  | .ret, _, w => ∃ hc, X hc ∧ St m (hc ++ fr) w
  | _, _, _ => False
theorem roundNext {I : List Res → Prop} {fr : List Res} (hc : List Res) (hd : (hc ++ fr).Sublist h) (hI : I hc) : ∀ a w, Fr n F a → St m h w → ∃ hc, I hc ∧ St m (hc ++ fr) w := fun _ _ _ st => ⟨hc, hI, st.sub hd⟩
theorem roundRet {X : List Res → Prop} {fr : List Res} (hc : List Res) (hd : (hc ++ fr).Sublist h) (hX : X hc) : ∀ a w, Fr n F a → St m h w → ∃ hc, X hc ∧ St m (hc ++ fr) w := fun _ _ _ st => ⟨hc, hX, st.sub hd⟩
theorem perm2 {α : Type} (a b : α) (s t : List α) : (s ++ a :: b :: t).Perm (a :: b :: (t ++ s)) :=
  List.perm_middle.trans ((List.perm_middle.trans ((List.perm_append_comm).cons b)).cons a)
theorem perm2' {α : Type} (a b : α) (s t : List α) : (s ++ a :: b :: t).Perm (t ++ a :: b :: s) :=
  (perm2 a b s t).trans (List.perm_middle.trans ((List.perm_middle).cons a)).symm

theorem WC.rangeFunc {α : Type} {N : Nat} {g : Operand} {p : Tmp} {assign body : Code} {gf : FuncId} {lb : List Value} (enc : α → Value) (xs : List α) (hi hc0 : List Res) (I : List α → List Res → Prop) (X : List Res → Prop)
    (hpN : p < N) (eg : Ev ⟨N, none, []⟩ F g (.func (.func gf) #[] lb.toArray)) (ee : ∀ as w, (callFunc gf as).run P w = .ok (.enter gf as) w)
    (it : ∀ (l : Nat) (J : List α → List Res → Prop) (Jx : List Res → Prop) (h0 : List Res), YieldK P m l enc xs J Jx → J [] h0 → CT P gf (.func (.yield l) #[] #[] :: lb) (hi ++ h0) m (fun _ _ h' => J xs h' ∨ Jx h'))
    (hI0 : I [] hc0) (hh : h = hi ++ hc0)
    (round : ∀ (l : Nat) pre x post hc, xs = pre ++ x :: post → I pre hc → ∀ fr (K : Act → World → Prop),
      (∀ F1 h1, (∀ fr2, WC P body (roundQ m (I (pre ++ [x])) X fr2) ⟨N, some l, []⟩ F1 (h1 ++ fr2) m) → ∀ a w, Fr ⟨N, some l, []⟩ F1 a → St m (h1 ++ fr) w → K a w) →
      WC P assign (Exit.then K (fun _ _ _ => False)) ⟨N, some l, []⟩ ((p, enc x) :: F) (hc ++ fr) m)
    (done : ∀ D hc, I xs hc → ∀ a w, Fr ⟨N, none, [markD D]⟩ F a → St m (.pt D (.deferred (some [])) :: hc) w → Q .normal a w)
    (stop : ∀ D hc, X hc → ∀ a w, Fr ⟨N, none, [markD D]⟩ F a → St m (.pt D (.deferred (some [])) :: hc) w → Q .ret a w) :
    WC P (.rangeFunc g #[p] assign body) Q ⟨N, none, []⟩ F h m := .mk fun a w ha hs => by
  subst hh
  have hds : a.defers = [] := ha.d
  refine wpIn_rangeFunc fun fn hfn => ?_
  obtain ⟨rec, hrec⟩ : ∃ rec : LoopState → Option Code → Loop, rec = fun st pe => { state := st, pending := pe, fn, tmps := a.tmps, params := #[p], assign, body, defers := w.heap.size } := ⟨_, rfl⟩
  obtain ⟨D, hD⟩ : ∃ D, D = w.heap.size := ⟨_, rfl⟩
  obtain ⟨l, hl⟩ : ∃ l, l = w.heap.size + 1 := ⟨_, rfl⟩
  have st1 := (hs.alloc (.deferred (some []))).alloc (.loop (rec .ready none))
  rw [World.size_alloc] at st1
  obtain ⟨W1, hW1⟩ : ∃ W1, W1 = (w.alloc (.deferred (some []))).alloc (.loop (rec .ready none)) := ⟨_, rfl⟩
  rw [← hW1, ← hD, show D + 1 = l by omega] at st1
  have frm : Fr ⟨N, none, [markD D]⟩ F { a with defers := [markD D] ++ a.defers } := ⟨by show [markD D] ++ a.defers = _; rw [hds]; rfl, ha.sz, ha.get⟩
  refine ⟨l, [markD D], W1, { target := .fn (.func gf) lb.toArray, args := #[.func (.yield l) #[] #[]] }, W1, gf, #[.func (.yield l) #[] #[]] ++ lb.toArray, W1, ?_, ?_, fun _ _ => trivial, ?_, fun hx => (by cases hx), ?_⟩
  · rw [hW1, hrec, hl, hD]
    exact run_enterLoop_outer _ _ _ _ _
  · simp only [resolve, eg a ha]
    simp [go_sem]
  · simp [invoke, go_sem, ee]
  · have hct := it l (fun pre h' => ∃ hc, h' = .pt l (.loop (rec .ready none)) :: .pt D (.deferred (some [])) :: hc ∧ I pre hc) (fun h' => ∃ hc, h' = .pt l (.loop (rec .done (some .ret))) :: .pt D (.deferred (some [])) :: hc ∧ X hc)
      (.pt l (.loop (rec .ready none)) :: .pt D (.deferred (some [])) :: hc0) ?_ ⟨hc0, rfl, hI0⟩
    · have hcl := hct.calls W1 (st1.perm (perm2 _ _ hi hc0 |>.trans ((List.perm_append_comm.cons _).cons _) |>.symm))
      have e0 : (#[.func (.yield l) #[] #[]] ++ lb.toArray : Array Value) = (.func (.yield l) #[] #[] :: lb).toArray := by simp
      rw [e0]
      refine callsIn_wide.2 (Calls.mono hcl ?_)
      rintro e w' ⟨v, m', h', rfl, hle, hst, hR⟩
      have hst := hst.back hle
      rcases hR with ⟨hc, rfl, hI⟩ | ⟨hc, rfl, hX⟩
      · have h1 : w'.heap[l]? = some (.loop (rec .ready none)) := hst.at (by simp)
        refine ⟨none, _, by have := run_endLoop (P := P) h1 (by rw [hrec]; simp); rw [hrec] at this; exact this, ?_⟩
        exact done D hc hI _ _ frm ((hst.setObj Upd.here).sub (List.sublist_cons_self _ _))
      · have h1 : w'.heap[l]? = some (.loop (rec .done (some .ret))) := hst.at (by simp)
        refine ⟨some .ret, _, by have := run_endLoop (P := P) h1 (by rw [hrec]; simp); rw [hrec] at this; exact this, ?_⟩
        exact wpIn_ret (stop D hc hX _ _ frm ((hst.setObj Upd.here).sub (List.sublist_cons_self _ _)))
    · rintro pre x post h' fr w2 hx ⟨hc, rfl, hI⟩ st2
      have h1 : w2.heap[l]? = some (.loop (rec .ready none)) := st2.at (by simp)
      have hy : (Instr.yield l #[enc x]).run P w2 = .ok (.round l fn (a.tmps.setIfInBounds p (enc x)) assign body) w2 := by
        have := run_yield (P := P) (args := #[enc x]) h1 (by rw [hrec]; rfl)
        rw [hrec] at this
        simpa using this
      refine ⟨fn, _, assign, body, hy, ?_⟩
      refine roundIn_of_wpIn hfn ?_
      obtain ⟨fr1, hfr1⟩ : ∃ fr1, fr1 = Res.pt l (.loop (rec .ready none)) :: .pt D (.deferred (some [])) :: fr := ⟨_, rfl⟩
      have fr0 : Fr ⟨N, some l, []⟩ ((p, enc x) :: F) { tmps := a.tmps.setIfInBounds p (enc x), defers := [] } := by
        have h2 := ha.put hpN (enc x)
        exact ⟨rfl, h2.sz, h2.get⟩
      have hw := (round l pre x post hc hx hI fr1 (fun a₁ w₁ => ∃ w₂, (Instr.beginRound l).run P w₁ = .ok () w₂ ∧ body.wpIn (fen (some l)) 0 P
        (roundPost P l fun e w' => ∃ b, e = .returned (.bool b) ∧ ∃ h', St m (fr ++ h') w' ∧ ((b = true ∧ ∃ hc, h' = .pt l (.loop (rec .ready none)) :: .pt D (.deferred (some [])) :: hc ∧ I (pre ++ [x]) hc) ∨ (b = false ∧ ∃ hc, h' = .pt l (.loop (rec .done (some .ret))) :: .pt D (.deferred (some [])) :: hc ∧ X hc))) a₁ w₂) ?_).e _ w2 fr0
        (by rw [hfr1]; exact st2.perm (perm2' _ _ fr hc))
      · exact wpIn_mono hw fun e a' w' q => cutQ_imp q
      · intro F1 h1' hb a1 w1 hf1 hs1
        rw [hfr1] at hs1
        have h2 : w1.heap[l]? = some (.loop (rec .ready none)) := hs1.at (by simp)
        refine ⟨_, run_beginRound h2 (by rw [hrec]), ?_⟩
        have hs2 := hs1.setObj (o' := .loop { rec .ready none with state := .busy }) (Upd.right (l := h1') Upd.here)
        refine wpIn_mono ((hb _).e a1 _ hf1 hs2) ?_
        intro e a3 w3 q
        cases e with
        | normal =>
          obtain ⟨hc', hI', hs3⟩ := q
          have h3 : w3.heap[l]? = some (.loop { rec .ready none with state := .busy }) := hs3.at (by simp)
          refine ⟨_, _, run_endRound none h3, true, rfl, .pt l (.loop (rec .ready none)) :: .pt D (.deferred (some [])) :: hc', ?_, .inl ⟨rfl, hc', rfl, hI'⟩⟩
          have hs4 := hs3.setObj (o' := .loop { ({ rec .ready none with state := .busy } : Loop) with state := if (none : Option Code).isNone then .ready else .done, pending := none }) (Upd.right (l := hc') Upd.here)
          have hs5 := hs4.perm (perm2' _ _ hc' fr)
          rw [hrec] at hs5 ⊢
          exact hs5
        | ret =>
          obtain ⟨hc', hI', hs3⟩ := q
          have h3 : w3.heap[l]? = some (.loop { rec .ready none with state := .busy }) := hs3.at (by simp)
          refine ⟨_, _, run_endRound (some .ret) h3, false, rfl, .pt l (.loop (rec .done (some .ret))) :: .pt D (.deferred (some [])) :: hc', ?_, .inr ⟨rfl, hc', rfl, hI'⟩⟩
          have hs4 := hs3.setObj (o' := .loop { ({ rec .ready none with state := .busy } : Loop) with state := if (some Code.ret).isNone then .ready else .done, pending := some .ret }) (Upd.right (l := hc') Upd.here)
          have hs5 := hs4.perm (perm2' _ _ hc' fr)
          rw [hrec] at hs5 ⊢
          exact hs5
        | exit id => exact q.elim
        | goto t => exact q.elim
        | panic ch => exact q.elim
        | outgrown => exact q.elim

/-- A function whose body holds a range over a function. -/
def noPan (Q : Exit → Act → World → Prop) : Exit → Act → World → Prop
  | .panic _, _, _ => False
  | e, a, w => Q e a w
theorem noPan_imp {Q : Exit → Act → World → Prop} {e : Exit} {a : Act} {w : World} (h : noPan Q e a w) : Q e a w := by
  cases e <;> first | exact h | exact h.elim
theorem CT.bodyM {f : FuncId} {args : List Value} {R : Value → View → List Res → Prop} {fn : Func} {c : Code} {F0 : Fm} {N : Nat} (he : ∀ as w, (callFunc f as).run P w = .ok (.enter f as) w)
    (hf : P.funcs[f]? = some fn) (hb : fn.body = some c) (hN : fn.ntmps = N) (hl : args.length ≤ N) (hF : enumO 0 args = some F0) (k : WC P c (noPan (bodyPostM (fen none) 0 P fn (RQ m R))) ⟨N, none, []⟩ F0 h m) : CT P f args h m R := by
  have hF := enumO_eq hF
  subst hF hN
  exact ⟨he, fun w hs => callsIn_wide.1 (callsIn_of_wp_marks (F := fen none) (n := 0) hf hb trivial (wpIn_mono (k.e _ w (Fr.enter args fn.ntmps hl) hs) fun _ _ _ q => noPan_imp (cutQ_imp q)))⟩
theorem endM_ {fn : Func} {ex : Exit} {R : Ending → World → Prop} {v : Value} {h1 : List Res} (hex : ex = .ret ∨ ex = .normal) (hr : ∀ a w, Fr n F a → St m h1 w → (results fn a.tmps).run P w = .ok v w) (hR : ∀ w, St m h1 w → R (.returned v) w)
    (hds : (n.ds = [] ∧ h = h1) ∨ ∃ D t, n.ds = [markD D] ∧ h = .pt D (.deferred (some [])) :: t ∧ h1 = t) :
    ∀ a w, Fr n F a → St m h w → bodyPostM (fen none) 0 P fn R ex a w := fun a w ha hs => by
  have key : LeavesInM (fen none) 0 P fn a.tmps R a.defers .returning w := by
    rcases hds with ⟨e, rfl⟩ | ⟨D, t, e, rfl, rfl⟩
    · rw [ha.d, e]
      exact ⟨v, hr a w ha hs, hR w hs⟩
    · rw [ha.d, e]
      have hk : w.heap[D]? = some (.deferred (some [])) := hs.at (by simp)
      have hs2 := (hs.setObj (o' := .deferred none) Upd.here).sub (List.sublist_cons_self _ _)
      exact ⟨by simp, .inl ⟨D, _, rfl, run_takeDeferred hk, v, hr a _ ha hs2, hR _ hs2⟩⟩
  rcases hex with rfl | rfl <;> exact key
theorem endM3 {fn : Func} {ex : Exit} {m0 : View} {R : Value → View → List Res → Prop} {r r' r'' : ResultVar} {v v' v'' : Value} {h1 : List Res} (hex : ex = .ret ∨ ex = .normal)
    (hds : (n.ds = [] ∧ h = h1) ∨ ∃ D t, n.ds = [markD D] ∧ h = .pt D (.deferred (some [])) :: t ∧ h1 = t) (hfn : fn.results = #[r, r', r'']) (x1 : RV P n F h1 m r v) (x2 : RV P n F h1 m r' v') (x3 : RV P n F h1 m r'' v'')
    (hle : m0.le m) (hd : h'.Sublist h1) (hR : R (.tuple #[v, v', v'']) m h') :
    ∀ a w, Fr n F a → St m h w → bodyPostM (fen none) 0 P fn (RQ m0 R) ex a w :=
  endM_ hex (fun a w ha hs => by
    have h1 := x1.e a w ha hs
    have h2 := x2.e a w ha hs
    have h3 := x3.e a w ha hs
    simp [results_eq, hfn, h1, h2, h3]) (fun w hs => ⟨_, m, h', rfl, hle, hs.sub hd, hR⟩) hds
end
end Go.Eng

/- strings.Builder: its operations. -/
namespace Go.Eng
open Go Go.RowKit
section
variable {P : Program} {ops : Array Oper} {Q : Exit → Act → World → Prop} {n : Cx} {F : Fm} {h h' : List Res} {m : View} {rest : List Oper}
variable {op : Op} {ty : TypeId} {pos : String} {after : Array Edge} {d : Nat} {v : Value} {dst : Option Nat} {g : Option (Nat × Bool)}
theorem PO.eqlPN {x y : Operand} {t t' e : TypeId} (ht : P.underlying t = some (.pointer e)) (ex : Ev n F x (.pointer none)) (ey : Ev n F y (.pointer none)) :
    PO P ⟨dst, .binOp .eql t x y t', ty, pos, after, g⟩ n F h m (.bool true) := .mk fun b w ha _ => by
  have h1 : ∀ d, (Op.equalIn (d + 1) t (.pointer none) (.pointer none)).run P w = .ok true w := fun d => by
    simp [Op.equalIn, run_underlying ht]
  have h2 : (Op.equal t (.pointer none) (.pointer none)).run P w = .ok true w := h1 9999
  have h3 : (eqGuard .eql t x y (.pointer none) (.pointer none)).run P w = .ok () w := by simp [eqGuard]
  simp [execOp, ex b ha, ey b ha, binOp, h2, h3]
theorem PO.eqlPS {x y : Operand} {t t' e : TypeId} {a : Addr} (ht : P.underlying t = some (.pointer e)) (ex : Ev n F x (.pointer (some a))) (ey : Ev n F y (.pointer none)) :
    PO P ⟨dst, .binOp .eql t x y t', ty, pos, after, g⟩ n F h m (.bool false) := .mk fun b w ha _ => by
  have h1 : ∀ d, (Op.equalIn (d + 1) t (.pointer (some a)) (.pointer none)).run P w = .ok false w := fun d => by
    simp [Op.equalIn, run_underlying ht]
  have h2 : (Op.equal t (.pointer (some a)) (.pointer none)).run P w = .ok false w := h1 9999
  have h3 : (eqGuard .eql t x y (.pointer (some a)) (.pointer none)).run P w = .ok () w := by simp [eqGuard]
  simp [execOp, ex b ha, ey b ha, binOp, h2, h3]
theorem PO.neqPP {x y : Operand} {t t' e : TypeId} {a : Addr} (ht : P.underlying t = some (.pointer e)) (hi : (P.info? e).isSome = true) (ex : Ev n F x (.pointer (some a))) (ey : Ev n F y (.pointer (some a))) :
    PO P ⟨dst, .binOp .neq t x y t', ty, pos, after, g⟩ n F h m (.bool false) := .mk fun b w ha _ => by
  obtain ⟨j, hj⟩ := Option.isSome_iff_exists.1 hi
  have h2 := Lib.run_neq_ptr_same w a ht hj
  have h3 : (eqGuard .neq t x y (.pointer (some a)) (.pointer (some a))).run P w = .ok () w := by simp [eqGuard]
  simp [execOp, ex b ha, ey b ha, h2, h3]
theorem PO.toUnsafe {x : Operand} {s t u : TypeId} {b : Nat} {cs : List Value} {e : TypeId} {fz : Nat × Nat} {j : TypeInfo} (hs : P.underlying s = some (.pointer u)) (ht : P.underlying t = some .unsafePointer) (hj : P.info? u = some j) (h0 : j.size ≠ 0)
    (ex : Ev n F x (.pointer (some ⟨b, 0, none⟩))) (hm : Res.pt b (.cells cs.toArray e fz) ∈ h) (hc : 0 < cs.length) :
    PO P ⟨dst, .convert s t x, ty, pos, after, g⟩ n F h m (.pointer (some ⟨b, 0, none⟩)) := .mk fun f w ha st => by
  have h1 : w.heap[b]? = some (.cells cs.toArray e fz) := st.at hm
  have h2 := Lib.run_to_unsafe (P := P) w ⟨b, 0, none⟩ hs ht hj h0 (e := e) (cells := cs.length) (by simp [World.shape?, h1]) hc
  simp [execOp, ex f ha, h2]
theorem PO.fromUnsafe {x : Operand} {s t u : TypeId} {b : Nat} {cs : List Value} {e : TypeId} {fz : Nat × Nat} (hs : P.underlying s = some .unsafePointer) (ht : P.underlying t = some (.pointer u)) (hj : (P.info? u).isSome = true)
    (ex : Ev n F x (.pointer (some ⟨b, 0, none⟩))) (hm : Res.pt b (.cells cs.toArray e fz) ∈ h) (hl : liesAt P P.depth e (cs.length / P.cellsOf e) 0 u 1 = true) :
    PO P ⟨dst, .convert s t x, ty, pos, after, g⟩ n F h m (.pointer (some ⟨b, 0, none⟩)) := .mk fun f w ha st => by
  obtain ⟨j, hj⟩ := Option.isSome_iff_exists.1 hj
  have h1 : w.heap[b]? = some (.cells cs.toArray e fz) := st.at hm
  have h2 := Lib.run_from_unsafe (P := P) w ⟨b, 0, none⟩ hs ht hj (e := e) (cells := cs.length) (by simp [World.shape?, h1]) hl
  simp [execOp, ex f ha, h2]
theorem PO.noEscape {f x : Operand} {tys : Array TypeId} {q : FuncId} {fn : Func} (hf : P.funcs[q]? = some fn) (hname : (fn.name == "runtime.NumGoroutine") = false) (hb : fn.body.isNone = true) (hn : Extern.findNext fn = none)
    (he : Extern.find fn = some Extern.AbiNoEscape.same) (ef : Ev n F f (.func (.func q) #[] #[])) (ex : Ev n F x v) :
    PO P ⟨dst, .call ⟨.value f, #[x], tys⟩, ty, pos, after, g⟩ n F h m v := .mk fun a w ha _ => by
  have h1 := run_callFunc_extern hf hname hb hn he #[v] w
  rw [Lib.run_noEscape] at h1
  simp [execOp, resolve, ef a ha, ex a ha, Deferred.ofValue, invoke, h1, Result.andThen]
theorem strCells_bv (s : List UInt8) : Lib.strCells ⟨s.toArray⟩ = bv s := by simp [Lib.strCells, bv]
theorem run_appS (w : World) {t u e ty : TypeId} (E : EL P t e 1 1) (hu : P.underlying u = some .string) (hz : (P.info? e).bind (·.zero) = some (.int .u8 0)) {a : Option Addr} {l cap : Nat} {xs : List Value} (s : ByteArray)
    (hown : w.ownsRow 0 e 1 (.slice a l cap) l xs) (hbytes : l + s.size ≤ 140737488355328) :
    ∃ a' cap' w', (Builtin.append_ #[t, u] ty #[.slice a l cap, .string s]).run P w = .ok (.slice a' (l + s.size) cap') w' ∧ w'.ownsRow 0 e 1 (.slice a' (l + s.size) cap') (l + s.size) (xs ++ Lib.strCells s) ∧ w.grownBy w' (Value.slice a l cap).ownBlock ∧
      ∀ x, (Value.slice a' (l + s.size) cap').ownBlock = some x → (Value.slice a l cap).ownBlock = some x ∨ w.heap.size ≤ x := by
  obtain ⟨i, z, ht, hi, hz', hsize, hby, hzs, _⟩ := E.ex
  have hz2 : i.zero = some (.int .u8 0) := by rw [hi] at hz; simpa using hz
  have hm63 : l + s.size ≤ maxLen := by unfold maxLen; omega
  obtain ⟨v', w', hr, ho, hg, hnil⟩ := Lib.run_append_own_string (P := P) w 0 t u ty e i ht hu hi hz2 hsize hby _ l xs hown s hm63 hbytes (Nat.zero_le _)
  rcases hown.2 with ⟨hv, hl0⟩ | ⟨g, cap0, cur, hv, _, hg0, hnc, hcm, hcs, htake⟩
  · simp only [Value.slice.injEq] at hv
    obtain ⟨rfl, rfl, rfl⟩ := hv
    obtain ⟨v2, w2, hr2, ho2, _, _⟩ := Lib.run_append_own_string (P := P) w w.heap.size t u ty e i ht hu hi hz2 hsize hby (.slice none 0 0) 0 xs ⟨hown.1, .inl ⟨rfl, rfl⟩⟩ s hm63 hbytes (Nat.le_refl _)
    rw [hr] at hr2
    cases hr2
    rcases ho2.2 with ⟨hv, h0⟩ | ⟨g, cap0, cur, hv, hge, _⟩
    · subst hv
      rw [h0] at ho ⊢
      exact ⟨none, 0, w', hr, ho, hg, fun x hx => by simp [Value.ownBlock] at hx⟩
    · subst hv
      exact ⟨_, _, w', hr, ho, hg, fun x hx => by simp only [Value.ownBlock, Option.some.injEq] at hx; right; omega⟩
  · simp only [Value.slice.injEq] at hv
    obtain ⟨rfl, _, rfl⟩ := hv
    have hxl : xs.length = l := by simpa using hown.1
    by_cases hroom : l + s.size ≤ cap
    · have hr2 := Lib.run_append_room_string (P := P) w t u ty e i ht hu hi hsize g l cap cur hg0 s hroom (by omega)
      rw [hr] at hr2
      cases hr2
      exact ⟨_, _, _, hr, ho, hg, fun x hx => .inl hx⟩
    · have holds : ∀ j u, xs[j]? = some u → w.cell? ((⟨g, 0, none⟩ : Addr).add j) = some u := hown.cells (g := g) rfl
      have hr2 := Lib.run_append_grow_string (P := P) w t u ty e i (.int .u8 0) ht hu hi hz2 ⟨g, 0, none⟩ l cap xs (by rw [hsize]; omega) holds s (by omega) (by omega) (by rw [hby]; exact growslice_fits (by omega) (by omega))
      rw [hr] at hr2
      cases hr2
      exact ⟨_, _, _, hr, ho, hg, fun x hx => by simp only [Value.ownBlock, Option.some.injEq] at hx; right; omega⟩
theorem WL.appendS {x y : Operand} {t u e : TypeId} {l cap l' : Nat} {a : Option Addr} {xs zs : List Value} {s : List UInt8} {hq : Value → List Res} (E : EL P t e 1 1) (hu : P.underlying u = some .string) (hz0 : (P.info? e).bind (·.zero) = some (.int .u8 0))
    (ex : Ev n F x (.slice a l cap)) (ey : Ev n F y (str s)) (hl : l + s.length = l') (hz : xs ++ bv s = zs) (hbytes : l' ≤ 140737488355328)
    (up : ∀ v', Upd h (.row (.slice a l cap) e 1 l xs) (.row v' e 1 l' zs) (hq v')) (hd : d < n.num) (kk : ∀ a' cap', WL P ops Q n rest ((d, .slice a' l' cap') :: F) (hq (.slice a' l' cap')) m) :
    WL P ops Q n (⟨some d, .call ⟨.builtin .append, #[x, y], #[t, u]⟩, ty, pos, after, none⟩ :: rest) F h m := .mk fun f w hf hs => by
  have hown : w.ownsRow 0 e 1 (.slice a l cap) l xs := hs.ok _ (up undef).mem
  have hsz : (⟨s.toArray⟩ : ByteArray).size = s.length := by simp [ByteArray.size]
  obtain ⟨a', cap', w', hr, hown', hg, hfp⟩ := run_appS (P := P) w (ty := ty) E hu hz0 ⟨s.toArray⟩ hown (by rw [hsz]; omega)
  rw [hsz, hl] at hown' hr hfp
  rw [strCells_bv, hz] at hown'
  have hrun : (execOp f.eval ⟨some d, .call ⟨.builtin .append, #[x, y], #[t, u]⟩, ty, pos, after, none⟩).run P w = .ok (.value (.slice a' l' cap')) w' := by
    simp [execOp, resolve, invoke, builtin, ex f hf, ey f hf, hr]
  exact wpList_of_wp rfl (wp_of_run hrun ((kk a' cap').e _ _ (hf.put hd _) (hs.upd (up _) hg.os hg.output hg.tape (fun q hq hne => hg.block q hq (fun e => hne e.symm)) hown' hfp)))
theorem PO.sliceData {x : Operand} {t : TypeId} {a : Addr} {l c : Nat} (hc : c ≠ 0) (ex : Ev n F x (.slice (some a) l c)) :
    PO P ⟨dst, .call ⟨.builtin .unsafeSliceData, #[x], #[t]⟩, ty, pos, after, g⟩ n F h m (.pointer (some a)) := .mk fun f w ha _ => by
  have h1 := Lib.run_unsafeSliceData_row (P := P) w #[t] ty a l c hc
  simp [execOp, resolve, invoke, builtin, ex f ha, h1]
theorem PO.sliceDataN {x : Operand} {t : TypeId} {l c : Nat} (ex : Ev n F x (.slice none l c)) :
    PO P ⟨dst, .call ⟨.builtin .unsafeSliceData, #[x], #[t]⟩, ty, pos, after, g⟩ n F h m (.pointer none) := .mk fun f w ha _ => by
  have h1 := Lib.run_unsafeSliceData_nil (P := P) w #[t] ty l c
  simp [execOp, resolve, invoke, builtin, ex f ha, h1]
theorem PO.unsafeStringN {x y : Operand} {t u : TypeId} {a : Option Addr} (ex : Ev n F x (.pointer a)) (ey : Ev n F y (.int .i64 0)) :
    PO P ⟨dst, .call ⟨.builtin .unsafeString, #[x, y], #[t, u]⟩, ty, pos, after, g⟩ n F h m (str []) := .mk fun f w ha _ => by
  have h1 := Lib.run_unsafeString_none (P := P) w t u ty a
  simp [execOp, resolve, invoke, builtin, ex f ha, ey f ha, h1]
  rfl
theorem St.frozen {w : World} {g : Nat} {v : Value} {e : TypeId} {sz k : Nat} {xs : List Value} (hv : v.ownBlock = some g) (u : Upd h (.row v e sz k xs) (.row (.slice none 0 0) e sz 0 []) h') (q : Nat) (s : St m h w) : St m h' (w.freeze ⟨g, 0, none⟩ q) := by
  refine s.upd u ?_ ?_ ?_ ?_ (World.ownsRow_nil _ 0 e sz) (fun b hb => by simp [Res.fp, Value.ownBlock] at hb)
  · unfold World.freeze; split <;> rfl
  · unfold World.freeze; split <;> rfl
  · unfold World.freeze; split <;> rfl
  · intro b hb hne
    have hbg : g ≠ b := fun e => hne (by rw [← e]; exact hv)
    unfold World.freeze
    split
    · rfl
    · simp only [Array.getElem?_modify]
      rw [if_neg hbg]
theorem WL.unsafeString {x y : Operand} {t u e : TypeId} {gb l cap : Nat} {bs : List UInt8} (ht : P.underlying t = some (.pointer e)) (hc : P.cellsOf e = 1)
    (ex : Ev n F x (.pointer (some ⟨gb, 0, none⟩))) (ey : Ev n F y (.int .i64 l)) (hl : bs.length = l) (h0 : bs ≠ [])
    (up : Upd h (.row (.slice (some ⟨gb, 0, none⟩) l cap) e 1 l (bv bs)) (.row (.slice none 0 0) e 1 0 []) h') (hd : d < n.num) (kk : WL P ops Q n rest ((d, str bs) :: F) h' m) :
    WL P ops Q n (⟨some d, .call ⟨.builtin .unsafeString, #[x, y], #[t, u]⟩, ty, pos, after, none⟩ :: rest) F h m := .mk fun f w hf st => by
  have hown : w.ownsRow 0 e 1 (.slice (some ⟨gb, 0, none⟩) l cap) l (bv bs) := st.ok _ up.mem
  subst hl
  obtain ⟨cur, hg, hnc, hcm, hcs⟩ : ∃ cur, w.heap[gb]? = some (.cells cur e (0, 0)) ∧ bs.length ≤ cap ∧ cap ≤ maxLen ∧ cur.size = cap * 1 := by
    rcases hown.2 with ⟨hv, _⟩ | ⟨g', cap0, cur, hv, _, hg0, hnc, hcm, hcs, htake⟩
    · cases hv
    · cases hv
      exact ⟨cur, hg0, hnc, hcm, hcs⟩
  have hr := Lib.run_unsafeString_row (P := P) w t u ty e ht hc gb cur.size (by simp [World.shape?, hg]) bs h0 (by omega) (by unfold maxLen at hcm; omega) (fun j x hx => hown.cells (g := gb) rfl j _ (bv_get hx))
  have hrun : (execOp f.eval ⟨some d, .call ⟨.builtin .unsafeString, #[x, y], #[t, u]⟩, ty, pos, after, none⟩).run P w = .ok (.value (str bs)) (w.freeze ⟨gb, 0, none⟩ bs.length) := by
    simp [execOp, resolve, invoke, builtin, ex f hf, ey f hf, hr]
  exact wpList_of_wp rfl (wp_of_run hrun (kk.e _ _ (hf.put hd _) (St.frozen rfl up _ st)))
theorem row_some {w : World} {a : Option Addr} {e : TypeId} {sz k cap : Nat} {xs : List Value} (h : w.ownsRow 0 e sz (.slice a k cap) k xs) (h0 : k ≠ 0) : cap ≠ 0 ∧ ∃ b, a = some ⟨b, 0, none⟩ := by
  rcases h.2 with ⟨hv, _⟩ | ⟨g', cap0, cur, hv, _, hg0, hnc, _⟩
  · cases hv
    exact absurd rfl h0
  · cases hv
    exact ⟨by omega, _, rfl⟩
end
end Go.Eng

/- An empty slice made in a drawn region. -/
namespace Go.Eng
open Go Go.RowKit
section
variable {P : Program} {ops : Array Oper} {Q : Exit → Act → World → Prop} {n : Cx} {F : Fm} {m : View}
variable {ty : TypeId} {pos : String} {after : Array Edge} {d : Nat} {eff : List Nat} {hs hp : List Res} {i : Nat} {s : Tr} {t' : Tl}
theorem SR.buildSlice0 {t e : Nat} {sz by_ : Nat} (ho : ops[i]? = some ⟨some d, .buildSlice t 0 #[], ty, pos, after, none⟩) (he : eff.contains i = true) (E : EL P t e sz by_) (hd : d < n.num)
    (kk : ∀ b, SR P ops Q n eff t' hs s ((d, .slice (some ⟨b, 0, none⟩) 0 0) :: F) (.row (.slice (some ⟨b, 0, none⟩) 0 0) e sz 0 [] :: hp) m) :
    SR P ops Q n eff t' hs (.op i s) F hp m := ⟨_, ho, fun y hy => by cases hy; exact hd, by
  rw [he]
  refine ⟨fun fr f w hf' st => ⟨fun _ => ?_, fun h => by simp [Region.wanted] at h⟩⟩
  obtain ⟨i, z', ht, hi, hz', hsize, hby, hzsz, hsz⟩ := E.ex
  have hrun : (execOp f.eval ⟨some d, .buildSlice t 0 #[], ty, pos, after, none⟩).run P w = .ok (.value (.slice (some ⟨w.heap.size, 0, none⟩) 0 0)) (w.alloc (.cells #[] e)) := by
    simp [execOp, Instr.buildSlice, run_underlying ht, sizeOf, typeInfo, hi, Instr.fill, newRow, Array.range_zero']
  rw [hrun]
  refine ⟨m, .row (.slice (some ⟨w.heap.size, 0, none⟩) 0 0) e sz 0 [] :: hp, View.le.refl m, ?_, fun _ => List.sublist_cons_self _ _, (kk _).e⟩
  have h1 := (st.alloc (.cells #[] e)).conv (r' := .row (.slice (some ⟨w.heap.size, 0, none⟩) 0 0) e sz 0 []) Upd.here rfl fun hh => by
    have := row_of_cells (sz := sz) (n := 0) (cap := 0) hh (Nat.le_refl _) (by unfold maxLen; omega) (by simp)
    simp only [Nat.zero_mul, List.take_zero] at this
    exact this
  exact h1.perm List.perm_middle.symm⟩
end
end Go.Eng

/- Functions that may panic; a deferred call that recovers. -/
namespace Go.Eng
open Go Go.RowKit
/-- What a call ends in that may panic. -/
def RX (m : View) (R : Value → View → List Res → Prop) (X : Value → List Res → Prop) (e : Ending) (w : World) : Prop :=
  RQ m R e w ∨ ∃ v h', e = .panicked [{ v := v, recovered := false }] ∧ St m h' w ∧ X v h'
structure CX (P : Program) (f : FuncId) (args : List Value) (h : List Res) (m : View) (R : Value → View → List Res → Prop) (X : Value → List Res → Prop) : Prop where
  enter : ∀ as w, (callFunc f as).run P w = .ok (.enter f as) w
  calls : ∀ w, St m h w → Calls P f args.toArray w (RX m R X)
section
variable {P : Program} {ops : Array Oper} {Q : Exit → Act → World → Prop} {n : Cx} {F : Fm} {h h' : List Res} {m : View} {rest : List Oper}
variable {op : Op} {ty : TypeId} {pos : String} {after : Array Edge} {d : Nat} {v : Value} {dst : Option Nat} {g : Option (Nat × Bool)}
theorem CX.ofCT {f : FuncId} {args : List Value} {R : Value → View → List Res → Prop} {X : Value → List Res → Prop} (c : CT P f args h m R) : CX P f args h m R X := ⟨c.enter, fun w hs => Calls.mono (c.calls w hs) fun _ _ q => .inl q⟩
theorem CX.mono {f : FuncId} {args : List Value} {R R' : Value → View → List Res → Prop} {X X' : Value → List Res → Prop} (c : CX P f args h m R X) (hr : ∀ v m' h', R v m' h' → R' v m' h') (hx : ∀ v h', X v h' → X' v h') : CX P f args h m R' X' :=
  ⟨c.enter, fun w hs => Calls.mono (c.calls w hs) fun _ _ q => q.imp (fun ⟨v, m', h', e, a, b, r⟩ => ⟨v, m', h', e, a, b, hr _ _ _ r⟩) fun ⟨v, h', e, s, x⟩ => ⟨v, h', e, s, hx _ _ x⟩⟩
theorem CX.argsE {f : FuncId} {args args' : List Value} {R : Value → View → List Res → Prop} {X : Value → List Res → Prop} (e : args = args') (c : CX P f args' h m R X) : CX P f args h m R X := e ▸ c
theorem CX.body {f : FuncId} {args : List Value} {R : Value → View → List Res → Prop} {X : Value → List Res → Prop} {fn : Func} {c : Code} {F0 : Fm} {N : Nat} (he : ∀ as w, (callFunc f as).run P w = .ok (.enter f as) w)
    (hf : P.funcs[f]? = some fn) (hb : fn.body = some c) (hN : fn.ntmps = N) (hl : args.length ≤ N) (hF : enumO 0 args = some F0) (k : WC P c (bodyPost P fn (RX m R X)) ⟨N, none, []⟩ F0 h m) : CX P f args h m R X := by
  have hF := enumO_eq hF
  subst hF hN
  exact ⟨he, fun w hs => calls_of_wp hf hb (wpIn_wide.1 (wpIn_mono (k.e _ w (Fr.enter args fn.ntmps hl) hs) fun _ _ _ q => cutQ_imp q))⟩
theorem toX {fn : Func} {ex : Exit} {m0 : View} {R : Value → View → List Res → Prop} {X : Value → List Res → Prop} (hex : ex = .ret ∨ ex = .normal) (k : ∀ a w, Fr n F a → St m h w → bodyPost P fn (RQ m0 R) ex a w) :
    ∀ a w, Fr n F a → St m h w → bodyPost P fn (RX m0 R X) ex a w := fun a w ha hs => by
  rcases hex with rfl | rfl
  · obtain ⟨h1, v, h2, h3⟩ := k a w ha hs
    exact ⟨h1, v, h2, .inl h3⟩
  · obtain ⟨h1, v, h2, h3⟩ := k a w ha hs
    exact ⟨h1, v, h2, .inl h3⟩
theorem panX {fn : Func} {m0 : View} {R : Value → View → List Res → Prop} {X : Value → List Res → Prop} (h' : List Res) (hle : m0.le m) (hd : h'.Sublist h) (hX : X v h') (hds : n.ds = [] := by rfl) :
    ∀ a w, Fr n F a → St m h w → bodyPost P fn (RX m0 R X) (.panic [{ v := v, recovered := false }]) a w := fun _ _ ha hs =>
  ⟨ha.d.trans hds, .inr ⟨v, h', rfl, (hs.sub hd).back hle, hX⟩⟩
theorem WL.panic {x : Operand} {t : TypeId} {u : Value} (ex : Ev n F x (.iface t u)) (k : ∀ a w, Fr n F a → St m h w → Q (.panic [{ v := .iface t u, recovered := false }]) a w) :
    WL P ops Q n (⟨dst, .panic x, ty, pos, after, none⟩ :: rest) F h m := .mk fun a w ha hs => by
  refine wpList_of_wp rfl ?_
  unfold Oper.wp
  have hr : (execOp a.eval ⟨dst, .panic x, ty, pos, after, none⟩).run P w = .halt (.panic (.iface t u)) w := by
    simp [execOp, ex a ha]
    rfl
  rw [hr]
  exact k a w ha hs
theorem WL.callX {f : Operand} {args : List Operand} {tys : Array TypeId} {vs first cap : List Value} {q : FuncId} {R : Value → List Res → Prop} {X : Value → List Res → Prop} (ef : Ev n F f (.func (.func q) first.toArray cap.toArray)) (ea : Evs n F args vs)
    (c : CX P q (first ++ vs ++ cap) h m (fun v _ h' => R v h') X) (hd : d < n.num) (kx : ∀ v h', X v h' → ∀ a w, Fr n F a → St m h' w → Q (.panic [{ v := v, recovered := false }]) a w) (k : ∀ v h', R v h' → WL P ops Q n rest ((d, v) :: F) h' m) :
    WL P ops Q n (⟨some d, .call ⟨.value f, args.toArray, tys⟩, ty, pos, after, none⟩ :: rest) F h m := .mk fun a w ha hs => by
  refine wpList_of_wp rfl ?_
  unfold Oper.wp
  rw [run_call ha ef ea c.enter]
  refine Calls.mono (c.calls w hs) ?_
  rintro e w' (⟨v, m', h', rfl, hle, hst, hR⟩ | ⟨v, h', rfl, hst, hX⟩)
  · exact k v h' hR _ _ (ha.put hd v) (hst.back hle)
  · exact kx v h' hX a w' ha hst
theorem SR.callX {eff : List Nat} {t : Tl} {hs hp : List Res} {i : Nat} {s : Tr} {f : Operand} {args : List Operand} {tys : Array TypeId} {vs first cap : List Value} {q : FuncId} {R : Value → List Res → Prop} {X : List Res → Value → List Res → Prop}
    (ho : ops[i]? = some ⟨some d, .call ⟨.value f, args.toArray, tys⟩, ty, pos, after, none⟩) (he : eff.contains i = true) (ef : Ev n F f (.func (.func q) first.toArray cap.toArray)) (ea : Evs n F args vs)
    (c : ∀ fr, CX P q (first ++ vs ++ cap) (hp ++ (fr ++ hs)) m (fun v _ h' => ∃ hp', h' = hp' ++ (fr ++ hs) ∧ R v hp') (X fr)) (hd : d < n.num)
    (kx : ∀ fr v h', X fr v h' → ∀ a w, Fr n [] a → St m h' w → Q (.panic [{ v := v, recovered := false }]) a w) (k : ∀ v hp', R v hp' → SR P ops Q n eff t hs s ((d, v) :: F) hp' m) :
    SR P ops Q n eff t hs (.op i s) F hp m := ⟨_, ho, fun x hx => by cases hx; exact hd, by
  rw [he]
  refine ⟨fun fr a w ha st => ⟨fun _ => ?_, fun h => by simp [Region.wanted] at h⟩⟩
  rw [run_call ha ef ea (c fr).enter]
  have hpm : (fr ++ (hp ++ hs)).Perm (hp ++ (fr ++ hs)) := by
    rw [← List.append_assoc, ← List.append_assoc]
    exact List.perm_append_comm.append_right hs
  refine Calls.mono ((c fr).calls w (st.perm hpm)) ?_
  rintro e w' (⟨v, m', h', rfl, hle, hst, hp', rfl, hR⟩ | ⟨v, h', rfl, hst, hX⟩)
  · refine .inl ⟨v, rfl, m, hp', View.le.refl m, (hst.back hle).perm ?_, nofun, (k v hp' hR).e⟩
    rw [← List.append_assoc, ← List.append_assoc]
    exact List.perm_append_comm.append_right hs
  · exact .inr ⟨_, rfl, fun a' ha' => kx fr v h' hX a' w' ha' hst⟩⟩
theorem SR.callXU {eff : List Nat} {t : Tl} {hs hp : List Res} {i : Nat} {s : Tr} {f : Operand} {args : List Operand} {tys : Array TypeId} {vs first cap : List Value} {q : FuncId} {gd : Nat × Bool} {c : Bool} {R : Value → List Res → Prop} {X : List Res → Value → List Res → Prop}
    (ho : ops[i]? = some ⟨some d, .call ⟨.value f, args.toArray, tys⟩, ty, pos, after, some gd⟩) (he : eff.contains i = true) (hg : GU ops n F gd c) (hc : c = true) (ef : Ev n F f (.func (.func q) first.toArray cap.toArray)) (ea : Evs n F args vs)
    (ct : ∀ fr, CX P q (first ++ vs ++ cap) (hp ++ (fr ++ hs)) m (fun v _ h' => ∃ hp', h' = hp' ++ (fr ++ hs) ∧ R v hp') (X fr)) (hd : d < n.num)
    (kx : ∀ fr v h', X fr v h' → ∀ a w, Fr n [] a → St m h' w → Q (.panic [{ v := v, recovered := false }]) a w) (k : ∀ v hp', R v hp' → SR P ops Q n eff t hs s ((d, v) :: F) hp' m) :
    SR P ops Q n eff t hs (.op i s) F hp m := ⟨_, ho, fun x hx => by cases hx; exact hd, by
  subst hc
  rw [he]
  refine ⟨fun fr a w ha st => ?_⟩
  have hy := hg.wanted (dst := some d) (op := .call ⟨.value f, args.toArray, tys⟩) (ty := ty) (pos := pos) (after := after) ha
  refine ⟨fun _ => ?_, fun h => by rw [hy] at h; cases h⟩
  rw [run_call ha ef ea (ct fr).enter]
  have hpm : (fr ++ (hp ++ hs)).Perm (hp ++ (fr ++ hs)) := by
    rw [← List.append_assoc, ← List.append_assoc]
    exact List.perm_append_comm.append_right hs
  refine Calls.mono ((ct fr).calls w (st.perm hpm)) ?_
  rintro e w' (⟨v, m', h', rfl, hle, hst, hp', rfl, hR⟩ | ⟨v, h', rfl, hst, hX⟩)
  · refine .inl ⟨v, rfl, m, hp', View.le.refl m, (hst.back hle).perm ?_, nofun, (k v hp' hR).e⟩
    rw [← List.append_assoc, ← List.append_assoc]
    exact List.perm_append_comm.append_right hs
  · exact .inr ⟨_, rfl, fun a' ha' => kx fr v h' hX a' w' ha' hst⟩⟩
theorem PO.makeIface {x : Operand} {t : TypeId} {fs : Array Field} (ht : P.underlying t = some (.struct fs)) (ex : Ev n F x v) : PO P ⟨dst, .makeInterface t x, ty, pos, after, g⟩ n F h m (.iface t v) := .mk fun a w ha _ => by
  simp [execOp, ex a ha, Instr.makeInterface, run_underlying ht]
theorem PO.typeAssertOk {x : Operand} {t s : TypeId} {fs : Array Field} (ht : P.underlying s = some (.struct fs)) (ex : Ev n F x (.iface s v)) : PO P ⟨dst, .typeAssert x t s true, ty, pos, after, g⟩ n F h m (.tuple #[v, .bool true]) := .mk fun a w ha _ => by
  have h1 : (Instr.typeAssert (.iface s v) t s true).run P w = .ok (.tuple #[v, .bool true]) w := by
    simp [Instr.typeAssert, run_underlying ht]
  simp [execOp, ex a ha, h1]
theorem PO.neqNilN {x y : Operand} {t t' : TypeId} {ms : Array (String × TypeId)} (ht : P.underlying t = some (.interface ms)) (ex : Ev n F x .nilIface) (ey : y = .const .nilIface) :
    PO P ⟨dst, .binOp .neq t x y t', ty, pos, after, g⟩ n F h m (.bool false) := .mk fun b w ha _ => by
  subst ey
  have h1 : ∀ d, (Op.equalIn (d + 1) t .nilIface .nilIface).run P w = .ok true w := fun d => by
    simp [Op.equalIn, run_underlying ht]
  have h2 : (Op.equal t .nilIface .nilIface).run P w = .ok true w := h1 9999
  have h3 : (eqGuard .neq t x (.const .nilIface) .nilIface .nilIface).run P w = .ok () w := by simp [eqGuard]
  have h4 : b.eval (.const .nilIface) = .nilIface := rfl
  simp [execOp, ex b ha, h4, binOp, h2, h3]
theorem PO.neqNilS {x y : Operand} {t t' s : TypeId} {ms : Array (String × TypeId)} {u : Value} (ht : P.underlying t = some (.interface ms)) (ex : Ev n F x (.iface s u)) (ey : y = .const .nilIface) :
    PO P ⟨dst, .binOp .neq t x y t', ty, pos, after, g⟩ n F h m (.bool true) := .mk fun b w ha _ => by
  subst ey
  have h1 : ∀ d, (Op.equalIn (d + 1) t (.iface s u) .nilIface).run P w = .ok false w := fun d => by
    simp [Op.equalIn, run_underlying ht]
  have h2 : (Op.equal t (.iface s u) .nilIface).run P w = .ok false w := h1 9999
  have h3 : (eqGuard .neq t x (.const .nilIface) (.iface s u) .nilIface).run P w = .ok () w := by simp [eqGuard]
  have h4 : b.eval (.const .nilIface) = .nilIface := rfl
  simp [execOp, ex b ha, h4, binOp, h2, h3]
end
end Go.Eng

/- A deferred closure that recovers. -/
namespace Go.Eng
open Go Go.RowKit
def defD (q : FuncId) (cap : List Value) : Deferred := { target := .fn (.func q) cap.toArray, args := #[] }
section
variable {P : Program} {ops : Array Oper} {Q : Exit → Act → World → Prop} {n : Cx} {F : Fm} {h h' : List Res} {m : View} {rest : List Oper}
variable {op : Op} {ty : TypeId} {pos : String} {after : Array Edge} {d : Nat} {v : Value} {dst : Option Nat} {g : Option (Nat × Bool)}
theorem WY.defer {f : Operand} {tys : Array TypeId} {q : FuncId} {cap : List Value} (hro : n.ro = none) (ef : Ev n F f (.func (.func q) #[] cap.toArray))
    (k : ∀ a w, Fr { n with ds := defD q cap :: n.ds } F a → St m h w → Q .normal a w) :
    WY P ops Q n [⟨none, .defer ⟨.value f, #[], tys⟩, ty, pos, after, none⟩] F h m := .mk fun a w ha hs => by
  unfold wpListIn
  rw [if_pos (show Region.wanted _ _ = true from rfl)]
  refine ⟨fun _ _ => trivial, ?_⟩
  show Oper.uponIn (fen n.ro) 0 P _ a _ (cutQ Q) ((Oper.semAt n.ro a.eval _).run P w)
  rw [hro, Oper.semAt_none]
  have hr : (execOp a.eval ⟨none, .defer ⟨.value f, #[], tys⟩, ty, pos, after, none⟩).run P w = .ok (.defer (defD q cap)) w := by
    simp [execOp, resolve, ef a ha, Deferred.ofValue, defD]
  rw [hr]
  exact k _ w ⟨by show defD q cap :: a.defers = _; rw [ha.d], by simpa [Act.put] using ha.sz, fun t v ht => by simpa [Act.put] using ha.get t v ht⟩ hs
theorem CT.bodyD {f : FuncId} {args : List Value} {R : Value → View → List Res → Prop} {fn : Func} {c : Code} {F0 : Fm} {N : Nat} (he : ∀ as w, (callFunc f as).run P w = .ok (.enter f as) w)
    (hf : P.funcs[f]? = some fn) (hb : fn.body = some c) (hN : fn.ntmps = N) (hl : args.length ≤ N) (hF : enumO 0 args = some F0) (k : WC P c (bodyPostD P fn (RQ m R)) ⟨N, none, []⟩ F0 h m) : CT P f args h m R := by
  have hF := enumO_eq hF
  subst hF hN
  exact ⟨he, fun w hs => calls_of_wp_defers hf hb (wpIn_wide.1 (wpIn_mono (k.e _ w (Fr.enter args fn.ntmps hl) hs) fun _ _ _ q => cutQ_imp q))⟩
/-- What the deferred closure does. -/
def DefC (P : Program) (q : FuncId) (cap : List Value) (u : FrameMode) (m : View) (h h2 : List Res) : Prop :=
  ∀ w, St m h w → CallsD P q cap.toArray u w fun e u' w' => (∃ v, e = .returned v) ∧ settle u' = .returning ∧ St m h2 w'
theorem leaveD {fn : Func} {tmps : Array Value} {R : Ending → World → Prop} {q : FuncId} {cap : List Value} {u : FrameMode} {h2 : List Res} {w : World} (he : ∀ as w, (callFunc q as).run P w = .ok (.enter q as) w) (hu : u ≠ .run) (hd : DefC P q cap u m h h2) (hs : St m h w)
    (hr : ∀ w', St m h2 w' → ∃ v, (results fn tmps).run P w' = .ok v w' ∧ R (.returned v) w') : Leaves P fn tmps R [defD q cap] u w := by
  refine leaves_cons hu (f := q) (args := cap.toArray) (by simp [invoke, he]) ((hd w hs).mono ?_)
  rintro e u' w' ⟨⟨v, rfl⟩, hset, hs'⟩
  show Leaves P fn tmps R [] (settle u') w'
  rw [hset]
  exact hr w' hs'
theorem end3D {fn : Func} {ex : Exit} {m0 : View} {R : Value → View → List Res → Prop} {r r' r'' : ResultVar} {v v' v'' : Value} {q : FuncId} {cap : List Value} (hex : ex = .ret ∨ ex = .normal) (hds : n.ds = [defD q cap]) (he : ∀ as w, (callFunc q as).run P w = .ok (.enter q as) w)
    (hd : DefC P q cap .returning m h h) (hfn : fn.results = #[r, r', r'']) (x1 : RV P n F h m r v) (x2 : RV P n F h m r' v') (x3 : RV P n F h m r'' v'') (hle : m0.le m) (hsub : h'.Sublist h) (hR : R (.tuple #[v, v', v'']) m h') :
    ∀ a w, Fr n F a → St m h w → bodyPostD P fn (RQ m0 R) ex a w := fun a w ha hs => by
  have key : Leaves P fn a.tmps (RQ m0 R) a.defers .returning w := by
    rw [ha.d, hds]
    refine leaveD he (by simp) hd hs fun w' hs' => ⟨.tuple #[v, v', v''], ?_, _, m, h', rfl, hle, hs'.sub hsub, hR⟩
    have h1 := x1.e a w' ha hs'
    have h2 := x2.e a w' ha hs'
    have h3 := x3.e a w' ha hs'
    simp [results_eq, hfn, h1, h2, h3]
  rcases hex with rfl | rfl <;> exact key
theorem pan3D {fn : Func} {m0 : View} {R : Value → View → List Res → Prop} {r r' r'' : ResultVar} {v v' v'' u : Value} {q : FuncId} {cap : List Value} {h2 : List Res} (hds : n.ds = [defD q cap]) (he : ∀ as w, (callFunc q as).run P w = .ok (.enter q as) w)
    (hd : DefC P q cap (.panicking [{ v := u, recovered := false }]) m h h2) (hfn : fn.results = #[r, r', r'']) (x1 : RV P n F h2 m r v) (x2 : RV P n F h2 m r' v') (x3 : RV P n F h2 m r'' v'') (hle : m0.le m) (hsub : h'.Sublist h2) (hR : R (.tuple #[v, v', v'']) m h') :
    ∀ a w, Fr n F a → St m h w → bodyPostD P fn (RQ m0 R) (.panic [{ v := u, recovered := false }]) a w := fun a w ha hs => by
  show Leaves P fn a.tmps (RQ m0 R) a.defers (.panicking [{ v := u, recovered := false }]) w
  rw [ha.d, hds]
  refine leaveD he (by simp) hd hs fun w' hs' => ⟨.tuple #[v, v', v''], ?_, _, m, h', rfl, hle, hs'.sub hsub, hR⟩
  have h1 := x1.e a w' ha hs'
  have h2 := x2.e a w' ha hs'
  have h3 := x3.e a w' ha hs'
  simp [results_eq, hfn, h1, h2, h3]
/-- What follows the call of recover ends in this. -/
def recQ (P : Program) (fn : Func) (m : View) (h2 : List Res) : Exit → Act → World → Prop := fun e a w =>
  (e = .normal ∨ e = .ret) ∧ a.defers = [] ∧ (∃ v, (results fn a.tmps).run P w = .ok v w) ∧ St m h2 w
theorem rec_end {fn : Func} {ex : Exit} {h2 : List Res} (hex : ex = .ret ∨ ex = .normal) (hfn : fn.results = #[]) (hd : h2.Sublist h) (hds : n.ds = [] := by rfl) : ∀ a w, Fr n F a → St m h w → recQ P fn m h2 ex a w := fun a w ha hs =>
  ⟨hex.symm, ha.d.trans hds, ⟨.tuple #[], by simp [results, hfn]⟩, hs.sub hd⟩
theorem rec_post {fn : Func} {c0 : Frame} {cs : List Frame} {u2 : FrameMode} {h2 : List Res} (hset : settle u2 = .returning) {e : Exit} {a : Act} {w : World} (q : recQ P fn m h2 e a w) :
    bodyPostS P fn c0 cs (fun e u' w' => (∃ v, e = .returned v) ∧ settle u' = .returning ∧ St m h2 w') e a ({ c0 with mode := u2 } :: cs) w := by
  obtain ⟨he, h1, ⟨v, h3⟩, h4⟩ := q
  rcases he with rfl | rfl <;> exact ⟨h1, u2, rfl, v, h3, ⟨v, rfl⟩, hset, h4⟩
theorem opsS_rec {Q : Exit → Act → List Frame → World → Prop} {i : Nat} {l : List Nat} {o : Oper} {a : Act} {cs : List Frame} {w : World} (ho : ops[i]? = some o) (hw : Region.wanted o (yielded ops a.tmps) = true) (hr : (execOp a.eval o).run P w = .ok .recover w)
    (h1 : ∀ v cs', recoverD cs = some (v, cs') → wpOpsS P ops Q l (a.put o.dst v) cs' w) (h2 : recoverD cs = none → wpOpsS P ops Q l (a.put o.dst .nilIface) cs w) : wpOpsS P ops Q (i :: l) a cs w := by
  unfold wpOpsS
  simp only [ho]
  rw [if_pos hw, hr]
  simp only
  split
  · rename_i v cs' e
    exact h1 v cs' e
  · rename_i e
    exact h2 e
theorem opsS_val {Q : Exit → Act → List Frame → World → Prop} {i : Nat} {l : List Nat} {o : Oper} {a : Act} {cs : List Frame} {w : World} {v : Value} (ho : ops[i]? = some o) (hw : Region.wanted o (yielded ops a.tmps) = true) (hr : (execOp a.eval o).run P w = .ok (.value v) w)
    (h1 : wpOpsS P ops Q l (a.put o.dst v) cs w) : wpOpsS P ops Q (i :: l) a cs w := by
  unfold wpOpsS
  simp only [ho]
  rw [if_pos hw, hr]
  exact h1
/-- A closure that begins by 'r := recover()'. -/
theorem defC_of {q : FuncId} {cap : List Value} {fn : Func} {l : List Oper} {id dr d2 : Nat} {t1 t2 : TypeId} {p1 p2 : String} {a1 a2 : Array Edge} {y : Code} {u u2 : FrameMode} {r : Value} {N : Nat} {F0 : Fm} {h2 : List Res} (hf : P.funcs[q]? = some fn) (hb : fn.body = some (.seq (.region id l.toArray false) y))
    (hl0 : l = [⟨some dr, .call ⟨.builtin .recover, #[], #[]⟩, t1, p1, a1, none⟩, ⟨some d2, .assign (.tmp dr), t2, p2, a2, none⟩]) (hN : fn.ntmps = N) (hl : cap.length ≤ N) (hF : enumO 0 cap = some F0) (hdr : dr < N) (hd2 : d2 < N)
    (hrec : ∀ (c0 : Frame) cs, c0.mode = u → (recoverD (c0 :: cs) = some (r, { c0 with mode := u2 } :: cs)) ∨ (recoverD (c0 :: cs) = none ∧ r = .nilIface ∧ u2 = u)) (hset : settle u2 = .returning)
    (k : WC P y (recQ P fn m h2) ⟨N, none, []⟩ ((d2, r) :: (dr, r) :: F0) h m) : DefC P q cap u m h h2 := fun w hs => by
  have hF := enumO_eq hF
  subst hF hN hl0
  refine callsD_of_wpS hf hb fun c0 cs hu => wpS_seq (wpS_region ?_)
  have fr0 := Fr.enter cap fn.ntmps hl
  have fr1 := fr0.put hdr r
  have fr2 := fr1.put hd2 r
  have fin : ∀ cs', cs' = { c0 with mode := u2 } :: cs → y.wpS P (bodyPostS P fn c0 cs (fun e u' w' => (∃ v, e = .returned v) ∧ settle u' = .returning ∧ St m h2 w')) _ cs' w := fun cs' e => by
    subst e
    exact wpS_of_wp (wp_mono (wpIn_wide.1 (k.e _ w fr2 hs)) fun e a' w' q => rec_post hset (cutQ_imp q))
  have hx : ∀ (a : Act), (execOp a.eval ⟨some dr, .call ⟨.builtin .recover, #[], #[]⟩, t1, p1, a1, none⟩).run P w = .ok .recover w := fun a => by
    simp [execOp, resolve, invoke, builtin]
  have hy : ∀ (a : Act), a.tmps[dr]? = some r → (execOp a.eval ⟨some d2, .assign (.tmp dr), t2, p2, a2, none⟩).run P w = .ok (.value r) w := fun a h => by
    simp [execOp, Act.eval, h]
  have hget := fr1.get dr r (by simp [look])
  show wpOpsS P _ _ [0, 1] _ (c0 :: cs) w
  refine opsS_rec rfl rfl (hx _) (fun v cs' e => ?_) (fun e => ?_)
  · rcases hrec c0 cs hu with h1 | ⟨h1, _⟩
    · rw [h1] at e
      cases e
      exact opsS_val rfl rfl (hy _ hget) (fin _ rfl)
    · rw [h1] at e
      cases e
  · rcases hrec c0 cs hu with h1 | ⟨_, rfl, rfl⟩
    · rw [h1] at e
      cases e
    · exact opsS_val rfl rfl (hy _ hget) (fin _ (by rw [← hu]))
theorem rec_none {u : FrameMode} (hu : u = .returning) (c0 : Frame) (cs : List Frame) (h : c0.mode = u) : (recoverD (c0 :: cs) = some (Value.nilIface, { c0 with mode := u } :: cs)) ∨ (recoverD (c0 :: cs) = none ∧ Value.nilIface = Value.nilIface ∧ u = u) := by
  subst hu
  refine .inr ⟨?_, rfl, rfl⟩
  simp only [recoverD, h]
theorem rec_some {v : Value} (c0 : Frame) (cs : List Frame) (h : c0.mode = .panicking [{ v := v, recovered := false }]) : (recoverD (c0 :: cs) = some (v, { c0 with mode := .panicking [{ v := v, recovered := true }] } :: cs)) ∨ (recoverD (c0 :: cs) = none ∧ v = Value.nilIface ∧ (.panicking [{ v := v, recovered := true }] : FrameMode) = .panicking [{ v := v, recovered := false }]) := by
  refine .inl ?_
  simp only [recoverD, h]
theorem settle_rec (v : Value) : settle (.panicking [{ v := v, recovered := true }]) = .returning := rfl
end
end Go.Eng

/- Eng23, Eng24, Eng25 as one text. -/
/- A call in a drawn region that takes an owned list and gives one. -/
namespace Go.Eng
open Go Go.RowKit
section
variable {P : Program} {ops : Array Oper} {Q : Exit → Act → World → Prop} {n : Cx} {F : Fm} {m : View}
variable {ty : TypeId} {pos : String} {after : Array Edge} {d : Nat}
theorem SR.callO {α : Type} {enc : α → List Value} {e sz : Nat} {xs : List α} {eff : List Nat} {t : Tl} {hs hp hp0 : List Res} {r : Res} {i : Nat} {s : Tr} {f : Operand} {args : List Operand} {tys : Array TypeId} {vs first cap : List Value} {q : FuncId}
    (ho : ops[i]? = some ⟨some d, .call ⟨.value f, args.toArray, tys⟩, ty, pos, after, none⟩) (he : eff.contains i = true) (ef : Ev n F f (.func (.func q) first.toArray cap.toArray)) (ea : Evs n F args vs) (hdel : Del hp r hp0)
    (c : ∀ fr, CT P q (first ++ vs ++ cap) (r :: (fr ++ (hp0 ++ hs))) m (fun v _ h' => OwnF enc e sz (fr ++ (hp0 ++ hs)) xs v h')) (hd : d < n.num)
    (k : ∀ a c, SR P ops Q n eff t hs s ((d, .slice a xs.length c) :: F) (.row (.slice a xs.length c) e sz xs.length (fl enc xs) :: hp0) m) : SR P ops Q n eff t hs (.op i s) F hp m := ⟨_, ho, fun x hx => by cases hx; exact hd, by
  rw [he]
  refine ⟨fun fr a w ha st => ⟨fun _ => ?_, fun h => by simp [Region.wanted] at h⟩⟩
  rw [run_call ha ef ea (c fr).enter]
  have hpm : (fr ++ (hp ++ hs)).Perm (r :: (fr ++ (hp0 ++ hs))) :=
    ((hdel.perm.append_right hs).append_left fr).trans List.perm_middle
  refine Calls.mono ((c fr).calls w (st.perm hpm)) ?_
  rintro e w' ⟨v', m', h', rfl, hle, hst, a1, c1, k1, rfl, rfl, rfl⟩
  exact .inl ⟨_, rfl, m, _, View.le.refl m, (hst.perm (List.perm_middle (l₁ := fr) (l₂ := hp0 ++ hs)).symm).back hle, nofun, (k a1 c1).e⟩⟩
theorem SR.callF {α : Type} {enc : α → List Value} {e sz : Nat} {xs : List α} {eff : List Nat} {t : Tl} {hs hp : List Res} {i : Nat} {s : Tr} {f : Operand} {args : List Operand} {tys : Array TypeId} {vs first cap : List Value} {q : FuncId}
    (ho : ops[i]? = some ⟨some d, .call ⟨.value f, args.toArray, tys⟩, ty, pos, after, none⟩) (he : eff.contains i = true) (ef : Ev n F f (.func (.func q) first.toArray cap.toArray)) (ea : Evs n F args vs)
    (c : ∀ fr, CT P q (first ++ vs ++ cap) (fr ++ (hp ++ hs)) m (fun v _ h' => OwnF enc e sz (fr ++ (hp ++ hs)) xs v h')) (hd : d < n.num)
    (k : ∀ a c, SR P ops Q n eff t hs s ((d, .slice a xs.length c) :: F) (.row (.slice a xs.length c) e sz xs.length (fl enc xs) :: hp) m) : SR P ops Q n eff t hs (.op i s) F hp m := ⟨_, ho, fun x hx => by cases hx; exact hd, by
  rw [he]
  refine ⟨fun fr a w ha st => ⟨fun _ => ?_, fun h => by simp [Region.wanted] at h⟩⟩
  rw [run_call ha ef ea (c fr).enter]
  refine Calls.mono ((c fr).calls w st) ?_
  rintro e w' ⟨v', m', h', rfl, hle, hst, a1, c1, k1, rfl, rfl, rfl⟩
  exact .inl ⟨_, rfl, m, _, View.le.refl m, (hst.perm (List.perm_middle (l₁ := fr) (l₂ := hp ++ hs)).symm).back hle, nofun, (k a1 c1).e⟩⟩
end
end Go.Eng

/- An element of an array value; a drawn region's end whose resources are put in order. -/
namespace Go.Eng
open Go Go.RowKit
section
variable {P : Program} {ops : Array Oper} {Q : Exit → Act → World → Prop} {n : Cx} {F : Fm} {h hp hs : List Res} {m : View}
variable {ty : TypeId} {pos : String} {after : Array Edge} {d : Nat} {dst : Option Nat} {g : Option (Nat × Bool)}
theorem PO.idxArr1 {x i : Operand} {t e len : Nat} {u : TypeDesc} {k : IntKind} {j : Int} {q : Nat} {cs : List Value} {v : Value} (ht : P.underlying t = some (.array len e)) (he : P.underlying e = some u) (hp : plainD u = true)
    (hsz : (P.info? e).map (·.size) = some 1) (ex : Ev n F x (.agg cs.toArray)) (ei : Ev n F i (.int k j)) (hj : j = (q : Int)) (hq : q < len) (hv : cs[q]? = some v) :
    PO P ⟨dst, .index t x i, ty, pos, after, g⟩ n F h m v := .mk fun b w ha _ => by
  subst hj
  have e1 : ¬ len ≤ q := by omega
  have hs : (sizeOf e).run P w = .ok 1 w := by
    cases hi : P.info? e with
    | none => rw [hi] at hsz; cases hsz
    | some y => rw [hi] at hsz; simp at hsz; simp [sizeOf, typeInfo, hi, hsz]
  simp [execOp, ex b ha, ei b ha, Instr.index, asIntOf, run_underlying ht, part, run_isAgg_plain w he hp, hs, hv, e1]
theorem SR.nilP {eff tt : List Nat} {tl : List Oper} {H : List Res} (htl : tt.filterMap (ops[·]?) = tl) (hH : (hp ++ hs).Perm H) (k : WL P ops Q n tl F H m) : SR P ops Q n eff ⟨tt, []⟩ hs .nil F hp m :=
  ⟨by subst htl; exact WL.perm hH k⟩
theorem perm_mid {α : Type} (bl l t : List α) : (bl ++ (l ++ t)).Perm (l ++ (bl ++ t)) := by
  rw [← List.append_assoc, ← List.append_assoc]
  exact List.perm_append_comm.append_right t
end
end Go.Eng

/- A slice among a law's arguments whose elements hold slices of their own kind. -/
namespace Go.Eng
open Go Go.RowKit
section
variable {H : Type} {enc : TypeId × Value → H} {P : Program} {W : World} {held : Bool} {fuel : Nat} {t : TypeId} {cs : List Value} {x : DataW H × List MemPlace}
theorem slice_argF {α : Type} {Pr : α → Prop} {enc' : α → List Value} {e sz : Nat} (ht : P.underlying t = some (.slice e)) (hsz : P.cellsOf e = sz) (hpos : 0 < sz) (henc : ∀ x, (enc' x).length = sz)
    (hdec : ∀ f ys y, f < fuel → RdT enc P W held f e ys y → (∀ k ∈ y.1.weights P e, k ∈ x.1.weights P t) → ∃ z, ys = enc' z ∧ Pr z) (h : RdT enc P W held fuel t cs x) :
    ∃ a n c l, cs = [.slice a n c] ∧ l.length = n ∧ Sl (viewOf W) a n c sz (fl enc' l) ∧ ∀ z ∈ l, Pr z := by
  rcases rd_sliceW ht h with rfl | ⟨a, n, c, f, rfl, rfl, h1, h2, h3⟩
  · exact ⟨none, 0, 0, [], rfl, rfl, Sl.nil _ _, fun _ h => by cases h⟩
  · rw [hsz] at h3
    have h4 : ∀ i, i < n → ∃ z, W.cells? 0 (a.add (i * sz)) sz = some (enc' z) ∧ Pr z := fun i hi => by
      obtain ⟨ys, y, e1, e2, e3⟩ := h3 i hi
      obtain ⟨z, rfl, hz⟩ := hdec f ys y (Nat.lt_succ_self f) e2 e3
      exact ⟨z, e1, hz⟩
    obtain ⟨l, hl, hp⟩ := choose_list n h4
    refine ⟨some a, n, c, l, rfl, hl, ⟨by rw [fl_len henc, hl], h1, by unfold maxLen at h2; omega, fun j v hj => ?_⟩, fun z hz => ?_⟩
    · have hjl : j < n * sz := by have := (List.getElem?_eq_some_iff.1 hj).1; rwa [fl_len henc, hl] at this
      have hq : j / sz < n := Nat.div_lt_of_lt_mul (by rwa [Nat.mul_comm] at hjl)
      obtain ⟨z, hz⟩ := get_some (l := l) (k := j / sz) (by omega)
      have hm : j % sz < sz := Nat.mod_lt _ hpos
      have hj2 : (enc' z)[j % sz]? = some v := by
        have := flat_get (sz := sz) enc' henc l (j / sz) (j % sz) hm
        rw [Nat.mul_comm, Nat.div_add_mod, hz] at this
        unfold fl at hj
        rw [hj] at this
        exact this.symm
      obtain ⟨hc, _⟩ := hp _ z hz
      have hcell := (cells_get hc).2 _ v hj2
      have hsp : a.spot = none := by
        obtain ⟨z0, hz0⟩ := get_some (l := l) (k := 0) (by rw [hl]; exact Nat.lt_of_le_of_lt (Nat.zero_le _) hq)
        obtain ⟨v0, hv0⟩ := get_some (l := enc' z0) (k := 0) (by rw [henc]; omega)
        have h0 := (cells_get (hp _ z0 hz0).1).2 _ v0 hv0
        have e0 : (a.add (0 * sz)).add 0 = a := by simp [Addr.add]
        rw [e0] at h0
        unfold World.cell? at h0
        split at h0
        · cases hs : a.spot with
          | none => rfl
          | some q => rw [hs] at h0; cases h0
        · cases h0
      obtain ⟨b, off, sp⟩ := a
      cases hsp
      refine ⟨b, off, rfl, ?_⟩
      rw [Addr.add_lit, Addr.add_lit, Nat.add_assoc, show j / sz * sz + j % sz = j by rw [Nat.mul_comm, Nat.div_add_mod]] at hcell
      exact start_cell hcell
    · obtain ⟨i, hi⟩ := List.getElem?_of_mem hz
      exact (hp i z hi).2
end
end Go.Eng

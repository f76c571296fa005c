/- A range over a function: the loop's record, its rounds, what comes behind; a function that leaves with the loop's mark. -/
import Derived.Test.YtmffmpadfpajcaaDoorEng17
import Derived.RangeFuncRecord
import Derived.Scope
namespace Go.Eng
open Go Go.RowKit

/-- A call of yield: a round is asked for, and ends in R. -/
def YieldR (P : Program) (l : Nat) (v : Value) (w : World) (R : Bool → World → Prop) : Prop :=
  ∃ fn tmps assign body, (Instr.yield l #[v]).run P w = .ok (.round l fn tmps assign body) w ∧
    RoundIn (fen none) 0 P l fn tmps assign body w fun e w' => ∃ b, e = .returned (.bool b) ∧ R b w'
theorem YieldR.mono {P : Program} {l : Nat} {v : Value} {w : World} {R R' : Bool → World → Prop} (h : YieldR P l v w R) (hr : ∀ b w', R b w' → R' b w') : YieldR P l v w R' := by
  obtain ⟨fn, tmps, assign, body, h1, h2⟩ := h
  exact ⟨fn, tmps, assign, body, h1, h2.mono fun e w' ⟨b, e1, e2⟩ => ⟨b, e1, hr b w' e2⟩⟩
/-- What the function that is ranged over knows of yield. -/
def YieldK {α : Type} (P : Program) (m : View) (l : Nat) (enc : α → Value) (xs : List α) (J : List α → List Res → Prop) (Jx : List Res → Prop) : Prop :=
  ∀ pre x post h fr w, xs = pre ++ x :: post → J pre h → St m (fr ++ h) w →
    YieldR P l (enc x) w fun b w' => ∃ h', St m (fr ++ h') w' ∧ ((b = true ∧ J (pre ++ [x]) h') ∨ (b = false ∧ Jx h'))

section
variable {P : Program} {ops : Array Oper} {Q : Exit → Act → World → Prop} {n : Cx} {F : Fm} {h h' : List Res} {m : View} {rest : List Oper}
variable {op : Op} {ty : TypeId} {pos : String} {after : Array Edge} {d : Nat} {v : Value}

theorem St.at {b : Nat} {o : Obj} {w : World} (s : St m h w) (hm : Res.pt b o ∈ h) : w.heap[b]? = some o := s.ok _ hm
theorem SR.appendE {eff : List Nat} {t' : Tl} {hs hp : List Res} {i : Nat} {s : Tr} {x y : Operand} {t e : TypeId} {sz by_ l cap k c l' : Nat} {a b : Option Addr} {xs ys zs : List Value} {hq : Value → List Res}
    (ho : ops[i]? = some ⟨some d, .call ⟨.builtin .append, #[x, y], #[t, t]⟩, ty, pos, after, none⟩) (he : eff.contains i = true) (E : EL P t e sz by_) (ex : Ev n F x (.slice a l cap)) (ey : Ev n F y (.slice b k c))
    (rd : Rd m (hp ++ hs) b k c sz ys) (h1 : ∀ u ∈ ys, u.oneCell' = true) (hl : l + k = l') (hz : xs ++ ys = zs) (h63 : l' ≤ 9223372036854775807) (hbytes : l' * by_ ≤ 140737488355328)
    (u : ∀ v', Upd hp (.row (.slice a l cap) e sz l xs) (.row v' e sz l' zs) (hq v')) (hd : d < n.num) (kk : ∀ a' cap', SR P ops Q n eff t' hs s ((d, .slice a' l' cap') :: F) (hq (.slice a' l' cap')) m) :
    SR P ops Q n eff t' hs (.op i s) F hp m := by
  subst hl hz
  exact SR.append ho he E ex ey rd h1 h63 hbytes u hd kk
/-- A list of operations among which yield is called. -/
structure WY (P : Program) (ops : Array Oper) (Q : Exit → Act → World → Prop) (n : Cx) (l : List Oper) (F : Fm) (h : List Res) (m : View) : Prop where
  e : ∀ a w, Fr n F a → St m h w → wpListIn (fen n.ro) 0 P ops (cutQ Q) l a w
theorem WY.ofWL {l : List Oper} (hp : l.all plainOp = true) (k : WL P ops Q n l F h m) : WY P ops Q n l F h m :=
  .mk fun a w ha hs => list_to_in l a w (by simpa using hp) (k.e a w ha hs)
theorem WC.regionY {id : Nat} {l : List Oper} {G : List (Option Nat)} (hG : dsts l = some G) (k : ∀ ops : Array Oper, (∀ j t, G[j]? = some (some t) → gslot ops j = some t) → WY P ops Q n l F h m) : WC P (.region id l.toArray false) Q n F h m := .mk fun a w ha hs =>
  wpIn_region_lit ((k _ fun j t hj => by
    have hG := dsts_eq hG
    subst hG
    unfold gslot
    simp only [List.getElem?_map] at hj
    simp only [List.getElem?_toArray]
    cases hl : l[j]? with
    | none => simp [hl] at hj
    | some o => simpa [hl] using hj).e a w ha hs)

theorem cutQ_noGoto {Q : Exit → Act → World → Prop} {e : Exit} {a : Act} {w : World} (h : cutQ (Exit.noGoto Q) e a w) : Exit.noGoto (cutQ Q) e a w := by
  cases e <;> exact h
theorem WC.scope {c : Code} (hro : n.ro = none) (k : WC P c (Exit.noGoto Q) n F h m) : WC P (.scope c) Q n F h m := .mk fun a w ha hs => by
  have hk := k.e a w ha hs
  rw [hro] at hk ⊢
  exact wpIn_wide.2 (wp_scope_straight (wpIn_wide.1 (wpIn_mono hk fun _ _ _ q => cutQ_noGoto q)))
theorem wpIn_of_run {o : Oper} {a : Act} {w w' : World} {K : Act → World → Prop} {v : Value} (hro : n.ro = none) (hr : (execOp a.eval o).run P w = .ok (.value v) w') (h : K (a.put o.dst v) w') : o.wpIn (fen n.ro) 0 P a w K Q := by
  refine ⟨fun _ _ => trivial, ?_⟩
  show o.uponIn (fen n.ro) 0 P a K Q ((o.semAt n.ro a.eval).run P w)
  rw [hro, Oper.semAt_none, hr]
  exact h
theorem WY.po (hro : n.ro = none) (hp : PO P ⟨some d, op, ty, pos, after, none⟩ n F h m v) (hn : d < n.num) (k : WY P ops Q n rest ((d, v) :: F) h m) :
    WY P ops Q n (⟨some d, op, ty, pos, after, none⟩ :: rest) F h m := .mk fun a w ha hs => by
  unfold wpListIn
  rw [if_pos (show Region.wanted _ _ = true from rfl)]
  exact wpIn_of_run hro (hp a w ha hs) (k.e _ _ (ha.put hn v) hs)
theorem WY.poG {gd : Nat × Bool} {c : Bool} (hro : n.ro = none) (hg : GU ops n F gd c) (hp : c = true → PO P ⟨some d, op, ty, pos, after, some gd⟩ n F h m v) (hn : d < n.num) (k : WY P ops Q n rest ((d, gv c v) :: F) h m) :
    WY P ops Q n (⟨some d, op, ty, pos, after, some gd⟩ :: rest) F h m := .mk fun a w ha hs => by
  have hy := hg.wanted (dst := some d) (op := op) (ty := ty) (pos := pos) (after := after) ha
  unfold wpListIn
  cases c with
  | true =>
    rw [if_pos hy]
    exact wpIn_of_run hro (hp rfl a w ha hs) (k.e _ _ (ha.put hn v) hs)
  | false =>
    rw [if_neg (by rw [hy]; decide)]
    exact ⟨fun _ _ => trivial, k.e _ _ (ha.put hn undef) hs⟩
theorem WY.yieldG {gd : Nat × Bool} {c : Bool} {f x : Operand} {tys : Array TypeId} {l : Nat} {R : Bool → List Res → Prop} (hro : n.ro = none) (hg : GU ops n F gd c)
    (hp : c = true → Ev n F f (.func (.yield l) #[] #[]) ∧ Ev n F x v ∧ ∀ w, St m h w → YieldR P l v w fun b w' => ∃ h', St m h' w' ∧ R b h') (hn : d < n.num)
    (k : ∀ b h', (c = true → R b h') → (c = false → h' = h) → WY P ops Q n rest ((d, gv c (.bool b)) :: F) h' m) :
    WY P ops Q n (⟨some d, .call ⟨.value f, #[x], tys⟩, ty, pos, after, some gd⟩ :: rest) F h m := .mk fun a w ha hs => by
  have hy := hg.wanted (dst := some d) (op := .call ⟨.value f, #[x], tys⟩) (ty := ty) (pos := pos) (after := after) ha
  unfold wpListIn
  cases c with
  | true =>
    rw [if_pos hy]
    obtain ⟨ef, ex, hk⟩ := hp rfl
    obtain ⟨fn, tmps, assign, body, hrun, hR⟩ := hk w hs
    refine ⟨fun _ _ => trivial, ?_⟩
    show Oper.uponIn _ _ _ _ _ _ _ ((Oper.semAt n.ro a.eval _).run P w)
    rw [hro, Oper.semAt_none]
    have hr : (execOp a.eval ⟨some d, .call ⟨.value f, #[x], tys⟩, ty, pos, after, some gd⟩).run P w = .ok (.round l fn tmps assign body) w := by
      simpa [execOp, resolve, ef a ha, ex a ha, Deferred.ofValue, invoke] using hrun
    rw [hr]
    refine ⟨fun hh => (by cases hh), hR.mono ?_⟩
    rintro e w' ⟨b, rfl, h', hst, hb⟩
    have hz := (k b h' (fun _ => hb) (fun hh => by cases hh)).e _ _ (ha.put hn _) hst
    rw [hro] at hz
    exact hz
  | false =>
    rw [if_neg (by rw [hy]; decide)]
    exact ⟨fun _ _ => trivial, (k true h (fun hh => by cases hh) (fun _ => rfl)).e _ _ (ha.put hn undef) hs⟩

def markD (D : Nat) : Deferred := { target := .collected D, args := #[] }
/-- How the body of a round may be left. -/
def roundQ (m : View) (I X : List Res → Prop) (fr : List Res) : Exit → Act → World → Prop
  | .normal, _, w => ∃ hc, I hc ∧ St m (hc ++ fr) w
  | .ret, _, w => ∃ hc, X hc ∧ St m (hc ++ fr) w
  | _, _, _ => False
theorem roundNext {I : List Res → Prop} {fr : List Res} (hc : List Res) (hd : (hc ++ fr).Sublist h) (hI : I hc) : ∀ a w, Fr n F a → St m h w → ∃ hc, I hc ∧ St m (hc ++ fr) w := fun _ _ _ st => ⟨hc, hI, st.sub hd⟩
theorem roundRet {X : List Res → Prop} {fr : List Res} (hc : List Res) (hd : (hc ++ fr).Sublist h) (hX : X hc) : ∀ a w, Fr n F a → St m h w → ∃ hc, X hc ∧ St m (hc ++ fr) w := fun _ _ _ st => ⟨hc, hX, st.sub hd⟩
theorem perm2 {α : Type} (a b : α) (s t : List α) : (s ++ a :: b :: t).Perm (a :: b :: (t ++ s)) :=
  List.perm_middle.trans ((List.perm_middle.trans ((List.perm_append_comm).cons b)).cons a)
theorem perm2' {α : Type} (a b : α) (s t : List α) : (s ++ a :: b :: t).Perm (t ++ a :: b :: s) :=
  (perm2 a b s t).trans (List.perm_middle.trans ((List.perm_middle).cons a)).symm

theorem WC.rangeFunc {α : Type} {N : Nat} {g : Operand} {p : Tmp} {assign body : Code} {gf : FuncId} {lb : List Value} (enc : α → Value) (xs : List α) (hi hc0 : List Res) (I : List α → List Res → Prop) (X : List Res → Prop)
    (hpN : p < N) (eg : Ev ⟨N, none, []⟩ F g (.func (.func gf) #[] lb.toArray)) (ee : ∀ as w, (callFunc gf as).run P w = .ok (.enter gf as) w)
    (it : ∀ (l : Nat) (J : List α → List Res → Prop) (Jx : List Res → Prop) (h0 : List Res), YieldK P m l enc xs J Jx → J [] h0 → CT P gf (.func (.yield l) #[] #[] :: lb) (hi ++ h0) m (fun _ _ h' => J xs h' ∨ Jx h'))
    (hI0 : I [] hc0) (hh : h = hi ++ hc0)
    (round : ∀ (l : Nat) pre x post hc, xs = pre ++ x :: post → I pre hc → ∀ fr (K : Act → World → Prop),
      (∀ F1 h1, (∀ fr2, WC P body (roundQ m (I (pre ++ [x])) X fr2) ⟨N, some l, []⟩ F1 (h1 ++ fr2) m) → ∀ a w, Fr ⟨N, some l, []⟩ F1 a → St m (h1 ++ fr) w → K a w) →
      WC P assign (Exit.then K (fun _ _ _ => False)) ⟨N, some l, []⟩ ((p, enc x) :: F) (hc ++ fr) m)
    (done : ∀ D hc, I xs hc → ∀ a w, Fr ⟨N, none, [markD D]⟩ F a → St m (.pt D (.deferred (some [])) :: hc) w → Q .normal a w)
    (stop : ∀ D hc, X hc → ∀ a w, Fr ⟨N, none, [markD D]⟩ F a → St m (.pt D (.deferred (some [])) :: hc) w → Q .ret a w) :
    WC P (.rangeFunc g #[p] assign body) Q ⟨N, none, []⟩ F h m := .mk fun a w ha hs => by
  subst hh
  have hds : a.defers = [] := ha.d
  refine wpIn_rangeFunc fun fn hfn => ?_
  obtain ⟨rec, hrec⟩ : ∃ rec : LoopState → Option Code → Loop, rec = fun st pe => { state := st, pending := pe, fn, tmps := a.tmps, params := #[p], assign, body, defers := w.heap.size } := ⟨_, rfl⟩
  obtain ⟨D, hD⟩ : ∃ D, D = w.heap.size := ⟨_, rfl⟩
  obtain ⟨l, hl⟩ : ∃ l, l = w.heap.size + 1 := ⟨_, rfl⟩
  have st1 := (hs.alloc (.deferred (some []))).alloc (.loop (rec .ready none))
  rw [World.size_alloc] at st1
  obtain ⟨W1, hW1⟩ : ∃ W1, W1 = (w.alloc (.deferred (some []))).alloc (.loop (rec .ready none)) := ⟨_, rfl⟩
  rw [← hW1, ← hD, show D + 1 = l by omega] at st1
  have frm : Fr ⟨N, none, [markD D]⟩ F { a with defers := [markD D] ++ a.defers } := ⟨by show [markD D] ++ a.defers = _; rw [hds]; rfl, ha.sz, ha.get⟩
  refine ⟨l, [markD D], W1, { target := .fn (.func gf) lb.toArray, args := #[.func (.yield l) #[] #[]] }, W1, gf, #[.func (.yield l) #[] #[]] ++ lb.toArray, W1, ?_, ?_, fun _ _ => trivial, ?_, fun hx => (by cases hx), ?_⟩
  · rw [hW1, hrec, hl, hD]
    exact run_enterLoop_outer _ _ _ _ _
  · simp only [resolve, eg a ha]
    simp [go_sem]
  · simp [invoke, go_sem, ee]
  · have hct := it l (fun pre h' => ∃ hc, h' = .pt l (.loop (rec .ready none)) :: .pt D (.deferred (some [])) :: hc ∧ I pre hc) (fun h' => ∃ hc, h' = .pt l (.loop (rec .done (some .ret))) :: .pt D (.deferred (some [])) :: hc ∧ X hc)
      (.pt l (.loop (rec .ready none)) :: .pt D (.deferred (some [])) :: hc0) ?_ ⟨hc0, rfl, hI0⟩
    · have hcl := hct.calls W1 (st1.perm (perm2 _ _ hi hc0 |>.trans ((List.perm_append_comm.cons _).cons _) |>.symm))
      have e0 : (#[.func (.yield l) #[] #[]] ++ lb.toArray : Array Value) = (.func (.yield l) #[] #[] :: lb).toArray := by simp
      rw [e0]
      refine callsIn_wide.2 (Calls.mono hcl ?_)
      rintro e w' ⟨v, m', h', rfl, hle, hst, hR⟩
      have hst := hst.back hle
      rcases hR with ⟨hc, rfl, hI⟩ | ⟨hc, rfl, hX⟩
      · have h1 : w'.heap[l]? = some (.loop (rec .ready none)) := hst.at (by simp)
        refine ⟨none, _, by have := run_endLoop (P := P) h1 (by rw [hrec]; simp); rw [hrec] at this; exact this, ?_⟩
        exact done D hc hI _ _ frm ((hst.setObj Upd.here).sub (List.sublist_cons_self _ _))
      · have h1 : w'.heap[l]? = some (.loop (rec .done (some .ret))) := hst.at (by simp)
        refine ⟨some .ret, _, by have := run_endLoop (P := P) h1 (by rw [hrec]; simp); rw [hrec] at this; exact this, ?_⟩
        exact wpIn_ret (stop D hc hX _ _ frm ((hst.setObj Upd.here).sub (List.sublist_cons_self _ _)))
    · rintro pre x post h' fr w2 hx ⟨hc, rfl, hI⟩ st2
      have h1 : w2.heap[l]? = some (.loop (rec .ready none)) := st2.at (by simp)
      have hy : (Instr.yield l #[enc x]).run P w2 = .ok (.round l fn (a.tmps.setIfInBounds p (enc x)) assign body) w2 := by
        have := run_yield (P := P) (args := #[enc x]) h1 (by rw [hrec]; rfl)
        rw [hrec] at this
        simpa using this
      refine ⟨fn, _, assign, body, hy, ?_⟩
      refine roundIn_of_wpIn hfn ?_
      obtain ⟨fr1, hfr1⟩ : ∃ fr1, fr1 = Res.pt l (.loop (rec .ready none)) :: .pt D (.deferred (some [])) :: fr := ⟨_, rfl⟩
      have fr0 : Fr ⟨N, some l, []⟩ ((p, enc x) :: F) { tmps := a.tmps.setIfInBounds p (enc x), defers := [] } := by
        have h2 := ha.put hpN (enc x)
        exact ⟨rfl, h2.sz, h2.get⟩
      have hw := (round l pre x post hc hx hI fr1 (fun a₁ w₁ => ∃ w₂, (Instr.beginRound l).run P w₁ = .ok () w₂ ∧ body.wpIn (fen (some l)) 0 P
        (roundPost P l fun e w' => ∃ b, e = .returned (.bool b) ∧ ∃ h', St m (fr ++ h') w' ∧ ((b = true ∧ ∃ hc, h' = .pt l (.loop (rec .ready none)) :: .pt D (.deferred (some [])) :: hc ∧ I (pre ++ [x]) hc) ∨ (b = false ∧ ∃ hc, h' = .pt l (.loop (rec .done (some .ret))) :: .pt D (.deferred (some [])) :: hc ∧ X hc))) a₁ w₂) ?_).e _ w2 fr0
        (by rw [hfr1]; exact st2.perm (perm2' _ _ fr hc))
      · exact wpIn_mono hw fun e a' w' q => cutQ_imp q
      · intro F1 h1' hb a1 w1 hf1 hs1
        rw [hfr1] at hs1
        have h2 : w1.heap[l]? = some (.loop (rec .ready none)) := hs1.at (by simp)
        refine ⟨_, run_beginRound h2 (by rw [hrec]), ?_⟩
        have hs2 := hs1.setObj (o' := .loop { rec .ready none with state := .busy }) (Upd.right (l := h1') Upd.here)
        refine wpIn_mono ((hb _).e a1 _ hf1 hs2) ?_
        intro e a3 w3 q
        cases e with
        | normal =>
          obtain ⟨hc', hI', hs3⟩ := q
          have h3 : w3.heap[l]? = some (.loop { rec .ready none with state := .busy }) := hs3.at (by simp)
          refine ⟨_, _, run_endRound none h3, true, rfl, .pt l (.loop (rec .ready none)) :: .pt D (.deferred (some [])) :: hc', ?_, .inl ⟨rfl, hc', rfl, hI'⟩⟩
          have hs4 := hs3.setObj (o' := .loop { ({ rec .ready none with state := .busy } : Loop) with state := if (none : Option Code).isNone then .ready else .done, pending := none }) (Upd.right (l := hc') Upd.here)
          have hs5 := hs4.perm (perm2' _ _ hc' fr)
          rw [hrec] at hs5 ⊢
          exact hs5
        | ret =>
          obtain ⟨hc', hI', hs3⟩ := q
          have h3 : w3.heap[l]? = some (.loop { rec .ready none with state := .busy }) := hs3.at (by simp)
          refine ⟨_, _, run_endRound (some .ret) h3, false, rfl, .pt l (.loop (rec .done (some .ret))) :: .pt D (.deferred (some [])) :: hc', ?_, .inr ⟨rfl, hc', rfl, hI'⟩⟩
          have hs4 := hs3.setObj (o' := .loop { ({ rec .ready none with state := .busy } : Loop) with state := if (some Code.ret).isNone then .ready else .done, pending := some .ret }) (Upd.right (l := hc') Upd.here)
          have hs5 := hs4.perm (perm2' _ _ hc' fr)
          rw [hrec] at hs5 ⊢
          exact hs5
        | exit id => exact q.elim
        | goto t => exact q.elim
        | panic ch => exact q.elim
        | outgrown => exact q.elim

/-- A function whose body holds a range over a function. -/
def noPan (Q : Exit → Act → World → Prop) : Exit → Act → World → Prop
  | .panic _, _, _ => False
  | e, a, w => Q e a w
theorem noPan_imp {Q : Exit → Act → World → Prop} {e : Exit} {a : Act} {w : World} (h : noPan Q e a w) : Q e a w := by
  cases e <;> first | exact h | exact h.elim
theorem CT.bodyM {f : FuncId} {args : List Value} {R : Value → View → List Res → Prop} {fn : Func} {c : Code} {F0 : Fm} {N : Nat} (he : ∀ as w, (callFunc f as).run P w = .ok (.enter f as) w)
    (hf : P.funcs[f]? = some fn) (hb : fn.body = some c) (hN : fn.ntmps = N) (hl : args.length ≤ N) (hF : enumO 0 args = some F0) (k : WC P c (noPan (bodyPostM (fen none) 0 P fn (RQ m R))) ⟨N, none, []⟩ F0 h m) : CT P f args h m R := by
  have hF := enumO_eq hF
  subst hF hN
  exact ⟨he, fun w hs => callsIn_wide.1 (callsIn_of_wp_marks (F := fen none) (n := 0) hf hb trivial (wpIn_mono (k.e _ w (Fr.enter args fn.ntmps hl) hs) fun _ _ _ q => noPan_imp (cutQ_imp q)))⟩
theorem endM_ {fn : Func} {ex : Exit} {R : Ending → World → Prop} {v : Value} {h1 : List Res} (hex : ex = .ret ∨ ex = .normal) (hr : ∀ a w, Fr n F a → St m h1 w → (results fn a.tmps).run P w = .ok v w) (hR : ∀ w, St m h1 w → R (.returned v) w)
    (hds : (n.ds = [] ∧ h = h1) ∨ ∃ D t, n.ds = [markD D] ∧ h = .pt D (.deferred (some [])) :: t ∧ h1 = t) :
    ∀ a w, Fr n F a → St m h w → bodyPostM (fen none) 0 P fn R ex a w := fun a w ha hs => by
  have key : LeavesInM (fen none) 0 P fn a.tmps R a.defers .returning w := by
    rcases hds with ⟨e, rfl⟩ | ⟨D, t, e, rfl, rfl⟩
    · rw [ha.d, e]
      exact ⟨v, hr a w ha hs, hR w hs⟩
    · rw [ha.d, e]
      have hk : w.heap[D]? = some (.deferred (some [])) := hs.at (by simp)
      have hs2 := (hs.setObj (o' := .deferred none) Upd.here).sub (List.sublist_cons_self _ _)
      exact ⟨by simp, .inl ⟨D, _, rfl, run_takeDeferred hk, v, hr a _ ha hs2, hR _ hs2⟩⟩
  rcases hex with rfl | rfl <;> exact key
theorem endM3 {fn : Func} {ex : Exit} {m0 : View} {R : Value → View → List Res → Prop} {r r' r'' : ResultVar} {v v' v'' : Value} {h1 : List Res} (hex : ex = .ret ∨ ex = .normal)
    (hds : (n.ds = [] ∧ h = h1) ∨ ∃ D t, n.ds = [markD D] ∧ h = .pt D (.deferred (some [])) :: t ∧ h1 = t) (hfn : fn.results = #[r, r', r'']) (x1 : RV P n F h1 m r v) (x2 : RV P n F h1 m r' v') (x3 : RV P n F h1 m r'' v'')
    (hle : m0.le m) (hd : h'.Sublist h1) (hR : R (.tuple #[v, v', v'']) m h') :
    ∀ a w, Fr n F a → St m h w → bodyPostM (fen none) 0 P fn (RQ m0 R) ex a w :=
  endM_ hex (fun a w ha hs => by
    have h1 := x1.e a w ha hs
    have h2 := x2.e a w ha hs
    have h3 := x3.e a w ha hs
    simp [results_eq, hfn, h1, h2, h3]) (fun w hs => ⟨_, m, h', rfl, hle, hs.sub hd, hR⟩) hds
end
end Go.Eng

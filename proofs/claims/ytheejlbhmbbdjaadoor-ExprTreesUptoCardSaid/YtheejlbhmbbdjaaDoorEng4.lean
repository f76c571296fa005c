/- A region whose order is drawn: one order of it is walked, and the others come to the same. -/
import Derived.Test.YtheejlbhmbbdjaaDoorEng1
import Derived.Orders
namespace Go.Eng
open Go Go.RowKit

def direct (o : Oper) : List Nat := (o.after.toList.filter (Region.binds .any)).map (·.on)

/-- Of each operation, as a number's bits, all those that must have come before it. -/
def cloAux : List Oper → List Nat → List Nat
  | [], acc => acc
  | o :: l, acc => cloAux l (acc ++ [(direct o).foldl (fun s p => s ||| (2 ^ p ||| acc.getD p 0)) 0])
def clo (ops : List Oper) : List Nat := cloAux ops []

def apartIf (ops : Array Oper) (i j : Nat) : Bool :=
  match ops[i]?, ops[j]? with
  | some x, some y => x.apart ops y && (match x.op with | .select .. => false | _ => true) && (match y.op with | .select .. => false | _ => true)
  | _, _ => false

/-- A reading of the memory; a making of new memory. -/
def isRd (o : Oper) : Bool := match o.op, o.guard with
  | .load _ _, none => true
  | _, _ => false
def isAl (o : Oper) : Bool := match o.op with
  | .buildSlice _ _ _ => true
  | .alloc _ => true
  | _ => false
def rdAl (ops : Array Oper) (i j : Nat) : Bool := match ops[i]?, ops[j]? with
  | some x, some y => isRd x && isAl y
  | _, _ => false
theorem isRd_al {o : Oper} (h : isAl o = true) : isRd o = false := by
  unfold isAl at h
  unfold isRd
  split at h <;> simp_all
/-- j is no hindrance to i, which is brought past it. -/
def passB (ops : Array Oper) (eff : List Nat) (j i : Nat) : Bool := (!eff.contains j || rdAl ops j i) && apartIf ops j i
/-- Orders of a region's operations: where two effects are not bound to each other, one tree for each of the ways. -/
inductive Tr where
  | nil
  | op (i : Nat) (t : Tr)
  | alt (a b : Tr)
def Tr.ops : Tr → List Nat
  | .nil => []
  | .op i t => i :: t.ops
  | .alt a _ => a.ops
/-- Either way holds the same operations. -/
def Tr.wf : Tr → Bool
  | .nil => true
  | .op _ t => t.wf
  | .alt a b => a.wf && b.wf && a.ops.isPerm b.ops
/-- The operation i, brought to the front. -/
def Tr.front (f : Nat → Nat → Bool) (i : Nat) : Tr → Option Tr
  | .nil => none
  | .op j t => if j = i then some t else if f j i = true then (t.front f i).map (.op j) else none
  | .alt a b => match a.front f i with
    | some x => some x
    | none => b.front f i
/-- Whether i may be brought to the front when it is ready: it is not bound to what it passes. -/
def Tr.may (f g : Nat → Nat → Bool) (i : Nat) : Tr → Bool
  | .nil => false
  | .op j t => j == i || g j i || (f j i && t.may f g i)
  | .alt a b => a.may f g i || b.may f g i
def Tr.full (f g : Nat → Nat → Bool) (t : Tr) : Bool := t.ops.all fun i => t.may f g i
def Tr.sub (f g : Nat → Nat → Bool) : Tr → Bool
  | .nil => true
  | .op j t => (t.full f g && t.sub f g) && ((Tr.op j t).full f g || t.ops.all fun k => !f j k)
  | .alt a b => a.sub f g && b.sub f g
theorem Tr.front_perm {f : Nat → Nat → Bool} {i : Nat} : ∀ {t t' : Tr}, t.wf = true → t.front f i = some t' → t.ops.Perm (i :: t'.ops) ∧ t'.wf = true
  | .nil, _, _, h => by cases h
  | .op j t, t', hw, h => by
    unfold Tr.front at h
    split at h
    · rename_i e
      subst e
      cases h
      exact ⟨List.Perm.refl _, hw⟩
    · split at h
      · cases hf : t.front f i with
        | none => rw [hf] at h; cases h
        | some x =>
          rw [hf] at h
          cases h
          obtain ⟨h1, h2⟩ := Tr.front_perm (t := t) hw hf
          exact ⟨(h1.cons j).trans (List.Perm.swap _ _ _), h2⟩
      · cases h
  | .alt a b, t', hw, h => by
    simp only [Tr.wf, Bool.and_eq_true] at hw
    unfold Tr.front at h
    split at h
    · rename_i x hx
      cases h
      exact Tr.front_perm (t := a) hw.1.1 hx
    · obtain ⟨h1, h2⟩ := Tr.front_perm (t := b) hw.1.2 h
      exact ⟨(List.isPerm_iff.1 hw.2).trans h1, h2⟩
theorem Tr.front_sub {f g : Nat → Nat → Bool} {i : Nat} : ∀ {t t' : Tr}, t.wf = true → t.sub f g = true → t.front f i = some t' → t'.sub f g = true ∧ t'.full f g = true
  | .nil, _, _, _, h => by cases h
  | .op j t, t', hw, hs, h => by
    simp only [Tr.sub, Bool.and_eq_true, Bool.or_eq_true] at hs
    obtain ⟨⟨s1, s2⟩, s3⟩ := hs
    unfold Tr.front at h
    split at h
    · cases h
      exact ⟨s2, s1⟩
    · rename_i hji
      split at h
      · rename_i hfj
        cases hf : t.front f i with
        | none => rw [hf] at h; cases h
        | some x =>
          rw [hf] at h
          cases h
          obtain ⟨x1, x2⟩ := Tr.front_sub (t := t) hw s2 hf
          have hp := (Tr.front_perm (t := t) hw hf).1
          have hfull : (Tr.op j x).full f g = true := by
            rcases s3 with s3 | s3
            · simp only [Tr.full, List.all_eq_true] at s3 x2 ⊢
              intro k hk
              have hk' : k ∈ (Tr.op j t).ops := by
                rcases List.mem_cons.1 hk with rfl | hk
                · exact List.mem_cons_self ..
                · exact List.mem_cons_of_mem _ (hp.mem_iff.2 (List.mem_cons_of_mem _ hk))
              have h1 := s3 k hk'
              simp only [Tr.may, Bool.or_eq_true, Bool.and_eq_true] at h1 ⊢
              rcases List.mem_cons.1 hk with rfl | hk
              · exact .inl (.inl (by simp))
              · rcases h1 with h1 | h1
                · exact .inl h1
                · exact .inr ⟨h1.1, x2 k hk⟩
            · exfalso
              simp only [List.all_eq_true, Bool.not_eq_true'] at s3
              have := s3 i (hp.mem_iff.2 (List.mem_cons_self ..))
              rw [hfj] at this
              cases this
          refine ⟨?_, hfull⟩
          simp only [Tr.sub, Bool.and_eq_true, Bool.or_eq_true]
          exact ⟨⟨x2, x1⟩, .inl hfull⟩
      · cases h
  | .alt a b, t', hw, hs, h => by
    simp only [Tr.wf, Bool.and_eq_true] at hw
    simp only [Tr.sub, Bool.and_eq_true] at hs
    unfold Tr.front at h
    split at h
    · rename_i x hx
      cases h
      exact Tr.front_sub (t := a) hw.1.1 hs.1 hx
    · exact Tr.front_sub (t := b) hw.1.2 hs.2 h
theorem Tr.front_may {f g : Nat → Nat → Bool} {i : Nat} : ∀ {t : Tr}, t.may f g i = true → t.wf = true → (∀ j ∈ t.ops, g j i = false) → ∃ t', t.front f i = some t'
  | .nil, h, _, _ => by cases h
  | .op j t, h, hw, hg => by
    simp only [Tr.may, Bool.or_eq_true, Bool.and_eq_true] at h
    unfold Tr.front
    split
    · exact ⟨t, rfl⟩
    · rename_i hji
      rcases h with (h | h) | h
      · exact absurd (eq_of_beq h) hji
      · rw [hg j (List.mem_cons_self ..)] at h; cases h
      · obtain ⟨x, hx⟩ := Tr.front_may (t := t) h.2 hw fun k hk => hg k (List.mem_cons_of_mem _ hk)
        rw [if_pos h.1, hx]
        exact ⟨_, rfl⟩
  | .alt a b, h, hw, hg => by
    simp only [Tr.wf, Bool.and_eq_true] at hw
    have hp := List.isPerm_iff.1 hw.2
    simp only [Tr.may, Bool.or_eq_true] at h
    unfold Tr.front
    cases ha : a.front f i with
    | some x => exact ⟨x, rfl⟩
    | none =>
      rcases h with h | h
      · obtain ⟨x, hx⟩ := Tr.front_may (t := a) h hw.1.1 hg
        rw [ha] at hx
        cases hx
      · exact Tr.front_may (t := b) h hw.1.2 fun j hj => hg j (hp.mem_iff.2 hj)
def pairsOk (f : Nat → Nat → Bool) : List Nat → Bool
  | [] => true
  | i :: l => l.all (f i) && pairsOk f l

/-- The order s, then t in turn: is it one that stands for all? -/
def dirOf (ops : Array Oper) (i : Nat) : List Nat := match ops[i]? with
  | some o => direct o
  | none => []
/-- An operation that looks at slots alone. -/
def worldFree : Oper → Bool
  | ⟨some _, .extract _ _, _, _, _, none⟩ => true
  | ⟨some _, .move _, _, _, _, none⟩ => true
  | _ => false
def lateOk (ops : Array Oper) (p : Nat) : Bool := (match ops[p]? with
  | some o => worldFree o
  | none => false) && Region.free .any ops ((Array.range ops.size).map fun j => ((clo ops.toList).getD p 0).testBit j) p
def orderOkU (ops : Array Oper) (eff : List Nat) (T : Tr) (u t lp : List Nat) : Bool :=
  let cl := clo ops.toList
  let s := T.ops
  (T.wf && T.full (passB ops eff) (fun j i => (cl.getD i 0).testBit j) && T.sub (passB ops eff) (fun j i => (cl.getD i 0).testBit j))
    && (s ++ (u ++ t)).length == ops.size && (List.range ops.size).all (fun i => (s ++ (u ++ t)).contains i)
    && pairsOk (fun i j => i != j) (s ++ (u ++ t))
    && (ops.toList.zipIdx.all fun (o, i) => (direct o).all (· < i))
    && t.all (fun j => u.all fun i => (cl.getD j 0).testBit i)
    && t.all (fun j => s.all fun i => (cl.getD j 0).testBit i || (lp.contains i && (dirOf ops i).all fun d => (cl.getD j 0).testBit d))
    && lp.all (fun p => !eff.contains p && lateOk ops p) && Region.noSelect ops
    && pairsOk (fun i j => (cl.getD j 0).testBit i) t
theorem pairsOk_pw {f : Nat → Nat → Bool} : ∀ {l : List Nat}, pairsOk f l = true → l.Pairwise (fun i j => f i j = true)
  | [], _ => .nil
  | i :: l, h => by
    simp only [pairsOk, Bool.and_eq_true, List.all_eq_true] at h
    exact List.pairwise_cons.2 ⟨fun j hj => h.1 j hj, pairsOk_pw h.2⟩

theorem foldl_or_bit (f : Nat → Nat) (i : Nat) : ∀ (l : List Nat) (s : Nat), (l.foldl (fun s p => s ||| f p) s).testBit i = true → s.testBit i = true ∨ ∃ p ∈ l, (f p).testBit i = true
  | [], s, h => .inl h
  | p :: l, s, h => by
    rcases foldl_or_bit f i l _ h with h | ⟨q, hq, hb⟩
    · rw [Nat.testBit_or, Bool.or_eq_true] at h
      rcases h with h | h
      · exact .inl h
      · exact .inr ⟨p, by simp, h⟩
    · exact .inr ⟨q, by simp [hq], hb⟩

theorem cloAux_spec : ∀ (l : List Oper) (acc : List Nat) (j i : Nat), (∀ k, (acc.getD k 0).testBit i = true → k < acc.length) →
    ((cloAux l acc).getD j 0).testBit i = true → (acc.getD j 0).testBit i = true ∨ ∃ o, l[j - acc.length]? = some o ∧ acc.length ≤ j ∧ (i ∈ direct o ∨ ∃ p ∈ direct o, ((cloAux l acc).getD p 0).testBit i = true ∧ p < j)
  | [], acc, j, i, _, h => .inl h
  | o :: l, acc, j, i, _, h => by
    have hacc : ∀ (l : List Oper) (acc : List Nat) (k : Nat), k < acc.length → (cloAux l acc).getD k 0 = acc.getD k 0 := by
      intro l
      induction l with
      | nil => intro acc k _; rfl
      | cons o l ih =>
        intro acc k hk
        rw [cloAux, ih _ _ (by simp; omega)]
        simp [List.getD, List.getElem?_append_left hk]
    simp only [cloAux] at h
    have hz : ∀ k, ((acc ++ [(direct o).foldl (fun s p => s ||| (2 ^ p ||| acc.getD p 0)) 0]).getD k 0).testBit i = true → k < (acc ++ [(direct o).foldl (fun s p => s ||| (2 ^ p ||| acc.getD p 0)) 0]).length := by
      intro k hk
      rcases Nat.lt_or_ge k (acc ++ [(direct o).foldl (fun s p => s ||| (2 ^ p ||| acc.getD p 0)) 0]).length with h' | h'
      · exact h'
      · rw [List.getD, List.getElem?_eq_none h'] at hk; simp at hk
    rcases cloAux_spec l _ j i hz h with h1 | ⟨o', ho', hle, hd⟩
    · rcases Nat.lt_trichotomy j acc.length with hj | hj | hj
      · left
        simpa [List.getD, List.getElem?_append_left hj] using h1
      · right
        refine ⟨o, by simp [hj], by omega, ?_⟩
        have e1 : (acc ++ [(direct o).foldl (fun s p => s ||| (2 ^ p ||| acc.getD p 0)) 0]).getD j 0 = (direct o).foldl (fun s p => s ||| (2 ^ p ||| acc.getD p 0)) 0 := by
          subst hj; simp [List.getD]
        rw [e1] at h1
        rcases foldl_or_bit _ i _ _ h1 with h2 | ⟨p, hp, hb⟩
        · simp at h2
        · rw [Nat.testBit_or, Bool.or_eq_true] at hb
          rcases hb with hb | hb
          · left
            have : p = i := by
              rw [Nat.testBit_two_pow] at hb; simpa using hb
            rw [← this]; exact hp
          · right
            have hpl : p < acc.length := by
              rcases Nat.lt_or_ge p acc.length with h' | h'
              · exact h'
              · simp [List.getD, List.getElem?_eq_none h'] at hb
            refine ⟨p, hp, ?_, by omega⟩
            rw [cloAux, hacc _ _ _ (by simp; omega)]
            simp only [List.getD, List.getElem?_append_left hpl] at hb ⊢
            exact hb
      · exfalso
        rw [List.getD, List.getElem?_eq_none (by simp; omega)] at h1
        simp at h1
    · right
      simp only [List.length_append, List.length_singleton] at ho' hle
      refine ⟨o', ?_, by omega, hd⟩
      rw [show j - acc.length = (j - (acc.length + 1)) + 1 by omega, List.getElem?_cons_succ]
      exact ho'

theorem clo_spec {l : List Oper} {j i : Nat} (h : ((clo l).getD j 0).testBit i = true) : ∃ o, l[j]? = some o ∧ (i ∈ direct o ∨ ∃ p ∈ direct o, ((clo l).getD p 0).testBit i = true ∧ p < j) := by
  rcases cloAux_spec l [] j i (fun k hk => by simp at hk) h with h1 | ⟨o, ho, _, hd⟩
  · simp at h1
  · exact ⟨o, by simpa using ho, hd⟩

def closed (ops : Array Oper) (L : Array Bool) : Prop := ∀ j o, ops[j]? = some o → L.getD j true = true → j < L.size → ∀ p ∈ direct o, L.getD p false = true

theorem clo_listed {ops : Array Oper} {L : Array Bool} (hc : closed ops L) : ∀ (j : Nat) (o : Oper) (i : Nat), ops[j]? = some o → (∀ p ∈ direct o, L.getD p false = true) → ((clo ops.toList).getD j 0).testBit i = true → L.getD i false = true := by
  intro j
  induction j using Nat.strongRecOn with
  | _ j ih =>
    intro o i ho hp hb
    obtain ⟨o', ho', hd⟩ := clo_spec hb
    have e : o' = o := by
      have : ops[j]? = some o' := by simpa using ho'
      rw [ho] at this; exact (Option.some.inj this).symm
    subst e
    rcases hd with hd | ⟨p, hpd, hpb, hlt⟩
    · exact hp i hd
    · have hpl := hp p hpd
      obtain ⟨op, hop, _⟩ := clo_spec hpb
      have hop' : ops[p]? = some op := by simpa using hop
      have hps : p < L.size := by
        rcases Nat.lt_or_ge p L.size with h' | h'
        · exact h'
        · simp [Array.getElem?_eq_none h'] at hpl
      refine ih p hlt op i hop' (fun q hq => hc p op hop' ?_ hps q hq) hpb
      simp [hps] at hpl ⊢
      exact hpl

/-- An allocation that may come at any time: its slot, its cells and their type. -/
abbrev Fl := Nat × List Value × TypeId
/-- What comes behind the order: the tail; and the allocations that may have come at any time. -/
structure Tl where
  t : List Nat
  fl : List Fl := []

section
variable (P : Program) (ops : Array Oper) (Q : Exit → Act → World → Prop) (n : Cx) (eff : List Nat) (t : Tl) (hs : List Res)

def baseK : List Fl → Fm → List Res → View → Prop
  | [], F, h, m => WL P ops Q n (t.t.filterMap (ops[·]?)) F h m
  | (d, zs, x) :: r, F, h, m => ∀ b, baseK r ((d, .pointer (some ⟨b, 0, none⟩)) :: F) (.pt b (.cells zs.toArray x (0, 0)) :: h) m
def base (F : Fm) (hp : List Res) (m : View) : Prop := baseK P ops Q n t t.fl F (hp ++ hs) m

/-- What an operation's run leaves. -/
def UPON (r : Result Next) (R : Value → World → Prop) (X : List PanicEntry → World → Prop) : Prop :=
  match r with
  | .ok (.value v) w => R v w
  | .ok .skip w => R undef w
  | .ok (.enter f args) w => Calls P f args w fun e w' => (∃ v, e = .returned v ∧ R v w') ∨ ∃ c, e = .panicked c ∧ X c w'
  | _ => False

/-- The operation hands back v, in every world of this kind, and does nothing else; or its guard says no, and v is nothing. -/
structure POg (o : Oper) (F : Fm) (m : View) (v : Value) : Prop where
  e : ∀ a w, Fr n F a → St m hs w → (Region.wanted o (yielded ops a.tmps) = true → (execOp a.eval o).run P w = .ok (.value v) w) ∧ (Region.wanted o (yielded ops a.tmps) = false → v = undef)

structure EFF (o : Oper) (F : Fm) (hp : List Res) (m : View) (K : Value → List Res → View → Prop) : Prop where
  e : ∀ fr a w, Fr n F a → St m (fr ++ (hp ++ hs)) w → (Region.wanted o (yielded ops a.tmps) = true → UPON P ((execOp a.eval o).run P w) (fun v w' => ∃ m' hp', m.le m' ∧ St m' (fr ++ (hp' ++ hs)) w' ∧ K v hp' m') (fun c w' => ∀ a', Fr n [] a' → cutQ Q (.panic c) a' w')) ∧
    (Region.wanted o (yielded ops a.tmps) = false → K undef hp m)

def putF (o : Oper) (v : Value) (F : Fm) : Fm := match o.dst with
  | some d => (d, v) :: F
  | none => F

/-- The walk in an order of the tree, then t in turn. -/
def SRr : Tr → Fm → List Res → View → Prop
  | .nil, F, hp, m => base P ops Q n t hs F hp m
  | .op i s, F, hp, m => ∃ o, ops[i]? = some o ∧ (∀ d, o.dst = some d → d < n.num) ∧ match eff.contains i with
    | true => match isRd o with
      | true => ∃ v, POg P ops n (hp ++ hs) o F m v ∧ SRr s (putF o v F) hp m
      | false => EFF P ops Q n hs o F hp m fun v hp' m' => (isAl o = true → hp.Sublist hp') ∧ SRr s (putF o v F) hp' m'
    | false => ∃ v, POg P ops n hs o F m v ∧ SRr s (putF o v F) hp m
  | .alt a b, F, hp, m => SRr a F hp m ∧ SRr b F hp m
end

section
variable {P : Program} {ops : Array Oper} {Q : Exit → Act → World → Prop} {n : Cx} {eff : List Nat} {t : Tl} {hs : List Res}

theorem Fr.congr {F F' : Fm} {a : Act} (h : Fr n F a) (e : ∀ t, look F' t = look F t) : Fr n F' a := h.sub fun t v ht => by rw [← e]; exact ht

theorem look_put {o : Oper} {v : Value} {F F' : Fm} (e : ∀ t, look F' t = look F t) : ∀ t, look (putF o v F') t = look (putF o v F) t := by
  intro t
  unfold putF
  cases o.dst with
  | none => exact e t
  | some d => simp only [look, e]

theorem Fr.putF {o : Oper} {v : Value} {F : Fm} {a : Act} (ha : Fr n F a) (hd : ∀ d, o.dst = some d → d < n.num) : Fr n (putF o v F) (a.put o.dst v) := by
  unfold Eng.putF
  cases e : o.dst with
  | none => exact ha
  | some d => exact ha.put (hd d e) v

theorem baseK.congr : ∀ (r : List Fl) {F F' : Fm} {h : List Res} {m : View}, (∀ t, look F' t = look F t) → baseK P ops Q n t r F h m → baseK P ops Q n t r F' h m
  | [], F, F', h, m, e, k => WL.mk fun a w ha st => WL.e k a w (ha.congr fun t => (e t).symm) st
  | (d, zs, x) :: r, F, F', h, m, e, k => fun b => baseK.congr r (fun t => by simp only [look, e]) (k b)
theorem SRr.endT : ∀ {T : Tr} {F : Fm} {hp : List Res} {m : View}, SRr P ops Q n eff t hs T F hp m → T.ops = [] → base P ops Q n t hs F hp m
  | .nil, _, _, _, h, _ => h
  | .op _ _, _, _, _, _, e => by cases e
  | .alt a _, _, _, _, h, e => SRr.endT (T := a) h.1 e
theorem SRr.congr : ∀ (s : Tr) {F F' : Fm} {hp : List Res} {m : View}, (∀ t, look F' t = look F t) → SRr P ops Q n eff t hs s F hp m → SRr P ops Q n eff t hs s F' hp m
  | .nil, F, F', hp, m, e, h => baseK.congr t.fl e h
  | .alt a b, F, F', hp, m, e, h => ⟨SRr.congr a e h.1, SRr.congr b e h.2⟩
  | .op i s, F, F', hp, m, e, h => by
    obtain ⟨o, ho, hd, h⟩ := h
    refine ⟨o, ho, hd, ?_⟩
    cases hc : eff.contains i with
    | true =>
      rw [hc] at h
      simp only at h ⊢
      cases hr : isRd o with
      | true =>
        rw [hr] at h
        simp only at h ⊢
        obtain ⟨v, h1, h2⟩ := h
        exact ⟨v, ⟨fun a w ha st => h1.e a w (ha.congr fun t => (e t).symm) st⟩, SRr.congr s (look_put e) h2⟩
      | false =>
        rw [hr] at h
        simp only at h ⊢
        refine ⟨fun fr a w ha st => ?_⟩
        obtain ⟨h1, h2⟩ := h.e fr a w (ha.congr fun t => (e t).symm) st
        refine ⟨fun hw => ?_, fun hw => ⟨(h2 hw).1, SRr.congr s (look_put e) (h2 hw).2⟩⟩
        have h1 := h1 hw
        unfold UPON at h1 ⊢
        split at h1
        · obtain ⟨m', hp', a1, a2, a0, a3⟩ := h1; exact ⟨m', hp', a1, a2, a0, SRr.congr s (look_put e) a3⟩
        · obtain ⟨m', hp', a1, a2, a0, a3⟩ := h1; exact ⟨m', hp', a1, a2, a0, SRr.congr s (look_put e) a3⟩
        · refine Calls.mono h1 ?_
          rintro e' w' (⟨v, rfl, m', hp', a1, a2, a0, a3⟩ | hx)
          · exact .inl ⟨v, rfl, m', hp', a1, a2, a0, SRr.congr s (look_put e) a3⟩
          · exact .inr hx
        · exact h1.elim
    | false =>
      rw [hc] at h
      simp only at h ⊢
      obtain ⟨v, h1, h2⟩ := h
      exact ⟨v, ⟨fun a w ha st => h1.e a w (ha.congr fun t => (e t).symm) st⟩, SRr.congr s (look_put e) h2⟩

theorem wp_of_UPON {o : Oper} {a : Act} {w : World} {R : Value → World → Prop} {X : List PanicEntry → World → Prop} {K : Act → World → Prop} (h : UPON P ((execOp a.eval o).run P w) R X) (hk : ∀ v w', R v w' → K (a.put o.dst v) w') (hx : ∀ c w', X c w' → Q (.panic c) a w') : o.wp P a w K Q := by
  unfold Oper.wp
  unfold UPON at h
  generalize (execOp a.eval o).run P w = r at h ⊢
  split at h
  · exact hk _ _ h
  · exact hk _ _ h
  · refine Calls.mono h ?_
    rintro e w' (⟨v, rfl, hr⟩ | ⟨c, rfl, hr⟩)
    · exact hk _ _ hr
    · exact hx _ _ hr
  · exact h.elim

theorem noSel {x y : Oper} {i j : Nat} (hx : ops[i]? = some x) (hy : ops[j]? = some y) (h : apartIf ops i j = true) :
    x.apart ops y = true ∧ (∀ cs b, x.op ≠ .select cs b) ∧ (∀ cs b, y.op ≠ .select cs b) := by
  simp only [apartIf, hx, hy, Bool.and_eq_true] at h
  refine ⟨h.1.1, fun cs b e => ?_, fun cs b e => ?_⟩
  · have := h.1.2; rw [e] at this; simp at this
  · have := h.2; rw [e] at this; simp at this

/-- A frame without the slot of y, where F knows another value of it. -/
theorem unput {y : Oper} {u : Value} {F : Fm} {a : Act} (ha : Fr n (putF y u F) a) (hd : ∀ d, y.dst = some d → d < n.num) :
    ∃ a0, Fr n F a0 ∧ (a0 = a ∨ ∃ z, a0 = a.put y.dst z) := by
  unfold putF at ha
  cases e : y.dst with
  | none => rw [e] at ha; exact ⟨a, ha, .inl rfl⟩
  | some d =>
    rw [e] at ha
    simp only at ha
    cases hl : look F d with
    | none =>
      refine ⟨a, ⟨ha.d, ha.sz, fun t v ht => ha.get t v ?_⟩, .inl rfl⟩
      simp only [look]
      cases hb : Nat.beq d t with
      | true => have := Nat.eq_of_beq_eq_true hb; subst this; rw [hl] at ht; cases ht
      | false => exact ht
    | some z =>
      refine ⟨a.put (some d) z, ⟨ha.d, by simpa [Act.put] using ha.sz, fun t v ht => ?_⟩, .inr ⟨z, rfl⟩⟩
      by_cases hdt : d = t
      · subst hdt
        rw [hl] at ht
        cases ht
        simp [Act.put, ha.sz, hd d e]
      · simp only [Act.put, Array.getElem?_setIfInBounds_ne hdt]
        refine ha.get t v ?_
        simp only [look]
        cases hb : Nat.beq d t with
        | true => exact absurd (Nat.eq_of_beq_eq_true hb) hdt
        | false => exact ht

theorem look_swap {x y : Oper} {u v : Value} {F : Fm} (h : ∀ d, x.dst = some d → y.dst ≠ some d) (t : Nat) : look (putF x u (putF y v F)) t = look (putF y v (putF x u F)) t := by
  unfold putF
  cases hx : x.dst with
  | none => rfl
  | some d =>
    cases hy : y.dst with
    | none => rfl
    | some e =>
      have hne : d ≠ e := fun q => h d hx (q ▸ hy)
      simp only [look]
      cases h1 : Nat.beq d t with
      | true =>
        cases h2 : Nat.beq e t with
        | true => exact absurd ((Nat.eq_of_beq_eq_true h1).trans (Nat.eq_of_beq_eq_true h2).symm) hne
        | false => rfl
      | false => rfl

theorem St.weakS {m m' : View} {hp hp' : List Res} {w : World} (s : St m' (hp' ++ hs) w) (hm : m.le m') (hh : hp.Sublist hp') : St m (hp ++ hs) w := s.weaken hm (hh.append_right hs)
/-- An operation is brought to the front of others that it does not touch. -/
theorem SRr.front {i : Nat} {o : Oper} (ho : ops[i]? = some o) : ∀ (T T' : Tr) {F : Fm} {hp : List Res} {m : View}, T.front (passB ops eff) i = some T' →
    SRr P ops Q n eff t hs T F hp m →
    (∀ d, o.dst = some d → d < n.num) ∧ match eff.contains i with
      | true => match isRd o with
        | true => ∃ v, POg P ops n (hp ++ hs) o F m v ∧ SRr P ops Q n eff t hs T' (putF o v F) hp m
        | false => EFF P ops Q n hs o F hp m fun v hp' m' => (isAl o = true → hp.Sublist hp') ∧ SRr P ops Q n eff t hs T' (putF o v F) hp' m'
      | false => ∃ v, POg P ops n hs o F m v ∧ SRr P ops Q n eff t hs T' (putF o v F) hp m
  | .nil, _, _, _, _, hf, _ => by cases hf
  | .alt a b, T', F, hp, m, hf, h => by
    unfold Tr.front at hf
    split at hf
    · rename_i x hx
      cases hf
      exact SRr.front ho a _ hx h.1
    · exact SRr.front ho b T' hf h.2
  | .op j tl, T', F, hp, m, hf, h => by
    unfold Tr.front at hf
    split at hf
    · rename_i e
      subst e
      cases hf
      obtain ⟨o', ho', hd, h⟩ := h
      rw [ho] at ho'
      cases ho'
      exact ⟨hd, h⟩
    split at hf
    case isFalse => cases hf
    rename_i hpass
    cases hft : tl.front (passB ops eff) i with
    | none => rw [hft] at hf; cases hf
    | some T2 =>
    rw [hft] at hf
    cases hf
    simp only [passB, Bool.and_eq_true, Bool.or_eq_true, Bool.not_eq_true'] at hpass
    obtain ⟨hje, hjap⟩ := hpass
    obtain ⟨oj, hoj, hdj, h⟩ := h
    obtain ⟨hap, hs1, hs2⟩ := noSel hoj ho hjap
    obtain ⟨a1, a2, a3⟩ := Oper.apart_spec hap
    have fwd : ∀ (vj : Value) a, Fr n F a → Fr n (putF oj vj F) (a.put oj.dst vj) := fun vj a ha => ha.putF hdj
    have back : ∀ (hx hy : List Res) (vj u : Value) (m' : View), m.le m' → (∀ w, St m' hy w → St m hx w) → (∀ d, o.dst = some d → d < n.num) → POg P ops n hx oj F m vj → POg P ops n hy oj (putF o u F) m' vj := fun hx hy vj u m' hm hxy hdi hpo => ⟨fun a w ha st => by
      obtain ⟨a0, ha0, e0⟩ := unput ha hdi
      have := hpo.e a0 w ha0 (hxy w st)
      rcases e0 with rfl | ⟨z, rfl⟩
      · exact this
      · rwa [execOp_put oj hs1 a o.dst z a3, wanted_put oj a o.dst z a3] at this⟩
    cases hej : eff.contains j with
    | false =>
      rw [hej] at h
      simp only at h
      obtain ⟨vj, hpo, hrest⟩ := h
      obtain ⟨hdi, ih⟩ := SRr.front ho tl T2 hft hrest
      refine ⟨hdi, ?_⟩
      have put : ∀ v hp' m', m.le m' → SRr P ops Q n eff t hs T2 (putF o v (putF oj vj F)) hp' m' → SRr P ops Q n eff t hs (.op j T2) (putF o v F) hp' m' := fun v hp' m' hm hr => by
        refine ⟨oj, hoj, hdj, ?_⟩
        rw [hej]
        exact ⟨vj, back hs hs vj v m' hm (fun w st => st.weaken hm (List.Sublist.refl _)) hdi hpo, SRr.congr _ (fun q => look_swap a2 q) hr⟩
      cases hc : eff.contains i with
      | true =>
        rw [hc] at ih
        simp only at ih ⊢
        cases hr : isRd o with
        | true =>
          rw [hr] at ih
          simp only at ih ⊢
          obtain ⟨v, h1, h2⟩ := ih
          refine ⟨v, ⟨fun a w ha st => ?_⟩, put v hp m (View.le.refl m) h2⟩
          have := h1.e _ w (fwd vj a ha) st
          rwa [execOp_put o hs2 a oj.dst vj a1, wanted_put o a oj.dst vj a1] at this
        | false =>
          rw [hr] at ih
          simp only at ih ⊢
          refine ⟨fun fr a w ha st => ?_⟩
          have := ih.e fr _ w (fwd vj a ha) st
          rw [execOp_put o hs2 a oj.dst vj a1, wanted_put o a oj.dst vj a1] at this
          obtain ⟨h1, h2⟩ := this
          refine ⟨fun hw => ?_, fun hw => ⟨(h2 hw).1, put _ _ _ (View.le.refl m) (h2 hw).2⟩⟩
          have h1 := h1 hw
          unfold UPON at h1 ⊢
          split at h1
          · obtain ⟨m', hp', b1, b2, b0, b3⟩ := h1; exact ⟨m', hp', b1, b2, b0, put _ _ _ b1 b3⟩
          · obtain ⟨m', hp', b1, b2, b0, b3⟩ := h1; exact ⟨m', hp', b1, b2, b0, put _ _ _ b1 b3⟩
          · refine Calls.mono h1 ?_
            rintro e' w' (⟨v, rfl, m', hp', b1, b2, b0, b3⟩ | hx)
            · exact .inl ⟨v, rfl, m', hp', b1, b2, b0, put _ _ _ b1 b3⟩
            · exact .inr hx
          · exact h1.elim
      | false =>
        rw [hc] at ih
        simp only at ih ⊢
        obtain ⟨v, h1, h2⟩ := ih
        refine ⟨v, ⟨fun a w ha st => ?_⟩, put v hp m (View.le.refl m) h2⟩
        have := h1.e _ w (fwd vj a ha) st
        rwa [execOp_put o hs2 a oj.dst vj a1, wanted_put o a oj.dst vj a1] at this
    | true =>
      -- a reading ahead of a making
      have hra : rdAl ops j i = true := by
        rcases hje with hje | hje
        · rw [hej] at hje; cases hje
        · exact hje
      simp only [rdAl, hoj, ho, Bool.and_eq_true] at hra
      obtain ⟨hrj, hai⟩ := hra
      have hri := isRd_al hai
      rw [hej, hrj] at h
      simp only at h
      obtain ⟨vj, hpo, hrest⟩ := h
      obtain ⟨hdi, ih⟩ := SRr.front ho tl T2 hft hrest
      refine ⟨hdi, ?_⟩
      have put : ∀ v hp' m', m.le m' → hp.Sublist hp' → SRr P ops Q n eff t hs T2 (putF o v (putF oj vj F)) hp' m' → SRr P ops Q n eff t hs (.op j T2) (putF o v F) hp' m' := fun v hp' m' hm hsub hr => by
        refine ⟨oj, hoj, hdj, ?_⟩
        rw [hej, hrj]
        exact ⟨vj, back (hp ++ hs) (hp' ++ hs) vj v m' hm (fun w st => st.weakS hm hsub) hdi hpo, SRr.congr _ (fun q => look_swap a2 q) hr⟩
      cases hc : eff.contains i with
      | true =>
        rw [hc] at ih
        simp only at ih ⊢
        rw [hri] at ih ⊢
        simp only at ih ⊢
        refine ⟨fun fr a w ha st => ?_⟩
        have := ih.e fr _ w (fwd vj a ha) st
        rw [execOp_put o hs2 a oj.dst vj a1, wanted_put o a oj.dst vj a1] at this
        obtain ⟨h1, h2⟩ := this
        refine ⟨fun hw => ?_, fun hw => ⟨(h2 hw).1, put _ _ _ (View.le.refl m) ((h2 hw).1 hai) (h2 hw).2⟩⟩
        have h1 := h1 hw
        unfold UPON at h1 ⊢
        split at h1
        · obtain ⟨m', hp', b1, b2, b0, b3⟩ := h1; exact ⟨m', hp', b1, b2, b0, put _ _ _ b1 (b0 hai) b3⟩
        · obtain ⟨m', hp', b1, b2, b0, b3⟩ := h1; exact ⟨m', hp', b1, b2, b0, put _ _ _ b1 (b0 hai) b3⟩
        · refine Calls.mono h1 ?_
          rintro e' w' (⟨v, rfl, m', hp', b1, b2, b0, b3⟩ | hx)
          · exact .inl ⟨v, rfl, m', hp', b1, b2, b0, put _ _ _ b1 (b0 hai) b3⟩
          · exact .inr hx
        · exact h1.elim
      | false =>
        rw [hc] at ih
        simp only at ih ⊢
        obtain ⟨v, h1, h2⟩ := ih
        refine ⟨v, ⟨fun a w ha st => ?_⟩, put v hp m (View.le.refl m) (List.Sublist.refl _) h2⟩
        have := h1.e _ w (fwd vj a ha) st
        rwa [execOp_put o hs2 a oj.dst vj a1, wanted_put o a oj.dst vj a1] at this


theorem getD_set {L : Array Bool} {i k : Nat} (d : Bool) (hi : i < L.size) : (L.setIfInBounds i true).getD k d = if k = i then true else L.getD k d := by
  by_cases h : k = i
  · subst h; simp [hi]
  · rw [if_neg h, getD_set_ne d (Ne.symm h)]

theorem closed_set {L : Array Bool} {i : Nat} {o : Oper} (hi : i < L.size) (ho : ops[i]? = some o) (hc : closed ops L) (hp : ∀ p ∈ direct o, L.getD p false = true) : closed ops (L.setIfInBounds i true) := by
  intro j o' ho' hj hs p hpd
  rw [getD_set false hi]
  split
  · rfl
  · rw [getD_set true hi] at hj
    by_cases h : j = i
    · subst h
      rw [ho] at ho'; cases ho'
      exact hp p hpd
    · rw [if_neg h] at hj
      exact hc j o' ho' hj (by simpa using hs) p hpd

theorem ready_direct {L : Array Bool} {i : Nat} : i ∈ Region.ready .any ops L ↔ L.getD i true = false ∧ ∃ o, ops[i]? = some o ∧ ∀ p ∈ direct o, L.getD p false = true := by
  rw [mem_ready]
  constructor
  · rintro ⟨h0, o, ho, h⟩
    refine ⟨h0, o, ho, fun p hp => ?_⟩
    simp only [direct, List.mem_map, List.mem_filter] at hp
    obtain ⟨e, ⟨he, hb⟩, rfl⟩ := hp
    exact h e (by simpa using he) hb
  · rintro ⟨h0, o, ho, h⟩
    refine ⟨h0, o, ho, fun e he hb => h e.on ?_⟩
    simp only [direct, List.mem_map, List.mem_filter]
    exact ⟨e, ⟨by simpa using he, hb⟩, rfl⟩

theorem some_ready {L : Array Bool} {l : List Nat} (hsz : L.size = ops.size) (hun : ∀ i, i < ops.size → (L.getD i true = false ↔ i ∈ l)) (hlt : ∀ i o, ops[i]? = some o → ∀ p ∈ direct o, p < i) (hin : ∀ i ∈ l, i < ops.size) :
    ∀ i ∈ l, Region.ready .any ops L ≠ [] := by
  intro i
  induction i using Nat.strongRecOn with
  | _ i ih =>
    intro hi
    have hs := hin i hi
    by_cases h : ∀ p ∈ direct ops[i], L.getD p false = true
    · intro he
      have : i ∈ Region.ready .any ops L := ready_direct.2 ⟨(hun i hs).2 hi, ops[i], Array.getElem?_eq_getElem hs, h⟩
      rw [he] at this
      cases this
    · obtain ⟨p, hp⟩ := Classical.not_forall.1 h
      obtain ⟨hpd, hpl⟩ := Classical.not_imp.1 hp
      have hpi := hlt i _ (Array.getElem?_eq_getElem hs) p hpd
      have hps : p < ops.size := by omega
      refine ih p hpi ((hun p hps).1 ?_)
      have hpL : p < L.size := by omega
      simp [hpL] at hpl ⊢
      exact hpl

theorem unl_absurd {L : Array Bool} {i : Nat} (h1 : L.getD i false = true) (h2 : L.getD i true = false) : False := by
  rcases Nat.lt_or_ge i L.size with h | h
  · simp [h] at h1 h2; rw [h1] at h2; cases h2
  · simp [Array.getElem?_eq_none h] at h1

theorem tail_any {Q : Exit → Act → World → Prop} (hlt : ∀ i o, ops[i]? = some o → ∀ p ∈ direct o, p < i) : ∀ (t : List Nat) (L : Array Bool) (a : Act) (w : World), L.size = ops.size → closed ops L →
    (∀ i, i < ops.size → (L.getD i true = false ↔ i ∈ t)) → (∀ i ∈ t, i < ops.size) → t.Pairwise (fun i j => i ≠ j) → t.Pairwise (fun i j => ((clo ops.toList).getD j 0).testBit i = true) →
    wpList P ops Q (t.filterMap (ops[·]?)) a w → wpAny P .any ops Q t.length L a w
  | [], L, a, w, hsz, _, hun, _, _, _, h => by
    refine ⟨?_, h⟩
    apply List.eq_nil_iff_forall_not_mem.2
    intro i hi
    obtain ⟨h0, o, ho, _⟩ := ready_direct.1 hi
    have := (hun i (Array.getElem?_eq_some_iff.1 ho).1).1 h0
    cases this
  | j :: t, L, a, w, hsz, hc, hun, hin, hnd, hch, h => by
    have hne := some_ready hsz hun hlt hin j (by simp)
    refine ⟨fun h0 => absurd h0 hne, fun i hi => ?_⟩
    obtain ⟨h0, o, ho, hp⟩ := ready_direct.1 hi
    have his := (Array.getElem?_eq_some_iff.1 ho).1
    have him := (hun i his).1 h0
    have hij : i = j := by
      rcases List.mem_cons.1 him with e | e
      · exact e
      · have hb := (List.pairwise_cons.1 hch).1 i e
        have := clo_listed hc i o j ho hp hb
        exact (unl_absurd this ((hun j (hin j (by simp))).2 (by simp))).elim
    subst hij
    have hiL : i < L.size := by omega
    simp only [List.filterMap_cons, ho] at h
    have nxt : ∀ a w, wpList P ops Q (t.filterMap (ops[·]?)) a w → wpAny P .any ops Q t.length (L.setIfInBounds i true) a w := fun a w hw =>
      tail_any hlt t _ a w (by simpa using hsz) (closed_set hiL ho hc hp) (fun k hk => by
        rw [getD_set true hiL]
        by_cases e : k = i
        · subst e
          simp only [if_true, Bool.true_eq_false, false_iff]
          intro hk'
          exact (List.pairwise_cons.1 hnd).1 k hk' rfl
        · rw [if_neg e, hun k hk]; simp [e]) (fun k hk => hin k (by simp [hk])) (List.pairwise_cons.1 hnd).2 (List.pairwise_cons.1 hch).2 hw
    unfold wpOp
    simp only [ho]
    unfold wpList at h
    split
    · rename_i hw
      rw [if_pos hw] at h
      exact h.imp (Oper.wp_mono nxt) id
    · rename_i hw
      rw [if_neg hw] at h
      exact nxt _ _ h

/-- What floats: an operation's number, its slot, cells, type. -/
structure FlAt (P : Program) (ops : Array Oper) (n : Cx) (q : Nat × Fl) : Prop where
  e : ∃ ty pos after z, ops[q.1]? = some ⟨some q.2.1, .alloc q.2.2.2, ty, pos, after, none⟩ ∧ (P.info? q.2.2.2).bind (·.zero) = some z ∧ cellsO z = some q.2.2.1 ∧ q.2.1 < n.num
def ptOf (q : Nat × Nat × Fl) : Res := .pt q.1 (.cells q.2.2.2.1.toArray q.2.2.2.2 (0, 0))

theorem perm_lift {α β : Type} (f : α → β) {l : List α} {r : List β} (h : (l.map f).Perm r) : ∃ l' : List α, l'.Perm l ∧ l'.map f = r := by
  generalize hk : l.map f = k at h
  induction h generalizing l with
  | nil => cases l with
    | nil => exact ⟨[], .refl _, rfl⟩
    | cons x l => cases hk
  | @cons x k1 k2 _ ih =>
    cases l with
    | nil => cases hk
    | cons y l =>
      simp only [List.map_cons, List.cons.injEq] at hk
      obtain ⟨l', h1, h2⟩ := ih hk.2
      exact ⟨y :: l', h1.cons y, by simp [h2, hk.1]⟩
  | swap x y k =>
    match l, hk with
    | a :: b :: l, hk =>
      simp only [List.map_cons, List.cons.injEq] at hk
      exact ⟨b :: a :: l, .swap _ _ _, by simp [hk]⟩
  | trans _ _ ih1 ih2 =>
    obtain ⟨l1, h1, h2⟩ := ih1 hk
    obtain ⟨l2, h3, h4⟩ := ih2 h2
    exact ⟨l2, h3.trans h1, h4⟩

theorem base_use : ∀ (dn : List (Nat × Nat × Fl)) {F : Fm} {h : List Res} {m : View} {a : Act} {w : World}, baseK P ops Q n t (dn.map (·.2.2)) F h m → Fr n F a → (∀ q ∈ dn, a.tmps[q.2.2.1]? = some (.pointer (some ⟨q.1, 0, none⟩))) →
    St m (dn.map ptOf ++ h) w → wpList P ops (cutQ Q) (t.t.filterMap (ops[·]?)) a w
  | [], F, h, m, a, w, k, ha, _, st => WL.e k a w ha st
  | (b, i, d, zs, x) :: dn, F, h, m, a, w, k, ha, hd, st => by
    refine base_use dn (k b) ⟨ha.d, ha.sz, fun q v hq => ?_⟩ (fun q hq => hd q (by simp [hq])) (st.perm ?_)
    · simp only [look] at hq
      cases e : Nat.beq d q with
      | true => rw [e] at hq; cases hq; rw [← Nat.eq_of_beq_eq_true e]; exact hd (b, i, d, zs, x) (by simp)
      | false => rw [e] at hq; exact ha.get q v hq
    · simp only [List.map_cons, List.cons_append]
      exact List.perm_middle.symm

theorem mem_less {s t : List Nat} {u1 u2 : List (Nat × Fl)} {q : Nat × Fl} {k : Nat} (e : k ≠ q.1) : k ∈ s ++ ((u1 ++ q :: u2).map (·.1) ++ t) ↔ k ∈ s ++ ((u1 ++ u2).map (·.1) ++ t) := by
  simp only [List.mem_append, List.map_append, List.map_cons, List.mem_cons, e, false_or]

theorem worldFree_run {o : Oper} (h : worldFree o = true) : o.guard = none ∧ (∃ d, o.dst = some d) ∧ ∀ (ρ : Operand → Value) (v : Value) (w : World), (execOp ρ o).run P w = .ok (.value v) w → ∀ w', (execOp ρ o).run P w' = .ok (.value v) w' := by
  unfold worldFree at h
  split at h
  · refine ⟨rfl, ⟨_, rfl⟩, fun ρ v w hr w' => ?_⟩
    simp only [execOp, Instr.extract] at hr ⊢
    split at hr
    · split at hr
      · simp_all
      · simp_all
    · simp_all
  · refine ⟨rfl, ⟨_, rfl⟩, fun ρ v w hr w' => ?_⟩
    simp only [execOp] at hr ⊢
    simp_all
  · cases h

theorem draw_fls {Q : Exit → Act → World → Prop} (lp : List Nat) (hQ : ∀ c a w d v, Q (.panic c) (a.put (some d) v) w → Q (.panic c) a w) (hlp : ∀ p ∈ lp, eff.contains p = false ∧ lateOk ops p = true) (hsel : Region.noSelect ops = true) (hlt : ∀ i o, ops[i]? = some o → ∀ p ∈ direct o, p < i)
    (htc : t.t.Pairwise (fun i j => ((clo ops.toList).getD j 0).testBit i = true)) (fs : List (Nat × Fl)) (hops : ∀ q ∈ fs, FlAt P ops n q) (hdis : fs.Pairwise (fun p q => p.2.1 ≠ q.2.1)) (hfl : t.fl = fs.map (·.2))
    (s0 : List Nat) (hG : ∀ i o, i ∈ s0 → ops[i]? = some o → ∀ q ∈ fs, o.dst ≠ some q.2.1) (htu : ∀ j ∈ t.t, ∀ q ∈ fs, ((clo ops.toList).getD j 0).testBit q.1 = true) :
    ∀ (N : Nat) (u : List (Nat × Fl)) (dn : List (Nat × Nat × Fl)) (T : Tr) (L : Array Bool) (a : Act) (w : World) (F : Fm) (hp : List Res) (m : View), T.ops.length + u.length = N → (dn.map (·.2) ++ u).Perm fs → (∀ i ∈ T.ops, i ∈ s0) → (∀ q ∈ fs, look F q.2.1 = none) →
    (∀ q ∈ dn, a.tmps[q.2.2.1]? = some (.pointer (some ⟨q.1, 0, none⟩))) → L.size = ops.size → closed ops L →
    (∀ i, i < ops.size → (L.getD i true = false ↔ i ∈ T.ops ++ (u.map (·.1) ++ t.t))) → (∀ i ∈ T.ops ++ (u.map (·.1) ++ t.t), i < ops.size) → (T.ops ++ (u.map (·.1) ++ t.t)).Pairwise (fun i j => i ≠ j) →
    T.wf = true → T.full (passB ops eff) (fun j i => ((clo ops.toList).getD i 0).testBit j) = true → T.sub (passB ops eff) (fun j i => ((clo ops.toList).getD i 0).testBit j) = true →
    (∀ j ∈ t.t, ∀ i ∈ T.ops, ((clo ops.toList).getD j 0).testBit i = true ∨ (i ∈ lp ∧ ∀ d ∈ dirOf ops i, ((clo ops.toList).getD j 0).testBit d = true)) →
    Fr n F a → St m (dn.map ptOf ++ (hp ++ hs)) w → SRr P ops Q n eff t hs T F hp m → wpAny P .any ops (cutQ Q) (T.ops ++ (u.map (·.1) ++ t.t)).length L a w := by
  intro N
  induction N with
  | zero =>
    intro u dn T L a w F hp m hN hpm hs0 hga hdn hsz hc hun hin hnd hwf hfull hsub hst ha hs' h
    have e : T.ops = [] := List.eq_nil_of_length_eq_zero (by omega)
    have e2 : u = [] := List.eq_nil_of_length_eq_zero (by omega)
    subst e2
    rw [e] at hun hin hnd hst ⊢
    rw [List.append_nil] at hpm
    obtain ⟨dn', hp1, hp2⟩ := perm_lift (fun q : Nat × Nat × Fl => q.2) hpm
    refine tail_any hlt t.t L a w hsz hc hun hin hnd htc (base_use (P := P) (t := t) dn' (F := F) (h := hp ++ hs) (m := m) ?_ ha (fun q hq => hdn q (hp1.mem_iff.1 hq)) (hs'.perm ((hp1.map ptOf).symm.append_right _)))
    have e3 : dn'.map (·.2.2) = t.fl := by rw [hfl, ← hp2, List.map_map]; rfl
    rw [e3]
    exact h.endT e
  | succ N ih =>
    intro u dn T L a w F hp m hN hpm hs0 hga hdn hsz hc hun hin hnd hwf hfull hsub hst ha hs' h
    have hum : ∀ q ∈ u, q ∈ fs := fun q hq => hpm.mem_iff.1 (by simp [hq])
    have hne : Region.ready .any ops L ≠ [] := by
      cases hT : T.ops with
      | nil =>
        cases u with
        | nil => rw [hT] at hN; simp at hN
        | cons q u => exact some_ready hsz hun hlt hin q.1 (by simp)
      | cons j s => exact some_ready hsz hun hlt hin j (by rw [hT]; simp)
    have hlen : (T.ops ++ (u.map (·.1) ++ t.t)).length = (N + t.t.length) + 1 := by simp; omega
    -- an operation of the order that is ready: what it is, and what follows
    have step : ∀ i o, ops[i]? = some o → i ∈ T.ops → (∀ p ∈ direct o, L.getD p false = true) → ∃ T', T.front (passB ops eff) i = some T' ∧
        ∀ (v : Value) (w' : World) (hp' : List Res) (m' : View), (∀ d, o.dst = some d → d < n.num) → St m' (dn.map ptOf ++ (hp' ++ hs)) w' → SRr P ops Q n eff t hs T' (putF o v F) hp' m' →
          wpAny P .any ops (cutQ Q) (N + t.t.length) (L.setIfInBounds i true) (a.put o.dst v) w' := fun i o ho hins hpd => by
      have his := (Array.getElem?_eq_some_iff.1 ho).1
      have hiL : i < L.size := by omega
      have hmay : T.may (passB ops eff) (fun j i => ((clo ops.toList).getD i 0).testBit j) i = true := by
        have h1 := hfull
        simp only [Tr.full, List.all_eq_true] at h1
        exact h1 i hins
      obtain ⟨T', hfr⟩ := Tr.front_may hmay hwf fun j hj => by
        cases hb : ((clo ops.toList).getD i 0).testBit j with
        | false => rfl
        | true =>
          have := clo_listed hc i o j ho hpd hb
          exact (unl_absurd this ((hun j (hin j (by simp [hj]))).2 (by simp [hj]))).elim
      obtain ⟨hperm, hwf'⟩ := Tr.front_perm hwf hfr
      obtain ⟨hsub', hfull'⟩ := Tr.front_sub hwf hsub hfr
      have hpl := hperm.length_eq
      simp only [List.length_cons] at hpl
      have hlen' : N + t.t.length = (T'.ops ++ (u.map (·.1) ++ t.t)).length := by simp at hN ⊢; omega
      refine ⟨T', hfr, fun v w' hp' m' hdn' hst' hr => ?_⟩
      · skip
        rw [hlen']
        have hpR : (T.ops ++ (u.map (·.1) ++ t.t)).Perm (i :: (T'.ops ++ (u.map (·.1) ++ t.t))) := hperm.append_right _
        have hnd2 : (i :: (T'.ops ++ (u.map (·.1) ++ t.t))).Pairwise (fun i j => i ≠ j) := (List.Perm.pairwise_iff (fun {_ _} e => Ne.symm e) hpR).1 hnd
        have hsubR : ∀ k, k ∈ T'.ops ++ (u.map (·.1) ++ t.t) → k ∈ T.ops ++ (u.map (·.1) ++ t.t) := fun k hk => hpR.mem_iff.2 (List.mem_cons_of_mem _ hk)
        have hsubT : ∀ k, k ∈ T'.ops → k ∈ T.ops := fun k hk => hperm.mem_iff.2 (List.mem_cons_of_mem _ hk)
        have hni : i ∉ T'.ops ++ (u.map (·.1) ++ t.t) := fun hx => (List.pairwise_cons.1 hnd2).1 i hx rfl
        have hod : ∀ q ∈ fs, o.dst ≠ some q.2.1 := hG i o (hs0 i hins) ho
        refine ih u dn T' _ _ w' (putF o v F) hp' m' (by omega) hpm (fun k hk => hs0 k (hsubT k hk)) (fun q hq => ?_) (fun q hq => ?_) (by simpa using hsz) (closed_set hiL ho hc hpd) (fun k hk => ?_) (fun k hk => hin k (hsubR k hk)) (List.pairwise_cons.1 hnd2).2
          hwf' hfull' hsub' (fun j hj k hk => hst j hj k (hsubT k hk)) (ha.putF hdn') hst' hr
        · unfold putF
          have hq1 := hod q hq
          cases e : o.dst with
          | none => exact hga q hq
          | some d =>
            have hne : d ≠ q.2.1 := fun x => hq1 (by rw [e, x])
            simp only [look]
            cases hb : Nat.beq d q.2.1 with
            | true => exact absurd (Nat.eq_of_beq_eq_true hb) hne
            | false => exact hga q hq
        · have hq1 := hod q.2 (hpm.mem_iff.1 (List.mem_append.2 (.inl (List.mem_map.2 ⟨q, hq, rfl⟩))))
          cases e : o.dst with
          | none => exact hdn q hq
          | some d =>
            have hne : d ≠ q.2.2.1 := fun x => hq1 (by rw [e, x])
            simp only [Act.put, Array.getElem?_setIfInBounds_ne hne]
            exact hdn q hq
        · rw [getD_set true hiL]
          by_cases e : k = i
          · subst e
            simp only [if_true, Bool.true_eq_false, false_iff]
            exact hni
          · rw [if_neg e, hun k hk, hpR.mem_iff]
            exact ⟨fun h => (List.mem_cons.1 h).resolve_left e, List.mem_cons_of_mem _⟩
    by_cases hsat : ∃ p ∈ lp, p ∈ T.ops ∧ ∀ d ∈ dirOf ops p, L.getD d false = true
    · -- one that looks at slots alone and is ready: first
      obtain ⟨p, hpl, hps, hpd⟩ := hsat
      obtain ⟨hpe, hpk⟩ := hlp p hpl
      simp only [lateOk, Bool.and_eq_true] at hpk
      cases ho : ops[p]? with
      | none => rw [ho] at hpk; simp at hpk
      | some o =>
        rw [ho] at hpk
        simp only [dirOf, ho] at hpd
        obtain ⟨hg, ⟨d, hd⟩, hwf⟩ := worldFree_run (P := P) hpk.1
        obtain ⟨T', hT', nxt⟩ := step p o ho hps hpd
        obtain ⟨hdn', hfr⟩ := SRr.front ho T T' hT' h
        rw [hpe] at hfr
        simp only at hfr
        obtain ⟨v, hpo, hr⟩ := hfr
        have hrun := (hpo.e a w ha (hs'.sub ((List.sublist_append_right hp hs).trans (List.sublist_append_right _ _)))).1 (by unfold Region.wanted; rw [hg])
        rw [hlen]
        refine wpAny_first ho (Region.noSelect_spec hsel) (fun c a w hh => by rw [hd] at hh; exact hQ c a w d v hh) _ L a w (fun j oj hj hji hun hno => ?_) (by simpa using ready_direct.2 ⟨(hun p (Array.getElem?_eq_some_iff.1 ho).1).2 (List.mem_append_left _ hps), o, ho, hpd⟩) (.inl ⟨by unfold Region.wanted; rw [hg], hwf _ v w hrun⟩) (nxt v w hp m hdn' hs' hr)
        refine Region.free_spec ho hpk.2 j oj hj hji ?_ hno
        have hjs := (Array.getElem?_eq_some_iff.1 hj).1
        cases hb : ((clo ops.toList).getD p 0).testBit j with
        | true => exact (unl_absurd (clo_listed hc p o j ho hpd hb) hun).elim
        | false => simp only [Array.getD_eq_getD_getElem?, Array.getElem?_map, Array.getElem?_range, if_pos hjs, Option.map_some, Option.getD_some]; exact hb
    rw [hlen]
    refine ⟨fun h0 => absurd h0 hne, fun i hi => ?_⟩
    obtain ⟨h0, o, ho, hpd⟩ := ready_direct.1 hi
    have his := (Array.getElem?_eq_some_iff.1 ho).1
    have hiL : i < L.size := by omega
    have him := (hun i his).1 h0
    rcases List.mem_append.1 him with hins | him
    · -- an operation of the order
      obtain ⟨T', hT', nxt0⟩ := step i o ho hins hpd
      obtain ⟨hdn', hfr⟩ := SRr.front ho T T' hT' h
      have nxt := fun v w' hp' m' => nxt0 v w' hp' m' hdn'
      unfold wpOp
      simp only [ho]
      cases hce : eff.contains i with
      | true =>
        rw [hce] at hfr
        simp only at hfr
        cases hrd : isRd o with
        | true =>
          rw [hrd] at hfr
          simp only at hfr
          obtain ⟨v, hpo, hr⟩ := hfr
          obtain ⟨h1, h2⟩ := hpo.e a w ha (hs'.sub (List.sublist_append_right _ _))
          split
          · rename_i hw
            exact .inl (wp_of_run (h1 hw) (nxt v w hp m hs' hr))
          · rename_i hw
            have := h2 (by simpa using hw)
            subst this
            exact nxt undef w hp m hs' hr
        | false =>
          rw [hrd] at hfr
          simp only at hfr
          obtain ⟨h1, h2⟩ := hfr.e (dn.map ptOf) a w ha hs'
          split
          · rename_i hw
            refine .inl (wp_of_UPON (h1 hw) ?_ fun c w' hx => hx a ⟨ha.d, ha.sz, fun t v ht => by cases ht⟩)
            rintro v w' ⟨m', hp', _, hst', _, hr⟩
            exact nxt v w' hp' m' hst' hr
          · rename_i hw
            exact nxt undef w hp m hs' (h2 (by simpa using hw)).2
      | false =>
        rw [hce] at hfr
        simp only at hfr
        obtain ⟨v, hpo, hr⟩ := hfr
        obtain ⟨h1, h2⟩ := hpo.e a w ha (hs'.sub ((List.sublist_append_right hp hs).trans (List.sublist_append_right _ _)))
        split
        · rename_i hw
          exact .inl (wp_of_run (h1 hw) (nxt v w hp m hs' hr))
        · rename_i hw
          have := h2 (by simpa using hw)
          subst this
          exact nxt undef w hp m hs' hr
    rcases List.mem_append.1 him with hiu | hit
    · -- an allocation
      obtain ⟨q, hqu, rfl⟩ := List.mem_map.1 hiu
      obtain ⟨u1, u2, rfl⟩ := List.append_of_mem hqu
      obtain ⟨ty, pos, after, z, ho0, hz, hzs, hd0⟩ := (hops q (hum q hqu)).e
      rw [ho0] at ho
      cases ho
      have hrun : (execOp a.eval ⟨some q.2.1, .alloc q.2.2.2, ty, pos, after, none⟩).run P w = .ok (.value (.pointer (some ⟨w.heap.size, 0, none⟩))) (w.alloc (.cells q.2.2.1.toArray q.2.2.2)) := by
        have hzs := cellsO_spec hzs
        rw [← hzs]
        cases hi : P.info? q.2.2.2 with
        | none => simp [hi] at hz
        | some i =>
          have e1 : i.zero = some z := by simpa [hi] using hz
          simp [execOp, Instr.alloc, zeroValue, typeInfo, hi, e1, newVar, newRow]
      have hsubl : (T.ops ++ ((u1 ++ u2).map (·.1) ++ t.t)).Sublist (T.ops ++ ((u1 ++ q :: u2).map (·.1) ++ t.t)) :=
        List.Sublist.append_left (List.Sublist.append_right ((List.Sublist.append_left (List.sublist_cons_self q u2) u1).map _) _) T.ops
      have hni : q.1 ∉ T.ops ++ ((u1 ++ u2).map (·.1) ++ t.t) := by
        intro hx
        have h1 : (q.1 :: (T.ops ++ ((u1 ++ u2).map (·.1) ++ t.t))).Pairwise (fun i j => i ≠ j) := by
          refine (List.Perm.pairwise_iff (fun {_ _} e => Ne.symm e) ?_).1 hnd
          simp only [List.map_append, List.map_cons, List.append_assoc, List.cons_append]
          rw [← List.append_assoc, ← List.append_assoc]
          exact List.perm_middle
        exact (List.pairwise_cons.1 h1).1 _ hx rfl
      have hd2 : (dn.map (·.2) ++ (u1 ++ q :: u2)).Pairwise (fun p q => p.2.1 ≠ q.2.1) := (hpm.pairwise_iff (fun {_ _} e => Ne.symm e)).2 hdis
      have hpm' : (((w.heap.size, q) :: dn).map (·.2) ++ (u1 ++ u2)).Perm (dn.map (·.2) ++ (u1 ++ q :: u2)) := by
        simp only [List.map_cons, List.cons_append]
        rw [← List.append_assoc, ← List.append_assoc]
        exact List.perm_middle.symm
      have hd3 : ∀ p ∈ dn, q.2.1 ≠ p.2.2.1 := fun p hp => by
        have := (List.Perm.pairwise_iff (fun {_ _} e => Ne.symm e) hpm').2 hd2
        simp only [List.map_cons, List.cons_append] at this
        exact (List.pairwise_cons.1 this).1 p.2 (List.mem_append.2 (.inl (List.mem_map.2 ⟨p, hp, rfl⟩)))
      have := ih (u1 ++ u2) ((w.heap.size, q) :: dn) T (L.setIfInBounds q.1 true) (a.put (some q.2.1) (.pointer (some ⟨w.heap.size, 0, none⟩))) (w.alloc (.cells q.2.2.1.toArray q.2.2.2)) F hp m (by simp at hN ⊢; omega) (hpm'.trans hpm) hs0 hga
        (fun p hp => by
          rcases List.mem_cons.1 hp with rfl | hp
          · simp [Act.put, ha.sz, hd0]
          · simp only [Act.put, Array.getElem?_setIfInBounds_ne (hd3 p hp)]
            exact hdn p hp) (by simpa using hsz) (closed_set hiL ho0 hc hpd) (fun k hk => by
          rw [getD_set true hiL]
          by_cases e : k = q.1
          · subst e
            simp only [if_true, Bool.true_eq_false, false_iff]
            exact hni
          · rw [if_neg e, hun k hk]
            exact mem_less e) (fun k hk => hin k (hsubl.subset hk)) (hnd.sublist hsubl) hwf hfull hsub hst
        ⟨ha.d, by simpa [Act.put] using ha.sz, fun p v hp => by
          have hne : q.2.1 ≠ p := fun e => by rw [← e, hga q (hum q hqu)] at hp; cases hp
          simp only [Act.put, Array.getElem?_setIfInBounds_ne hne]
          exact ha.get p v hp⟩ (hs'.alloc _) h
      have hl2 : (T.ops ++ ((u1 ++ u2).map (·.1) ++ t.t)).length = N + t.t.length := by simp at hN ⊢; omega
      rw [hl2] at this
      unfold wpOp
      simp only [ho0]
      split
      · exact .inl (wp_of_run hrun this)
      · rename_i hw
        simp [Region.wanted] at hw
    · -- one of the tail: too early
      exfalso
      cases hT : T.ops with
      | cons j s =>
        rcases hst i hit j (by rw [hT]; simp) with hb | ⟨hb, hb2⟩
        · have := clo_listed hc i o j ho hpd hb
          exact unl_absurd this ((hun j (hin j (by rw [hT]; simp))).2 (by rw [hT]; simp))
        · exact hsat ⟨j, hb, by rw [hT]; simp, fun d hd => clo_listed hc i o d ho hpd (hb2 d hd)⟩
      | nil =>
        cases u with
        | nil => rw [hT] at hN; simp at hN
        | cons q u =>
          have := clo_listed hc i o q.1 ho hpd (htu i hit q (hum q (by simp)))
          exact unl_absurd this ((hun q.1 (hin q.1 (by simp))).2 (by simp))

theorem orderOkU_spec {l : List Oper} {eff : List Nat} {T : Tr} {u t lp : List Nat} (ok : orderOkU l.toArray eff T u t lp = true) :
    (∀ i o, l.toArray[i]? = some o → ∀ p ∈ direct o, p < i) ∧ (T.ops ++ (u ++ t)).length = l.toArray.size ∧ (∀ i, i < l.toArray.size → i ∈ T.ops ++ (u ++ t)) ∧ (∀ i ∈ T.ops ++ (u ++ t), i < l.toArray.size) ∧
    (T.ops ++ (u ++ t)).Pairwise (fun i j => i ≠ j) ∧ (T.wf = true ∧ T.full (passB l.toArray eff) (fun j i => ((clo l.toArray.toList).getD i 0).testBit j) = true ∧ T.sub (passB l.toArray eff) (fun j i => ((clo l.toArray.toList).getD i 0).testBit j) = true) ∧ (∀ j ∈ t, ∀ i ∈ u, ((clo l.toArray.toList).getD j 0).testBit i = true) ∧ (∀ j ∈ t, ∀ i ∈ T.ops, ((clo l.toArray.toList).getD j 0).testBit i = true ∨ (i ∈ lp ∧ ∀ d ∈ dirOf l.toArray i, ((clo l.toArray.toList).getD j 0).testBit d = true)) ∧
    (∀ p ∈ lp, eff.contains p = false ∧ lateOk l.toArray p = true) ∧ Region.noSelect l.toArray = true ∧ t.Pairwise (fun i j => ((clo l.toArray.toList).getD j 0).testBit i = true) := by
  simp only [orderOkU, Bool.and_eq_true] at ok
  obtain ⟨⟨⟨⟨⟨⟨⟨⟨⟨o1, o2⟩, o3⟩, o4⟩, o5⟩, o6⟩, o8⟩, o9⟩, o10⟩, o7⟩ := ok
  have hlt : ∀ i o, l.toArray[i]? = some o → ∀ p ∈ direct o, p < i := by
    intro i o ho p hp
    simp only [List.all_eq_true] at o5
    have := o5 (o, i) (by simpa [List.mem_zipIdx_iff_getElem?] using ho)
    simp only [decide_eq_true_eq] at this
    exact this p hp
  have hlen : (T.ops ++ (u ++ t)).length = l.toArray.size := by simpa using o2
  have hcov : ∀ i, i < l.toArray.size → i ∈ T.ops ++ (u ++ t) := by
    intro i hi
    simp only [List.all_eq_true, List.mem_range] at o3
    simpa using o3 i hi
  have hnd : (T.ops ++ (u ++ t)).Pairwise (fun i j => i ≠ j) := (pairsOk_pw o4).imp fun h => by simpa using h
  refine ⟨hlt, hlen, hcov, ?_, hnd, ⟨o1.1.1, o1.1.2, o1.2⟩, fun j hj i hi => by simp only [List.all_eq_true] at o6; exact o6 j hj i hi,
    fun j hj i hi => by
      simp only [List.all_eq_true, Bool.or_eq_true, Bool.and_eq_true] at o8
      rcases o8 j hj i hi with h | ⟨h1, h2⟩
      · exact .inl h
      · exact .inr ⟨by simpa using h1, h2⟩,
    fun p hp => by
      simp only [List.all_eq_true, Bool.and_eq_true, Bool.not_eq_true'] at o9
      exact o9 p hp, o10, (pairsOk_pw o7).imp fun h => h⟩
  intro i hi
  rcases Nat.lt_or_ge i l.toArray.size with h | h
  · exact h
  · exfalso
    have hsub : (List.range l.toArray.size ++ [i]).Nodup := by
      rw [List.nodup_append]
      refine ⟨List.nodup_range, by simp, fun a ha b hb => ?_⟩
      have ha := List.mem_range.1 ha
      have hb := List.mem_singleton.1 hb
      omega
    have := (List.Nodup.length_le_of_subset hsub (l₂ := T.ops ++ (u ++ t)) (fun x hx => by
      rcases List.mem_append.1 hx with h' | h'
      · exact hcov x (List.mem_range.1 h')
      · rw [List.mem_singleton.1 h']; exact hi))
    rw [hlen] at this
    simp at this
    omega

def orderOkL (ops : Array Oper) (eff : List Nat) (s : Tr) (fs : List (Nat × Nat)) (t lp : List Nat) : Bool :=
  ops.toList.all plainOp && orderOkU ops eff s (fs.map (·.1)) t lp && (s.ops.all fun i => match ops[i]? with
    | some o => match o.dst with
      | some d => fs.all fun q => d != q.2
      | none => true
    | none => true) && pairsOk (fun i j => i != j) (fs.map (·.2))
theorem region_draw_in {id : Nat} {ops : Array Oper} {r : Option Nat} {a : Act} {w : World} (hm : P.follows .mixedOrders = true) (hp : ∀ (i : Nat) (o : Oper), ops[i]? = some o → plainOp o = true)
    (h : wpAny P .any ops (cutQ Q) ops.size (Array.replicate ops.size false) a w.drew) : (Code.region id ops true).wpIn (fen r) 0 P (cutQ Q) a w :=
  wpIn_region_draw fun t => by
    simp only [Region.schedule, hm, Bool.true_or, if_true]
    exact ops_to_in hp _ _ _ (wpAny_sound ops.size t _ a _ h)
theorem WC.drawL0 {id : Nat} {l : List Oper} {F : Fm} {m : View} (eff : List Nat) (s : Tr) (t lp : List Nat) (hQ : ∀ c a w d v, Q (.panic c) (a.put (some d) v) w → Q (.panic c) a w) (fs : List (Nat × Fl)) (hs hp : List Res) (hm : P.follows .mixedOrders = true)
    (ok : orderOkL l.toArray eff s (fs.map fun q => (q.1, q.2.1)) t lp = true) (hops : ∀ q ∈ fs, FlAt P l.toArray n q) (hl : ∀ q ∈ fs, look F q.2.1 = none)
    (k : SRr P l.toArray Q n eff ⟨t, fs.map (·.2)⟩ hs s F hp m) : WC P (.region id l.toArray true) Q n F (hp ++ hs) m := .mk fun a w ha st => by
  simp only [orderOkL, Bool.and_eq_true] at ok
  obtain ⟨⟨⟨ok0, okA⟩, okB⟩, okC⟩ := ok
  have ok := And.intro (And.intro okA okB) okC
  have e0 : (fs.map fun q => (q.1, q.2.1)).map (·.1) = fs.map (·.1) := by rw [List.map_map]; rfl
  have e1 : (fs.map fun q => (q.1, q.2.1)).map (·.2) = fs.map (·.2.1) := by rw [List.map_map]; rfl
  rw [e0, e1] at ok
  obtain ⟨hlt, hlen, hcov, hin, hnd, ⟨hwf, hfull, hsub⟩, hst, hst2, hlp, hsel, htc⟩ := orderOkU_spec ok.1.1
  refine region_draw_in hm (fun i o hi => by
    simp only [List.all_eq_true] at ok0
    exact ok0 o (by simpa using Array.mem_of_getElem? hi)) ?_
  have := draw_fls (P := P) (ops := l.toArray) (eff := eff) (hs := hs) (n := n) (Q := Q) (t := ⟨t, fs.map (·.2)⟩) lp hQ hlp hsel hlt htc fs hops
    (by
      have := pairsOk_pw ok.2
      rw [List.pairwise_map] at this
      exact this.imp fun h => by simpa using h) rfl s.ops
    (fun i o hi ho q hq e => by
      have h1 := ok.1.2
      simp only [List.all_eq_true] at h1
      have h2 := h1 i hi
      rw [ho] at h2
      simp only [e, List.all_eq_true, List.mem_map] at h2
      have := h2 (q.1, q.2.1) ⟨q, hq, rfl⟩
      simp at this) (fun j hj q hq => hst j hj q.1 (List.mem_map.2 ⟨q, hq, rfl⟩))
    (s.ops.length + fs.length) fs [] s (Array.replicate l.toArray.size false) a w.drew F hp m rfl (List.Perm.refl _) (fun _ h => h) hl (fun _ h => by cases h) (by simp)
    (fun j o ho hj hsz => by simp at hj hsz; simp [hsz] at hj) (fun i hi => ⟨fun _ => hcov i hi, fun _ => by simp at hi; simp [hi]⟩) hin hnd hwf hfull hsub
    (fun j hj i hi => hst2 j hj i hi) ha st.drew k
  have e : (s.ops ++ (fs.map (·.1) ++ t)).length = l.toArray.size := hlen
  simp only [e] at this
  exact this

structure SR (P : Program) (ops : Array Oper) (Q : Exit → Act → World → Prop) (n : Cx) (eff : List Nat) (t : Tl) (hs : List Res) (s : Tr) (F : Fm) (hp : List Res) (m : View) : Prop where
  e : SRr P ops Q n eff t hs s F hp m

theorem WC.drawS {id : Nat} {l : List Oper} {F : Fm} {m : View} (eff : List Nat) (s : Tr) (t : List Nat) (hs hp : List Res) (hm : P.follows .mixedOrders = true) (hQ : ∀ c a w d v, Q (.panic c) (a.put (some d) v) w → Q (.panic c) a w) (lp : List Nat) (ok : orderOkL l.toArray eff s [] t lp = true)
    (k : SR P l.toArray Q n eff ⟨t, []⟩ hs s F hp m) : WC P (.region id l.toArray true) Q n F (hp ++ hs) m := WC.drawL0 eff s t lp hQ [] hs hp hm ok (fun _ h => by cases h) (fun _ h => by cases h) k.e
/-- Allocations that float, one by one: numbers, slots, cells. -/
inductive Fls (P : Program) (ops : Array Oper) (n : Cx) (F : Fm) : List (Nat × Nat) → List (Nat × Fl) → Prop
  | nil : Fls P ops n F [] []
  | cons {i d : Nat} {x : TypeId} {z : Value} {zs : List Value} {ty : TypeId} {pos : String} {after : Array Edge} {r : List (Nat × Nat)} {fs : List (Nat × Fl)} (ho : ops[i]? = some ⟨some d, .alloc x, ty, pos, after, none⟩) (hz : (P.info? x).bind (·.zero) = some z) (hzs : cellsO z = some zs)
      (hd : d < n.num) (hl : look F d = none) (k : Fls P ops n F r fs) : Fls P ops n F ((i, d) :: r) ((i, d, zs, x) :: fs)
theorem Fls.spec {F : Fm} {r : List (Nat × Nat)} {fs : List (Nat × Fl)} (h : Fls P ops n F r fs) : r = (fs.map fun q => (q.1, q.2.1)) ∧ (∀ q ∈ fs, FlAt P ops n q) ∧ ∀ q ∈ fs, look F q.2.1 = none := by
  induction h with
  | nil => exact ⟨rfl, fun _ h => (by cases h), fun _ h => (by cases h)⟩
  | cons ho hz hzs hd hl _ ih =>
    obtain ⟨h1, h2, h3⟩ := ih
    refine ⟨by simp [h1], fun q hq => ?_, fun q hq => ?_⟩
    · rcases List.mem_cons.1 hq with rfl | hq
      · exact ⟨_, _, _, _, ho, hz, hzs, hd⟩
      · exact h2 q hq
    · rcases List.mem_cons.1 hq with rfl | hq
      · exact hl
      · exact h3 q hq
def flsO : List (Nat × Fl) → List Fl
  | [] => []
  | q :: r => q.2 :: flsO r
theorem flsO_eq : ∀ fs, flsO fs = fs.map (·.2)
  | [] => rfl
  | q :: r => by simp [flsO, flsO_eq r]
theorem WC.drawL {id : Nat} {l : List Oper} {F : Fm} {m : View} {fs : List (Nat × Fl)} {tf : List Fl} (eff : List Nat) (s : Tr) (t : List Nat) (r : List (Nat × Nat)) (hs hp : List Res) (hm : P.follows .mixedOrders = true)
    (hQ : ∀ c a w d v, Q (.panic c) (a.put (some d) v) w → Q (.panic c) a w) (lp : List Nat) (ok : orderOkL l.toArray eff s r t lp = true) (hf : Fls P l.toArray n F r fs) (hfl : flsO fs = tf)
    (k : SR P l.toArray Q n eff ⟨t, tf⟩ hs s F hp m) : WC P (.region id l.toArray true) Q n F (hp ++ hs) m := by
  obtain ⟨rfl, h2, h3⟩ := hf.spec
  rw [flsO_eq] at hfl
  subst hfl
  exact WC.drawL0 eff s t lp hQ fs hs hp hm ok h2 h3 k.e
theorem WC.drawF {id : Nat} {l : List Oper} {F : Fm} {m : View} (eff : List Nat) (s : Tr) (t : List Nat) (i0 : Nat) {d0 : Nat} {x : TypeId} {z : Value} {zs : List Value} {ty : TypeId} {pos : String} {after : Array Edge} (hs hp : List Res) (hm : P.follows .mixedOrders = true)
    (ho0 : l.toArray[i0]? = some ⟨some d0, .alloc x, ty, pos, after, none⟩) (hQ : ∀ c a w d v, Q (.panic c) (a.put (some d) v) w → Q (.panic c) a w) (ok : orderOkL l.toArray eff s [(i0, d0)] t [] = true) (hz : (P.info? x).bind (·.zero) = some z) (hzs : cellsO z = some zs) (hd0 : d0 < n.num) (hl : look F d0 = none)
    (k : SR P l.toArray Q n eff ⟨t, [(d0, zs, x)]⟩ hs s F hp m) : WC P (.region id l.toArray true) Q n F (hp ++ hs) m := WC.drawL eff s t [(i0, d0)] hs hp hm hQ [] ok (.cons ho0 hz hzs hd0 hl .nil) rfl k
variable {F : Fm} {hp : List Res} {m : View} {i : Nat} {s : Tr} {op : Op} {ty : TypeId} {pos : String} {after : Array Edge} {d : Nat} {v : Value}

def appO : List Res → List Res → Option (List Res)
  | [], r => some r
  | x :: l, r => match appO l r with
    | some t => some (x :: t)
    | none => none
theorem appO_eq : ∀ {l r t : List Res}, appO l r = some t → l ++ r = t
  | [], r, t, h => by simp only [appO, Option.some.injEq] at h; exact h
  | x :: l, r, t, h => by
    simp only [appO] at h
    cases h1 : appO l r with
    | none => simp [h1] at h
    | some q => simp only [h1, Option.some.injEq] at h; subst h; simp [appO_eq h1]
theorem SR.alt {s s' : Tr} (h1 : SR P ops Q n eff t hs s F hp m) (h2 : SR P ops Q n eff t hs s' F hp m) : SR P ops Q n eff t hs (.alt s s') F hp m := ⟨h1.e, h2.e⟩
theorem SR.nil {tt : List Nat} {tl : List Oper} {H : List Res} (htl : tt.filterMap (ops[·]?) = tl) (hH : appO hp hs = some H) (k : WL P ops Q n tl F H m) : SR P ops Q n eff ⟨tt, []⟩ hs .nil F hp m := ⟨by have hH := appO_eq hH; subst htl hH; exact k⟩
theorem SR.nilF {tt : List Nat} {tl : List Oper} {H : List Res} {d0 : Nat} {zs : List Value} {x : TypeId} (htl : tt.filterMap (ops[·]?) = tl) (hH : appO hp hs = some H)
    (k : ∀ b, WL P ops Q n tl ((d0, .pointer (some ⟨b, 0, none⟩)) :: F) (.pt b (.cells zs.toArray x (0, 0)) :: H) m) : SR P ops Q n eff ⟨tt, [(d0, zs, x)]⟩ hs .nil F hp m := ⟨by have hH := appO_eq hH; subst htl hH; exact k⟩
theorem SR.nilF2 {tt : List Nat} {tl : List Oper} {H : List Res} {d0 d1 : Nat} {zs zs1 : List Value} {x x1 : TypeId} (htl : tt.filterMap (ops[·]?) = tl) (hH : appO hp hs = some H)
    (k : ∀ b b1, WL P ops Q n tl ((d1, .pointer (some ⟨b1, 0, none⟩)) :: (d0, .pointer (some ⟨b, 0, none⟩)) :: F) (.pt b1 (.cells zs1.toArray x1 (0, 0)) :: .pt b (.cells zs.toArray x (0, 0)) :: H) m) :
    SR P ops Q n eff ⟨tt, [(d0, zs, x), (d1, zs1, x1)]⟩ hs .nil F hp m := ⟨by have hH := appO_eq hH; subst htl hH; exact fun b b1 => k b b1⟩
theorem SR.nilF3 {tt : List Nat} {tl : List Oper} {H : List Res} {d0 d1 d2 : Nat} {zs zs1 zs2 : List Value} {x x1 x2 : TypeId} (htl : tt.filterMap (ops[·]?) = tl) (hH : appO hp hs = some H)
    (k : ∀ b b1 b2, WL P ops Q n tl ((d2, .pointer (some ⟨b2, 0, none⟩)) :: (d1, .pointer (some ⟨b1, 0, none⟩)) :: (d0, .pointer (some ⟨b, 0, none⟩)) :: F) (.pt b2 (.cells zs2.toArray x2 (0, 0)) :: .pt b1 (.cells zs1.toArray x1 (0, 0)) :: .pt b (.cells zs.toArray x (0, 0)) :: H) m) :
    SR P ops Q n eff ⟨tt, [(d0, zs, x), (d1, zs1, x1), (d2, zs2, x2)]⟩ hs .nil F hp m := ⟨by have hH := appO_eq hH; subst htl hH; exact fun b b1 b2 => k b b1 b2⟩
theorem SR.po (ho : ops[i]? = some ⟨some d, op, ty, pos, after, none⟩) (he : eff.contains i = false) (p : PO P ⟨some d, op, ty, pos, after, none⟩ n F hs m v) (hd : d < n.num) (k : SR P ops Q n eff t hs s ((d, v) :: F) hp m) :
    SR P ops Q n eff t hs (.op i s) F hp m := ⟨_, ho, fun x hx => by cases hx; exact hd, by
  rw [he]
  exact ⟨v, ⟨fun a w ha st => ⟨fun _ => p a w ha st, fun h => by simp [Region.wanted] at h⟩⟩, k.e⟩⟩
theorem SR.poT {j tt : Nat} {c : Bool} (ho : ops[i]? = some ⟨some d, op, ty, pos, after, some (j, true)⟩) (he : eff.contains i = false) (hj : gslot ops j = some tt) (hc : look F tt = some (.bool c))
    (p : c = true → PO P ⟨some d, op, ty, pos, after, some (j, true)⟩ n F hs m v) (hd : d < n.num) (k : SR P ops Q n eff t hs s ((d, gv c v) :: F) hp m) :
    SR P ops Q n eff t hs (.op i s) F hp m := ⟨_, ho, fun x hx => by cases hx; exact hd, by
  rw [he]
  refine ⟨gv c v, ⟨fun a w ha st => ?_⟩, k.e⟩
  have hy := yielded_of hj (ha.get tt _ hc)
  cases c with
  | true => exact ⟨fun _ => p rfl a w ha st, fun h => by simp [Region.wanted, hy] at h⟩
  | false => exact ⟨fun h => by simp [Region.wanted, hy] at h, fun _ => rfl⟩⟩
theorem SR.poF {j tt : Nat} {c : Bool} (ho : ops[i]? = some ⟨some d, op, ty, pos, after, some (j, false)⟩) (he : eff.contains i = false) (hj : gslot ops j = some tt) (hc : look F tt = some (.bool c))
    (p : (!c) = true → PO P ⟨some d, op, ty, pos, after, some (j, false)⟩ n F hs m v) (hd : d < n.num) (k : SR P ops Q n eff t hs s ((d, gv (!c) v) :: F) hp m) :
    SR P ops Q n eff t hs (.op i s) F hp m := ⟨_, ho, fun x hx => by cases hx; exact hd, by
  rw [he]
  refine ⟨gv (!c) v, ⟨fun a w ha st => ?_⟩, k.e⟩
  have hy := yielded_of hj (ha.get tt _ hc)
  cases c with
  | false => exact ⟨fun _ => p rfl a w ha st, fun h => by simp [Region.wanted, hy] at h⟩
  | true => exact ⟨fun h => by simp [Region.wanted, hy] at h, fun _ => rfl⟩⟩

theorem SR.call {f : Operand} {args : List Operand} {tys : Array TypeId} {vs first cap : List Value} {q : FuncId} {R : List Res → Value → View → List Res → Prop} (ho : ops[i]? = some ⟨some d, .call ⟨.value f, args.toArray, tys⟩, ty, pos, after, none⟩)
    (he : eff.contains i = true) (ef : Ev n F f (.func (.func q) first.toArray cap.toArray)) (ea : Evs n F args vs) (c : ∀ fr, CT P q (first ++ vs ++ cap) (fr ++ (hp ++ hs)) m (R fr)) (hd : d < n.num)
    (k : ∀ fr v m' h', m.le m' → R fr v m' h' → ∃ hp', h'.Perm (fr ++ (hp' ++ hs)) ∧ SR P ops Q n eff t hs s ((d, v) :: F) hp' m') : SR P ops Q n eff t hs (.op i s) F hp m := ⟨_, ho, fun x hx => by cases hx; exact hd, by
  rw [he]
  refine ⟨fun fr a w ha st => ⟨fun _ => ?_, fun h => by simp [Region.wanted] at h⟩⟩
  rw [run_call ha ef ea (c fr).enter]
  refine Calls.mono ((c fr).calls w st) ?_
  rintro e w' ⟨v, m', h', rfl, hle, hst, hR⟩
  obtain ⟨hp', hpm, hk⟩ := k fr v m' h' hle hR
  exact .inl ⟨v, rfl, m', hp', hle, hst.perm hpm, nofun, hk.e⟩⟩
theorem SR.call1 {f : Operand} {args : List Operand} {tys : Array TypeId} {vs first cap : List Value} {q : FuncId} {v : Value} (ho : ops[i]? = some ⟨some d, .call ⟨.value f, args.toArray, tys⟩, ty, pos, after, none⟩)
    (he : eff.contains i = true) (ef : Ev n F f (.func (.func q) first.toArray cap.toArray)) (ea : Evs n F args vs) (c : ∀ fr, CT P q (first ++ vs ++ cap) (fr ++ (hp ++ hs)) m (Pure1 (fr ++ (hp ++ hs)) v)) (hd : d < n.num)
    (k : ∀ m', m.le m' → SR P ops Q n eff t hs s ((d, v) :: F) hp m') : SR P ops Q n eff t hs (.op i s) F hp m :=
  SR.call ho he ef ea c hd fun fr v m' h' hm => by rintro ⟨rfl, rfl⟩; exact ⟨hp, List.Perm.refl _, k m' hm⟩
theorem SR.callT {f : Operand} {args : List Operand} {tys : Array TypeId} {vs first cap : List Value} {q : FuncId} {j tt : Nat} {c : Bool} {v : Value} (ho : ops[i]? = some ⟨some d, .call ⟨.value f, args.toArray, tys⟩, ty, pos, after, some (j, true)⟩)
    (he : eff.contains i = true) (hj : gslot ops j = some tt) (hc : look F tt = some (.bool c))
    (p : c = true → Ev n F f (.func (.func q) first.toArray cap.toArray) ∧ Evs n F args vs ∧ ∀ fr, CT P q (first ++ vs ++ cap) (fr ++ (hp ++ hs)) m (Pure1 (fr ++ (hp ++ hs)) v)) (hd : d < n.num)
    (k : ∀ m', m.le m' → SR P ops Q n eff t hs s ((d, gv c v) :: F) hp m') : SR P ops Q n eff t hs (.op i s) F hp m := ⟨_, ho, fun x hx => by cases hx; exact hd, by
  rw [he]
  refine ⟨fun fr a w ha st => ?_⟩
  have hy := yielded_of hj (ha.get tt _ hc)
  cases c with
  | true =>
    refine ⟨fun _ => ?_, fun h => by simp [Region.wanted, hy] at h⟩
    obtain ⟨ef, ea, ct⟩ := p rfl
    rw [run_call ha ef ea (ct fr).enter]
    refine Calls.mono ((ct fr).calls w st) ?_
    rintro e w' ⟨v', m', h', rfl, hle, hst, rfl, rfl⟩
    exact .inl ⟨_, rfl, m', hp, hle, hst, nofun, (k m' hle).e⟩
  | false => exact ⟨fun h => by simp [Region.wanted, hy] at h, fun _ => ⟨nofun, (k m (View.le.refl m)).e⟩⟩⟩
theorem SR.alloc {x : TypeId} {z : Value} {zs : List Value} (ho : ops[i]? = some ⟨some d, .alloc x, ty, pos, after, none⟩) (he : eff.contains i = true) (hz : (P.info? x).bind (·.zero) = some z) (hzs : cellsO z = some zs) (hd : d < n.num)
    (k : ∀ b, SR P ops Q n eff t hs s ((d, .pointer (some ⟨b, 0, none⟩)) :: F) (.pt b (.cells zs.toArray x (0, 0)) :: hp) m) : SR P ops Q n eff t hs (.op i s) F hp m := ⟨_, ho, fun y hy => by cases hy; exact hd, by
  rw [he]
  refine ⟨fun fr a w ha st => ⟨fun _ => ?_, fun h => by simp [Region.wanted] at h⟩⟩
  have hzs := cellsO_spec hzs
  subst hzs
  have hrun : (execOp a.eval ⟨some d, .alloc x, ty, pos, after, none⟩).run P w = .ok (.value (.pointer (some ⟨w.heap.size, 0, none⟩))) (w.alloc (.cells z.cells.toList.toArray x)) := by
    cases hi : P.info? x with
    | none => simp [hi] at hz
    | some i =>
      have e1 : i.zero = some z := by simpa [hi] using hz
      simp [execOp, Instr.alloc, zeroValue, typeInfo, hi, e1, newVar, newRow]
  rw [hrun]
  exact ⟨m, .pt w.heap.size (.cells z.cells.toList.toArray x) :: hp, View.le.refl m, (st.alloc _).perm (List.perm_middle.symm), fun _ => List.sublist_cons_self _ _, (k _).e⟩⟩

end
end Go.Eng

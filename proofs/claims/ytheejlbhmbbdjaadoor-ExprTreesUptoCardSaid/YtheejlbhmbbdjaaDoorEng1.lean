/- Eng1, Eng2, Eng3 as one text. -/
import Derived.WalkKit
import Derived.OrdersIn
import Derived.Sort.LoopGhostIn
import Derived.RangeFuncRecord
/- The program logic of these proofs: frames as lists of known slots, memory as an unchanging view beside a list of owned blocks. Proved once over any program. -/
namespace Go.Eng
open Go Go.RowKit

/-- What is known of an activation from outside: the number of its slots; in whose round it runs; what it has put off to its end. -/
structure Cx where
  num : Nat
  ro : Option Nat := none
  ds : List Deferred := []
instance : Coe Cx Nat := ⟨Cx.num⟩
/-- The fence that lets everything in, around a frame of this make. -/
def fen (ro : Option Nat) : Fence := { Fence.wide with round := ro }
/-- Outgrown ends are not asked for. -/
def cutQ (Q : Exit → Act → World → Prop) : Exit → Act → World → Prop
  | .outgrown, _, _ => False
  | e, a, w => Q e a w
theorem cutQ_imp {Q : Exit → Act → World → Prop} {e : Exit} {a : Act} {w : World} (h : cutQ Q e a w) : Q e a w := by
  cases e <;> first | exact h | exact h.elim
theorem cutQ_then {K : Act → World → Prop} {Q : Exit → Act → World → Prop} {e : Exit} {a : Act} {w : World} (h : cutQ (Exit.then K Q) e a w) : Exit.then K (cutQ Q) e a w := by
  cases e <;> exact h
theorem cutQ_block {id : Nat} {Q : Exit → Act → World → Prop} {e : Exit} {a : Act} {w : World} (h : cutQ (Exit.inBlock id Q) e a w) : Exit.inBlock id (cutQ Q) e a w := by
  cases e with
  | exit k =>
    have h' : Exit.inBlock id Q (.exit k) a w := h
    unfold Exit.inBlock at h' ⊢
    split at h' <;> rename_i e1 <;> simp_all [cutQ]
  | _ => exact h
theorem cutQ_out {Q : Exit → Act → World → Prop} : ¬ LetsOut (cutQ Q) := fun ⟨_, _, h⟩ => h
/-- An operation that puts nothing off. -/
def plainOp (o : Oper) : Bool := match o.op with | .defer _ => false | _ => true
theorem semAt_plain {o : Oper} (h : plainOp o = true) (r : Option Nat) (ρ : Operand → Value) : o.semAt r ρ = execOp ρ o :=
  Oper.semAt_eq r ρ o fun c e => by unfold plainOp at h; rw [e] at h; cases h
theorem wp_to_in {P : Program} {o : Oper} {a : Act} {w : World} {K K' : Act → World → Prop} {Q : Exit → Act → World → Prop} {r : Option Nat} (hp : plainOp o = true) (hk : ∀ a w, K a w → K' a w)
    (h : o.wp P a w K (cutQ Q)) : o.wpIn (fen r) 0 P a w K' (cutQ Q) := by
  refine ⟨fun _ _ => trivial, ?_⟩
  show o.uponIn (fen r) 0 P a K' (cutQ Q) ((o.semAt r a.eval).run P w)
  rw [semAt_plain hp]
  unfold Oper.wp at h
  generalize (execOp a.eval o).run P w = q at h ⊢
  cases q with
  | ok x w' =>
    cases x <;> simp only [Oper.upon, Oper.uponIn] at h ⊢
    case value => exact hk _ _ h
    case skip => exact hk _ _ h
    case defer => exact hk _ _ h
    case enter =>
      refine ⟨fun hh => (by cases hh), callsIn_wide.2 (Calls.mono h ?_)⟩
      intro e w'' he
      cases e with
      | returned v => exact hk _ _ he
      | panicked c => exact he
      | outgrown => exact (cutQ_out he).elim
    case row =>
      refine ⟨fun hh => (by cases hh), fun c cs _ => ?_⟩
      obtain ⟨v, w2, hv, hst⟩ := h c cs
      exact ⟨v, w2, hk _ _ hv, stepsIn_wide.2 hst⟩
  | halt x w' => cases x <;> simp only [Oper.upon, Oper.uponIn] at h ⊢ <;> exact h
theorem ops_to_in {P : Program} {ops : Array Oper} {Q : Exit → Act → World → Prop} {r : Option Nat} (hp : ∀ (i : Nat) (o : Oper), ops[i]? = some o → plainOp o = true) :
    ∀ (l : List Nat) (a : Act) (w : World), wpOps P ops (cutQ Q) l a w → wpOpsIn (fen r) 0 P ops (cutQ Q) l a w
  | [], _, _, h => h
  | i :: l, a, w, h => by
    simp only [wpOps, wpOpsIn] at h ⊢
    cases ho : ops[i]? with
    | none => simp only [ho] at h ⊢; exact ops_to_in hp l a w h
    | some o =>
      simp only [ho] at h ⊢
      split
      · rename_i hw
        rw [if_pos hw] at h
        rcases h with h | ⟨_, h⟩
        · exact wp_to_in (hp i o ho) (ops_to_in hp l) h
        · exact (cutQ_out h).elim
      · rename_i hw
        rw [if_neg hw] at h
        exact ⟨fun _ _ => trivial, ops_to_in hp l _ w h⟩
theorem list_to_in {P : Program} {ops : Array Oper} {Q : Exit → Act → World → Prop} {r : Option Nat} :
    ∀ (l : List Oper) (a : Act) (w : World), (∀ o ∈ l, plainOp o = true) → wpList P ops (cutQ Q) l a w → wpListIn (fen r) 0 P ops (cutQ Q) l a w
  | [], _, _, _, h => h
  | o :: l, a, w, hp, h => by
    simp only [wpList, wpListIn] at h ⊢
    split
    · rename_i hw
      rw [if_pos hw] at h
      rcases h with h | ⟨_, h⟩
      · exact wp_to_in (hp o (by simp)) (fun a w h => list_to_in l a w (fun o ho => hp o (by simp [ho])) h) h
      · exact (cutQ_out h).elim
    · rename_i hw
      rw [if_neg hw] at h
      exact ⟨fun _ _ => trivial, list_to_in l _ w (fun o ho => hp o (by simp [ho])) h⟩

/-- What is known to lie in memory and is written by nobody any more; the streams and the tape beside it. -/
structure View where
  blk : Nat → Option Obj
  os : Os
  out : Array (Nat × ByteArray)
  tape : Nat → Question → Nat

structure View.le (m m' : View) : Prop where
  os : m'.os = m.os
  out : m'.out = m.out
  tape : m'.tape = m.tape
  blk : ∀ b o, m.blk b = some o → m'.blk b = some o

theorem View.le.refl (m : View) : m.le m := ⟨rfl, rfl, rfl, fun _ _ h => h⟩
theorem View.le.trans {a b c : View} (h : a.le b) (k : b.le c) : a.le c :=
  ⟨k.os.trans h.os, k.out.trans h.out, k.tape.trans h.tape, fun i o e => k.blk i o (h.blk i o e)⟩

def View.cell (m : View) (a : Addr) : Option Value :=
  match m.blk a.block with
  | some (.cells c _ _) => if a.spot.isSome then none else c[a.off]?
  | _ => none

theorem View.le.cell {m m' : View} (h : m.le m') {a : Addr} {v : Value} (hc : m.cell a = some v) : m'.cell a = some v := by
  unfold View.cell at *
  cases hb : m.blk a.block with
  | none => simp [hb] at hc
  | some o => rw [h.blk _ _ hb]; simpa [hb] using hc

/-- A view with one block more. -/
def View.add (m : View) (b : Nat) (o : Obj) : View := { m with blk := fun k => if k = b then some o else m.blk k }
theorem View.le_add {m : View} {b : Nat} {o : Obj} (h : m.blk b = none) : m.le (m.add b o) :=
  ⟨rfl, rfl, rfl, fun k o' hk => by
    show (if k = b then some o else m.blk k) = some o'
    rw [if_neg (fun e => by rw [e, h] at hk; cases hk)]; exact hk⟩
theorem View.add_blk (m : View) (b : Nat) (o : Obj) : (m.add b o).blk b = some o := if_pos rfl

/-- An owned piece of memory: a block known whole, or a slice that grows by append. -/
inductive Res where
  | pt (b : Nat) (o : Obj)
  | row (v : Value) (e : TypeId) (sz n : Nat) (xs : List Value)

def Res.fp : Res → Option Nat
  | .pt b _ => some b
  | .row v _ _ _ _ => v.ownBlock

def Res.ok (w : World) : Res → Prop
  | .pt b o => w.heap[b]? = some o
  | .row v e sz n xs => w.ownsRow 0 e sz v n xs

def Res.apart (r s : Res) : Prop := ∀ b, r.fp = some b → s.fp = some b → False

theorem Res.apart_symm {r s : Res} (h : r.apart s) : s.apart r := fun b h1 h2 => h b h2 h1

theorem lt_of_some {w : World} {b : Nat} {o : Obj} (h : w.heap[b]? = some o) : b < w.heap.size := by
  rcases Nat.lt_or_ge b w.heap.size with h' | h'
  · exact h'
  · simp [Array.getElem?_eq_none h'] at h

theorem old_block (w : World) (o : Obj) (i : Nat) (h : i < w.heap.size) : (w.alloc o).heap[i]? = w.heap[i]? := by
  show (w.heap.push o)[i]? = w.heap[i]?
  rw [Array.getElem?_push, if_neg (Nat.ne_of_lt h)]
theorem new_block (w : World) (o : Obj) : (w.alloc o).heap[w.heap.size]? = some o := by
  show (w.heap.push o)[w.heap.size]? = some o
  simp

theorem Res.lt {w : World} {r : Res} (h : r.ok w) : ∀ b, r.fp = some b → b < w.heap.size := by
  intro b hb
  cases r with
  | pt c o => simp only [Res.fp, Option.some.injEq] at hb; subst hb; exact lt_of_some h
  | row v e sz n xs => exact (World.ownsRow.lt h b hb).2

theorem Res.ok_of_block {w w' : World} {r : Res} (h : r.ok w) (hs : ∀ b, r.fp = some b → w'.heap[b]? = w.heap[b]?) : r.ok w' := by
  cases r with
  | pt c o => exact (hs c rfl).trans h
  | row v e sz n xs =>
    obtain ⟨h1, h2⟩ := h
    refine ⟨h1, ?_⟩
    rcases h2 with h2 | ⟨g, cap, cur, hv, hg, hh, r⟩
    · exact .inl h2
    · subst hv
      exact .inr ⟨g, cap, cur, rfl, hg, (hs g rfl).trans hh, r⟩

structure St (m : View) (h : List Res) (w : World) : Prop where
  os : w.os = m.os
  out : w.output = m.out
  tape : w.tape = m.tape
  blk : ∀ b o, m.blk b = some o → w.heap[b]? = some o
  ok : ∀ r ∈ h, r.ok w
  nd : h.Pairwise Res.apart
  fr : ∀ r ∈ h, ∀ b, r.fp = some b → m.blk b = none

theorem St.cell {m : View} {h : List Res} {w : World} (s : St m h w) {a : Addr} {v : Value} (hc : m.cell a = some v) : w.cell? a = some v := by
  unfold View.cell at hc
  cases hb : m.blk a.block with
  | none => simp [hb] at hc
  | some o =>
    have hw := s.blk _ _ hb
    rw [hb] at hc
    unfold World.cell?
    rw [hw]
    cases o <;> simp_all

theorem St.drew {m : View} {h : List Res} {w : World} (s : St m h w) : St m h w.drew :=
  ⟨s.os, s.out, s.tape, s.blk, fun r hr => Res.ok_of_block (s.ok r hr) fun _ _ => rfl, s.nd, s.fr⟩

theorem St.sub {m : View} {h h' : List Res} {w : World} (s : St m h w) (hs : h'.Sublist h) : St m h' w :=
  ⟨s.os, s.out, s.tape, s.blk, fun r hr => s.ok r (hs.subset hr), s.nd.sublist hs, fun r hr => s.fr r (hs.subset hr)⟩

theorem St.perm {m : View} {h h' : List Res} {w : World} (s : St m h w) (hs : h.Perm h') : St m h' w :=
  ⟨s.os, s.out, s.tape, s.blk, fun r hr => s.ok r (hs.mem_iff.2 hr), (hs.pairwise_iff (fun {_ _} e => Res.apart_symm e)).1 s.nd, fun r hr => s.fr r (hs.mem_iff.2 hr)⟩

/-- A new block. -/
theorem St.alloc {m : View} {h : List Res} {w : World} (s : St m h w) (o : Obj) : St m (.pt w.heap.size o :: h) (w.alloc o) where
  os := s.os
  out := s.out
  tape := s.tape
  blk b o' hb := by
    have h1 := s.blk b o' hb
    have := lt_of_some h1
    rw [old_block _ _ _ this]; exact h1
  ok r hr := by
    cases hr with
    | head => exact new_block w o
    | tail _ hr =>
      have h1 := s.ok r hr
      exact Res.ok_of_block h1 fun b hb => old_block _ _ _ (Res.lt h1 b hb)
  nd := by
    refine List.pairwise_cons.2 ⟨fun r hr b hb hb' => ?_, s.nd⟩
    simp only [Res.fp, Option.some.injEq] at hb
    have := Res.lt (s.ok r hr) b hb'
    omega
  fr r hr b hb := by
    cases hr with
    | head =>
      simp only [Res.fp, Option.some.injEq] at hb
      cases hm : m.blk b with
      | none => rfl
      | some o' => have := lt_of_some (s.blk b o' hm); omega
    | tail _ hr => exact s.fr r hr b hb

/-- One owned piece is replaced by another. -/
inductive Upd : List Res → Res → Res → List Res → Prop
  | here {r r' : Res} {t : List Res} : Upd (r :: t) r r' (r' :: t)
  | next {r r' x : Res} {t t' : List Res} (h : Upd t r r' t') : Upd (x :: t) r r' (x :: t')

theorem Upd.split {h h' : List Res} {r r' : Res} (u : Upd h r r' h') : ∃ l1 l2, h = l1 ++ r :: l2 ∧ h' = l1 ++ r' :: l2 := by
  induction u with
  | @here r r' t => exact ⟨[], t, rfl, rfl⟩
  | @next r r' x t t' _ ih =>
    obtain ⟨l1, l2, rfl, rfl⟩ := ih
    exact ⟨x :: l1, l2, rfl, rfl⟩

theorem Upd.mem {h h' : List Res} {r r' : Res} (u : Upd h r r' h') : r ∈ h := by
  obtain ⟨l1, l2, rfl, _⟩ := u.split; simp

theorem St.upd {m : View} {h h' : List Res} {w w' : World} {r r' : Res} (s : St m h w) (u : Upd h r r' h')
    (hos : w'.os = w.os) (hout : w'.output = w.output) (htape : w'.tape = w.tape)
    (hsame : ∀ b, b < w.heap.size → r.fp ≠ some b → w'.heap[b]? = w.heap[b]?) (hok : r'.ok w')
    (hfp : ∀ b, r'.fp = some b → r.fp = some b ∨ w.heap.size ≤ b) : St m h' w' := by
  obtain ⟨l1, l2, rfl, rfl⟩ := u.split
  have hrm : r ∈ l1 ++ r :: l2 := by simp
  obtain ⟨n1, n23, n12⟩ := List.pairwise_append.1 s.nd
  obtain ⟨n2, n3⟩ := List.pairwise_cons.1 n23
  have old : ∀ x ∈ l1 ++ l2, x ∈ l1 ++ r :: l2 := by
    intro x hx; simp at hx ⊢; rcases hx with h | h <;> simp [h]
  have ap : ∀ x ∈ l1 ++ l2, r.apart x := by
    intro x hx
    rcases List.mem_append.1 hx with h | h
    · exact Res.apart_symm (n12 x h r (by simp))
    · exact n2 x h
  have ap' : ∀ x ∈ l1 ++ l2, r'.apart x := by
    intro x hx b hb hb'
    rcases hfp b hb with h | h
    · exact ap x hx b h hb'
    · have := Res.lt (s.ok x (old x hx)) b hb'
      omega
  have mid : ∀ x ∈ l1 ++ r' :: l2, x = r' ∨ x ∈ l1 ++ l2 := by
    intro x hx
    rcases List.mem_append.1 hx with h | h
    · exact .inr (List.mem_append.2 (.inl h))
    · rcases List.mem_cons.1 h with h | h
      · exact .inl h
      · exact .inr (List.mem_append.2 (.inr h))
  refine ⟨hos.trans s.os, hout.trans s.out, htape.trans s.tape, fun b o hb => ?_, fun x hx => ?_, ?_, fun x hx b hb => ?_⟩
  · have h1 := s.blk b o hb
    rw [hsame b (lt_of_some h1) (fun e => by rw [s.fr r hrm b e] at hb; cases hb)]
    exact h1
  · have : x = r' ∨ x ∈ l1 ++ l2 := mid x hx
    rcases this with rfl | hx
    · exact hok
    · have h1 := s.ok x (old x hx)
      exact Res.ok_of_block h1 fun b hb => hsame b (Res.lt h1 b hb) fun e => ap x hx b e hb
  · refine List.pairwise_append.2 ⟨n1, List.pairwise_cons.2 ⟨fun x hx => ap' x (by simp [hx]), n3⟩, fun x hx y hy => ?_⟩
    rcases List.mem_cons.1 hy with rfl | hy
    · exact Res.apart_symm (ap' x (by simp [hx]))
    · exact n12 x hx y (by simp [hy])
  · have : x = r' ∨ x ∈ l1 ++ l2 := mid x hx
    rcases this with rfl | hx
    · rcases hfp b hb with h | h
      · exact s.fr r hrm b h
      · cases hm : m.blk b with
        | none => rfl
        | some o' => have := lt_of_some (s.blk b o' hm); omega
    · exact s.fr x (old x hx) b hb

/-- A block known whole is handed over to the view: nobody writes it any more. -/
theorem St.sealB {m : View} {h : List Res} {w : World} {b : Nat} {o : Obj} (s : St m (.pt b o :: h) w) : m.le (m.add b o) ∧ St (m.add b o) h w := by
  have hb : m.blk b = none := s.fr (.pt b o) (by simp) b rfl
  refine ⟨View.le_add hb, s.os, s.out, s.tape, fun k o' hk => ?_, fun r hr => s.ok r (by simp [hr]), (List.pairwise_cons.1 s.nd).2, fun r hr k hk => ?_⟩
  · by_cases hkb : k = b
    · subst hkb
      rw [View.add_blk] at hk
      cases hk
      exact s.ok (.pt k o) (by simp)
    · have : m.blk k = some o' := by simpa [View.add, hkb] using hk
      exact s.blk k o' this
  · have hne : k ≠ b := fun e => (List.pairwise_cons.1 s.nd).1 r hr b rfl (e ▸ hk)
    simp [View.add, hne]
    exact s.fr r (by simp [hr]) k hk

/- Frames. -/
abbrev Fm := List (Nat × Value)
def look : Fm → Nat → Option Value
  | [], _ => none
  | (k, v) :: r, t => match Nat.beq k t with
    | true => some v
    | false => look r t

structure Fr (n : Cx) (F : Fm) (a : Act) : Prop where
  d : a.defers = n.ds
  sz : a.tmps.size = n.num
  get : ∀ t v, look F t = some v → a.tmps[t]? = some v

theorem Fr.getD {n : Cx} {F : Fm} {a : Act} (h : Fr n F a) {t : Nat} {v : Value} (hl : look F t = some v) : a.tmps.getD t undef = v := by
  have := h.get t v hl
  simp [this]

theorem Fr.put {n : Cx} {F : Fm} {a : Act} (h : Fr n F a) {d : Nat} (hd : d < n.num) (v : Value) : Fr n ((d, v) :: F) (a.put (some d) v) := by
  refine ⟨h.d, by simpa [Act.put] using h.sz, fun t u ht => ?_⟩
  simp only [look] at ht
  cases hb : Nat.beq d t with
  | true =>
    rw [hb] at ht
    have e : d = t := Nat.eq_of_beq_eq_true hb
    subst e
    simp only [Option.some.injEq] at ht
    subst ht
    simp [Act.put, h.sz, hd]
  | false =>
    rw [hb] at ht
    have ne : d ≠ t := Nat.ne_of_beq_eq_false hb
    simp only [Act.put, Array.getElem?_setIfInBounds_ne ne]
    exact h.get t u ht

/-- Those of the slots that are known. -/
def keep (F : Fm) : List Nat → Option Fm
  | [] => some []
  | t :: ts => match keep F ts with
    | some r => match look F t with
      | some v => some ((t, v) :: r)
      | none => some r
    | none => none

theorem look_keep {F : Fm} : ∀ {ts : List Nat} {F' : Fm}, keep F ts = some F' → ∀ t v, look F' t = some v → look F t = some v
  | [], F', h, t, v, hl => by simp only [keep, Option.some.injEq] at h; subst h; simp [look] at hl
  | s :: ts, F', h, t, v, hl => by
    simp only [keep] at h
    cases h2 : keep F ts with
    | none => simp [h2] at h
    | some r =>
      cases h1 : look F s with
      | none =>
        simp only [h1, h2, Option.some.injEq] at h
        subst h
        exact look_keep h2 t v hl
      | some u =>
        simp only [h1, h2, Option.some.injEq] at h
        subst h
        simp only [look] at hl
        cases hb : Nat.beq s t with
        | true =>
          rw [hb] at hl
          have e : s = t := Nat.eq_of_beq_eq_true hb
          subst e
          simp only [Option.some.injEq] at hl
          subst hl
          exact h1
        | false =>
          rw [hb] at hl
          exact look_keep h2 t v hl

theorem Fr.sub {n : Cx} {F F' : Fm} {a : Act} (h : Fr n F a) (hs : ∀ t v, look F' t = some v → look F t = some v) : Fr n F' a :=
  ⟨h.d, h.sz, fun t v ht => h.get t v (hs t v ht)⟩

/-- Each listed slot of F' holds the same in F. -/
inductive Sub (F : Fm) : Fm → Prop
  | nil : Sub F []
  | cons {t : Nat} {v : Value} {r : Fm} (h : look F t = some v) (k : Sub F r) : Sub F ((t, v) :: r)

theorem Sub.look {F F' : Fm} (h : Sub F F') : ∀ t v, look F' t = some v → look F t = some v := by
  induction h with
  | nil => intro t v ht; simp [Eng.look] at ht
  | @cons s u r h _ ih =>
    intro t v ht
    simp only [Eng.look] at ht
    cases hb : Nat.beq s t with
    | true =>
      rw [hb] at ht
      have e : s = t := Nat.eq_of_beq_eq_true hb
      subst e
      simp only [Option.some.injEq] at ht
      subst ht
      exact h
    | false => rw [hb] at ht; exact ih t v ht

/-- A value that is there only if a guard was met. -/
def gv (c : Bool) (v : Value) : Value := match c with | true => v | false => undef

structure Ev (n : Cx) (F : Fm) (x : Operand) (v : Value) : Prop where
  e : ∀ a, Fr n F a → a.eval x = v
instance {n : Cx} {F : Fm} {x : Operand} {v : Value} : CoeFun (Ev n F x v) fun _ => ∀ a, Fr n F a → a.eval x = v := ⟨Ev.e⟩
theorem Ev.tmp {n : Cx} {F : Fm} {t : Nat} {v : Value} (h : look F t = some v) : Ev n F (.tmp t) v := .mk fun _ ha => ha.getD h
theorem Ev.gv {n : Cx} {F : Fm} {t : Nat} {c : Bool} {v : Value} (h : look F t = some (gv c v)) (hc : c = true) : Ev n F (.tmp t) v :=
  .mk fun _ ha => by subst hc; exact ha.getD h
theorem Ev.const {n : Cx} {F : Fm} {v : Value} : Ev n F (.const v) v := .mk fun _ _ => rfl
theorem Ev.func {n : Cx} {F : Fm} {f : FuncId} : Ev n F (.func f) (.func (.func f) #[] #[]) := .mk fun _ _ => rfl
theorem Ev.global {n : Cx} {F : Fm} {g : Nat} : Ev n F (.global g) (.pointer (some ⟨g, 0, none⟩)) := .mk fun _ _ => rfl
theorem Ev.eq {n : Cx} {F : Fm} {x : Operand} {u v : Value} (h : Ev n F x u) (e : u = v) : Ev n F x v := e ▸ h

inductive Evs (n : Cx) (F : Fm) : List Operand → List Value → Prop
  | nil : Evs n F [] []
  | cons {x : Operand} {v : Value} {xs : List Operand} {vs : List Value} (h : Ev n F x v) (k : Evs n F xs vs) : Evs n F (x :: xs) (v :: vs)

theorem Evs.map {n : Cx} {F : Fm} {xs : List Operand} {vs : List Value} (h : Evs n F xs vs) {a : Act} (ha : Fr n F a) : xs.map a.eval = vs := by
  induction h with
  | nil => rfl
  | cons h _ ih => simp [h a ha, ih]

section
variable (P : Program)
structure PO (o : Oper) (n : Cx) (F : Fm) (h : List Res) (m : View) (v : Value) : Prop where
  e : ∀ a w, Fr n F a → St m h w → (execOp a.eval o).run P w = .ok (.value v) w
structure WL (ops : Array Oper) (Q : Exit → Act → World → Prop) (n : Cx) (l : List Oper) (F : Fm) (h : List Res) (m : View) : Prop where
  e : ∀ a w, Fr n F a → St m h w → wpList P ops (cutQ Q) l a w
structure WC (c : Code) (Q : Exit → Act → World → Prop) (n : Cx) (F : Fm) (h : List Res) (m : View) : Prop where
  e : ∀ a w, Fr n F a → St m h w → c.wpIn (fen n.ro) 0 P (cutQ Q) a w
/-- What a call ends in. -/
def RQ (m : View) (R : Value → View → List Res → Prop) (e : Ending) (w : World) : Prop :=
  ∃ v m' h', e = .returned v ∧ m.le m' ∧ St m' h' w ∧ R v m' h'
structure CT (f : FuncId) (args : List Value) (h : List Res) (m : View) (R : Value → View → List Res → Prop) : Prop where
  enter : ∀ as w, (callFunc f as).run P w = .ok (.enter f as) w
  calls : ∀ w, St m h w → Calls P f args.toArray w (RQ m R)
end

section
variable {P : Program} {ops : Array Oper} {Q : Exit → Act → World → Prop} {n : Cx} {F : Fm} {h : List Res} {m : View} {rest : List Oper}
variable {op : Op} {ty : TypeId} {pos : String} {after : Array Edge} {d : Nat} {v : Value}
instance {o : Oper} : CoeFun (PO P o n F h m v) fun _ => ∀ a w, Fr n F a → St m h w → (execOp a.eval o).run P w = .ok (.value v) w := ⟨PO.e⟩
instance {l : List Oper} : CoeFun (WL P ops Q n l F h m) fun _ => ∀ a w, Fr n F a → St m h w → wpList P ops (cutQ Q) l a w := ⟨WL.e⟩
instance {c : Code} : CoeFun (WC P c Q n F h m) fun _ => ∀ a w, Fr n F a → St m h w → c.wpIn (fen n.ro) 0 P (cutQ Q) a w := ⟨WC.e⟩

theorem wpList_of_wp {o : Oper} {a : Act} {w : World} (hw : Region.wanted o (yielded ops a.tmps) = true) (h : o.wp P a w (wpList P ops Q rest) Q) : wpList P ops Q (o :: rest) a w := by
  unfold wpList
  rw [if_pos hw]
  exact .inl h

theorem wp_of_run {o : Oper} {a : Act} {w w' : World} {K : Act → World → Prop} {v : Value} (hr : (execOp a.eval o).run P w = .ok (.value v) w') (h : K (a.put o.dst v) w') : o.wp P a w K Q := by
  unfold Oper.wp
  rw [hr]
  exact h

theorem wp_of_skip {o : Oper} {a : Act} {w w' : World} {K : Act → World → Prop} (hr : (execOp a.eval o).run P w = .ok .skip w') (h : K (a.put o.dst undef) w') : o.wp P a w K Q := by
  unfold Oper.wp
  rw [hr]
  exact h

/-- The slot that a guard looks at. -/
def gslot (ops : Array Oper) (j : Nat) : Option Nat := (ops[j]?).bind (·.dst)

theorem WL.nil (k : ∀ a w, Fr n F a → St m h w → Q .normal a w) : WL P ops Q n [] F h m := .mk fun a w ha hs => k a w ha hs

theorem WL.po (hp : PO P ⟨some d, op, ty, pos, after, none⟩ n F h m v) (hn : d < n.num) (k : WL P ops Q n rest ((d, v) :: F) h m) :
    WL P ops Q n (⟨some d, op, ty, pos, after, none⟩ :: rest) F h m := .mk fun a w ha hs =>
  wpList_of_wp rfl (wp_of_run (hp a w ha hs) (k _ _ (ha.put hn v) hs))

theorem yielded_of {j t : Nat} {c : Bool} {a : Act} (hj : gslot ops j = some t) (hc : a.tmps[t]? = some (.bool c)) : yielded ops a.tmps j = some c := by
  unfold yielded
  unfold gslot at hj
  simp [hj, hc]

theorem WL.poT {j t : Nat} {c : Bool} (hj : gslot ops j = some t) (hc : look F t = some (.bool c))
    (hp : c = true → PO P ⟨some d, op, ty, pos, after, some (j, true)⟩ n F h m v) (hn : d < n.num) (k : WL P ops Q n rest ((d, gv c v) :: F) h m) :
    WL P ops Q n (⟨some d, op, ty, pos, after, some (j, true)⟩ :: rest) F h m := .mk fun a w ha hs => by
  have hy := yielded_of hj (ha.get t _ hc)
  cases c with
  | true => exact wpList_of_wp (by simp [Region.wanted, hy]) (wp_of_run (hp rfl a w ha hs) (k _ _ (ha.put hn v) hs))
  | false =>
    unfold wpList
    rw [if_neg (by simp [Region.wanted, hy])]
    exact k _ _ (ha.put hn undef) hs

theorem WL.poF {j t : Nat} {c : Bool} (hj : gslot ops j = some t) (hc : look F t = some (.bool c))
    (hp : (!c) = true → PO P ⟨some d, op, ty, pos, after, some (j, false)⟩ n F h m v) (hn : d < n.num) (k : WL P ops Q n rest ((d, gv (!c) v) :: F) h m) :
    WL P ops Q n (⟨some d, op, ty, pos, after, some (j, false)⟩ :: rest) F h m := .mk fun a w ha hs => by
  have hy := yielded_of hj (ha.get t _ hc)
  cases c with
  | false => exact wpList_of_wp (by simp [Region.wanted, hy]) (wp_of_run (hp rfl a w ha hs) (k _ _ (ha.put hn v) hs))
  | true =>
    unfold wpList
    rw [if_neg (by simp [Region.wanted, hy])]
    exact k _ _ (ha.put hn undef) hs

theorem keepF {F' : Fm} {ts : List Nat} {A : Act → World → Prop} (hk : keep F ts = some F') (k : ∀ a w, Fr n F' a → St m h w → A a w) :
    ∀ a w, Fr n F a → St m h w → A a w := fun a w ha hs => k a w (ha.sub (look_keep hk)) hs

theorem WC.seq {x y : Code} (k : WC P x (Exit.then (y.wpIn (fen n.ro) 0 P (cutQ Q)) Q) n F h m) : WC P (.seq x y) Q n F h m := .mk fun a w ha hs =>
  wpIn_seq (wpIn_mono (k a w ha hs) fun _ _ _ q => cutQ_then q)
/-- The same, with what comes behind kept out of sight. -/
theorem WC.seqK {x y : Code} (k : ∀ K : Act → World → Prop, (∀ ds F h m, WC P y Q { n with ds := ds } F h m → ∀ a w, Fr { n with ds := ds } F a → St m h w → K a w) → WC P x (Exit.then K Q) n F h m) : WC P (.seq x y) Q n F h m :=
  WC.seq (k _ fun _ _ _ _ hy => hy.e)
theorem toK {K : Act → World → Prop} {y : Code} (hK : ∀ ds F h m, WC P y Q { n with ds := ds } F h m → ∀ a w, Fr { n with ds := ds } F a → St m h w → K a w) (k : WC P y Q n F h m) : ∀ a w, Fr n F a → St m h w → K a w := hK n.ds F h m k
theorem WC.block {id : Nat} {c : Code} (k : WC P c (Exit.inBlock id Q) n F h m) : WC P (.block id c) Q n F h m := .mk fun a w ha hs => wpIn_block (wpIn_mono (k a w ha hs) fun _ _ _ q => cutQ_block q)
theorem WC.label {l : Nat} (k : ∀ a w, Fr n F a → St m h w → Q .normal a w) : WC P (.label l) Q n F h m := .mk fun a w ha hs => wpIn_label (k a w ha hs)
theorem region_in {id : Nat} {l : List Oper} {r : Option Nat} {a : Act} {w : World} (hp : ∀ o ∈ l, plainOp o = true) (k : wpList P l.toArray (cutQ Q) l a w) : (Code.region id l.toArray false).wpIn (fen r) 0 P (cutQ Q) a w :=
  wpIn_region_lit (list_to_in l a w hp k)
def dsts : List Oper → Option (List (Option Nat))
  | [] => some []
  | ⟨some d, _, _, _, _, _⟩ :: l => match dsts l with
    | some r => some (some d :: r)
    | none => none
  | ⟨none, _, _, _, _, _⟩ :: l => match dsts l with
    | some r => some (none :: r)
    | none => none
def dstsP (l : List Oper) : Option (List (Option Nat)) := match l.all plainOp with
  | true => dsts l
  | false => none
theorem dsts_eq : ∀ {l : List Oper} {G : List (Option Nat)}, dsts l = some G → l.map (·.dst) = G
  | [], G, h => by simp only [dsts, Option.some.injEq] at h; subst h; rfl
  | ⟨some d, _, _, _, _, _⟩ :: l, G, h => by
    simp only [dsts] at h
    cases h1 : dsts l with
    | none => simp [h1] at h
    | some r => simp only [h1, Option.some.injEq] at h; subst h; simp [dsts_eq h1]
  | ⟨none, _, _, _, _, _⟩ :: l, G, h => by
    simp only [dsts] at h
    cases h1 : dsts l with
    | none => simp [h1] at h
    | some r => simp only [h1, Option.some.injEq] at h; subst h; simp [dsts_eq h1]
/-- The same; of the operations' slots a table is kept. -/
theorem WC.regionG {id : Nat} {l : List Oper} {G : List (Option Nat)} (hG : dstsP l = some G) (k : ∀ ops : Array Oper, (∀ j t, G[j]? = some (some t) → gslot ops j = some t) → WL P ops Q n l F h m) : WC P (.region id l.toArray false) Q n F h m := .mk fun a w ha hs =>
  have hG0 : l.all plainOp = true := by
    unfold dstsP at hG
    split at hG
    · assumption
    · cases hG
  region_in (by simpa using hG0) ((k _ fun j t hj => by
    unfold dstsP at hG
    rw [hG0] at hG
    have hG := dsts_eq hG
    subst hG
    unfold gslot
    simp only [List.getElem?_map] at hj
    simp only [List.getElem?_toArray]
    cases hl : l[j]? with
    | none => simp [hl] at hj
    | some o => simpa [hl] using hj).e a w ha hs)
theorem WC.ret (k : ∀ a w, Fr n F a → St m h w → Q .ret a w) : WC P .ret Q n F h m := .mk fun a w ha hs => wpIn_ret (k a w ha hs)
theorem WC.skip (k : ∀ a w, Fr n F a → St m h w → Q .normal a w) : WC P .skip Q n F h m := .mk fun a w ha hs => wpIn_skip (k a w ha hs)
theorem WC.exit {id : Nat} (k : ∀ a w, Fr n F a → St m h w → Q (.exit id) a w) : WC P (.exit id) Q n F h m := .mk fun a w ha hs => wpIn_exit (k a w ha hs)
theorem WC.cond {c : Operand} {x y : Code} {b : Bool} (hc : Ev n F c (.bool b)) (kt : b = true → WC P x Q n F h m) (kf : b = false → WC P y Q n F h m) :
    WC P (.cond c x y) Q n F h m := .mk fun a w ha hs => wpIn_cond_split (hc a ha) (fun e => kt e a w ha hs) (fun e => kf e a w ha hs)

/-- A loop: J says what holds at a round's head, with a number that every round lowers. -/
theorem WC.loop {c : Code} (J : Nat → Fm → List Res → View → Prop) (μ : Nat) (F0 : Fm) (hsub : Sub F F0) (h0 : J μ F0 h m)
    (round : ∀ μ F h m, J μ F h m → WC P c (Exit.then (fun a w => ∃ μ' F' h' m', μ' < μ ∧ J μ' F' h' m' ∧ Fr n F' a ∧ St m' h' w) Q) n F h m) :
    WC P (.loop c) Q n F h m := by
  refine .mk fun a w ha hs => wpIn_loop_ghost (fun μ a w => ∃ F h m, J μ F h m ∧ Fr n F a ∧ St m h w) μ ⟨F0, h, m, h0, ha.sub hsub.look, hs⟩ ?_
  rintro μ a w ⟨F, h, m, hJ, ha, hs⟩
  refine wpIn_mono ((round μ F h m hJ).e a w ha hs) fun e a' w' q => ?_
  cases e with
  | normal =>
    obtain ⟨μ', F', h', m', hlt, hJ', ha', hs'⟩ := q
    exact ⟨μ', hlt, F', h', m', hJ', ha', hs'⟩
  | _ => exact q

/-- The end of a round. -/
theorem loopBack {J : Nat → Fm → List Res → View → Prop} {μ : Nat} (μ' : Nat) (F' : Fm) (hlt : μ' < μ) (hs : Sub F F') (hJ : J μ' F' h m) :
    ∀ a w, Fr n F a → St m h w → ∃ μ' F' h' m', μ' < μ ∧ J μ' F' h' m' ∧ Fr n F' a ∧ St m' h' w :=
  fun _ _ ha st => ⟨μ', F', h, m, hlt, hJ, ha.sub hs.look, st⟩

end

/- Short names, for the texts' sake. -/
theorem leB {a b : Nat} (h : Nat.ble a b = true) : a ≤ b := Nat.le_of_ble_eq_true h
theorem sub0 {α : Type} (l : List α) : l.Sublist l := List.Sublist.refl l
theorem subA {α : Type} (l r : List α) : r.Sublist (l ++ r) := List.sublist_append_right l r
theorem subC {α : Type} {l r : List α} (a : α) (h : l.Sublist r) : (a :: l).Sublist (a :: r) := h.cons_cons a
theorem subK {α : Type} {l r : List α} (a : α) (h : l.Sublist r) : l.Sublist (a :: r) := h.cons a
theorem subT {α : Type} {l r : List α} (k : List α) (h : l.Sublist r) : l.Sublist (k ++ r) := h.trans (List.sublist_append_right k r)
theorem mem0 {α : Type} {a : α} (l : List α) : List.Mem a (a :: l) := List.Mem.head l
theorem memT {α : Type} {a : α} (b : α) {l : List α} (h : List.Mem a l) : List.Mem a (b :: l) := List.Mem.tail b h
end Go.Eng

/- Operations that leave the world alone, one lemma each. -/
namespace Go.Eng
open Go Go.RowKit
section
variable {P : Program} {n : Cx} {F : Fm} {h : List Res} {m : View}
variable {ty : TypeId} {pos : String} {after : Array Edge} {dst : Option Tmp} {g : Option (Nat × Bool)}

theorem PO.eq {o : Oper} {v v' : Value} (p : PO P o n F h m v) (e : v = v') : PO P o n F h m v' := e ▸ p
theorem PO.move {x : Operand} {v : Value} (e : Ev n F x v) : PO P ⟨dst, .move x, ty, pos, after, g⟩ n F h m v := .mk fun a w ha _ => by
  simp [execOp, e a ha]
theorem PO.assign {x : Operand} {v : Value} (e : Ev n F x v) : PO P ⟨dst, .assign x, ty, pos, after, g⟩ n F h m v := .mk fun a w ha _ => by
  simp [execOp, e a ha]

theorem PO.pickB {c x y : Operand} {b : Bool} {u v : Value} (e : Ev n F c (.bool b)) (e1 : Ev n F x u) (e2 : Ev n F y v) :
    PO P ⟨dst, .pick c x y, ty, pos, after, g⟩ n F h m (if b then u else v) := .mk fun a w ha _ => by
  simp [execOp, e a ha, e1 a ha, e2 a ha, asBool]
theorem PO.pickAnd {t u : Nat} {c b : Bool} (e : look F t = some (.bool c)) (e1 : look F u = some (gv c (.bool b))) :
    PO P ⟨dst, .pick (.tmp t) (.tmp u) (.const (.bool false)), ty, pos, after, g⟩ n F h m (.bool (c && b)) := .mk fun a w ha _ => by
  have h1 : a.eval (.tmp t) = .bool c := ha.getD e
  have h2 : a.eval (.tmp u) = gv c (.bool b) := ha.getD e1
  have h3 : ∀ b, a.eval (.const (.bool b)) = .bool b := fun _ => rfl
  simp only [execOp, h1, h2, h3, asBool]
  cases c <;> rfl
theorem PO.pickOr {t u : Nat} {c b : Bool} (e : look F t = some (.bool c)) (e1 : look F u = some (gv (!c) (.bool b))) :
    PO P ⟨dst, .pick (.tmp t) (.const (.bool true)) (.tmp u), ty, pos, after, g⟩ n F h m (.bool (c || b)) := .mk fun a w ha _ => by
  have h1 : a.eval (.tmp t) = .bool c := ha.getD e
  have h2 : a.eval (.tmp u) = gv (!c) (.bool b) := ha.getD e1
  have h3 : ∀ b, a.eval (.const (.bool b)) = .bool b := fun _ => rfl
  simp only [execOp, h1, h2, h3, asBool]
  cases c <;> rfl

/- Integers. -/
def band (k : IntKind) (x y : Int) : Int := k.wrap (BitVec.ofInt k.bits x &&& BitVec.ofInt k.bits y).toNat
def bor (k : IntKind) (x y : Int) : Int := k.wrap (BitVec.ofInt k.bits x ||| BitVec.ofInt k.bits y).toNat
def bxor (k : IntKind) (x y : Int) : Int := k.wrap (BitVec.ofInt k.bits x ^^^ BitVec.ofInt k.bits y).toNat
def bandn (k : IntKind) (x y : Int) : Int := k.wrap (BitVec.ofInt k.bits x &&& ~~~ BitVec.ofInt k.bits y).toNat
def bshl (k : IntKind) (x y : Int) : Int := k.wrap (x * 2 ^ min y.toNat k.bits)
def bshr (k : IntKind) (x y : Int) : Int := x.fdiv (2 ^ min y.toNat k.bits)

def iop (op : BinOp) (k : IntKind) (x y : Int) : Option Value :=
  match op with
  | .add => some (.int k (k.wrap (x + y)))
  | .sub => some (.int k (k.wrap (x - y)))
  | .mul => some (.int k (k.wrap (x * y)))
  | .and => some (.int k (band k x y))
  | .or => some (.int k (bor k x y))
  | .xor => some (.int k (bxor k x y))
  | .andNot => some (.int k (bandn k x y))
  | .eql => some (.bool (x == y))
  | .neq => some (.bool (x != y))
  | .lss => some (.bool (x < y))
  | .leq => some (.bool (x ≤ y))
  | .gtr => some (.bool (x > y))
  | .geq => some (.bool (x ≥ y))
  | _ => none

theorem run_iop (w : World) {op : BinOp} {k : IntKind} {x y : Int} {v : Value} (t : TypeId) (h : iop op k x y = some v) : (binOp op t (.int k x) (.int k y)).run P w = .ok v w := by
  cases op <;> simp [iop] at h <;> subst h <;> simp [binOp, Op.intArith, Op.intBits, Op.intCmp, band, bor, bxor, bandn]

theorem run_eqGuard_int (w : World) (op : BinOp) (t : TypeId) (x y : Operand) (k k' : IntKind) (a b : Int) : (eqGuard op t x y (.int k a) (.int k' b)).run P w = .ok () w := by
  cases op <;> simp [eqGuard]

theorem PO.bin {op : BinOp} {x y : Operand} {k : IntKind} {i j : Int} {v : Value} {t t' : TypeId} (ex : Ev n F x (.int k i)) (ey : Ev n F y (.int k j)) (hv : iop op k i j = some v) :
    PO P ⟨dst, .binOp op t x y t', ty, pos, after, g⟩ n F h m v := .mk fun a w ha _ => by
  simp [execOp, ex a ha, ey a ha, run_eqGuard_int, run_iop w t hv]

theorem PO.addI {x y : Operand} {i j : Int} {t t' : TypeId} (ex : Ev n F x (.int .i64 i)) (ey : Ev n F y (.int .i64 j)) (h1 : -9223372036854775808 ≤ i + j ∧ i + j ≤ 9223372036854775807) :
    PO P ⟨dst, .binOp .add t x y t', ty, pos, after, g⟩ n F h m (.int .i64 (i + j)) := by
  have e : IntKind.i64.wrap (i + j) = i + j := by rw [IntKind.wrap_i64]; omega
  exact PO.bin ex ey (by simp [iop, e])
theorem PO.subI {x y : Operand} {i j : Int} {t t' : TypeId} (ex : Ev n F x (.int .i64 i)) (ey : Ev n F y (.int .i64 j)) (h1 : -9223372036854775808 ≤ i - j ∧ i - j ≤ 9223372036854775807) :
    PO P ⟨dst, .binOp .sub t x y t', ty, pos, after, g⟩ n F h m (.int .i64 (i - j)) := by
  have e : IntKind.i64.wrap (i - j) = i - j := by rw [IntKind.wrap_i64]; omega
  exact PO.bin ex ey (by simp [iop, e])
theorem PO.mulI {x y : Operand} {i j : Int} {t t' : TypeId} (ex : Ev n F x (.int .i64 i)) (ey : Ev n F y (.int .i64 j)) (h1 : -9223372036854775808 ≤ i * j ∧ i * j ≤ 9223372036854775807) :
    PO P ⟨dst, .binOp .mul t x y t', ty, pos, after, g⟩ n F h m (.int .i64 (i * j)) := by
  have e : IntKind.i64.wrap (i * j) = i * j := by rw [IntKind.wrap_i64]; omega
  exact PO.bin ex ey (by simp [iop, e])

theorem PO.quo {x y : Operand} {k : IntKind} {i j : Int} {t t' : TypeId} (ex : Ev n F x (.int k i)) (ey : Ev n F y (.int k j)) (hj : j ≠ 0) :
    PO P ⟨dst, .binOp .quo t x y t', ty, pos, after, g⟩ n F h m (.int k (k.wrap (i.tdiv j))) := .mk fun a w ha _ => by
  simp [execOp, ex a ha, ey a ha, run_eqGuard_int, binOp, Op.intDiv, hj]
theorem PO.rem {x y : Operand} {k : IntKind} {i j : Int} {t t' : TypeId} (ex : Ev n F x (.int k i)) (ey : Ev n F y (.int k j)) (hj : j ≠ 0) :
    PO P ⟨dst, .binOp .rem t x y t', ty, pos, after, g⟩ n F h m (.int k (i.tmod j)) := .mk fun a w ha _ => by
  simp [execOp, ex a ha, ey a ha, run_eqGuard_int, binOp, Op.intDiv, hj]
theorem PO.shl {x y : Operand} {k k' : IntKind} {i j : Int} {t t' : TypeId} (ex : Ev n F x (.int k i)) (ey : Ev n F y (.int k' j)) (hj : 0 ≤ j) :
    PO P ⟨dst, .binOp .shl t x y t', ty, pos, after, g⟩ n F h m (.int k (bshl k i j)) := .mk fun a w ha _ => by
  simp [execOp, ex a ha, ey a ha, run_eqGuard_int, binOp, Op.shift, Int.not_lt.2 hj, bshl]
theorem PO.shr {x y : Operand} {k k' : IntKind} {i j : Int} {t t' : TypeId} (ex : Ev n F x (.int k i)) (ey : Ev n F y (.int k' j)) (hj : 0 ≤ j) :
    PO P ⟨dst, .binOp .shr t x y t', ty, pos, after, g⟩ n F h m (.int k (bshr k i j)) := .mk fun a w ha _ => by
  simp [execOp, ex a ha, ey a ha, run_eqGuard_int, binOp, Op.shift, Int.not_lt.2 hj, bshr]

theorem PO.not {x : Operand} {b : Bool} {t : TypeId} (ex : Ev n F x (.bool b)) : PO P ⟨dst, .unOp .not t x, ty, pos, after, g⟩ n F h m (.bool (!b)) := .mk fun a w ha _ => by
  simp [execOp, ex a ha, Op.unary]
theorem PO.neg {x : Operand} {k : IntKind} {i : Int} {t : TypeId} (ex : Ev n F x (.int k i)) : PO P ⟨dst, .unOp .neg t x, ty, pos, after, g⟩ n F h m (.int k (k.wrap (0 - i))) := .mk fun a w ha _ => by
  simp [execOp, ex a ha, Op.unary, Op.intArith]
theorem PO.compl {x : Operand} {k : IntKind} {i : Int} {t : TypeId} (ex : Ev n F x (.int k i)) :
    PO P ⟨dst, .unOp .xor t x, ty, pos, after, g⟩ n F h m (.int k (bxor k (if k.signed then -1 else k.max) i)) := .mk fun a w ha _ => by
  simp [execOp, ex a ha, Op.unary, Op.intBits, bxor]

theorem PO.conv {x : Operand} {k k' : IntKind} {i : Int} {s t : TypeId} {d : TypeDesc} (hs : P.underlying s = some d) (ht : P.underlying t = some (.int k)) (ex : Ev n F x (.int k' i)) :
    PO P ⟨dst, .convert s t x, ty, pos, after, g⟩ n F h m (.int k (k.wrap i)) := .mk fun a w ha _ => by
  simp [execOp, ex a ha, convert, run_underlying hs, run_underlying ht, Conv.intToInt]
theorem PO.convI {x : Operand} {k k' : IntKind} {i : Int} {s t : TypeId} {d : TypeDesc} (hs : P.underlying s = some d) (ht : P.underlying t = some (.int k)) (ex : Ev n F x (.int k' i)) (hw : k.wrap i = i) :
    PO P ⟨dst, .convert s t x, ty, pos, after, g⟩ n F h m (.int k i) := by
  have := PO.conv (P := P) (h := h) (m := m) (dst := dst) (ty := ty) (pos := pos) (after := after) (g := g) hs ht ex
  rwa [hw] at this

/- bool, string: equality -/
theorem PO.eqlB {x y : Operand} {a b : Bool} {t t' : TypeId} (ht : P.underlying t = some .bool) (ex : Ev n F x (.bool a)) (ey : Ev n F y (.bool b)) :
    PO P ⟨dst, .binOp .eql t x y t', ty, pos, after, g⟩ n F h m (.bool (a == b)) := .mk fun c w ha _ => by
  have e1 := fun (op : BinOp) => (show eqGuard op t x y (.bool a) (.bool b) = pure () from by cases op <;> rfl)
  simp only [execOp, ex c ha, ey c ha, e1, pure_bind]
  first
    | (simp [run_eql_bool w t a b ht]; done)
    | simp [run_neq_bool w t a b ht]
theorem PO.neqB {x y : Operand} {a b : Bool} {t t' : TypeId} (ht : P.underlying t = some .bool) (ex : Ev n F x (.bool a)) (ey : Ev n F y (.bool b)) :
    PO P ⟨dst, .binOp .neq t x y t', ty, pos, after, g⟩ n F h m (.bool (!(a == b))) := .mk fun c w ha _ => by
  have e1 := fun (op : BinOp) => (show eqGuard op t x y (.bool a) (.bool b) = pure () from by cases op <;> rfl)
  simp only [execOp, ex c ha, ey c ha, e1, pure_bind]
  first
    | (simp; done)
    | simp [run_neq_bool w t a b ht]

abbrev str (l : List UInt8) : Value := .string ⟨l.toArray⟩
theorem toList_str (l : List UInt8) : (⟨l.toArray⟩ : ByteArray).toList = l := by rw [ByteArray.toList_eq]

theorem PO.eqlS {x y : Operand} {a b : List UInt8} {t t' : TypeId} (ex : Ev n F x (str a)) (ey : Ev n F y (str b)) :
    PO P ⟨dst, .binOp .eql t x y t', ty, pos, after, g⟩ n F h m (.bool (a == b)) := .mk fun c w ha _ => by
  simp [execOp, ex c ha, ey c ha, eqGuard, binOp, Op.stringOp]
theorem PO.neqS {x y : Operand} {a b : List UInt8} {t t' : TypeId} (ex : Ev n F x (str a)) (ey : Ev n F y (str b)) :
    PO P ⟨dst, .binOp .neq t x y t', ty, pos, after, g⟩ n F h m (.bool (!(a == b))) := .mk fun c w ha _ => by
  simp [execOp, ex c ha, ey c ha, eqGuard, binOp, Op.stringOp]
theorem PO.catS {x y : Operand} {a b : List UInt8} {t t' : TypeId} (ex : Ev n F x (str a)) (ey : Ev n F y (str b)) (hl : a.length + b.length ≤ 9223372036854775807) :
    PO P ⟨dst, .binOp .add t x y t', ty, pos, after, g⟩ n F h m (str (a ++ b)) := .mk fun c w ha _ => by
  have e : ¬ ((9223372036854775807 : Int) < (a.length : Int) + b.length) := by omega
  have e2 : (⟨a.toArray⟩ : ByteArray) ++ ⟨b.toArray⟩ = ⟨(a ++ b).toArray⟩ := by
    apply ByteArray.ext; simp
  simp [execOp, ex c ha, ey c ha, eqGuard, binOp, Op.stringOp, ByteArray.size, e, e2]

/- len, extract -/
theorem PO.lenSl {x : Operand} {t : TypeId} {e : TypeId} {a : Option Addr} {l c : Nat} (ht : P.underlying t = some (.slice e)) (ex : Ev n F x (.slice a l c)) :
    PO P ⟨dst, .call ⟨.builtin .len, #[x], #[t]⟩, ty, pos, after, g⟩ n F h m (.int .i64 l) := .mk fun b w ha _ => by
  simp [execOp, resolve, invoke, builtin, ex b ha, Builtin.len_, run_underlying ht, goInt]
theorem PO.lenS {x : Operand} {t : TypeId} {l : List UInt8} (ht : P.underlying t = some .string) (ex : Ev n F x (str l)) :
    PO P ⟨dst, .call ⟨.builtin .len, #[x], #[t]⟩, ty, pos, after, g⟩ n F h m (.int .i64 l.length) := .mk fun b w ha _ => by
  simp [execOp, resolve, invoke, builtin, ex b ha, Builtin.len_, run_underlying ht, goInt]
  rfl
theorem PO.extract {x : Operand} {i : Nat} {vs : Array Value} {v : Value} (ex : Ev n F x (.tuple vs)) (hv : vs[i]? = some v) :
    PO P ⟨dst, .extract x i, ty, pos, after, g⟩ n F h m v := .mk fun b w ha _ => by
  simp [execOp, ex b ha, Instr.extract, hv]
theorem PO.makeFunc {fn : Fn} {xs ys : List Operand} {us vs : List Value} (e1 : Evs n F xs us) (e2 : Evs n F ys vs) :
    PO P ⟨dst, .makeFunc fn xs.toArray ys.toArray, ty, pos, after, g⟩ n F h m (.func fn us.toArray vs.toArray) := .mk fun b w ha _ => by
  simp [execOp, Instr.makeFunc, e1.map ha, e2.map ha]

/- addresses and loads -/
theorem PO.fieldAddr {x : Operand} {t i : Nat} {fs : Array Field} {f : Field} {b off : Nat} (ht : P.underlying t = some (.struct fs)) (hf : fs[i]? = some f) (hz : P.cellsOf f.type ≠ 0)
    (ex : Ev n F x (.pointer (some ⟨b, off, none⟩))) : PO P ⟨dst, .fieldAddr t x i, ty, pos, after, g⟩ n F h m (.pointer (some ⟨b, off + f.offset, none⟩)) := .mk fun a w ha _ => by
  unfold Program.cellsOf at hz
  cases hq : P.info? f.type with
  | none => simp [hq] at hz
  | some q =>
    have : ¬ q.size = 0 := by simpa [hq] using hz
    simp [execOp, ex a ha, Instr.fieldAt, run_underlying ht, hf, Instr.sureAddr, fieldPlace, sizeOf, typeInfo, hq, this, Addr.add_lit]

def plainD (d : TypeDesc) : Bool := match d with
  | .struct _ | .array _ _ => false
  | _ => true

theorem run_isAgg_plain (w : World) {t : TypeId} {d : TypeDesc} (ht : P.underlying t = some d) (hp : plainD d = true) : (isAgg t).run P w = .ok false w := by
  cases d <;> simp [plainD] at hp <;> simp [isAgg, run_underlying ht]
theorem run_isAgg_agg (w : World) {t : TypeId} {d : TypeDesc} (ht : P.underlying t = some d) (hp : plainD d = false) : (isAgg t).run P w = .ok true w := by
  cases d <;> simp [plainD] at hp <;> simp [isAgg, run_underlying ht]

theorem St.pt_cell {w : World} (s : St m h w) {b off : Nat} {cs : Array Value} {e : TypeId} {fz : Nat × Nat} (hm : Res.pt b (.cells cs e fz) ∈ h) : w.cell? ⟨b, off, none⟩ = cs[off]? := by
  have := s.ok _ hm
  simp only [Res.ok] at this
  simp [World.cell?, this]

theorem PO.load1 {x : Operand} {t : TypeId} {d : TypeDesc} {b off : Nat} {cs : List Value} {e : TypeId} {fz : Nat × Nat} {v : Value} (ht : P.underlying t = some d) (hp : plainD d = true)
    (ex : Ev n F x (.pointer (some ⟨b, off, none⟩))) (hm : Res.pt b (.cells cs.toArray e fz) ∈ h) (hv : cs[off]? = some v) : PO P ⟨dst, .load t x, ty, pos, after, g⟩ n F h m v := .mk fun a w ha hs => by
  have hc : w.cell? ⟨b, off, none⟩ = some v := by rw [hs.pt_cell hm]; simpa using hv
  simp [execOp, ex a ha, Instr.loadAt, Instr.sureAddr, loadVar, run_isAgg_plain w ht hp, hc]
theorem PO.loadV {x : Operand} {t : TypeId} {d : TypeDesc} {ad : Addr} {v : Value} (ht : P.underlying t = some d) (hp : plainD d = true)
    (ex : Ev n F x (.pointer (some ad))) (hv : m.cell ad = some v) : PO P ⟨dst, .load t x, ty, pos, after, g⟩ n F h m v := .mk fun a w ha hs => by
  have hc := hs.cell hv
  simp [execOp, ex a ha, Instr.loadAt, Instr.sureAddr, loadVar, run_isAgg_plain w ht hp, hc]

/-- k cells from off on. -/
def seg (cs : List Value) : Nat → Nat → Option (List Value)
  | _, 0 => some []
  | off, k + 1 => match cs[off]?, seg cs (off + 1) k with
    | some v, some r => some (v :: r)
    | _, _ => none
theorem seg_spec {cs : List Value} : ∀ {k off : Nat} {vs : List Value}, seg cs off k = some vs → vs.length = k ∧ ∀ j v, vs[j]? = some v → cs[off + j]? = some v
  | 0, off, vs, h => by simp only [seg, Option.some.injEq] at h; subst h; exact ⟨rfl, fun j v hv => by simp at hv⟩
  | k + 1, off, vs, h => by
    simp only [seg] at h
    cases h1 : cs[off]? with
    | none => simp [h1] at h
    | some u =>
      cases h2 : seg cs (off + 1) k with
      | none => simp [h1, h2] at h
      | some r =>
        simp only [h1, h2, Option.some.injEq] at h
        subst h
        obtain ⟨l, q⟩ := seg_spec h2
        refine ⟨by simp [l], fun j v hv => ?_⟩
        cases j with
        | zero => simp at hv; subst hv; exact h1
        | succ j => have := q j v (by simpa using hv); rwa [show off + (j + 1) = off + 1 + j by omega]

theorem run_loadAgg (w : World) {t : TypeId} {d : TypeDesc} {b off : Nat} {vs : List Value} (ht : P.underlying t = some d) (hp : plainD d = false) (hsz : P.cellsOf t = vs.length)
    (hq : (P.info? t).isSome = true) (hc : ∀ j v, vs[j]? = some v → w.cell? ⟨b, off + j, none⟩ = some v) : (loadVar t ⟨b, off, none⟩).run P w = .ok (.agg vs.toArray) w := by
  cases hi : P.info? t with
  | none => simp [hi] at hq
  | some i =>
    have e : i.size = vs.length := by simpa [Program.cellsOf, hi] using hsz
    have := run_loadCells_list (P := P) w ⟨b, off, none⟩ vs (fun j v hv => by rw [Addr.add_lit]; exact hc j v hv)
    simp [loadVar, run_isAgg_agg w ht hp, sizeOf, typeInfo, hi, e, this]

theorem PO.loadA {x : Operand} {t : TypeId} {d : TypeDesc} {b off : Nat} {cs : List Value} {e : TypeId} {fz : Nat × Nat} {vs : List Value} (ht : P.underlying t = some d) (hp : plainD d = false)
    (hq : (P.info? t).isSome = true) (ex : Ev n F x (.pointer (some ⟨b, off, none⟩))) (hm : Res.pt b (.cells cs.toArray e fz) ∈ h) (hv : seg cs off (P.cellsOf t) = some vs) :
    PO P ⟨dst, .load t x, ty, pos, after, g⟩ n F h m (.agg vs.toArray) := .mk fun a w ha hs => by
  obtain ⟨hl, hj⟩ := seg_spec hv
  have := run_loadAgg (P := P) w (b := b) (off := off) ht hp hl.symm hq (fun j v hv => by rw [hs.pt_cell hm]; simpa using hj j v hv)
  simp [execOp, ex a ha, Instr.loadAt, Instr.sureAddr, this]
theorem PO.loadAV {x : Operand} {t : TypeId} {d : TypeDesc} {b off : Nat} {vs : List Value} (ht : P.underlying t = some d) (hp : plainD d = false)
    (hq : (P.info? t).isSome = true) (ex : Ev n F x (.pointer (some ⟨b, off, none⟩))) (hl : P.cellsOf t = vs.length) (hv : ∀ j v, vs[j]? = some v → m.cell ⟨b, off + j, none⟩ = some v) :
    PO P ⟨dst, .load t x, ty, pos, after, g⟩ n F h m (.agg vs.toArray) := .mk fun a w ha hs => by
  have := run_loadAgg (P := P) w (b := b) (off := off) ht hp hl hq (fun j v hj => hs.cell (hv j v hj))
  simp [execOp, ex a ha, Instr.loadAt, Instr.sureAddr, this]

/- structs by value -/
theorem PO.field1 {x : Operand} {t i : Nat} {fs : Array Field} {f : Field} {d : TypeDesc} {cs : List Value} {v : Value} (ht : P.underlying t = some (.struct fs)) (hf : fs[i]? = some f)
    (hd : P.underlying f.type = some d) (hp : plainD d = true) (ex : Ev n F x (.agg cs.toArray)) (hv : cs[f.offset]? = some v) : PO P ⟨dst, .field t x i, ty, pos, after, g⟩ n F h m v := .mk fun a w ha _ => by
  simp [execOp, ex a ha, Instr.field, run_underlying ht, hf, asAgg, part, run_isAgg_plain w hd hp, hv]

/-- cs with vs from off on. -/
def setLs : List Value → Nat → List Value → Option (List Value)
  | cs, _, [] => some cs
  | [], _, _ :: _ => none
  | _ :: cs, 0, v :: vs => match setLs cs 0 vs with
    | some r => some (v :: r)
    | none => none
  | c :: cs, k + 1, v :: vs => match setLs cs k (v :: vs) with
    | some r => some (c :: r)
    | none => none

theorem setLs_spec : ∀ {cs : List Value} {k : Nat} {vs r : List Value}, setLs cs k vs = some r → k + vs.length ≤ cs.length + (if vs = [] then k else 0) ∧ r = cs.take k ++ vs ++ cs.drop (k + vs.length) ∨ vs = [] ∧ r = cs := by
  intro cs
  induction cs with
  | nil =>
    intro k vs r h
    cases vs with
    | nil => simp only [setLs, Option.some.injEq] at h; right; exact ⟨rfl, h.symm⟩
    | cons v vs => simp [setLs] at h
  | cons c cs ih =>
    intro k vs r h
    cases vs with
    | nil => simp only [setLs, Option.some.injEq] at h; right; exact ⟨rfl, h.symm⟩
    | cons v vs =>
      left
      cases k with
      | zero =>
        simp only [setLs] at h
        cases h1 : setLs cs 0 vs with
        | none => simp [h1] at h
        | some q =>
          simp only [h1, Option.some.injEq] at h
          subst h
          rcases ih h1 with ⟨l, e⟩ | ⟨e1, e2⟩
          · subst e
            refine ⟨?_, by simp⟩
            split at l <;> simp_all
          · subst e1; subst e2; simp
      | succ k =>
        simp only [setLs] at h
        cases h1 : setLs cs k (v :: vs) with
        | none => simp [h1] at h
        | some q =>
          simp only [h1, Option.some.injEq] at h
          subst h
          rcases ih h1 with ⟨l, e⟩ | ⟨e1, e2⟩
          · subst e
            refine ⟨?_, by simp [Nat.add_right_comm k 1]⟩
            simp at l ⊢
            omega
          · simp at e1

theorem setLs_len {cs : List Value} {k : Nat} {vs r : List Value} (h : setLs cs k vs = some r) (hv : vs ≠ []) : k + vs.length ≤ cs.length := by
  rcases setLs_spec h with ⟨l, _⟩ | ⟨e, _⟩
  · simpa [hv] using l
  · exact absurd e hv
theorem setLs_eq {cs : List Value} {k : Nat} {vs r : List Value} (h : setLs cs k vs = some r) : r = cs.take k ++ vs ++ cs.drop (k + vs.length) := by
  rcases setLs_spec h with ⟨_, e⟩ | ⟨e, e'⟩
  · exact e
  · subst e; subst e'; simp

end
end Go.Eng

/- Slices that are only read; operations that make or write memory; calls; a function's body. -/
namespace Go.Eng
open Go Go.RowKit

/-- The slice with base a, length n and capacity cap holds the cells xs, in memory that nobody writes any more. -/
structure Sl (m : View) (a : Option Addr) (n cap sz : Nat) (xs : List Value) : Prop where
  len : xs.length = n * sz
  le : n ≤ cap
  mx : cap ≤ 9223372036854775807
  at_ : ∀ j v, xs[j]? = some v → ∃ b off, a = some ⟨b, off, none⟩ ∧ m.cell ⟨b, off + j, none⟩ = some v

theorem Sl.mono {m m' : View} {a : Option Addr} {n cap sz : Nat} {xs : List Value} (h : Sl m a n cap sz xs) (hm : m.le m') : Sl m' a n cap sz xs :=
  ⟨h.len, h.le, h.mx, fun j v hj => by obtain ⟨b, off, e, hc⟩ := h.at_ j v hj; exact ⟨b, off, e, hm.cell hc⟩⟩

theorem Sl.nil (m : View) (sz : Nat) : Sl m none 0 0 sz [] := ⟨by simp, Nat.le_refl _, by omega, fun j v h => by simp at h⟩

def elt (a : Option Addr) (o : Nat) : Option Addr := a.map fun p => ⟨p.block, p.off + o, none⟩

/-- The base of x[l:..]. -/
def sl1 (a : Option Addr) (l cap sz : Nat) : Option Addr := if cap = l then a else a.map (·.add (l * sz))

theorem Sl.sub {m : View} {a : Option Addr} {n cap sz : Nat} {xs : List Value} (s : Sl m a n cap sz xs) {l k : Nat} (h1 : l ≤ k) (h2 : k ≤ n) :
    Sl m (sl1 a l cap sz) (k - l) (cap - l) sz ((xs.drop (l * sz)).take ((k - l) * sz)) := by
  have hle := s.le
  have hmx := s.mx
  have hml : l * sz + (k - l) * sz ≤ n * sz := by
    rw [← Nat.add_mul, show l + (k - l) = k by omega]; exact Nat.mul_le_mul_right _ h2
  refine ⟨?_, by omega, by omega, fun j v hj => ?_⟩
  · rw [List.length_take, List.length_drop, s.len]; omega
  · rw [List.getElem?_take] at hj
    split at hj
    · rename_i hlt
      rw [List.getElem?_drop] at hj
      obtain ⟨b, off, e, hc⟩ := s.at_ _ v hj
      subst e
      by_cases hcl : cap = l
      · have : k - l = 0 := by omega
        rw [this] at hlt; simp at hlt
      · refine ⟨b, off + l * sz, by simp [sl1, hcl, Addr.add_lit], ?_⟩
        rw [Nat.add_assoc]; exact hc
    · simp at hj

theorem flat_get {α : Type} {sz : Nat} (enc : α → List Value) (henc : ∀ x, (enc x).length = sz) : ∀ (l : List α) (q j : Nat), j < sz → (l.flatMap enc)[q * sz + j]? = (l[q]?).bind fun x => (enc x)[j]?
  | [], q, j, _ => by simp
  | x :: l, 0, j, hj => by
    simp [List.getElem?_append, henc, hj]
  | x :: l, q + 1, j, hj => by
    have ih := flat_get enc henc l q j hj
    rw [List.flatMap_cons, List.getElem?_append_right (by rw [henc, Nat.add_mul]; omega), henc,
      show (q + 1) * sz + j - sz = q * sz + j by rw [Nat.add_mul]; omega, ih]
    simp

def bv (bs : List UInt8) : List Value := bs.map fun b => .int .u8 b.toNat
theorem bv_get {bs : List UInt8} {j : Nat} {b : UInt8} (h : bs[j]? = some b) : (bv bs)[j]? = some (.int .u8 b.toNat) := by simp [bv, h]
theorem bv_len (bs : List UInt8) : (bv bs).length = bs.length := by simp [bv]

/-- The slice with base a, length n and capacity cap holds the cells xs, in every world of this kind. -/
structure Rd (m : View) (h : List Res) (a : Option Addr) (n cap sz : Nat) (xs : List Value) : Prop where
  len : xs.length = n * sz
  le : n ≤ cap
  mx : cap ≤ 9223372036854775807
  at_ : ∀ w, St m h w → ∀ j u, xs[j]? = some u → ∃ b off, a = some ⟨b, off, none⟩ ∧ w.cell? ⟨b, off + j, none⟩ = some u
theorem Rd.ofSl {m : View} {h : List Res} {a : Option Addr} {n cap sz : Nat} {xs : List Value} (s : Sl m a n cap sz xs) : Rd m h a n cap sz xs :=
  ⟨s.len, s.le, s.mx, fun w st j u hj => by obtain ⟨b, off, e, hc⟩ := s.at_ j u hj; exact ⟨b, off, e, st.cell hc⟩⟩
theorem St.weaken {m m' : View} {h h' : List Res} {w : World} (s : St m' h' w) (hm : m.le m') (hh : h.Sublist h') : St m h w := by
  have s' := s.sub hh
  exact ⟨s'.os.trans hm.os, s'.out.trans hm.out, s'.tape.trans hm.tape, fun b o hb => s'.blk b o (hm.blk b o hb), s'.ok, s'.nd, fun r hr b hb => by
    have := s'.fr r hr b hb
    cases hq : m.blk b with
    | none => rfl
    | some o => rw [hm.blk b o hq] at this; cases this⟩
theorem Rd.mono {m m' : View} {h h' : List Res} {a : Option Addr} {n cap sz : Nat} {xs : List Value} (r : Rd m h a n cap sz xs) (hm : m.le m') (hh : h.Sublist h') : Rd m' h' a n cap sz xs :=
  ⟨r.len, r.le, r.mx, fun w st => r.at_ w (st.weaken hm hh)⟩
theorem Rd.cons {m : View} {h : List Res} {a : Option Addr} {n cap sz : Nat} {xs : List Value} {x : Res} (r : Rd m h a n cap sz xs) : Rd m (x :: h) a n cap sz xs := r.mono (View.le.refl m) (List.sublist_cons_self _ _)
theorem Rd.sub {m : View} {h : List Res} {a : Option Addr} {n cap sz : Nat} {xs : List Value} (s : Rd m h a n cap sz xs) {l k : Nat} (h1 : l ≤ k) (h2 : k ≤ n) :
    Rd m h (sl1 a l cap sz) (k - l) (cap - l) sz ((xs.drop (l * sz)).take ((k - l) * sz)) := by
  have hle := s.le
  have hmx := s.mx
  have hml : l * sz + (k - l) * sz ≤ n * sz := by
    rw [← Nat.add_mul, show l + (k - l) = k by omega]; exact Nat.mul_le_mul_right _ h2
  refine ⟨?_, by omega, by omega, fun w st j v hj => ?_⟩
  · rw [List.length_take, List.length_drop, s.len]; omega
  · rw [List.getElem?_take] at hj
    split at hj
    · rename_i hlt
      rw [List.getElem?_drop] at hj
      obtain ⟨b, off, e, hc⟩ := s.at_ w st _ v hj
      subst e
      by_cases hcl : cap = l
      · have : k - l = 0 := by omega
        rw [this] at hlt; simp at hlt
      · refine ⟨b, off + l * sz, by simp [sl1, hcl, Addr.add_lit], ?_⟩
        rw [Nat.add_assoc]; exact hc
    · simp at hj

section
variable {P : Program} {ops : Array Oper} {Q : Exit → Act → World → Prop} {n : Cx} {F : Fm} {h h' : List Res} {m : View} {rest : List Oper}
variable {ty : TypeId} {pos : String} {after : Array Edge} {dst : Option Tmp} {g : Option (Nat × Bool)} {d : Nat}

theorem PO.idx {x i : Operand} {t e : TypeId} {a : Option Addr} {len cap sz q : Nat} {k : IntKind} {j : Int} {xs : List Value} (ht : P.underlying t = some (.slice e)) (hsz : (P.info? e).map (·.size) = some sz)
    (hz : 0 < sz) (ex : Ev n F x (.slice a len cap)) (ei : Ev n F i (.int k j)) (hs : Rd m h a len cap sz xs) (hj : j = (q : Int)) (hq : q < len) :
    PO P ⟨dst, .indexAddr t x i, ty, pos, after, g⟩ n F h m (.pointer (elt a (q * sz))) := .mk fun b w ha st => by
  subst hj
  have hlt : q * sz < xs.length := by rw [hs.len]; exact Nat.mul_lt_mul_of_pos_right hq hz
  obtain ⟨b0, off, e0, _⟩ := hs.at_ w st _ _ (List.getElem?_eq_getElem hlt)
  subst e0
  cases hi : P.info? e with
  | none => simp [hi] at hsz
  | some i0 =>
    have e1 : i0.size = sz := by simpa [hi] using hsz
    have e2 : (q : Int) < len := by omega
    simp [execOp, ex b ha, ei b ha, Instr.indexAt, asIntOf, run_underlying ht, sizeOf, typeInfo, hi, e1, hq, elt, Addr.add_lit]

theorem PO.fieldE {x : Operand} {t i o len cap sz j : Nat} {fs : Array Field} {f : Field} {a : Option Addr} {xs : List Value} (ht : P.underlying t = some (.struct fs)) (hf : fs[i]? = some f) (hz : P.cellsOf f.type ≠ 0) (hs : Rd m h a len cap sz xs) (hj : j < xs.length)
    (ex : Ev n F x (.pointer (elt a o))) : PO P ⟨dst, .fieldAddr t x i, ty, pos, after, g⟩ n F h m (.pointer (elt a (o + f.offset))) := .mk fun b w ha st => by
  obtain ⟨b0, off, e0, _⟩ := hs.at_ w st _ _ (List.getElem?_eq_getElem hj)
  subst e0
  have := PO.fieldAddr (P := P) (h := h) (m := m) (dst := dst) (ty := ty) (pos := pos) (after := after) (g := g) (b := b0) (off := off + o) ht hf hz ex
  have e : elt (some ⟨b0, off, none⟩) (o + f.offset) = some ⟨b0, off + o + f.offset, none⟩ := by simp [elt, Nat.add_assoc]
  rw [e]
  exact this b w ha st

theorem PO.loadE {x : Operand} {t : TypeId} {u : TypeDesc} {a : Option Addr} {len cap sz o : Nat} {xs : List Value} {v : Value} (ht : P.underlying t = some u) (hp : plainD u = true) (hs : Rd m h a len cap sz xs)
    (ex : Ev n F x (.pointer (elt a o))) (hv : xs[o]? = some v) : PO P ⟨dst, .load t x, ty, pos, after, g⟩ n F h m v := .mk fun b w ha st => by
  obtain ⟨b0, off, e, hc⟩ := hs.at_ w st _ _ hv
  subst e
  have ex' : b.eval x = .pointer (some ⟨b0, off + o, none⟩) := ex b ha
  simp [execOp, ex', Instr.loadAt, Instr.sureAddr, loadVar, run_isAgg_plain w ht hp, hc]

theorem PO.loadEA {x : Operand} {t : TypeId} {u : TypeDesc} {a : Option Addr} {len cap sz o : Nat} {xs vs : List Value} (ht : P.underlying t = some u) (hp : plainD u = false) (hq : (P.info? t).isSome = true)
    (hs : Rd m h a len cap sz xs) (ex : Ev n F x (.pointer (elt a o))) (hl : P.cellsOf t = vs.length) (h0 : 0 < vs.length) (hv : ∀ j v, vs[j]? = some v → xs[o + j]? = some v) :
    PO P ⟨dst, .load t x, ty, pos, after, g⟩ n F h m (.agg vs.toArray) := .mk fun b w ha st => by
  obtain ⟨b0, off, e, hc⟩ := hs.at_ w st _ _ (hv 0 _ (List.getElem?_eq_getElem h0))
  subst e
  have ex' : b.eval x = .pointer (some ⟨b0, off + o, none⟩) := ex b ha
  have := run_loadAgg (P := P) w (b := b0) (off := off + o) ht hp hl hq (fun j v hj => by
    obtain ⟨b', off', e', hc'⟩ := hs.at_ w st _ _ (hv j v hj)
    simp only [Option.some.injEq, Addr.mk.injEq, and_true] at e'
    obtain ⟨rfl, rfl⟩ := e'
    rw [Nat.add_assoc]; exact hc')
  simp [execOp, ex', Instr.loadAt, Instr.sureAddr, this]

/- x[lo:hi] of a slice; the bounds are ints -/
theorem PO.sliceLH {x lo hi : Operand} {t e : TypeId} {a : Option Addr} {len cap sz l u : Nat} {i j : Int} {k k' : IntKind} (ht : P.underlying t = some (.slice e)) (hsz : (P.info? e).map (·.size) = some sz)
    (ex : Ev n F x (.slice a len cap)) (el : Ev n F lo (.int k i)) (eh : Ev n F hi (.int k' j)) (hil : i = (l : Int)) (hju : j = (u : Int)) (h1 : l ≤ u) (h2 : u ≤ cap) :
    PO P ⟨dst, .slice t x (some lo) (some hi) none, ty, pos, after, g⟩ n F h m (.slice (sl1 a l cap sz) (u - l) (cap - l)) := .mk fun b w ha _ => by
  subst hil hju
  have e1 : (u : Int) ≤ cap := by omega
  have e2 : (l : Int) ≤ u := by omega
  cases hq : P.info? e with
  | none => simp [hq] at hsz
  | some i0 =>
    have e3 : i0.size = sz := by simpa [hq] using hsz
    simp [execOp, ex b ha, el b ha, eh b ha, Instr.sliceAt, Instr.slice, run_underlying ht, Instr.sliceBounds, run_sliceBound, sizeOf, typeInfo, hq, e3, e1, e2, sl1]
theorem PO.sliceH {x hi : Operand} {t e : TypeId} {a : Option Addr} {len cap sz u : Nat} {j : Int} {k' : IntKind} (ht : P.underlying t = some (.slice e)) (hsz : (P.info? e).map (·.size) = some sz)
    (ex : Ev n F x (.slice a len cap)) (eh : Ev n F hi (.int k' j)) (hj : j = (u : Int)) (h2 : u ≤ cap) :
    PO P ⟨dst, .slice t x none (some hi) none, ty, pos, after, g⟩ n F h m (.slice (sl1 a 0 cap sz) u cap) := .mk fun b w ha _ => by
  subst hj
  have e1 : (u : Int) ≤ cap := by omega
  cases hq : P.info? e with
  | none => simp [hq] at hsz
  | some i0 =>
    have e3 : i0.size = sz := by simpa [hq] using hsz
    simp [execOp, ex b ha, eh b ha, Instr.sliceAt, Instr.slice, run_underlying ht, Instr.sliceBounds, run_sliceBound, sizeOf, typeInfo, hq, e1, sl1]
theorem PO.sliceL {x lo : Operand} {t e : TypeId} {a : Option Addr} {len cap sz l : Nat} {i : Int} {k : IntKind} (ht : P.underlying t = some (.slice e)) (hsz : (P.info? e).map (·.size) = some sz)
    (ex : Ev n F x (.slice a len cap)) (el : Ev n F lo (.int k i)) (hi : i = (l : Int)) (h1 : l ≤ len) :
    PO P ⟨dst, .slice t x (some lo) none none, ty, pos, after, g⟩ n F h m (.slice (sl1 a l cap sz) (len - l) (cap - l)) := .mk fun b w ha _ => by
  subst hi
  have e2 : (l : Int) ≤ len := by omega
  cases hq : P.info? e with
  | none => simp [hq] at hsz
  | some i0 =>
    have e3 : i0.size = sz := by simpa [hq] using hsz
    simp [execOp, ex b ha, el b ha, Instr.sliceAt, Instr.slice, run_underlying ht, Instr.sliceBounds, run_sliceBound, sizeOf, typeInfo, hq, e3, e2, sl1]

/- strings -/
theorem PO.idxS {x i : Operand} {t : TypeId} {l : List UInt8} {k : IntKind} {j : Int} {q : Nat} {c : UInt8} (ht : P.underlying t = some .string) (ex : Ev n F x (str l)) (ei : Ev n F i (.int k j)) (hj : j = (q : Int)) (hc : l[q]? = some c) :
    PO P ⟨dst, .index t x i, ty, pos, after, g⟩ n F h m (.int .u8 c.toNat) := .mk fun b w ha _ => by
  subst hj
  have e : (⟨l.toArray⟩ : ByteArray)[q]? = some c := by
    have h1 : q < l.length := by
      rcases Nat.lt_or_ge q l.length with h' | h'
      · exact h'
      · rw [List.getElem?_eq_none h'] at hc; cases hc
    have h2 : q < (⟨l.toArray⟩ : ByteArray).size := by simpa [ByteArray.size] using h1
    have h3 : (⟨l.toArray⟩ : ByteArray)[q]? = some ((⟨l.toArray⟩ : ByteArray)[q]'h2) := getElem?_pos (⟨l.toArray⟩ : ByteArray) q h2
    rw [h3]
    have h4 : l[q] = c := by rw [List.getElem?_eq_getElem h1] at hc; exact Option.some.inj hc
    rw [← h4]; rfl
  simp [execOp, ex b ha, ei b ha, Instr.index, asIntOf, run_underlying ht, e]

theorem extract_str (l : List UInt8) (i j : Nat) : (⟨l.toArray⟩ : ByteArray).extract i j = ⟨((l.drop i).take (j - i)).toArray⟩ := by
  apply ByteArray.ext
  rw [ByteArray.data_extract]
  simp

theorem PO.sliceSLH {x lo hi : Operand} {t : TypeId} {s : List UInt8} {l u : Nat} {i j : Int} {k k' : IntKind} (ht : P.underlying t = some .string)
    (ex : Ev n F x (str s)) (el : Ev n F lo (.int k i)) (eh : Ev n F hi (.int k' j)) (hil : i = (l : Int)) (hju : j = (u : Int)) (h1 : l ≤ u) (h2 : u ≤ s.length) :
    PO P ⟨dst, .slice t x (some lo) (some hi) none, ty, pos, after, g⟩ n F h m (str ((s.drop l).take (u - l))) := .mk fun b w ha _ => by
  subst hil hju
  have e1 : (u : Int) ≤ s.length := by omega
  have e2 : (l : Int) ≤ u := by omega
  have e3 : (⟨s.toArray⟩ : ByteArray).size = s.length := rfl
  simp [execOp, ex b ha, el b ha, eh b ha, Instr.sliceAt, Instr.slice, run_underlying ht, Instr.sliceBounds, run_sliceBound, e1, e2, e3, extract_str]
theorem PO.sliceSH {x hi : Operand} {t : TypeId} {s : List UInt8} {u : Nat} {j : Int} {k' : IntKind} (ht : P.underlying t = some .string)
    (ex : Ev n F x (str s)) (eh : Ev n F hi (.int k' j)) (hj : j = (u : Int)) (h2 : u ≤ s.length) :
    PO P ⟨dst, .slice t x none (some hi) none, ty, pos, after, g⟩ n F h m (str (s.take u)) := .mk fun b w ha _ => by
  subst hj
  have e1 : (u : Int) ≤ s.length := by omega
  have e3 : (⟨s.toArray⟩ : ByteArray).size = s.length := rfl
  simp [execOp, ex b ha, eh b ha, Instr.sliceAt, Instr.slice, run_underlying ht, Instr.sliceBounds, run_sliceBound, e1, e3, extract_str]
theorem PO.sliceSL {x lo : Operand} {t : TypeId} {s : List UInt8} {l : Nat} {i : Int} {k : IntKind} (ht : P.underlying t = some .string)
    (ex : Ev n F x (str s)) (el : Ev n F lo (.int k i)) (hi : i = (l : Int)) (h1 : l ≤ s.length) :
    PO P ⟨dst, .slice t x (some lo) none none, ty, pos, after, g⟩ n F h m (str (s.drop l)) := .mk fun b w ha _ => by
  subst hi
  have e2 : (l : Int) ≤ s.length := by omega
  have e3 : (⟨s.toArray⟩ : ByteArray).size = s.length := rfl
  have e4 : (s.drop l).take (s.length - l) = s.drop l := List.take_of_length_le (by simp)
  simp [execOp, ex b ha, el b ha, Instr.sliceAt, Instr.slice, run_underlying ht, Instr.sliceBounds, run_sliceBound, e2, e3, extract_str, e4]

/- string(b) of a slice that is only read -/
theorem foldl_push (l : List UInt8) : ∀ s : List UInt8, (l.map fun b => ((b.toNat : Nat) : Int)).foldl (fun (r : ByteArray) n => r.push (UInt8.ofNat n.toNat)) ⟨s.toArray⟩ = ⟨(s ++ l).toArray⟩ := by
  induction l with
  | nil => intro s; simp
  | cons b l ih =>
    intro s
    simp only [List.map_cons, List.foldl_cons, Int.toNat_natCast, UInt8.ofNat_toNat]
    have e : (⟨s.toArray⟩ : ByteArray).push b = ⟨(s ++ [b]).toArray⟩ := by apply ByteArray.ext; simp [ByteArray.push]
    rw [e, ih (s ++ [b])]
    simp
theorem PO.strOf {x : Operand} {s t e : TypeId} {a : Option Addr} {len cap : Nat} {bs : List UInt8} (hs : P.underlying s = some (.slice e)) (he : P.underlying e = some (.int .u8)) (ht : P.underlying t = some .string)
    (ex : Ev n F x (.slice a len cap)) (hb : Rd m h a len cap 1 (bv bs)) : PO P ⟨dst, .convert s t x, ty, pos, after, g⟩ n F h m (str bs) := .mk fun b w ha st => by
  have hl : bs.length = len := by have := hb.len; simpa [bv_len] using this
  have hr : (convert s t (.slice a len cap)).run P w = .ok (str bs) w := by
    rw [run_convert_bytes_string w s t e a len cap hs he ht]
    cases bs with
    | nil =>
      simp at hl; subst hl
      cases a with
      | none => simp [Conv.bytesToString]; rfl
      | some ad =>
        have := run_bytesToString (P := P) w ad 0 cap [] (by simp [loadCells, loadCellsFrom])
        exact this.trans rfl
    | cons c bs =>
      obtain ⟨b0, off, e0, _⟩ := hb.at_ w st 0 _ (bv_get (by simp; rfl))
      subst e0
      have hld := run_loadCells_list (P := P) w ⟨b0, off, none⟩ (bv (c :: bs)) (fun j v hj => by
        obtain ⟨b1, off1, e1, hc⟩ := hb.at_ w st j v hj
        simp only [Option.some.injEq, Addr.mk.injEq, and_true] at e1
        obtain ⟨rfl, rfl⟩ := e1
        rw [Addr.add_lit]; exact hc)
      have e2 : bv (c :: bs) = ((c :: bs).map fun b => ((b.toNat : Nat) : Int)).map (Value.int .u8) := by simp [bv]
      rw [bv_len, hl, e2] at hld
      rw [run_bytesToString (P := P) w _ len cap _ hld]
      have := foldl_push (c :: bs) []
      simp only [List.nil_append] at this
      exact congrArg (fun z => Result.ok (Value.string z) w) this
  simp [execOp, ex b ha, hr]

/- the cells of a value, written out -/
def cellsO : Value → Option (List Value)
  | .agg ⟨l⟩ => some l
  | .tuple _ => none
  | .bool b => some [.bool b]
  | .int k i => some [.int k i]
  | .string s => some [.string s]
  | .pointer p => some [.pointer p]
  | .slice a l c => some [.slice a l c]
  | .map r => some [.map r]
  | .func f x y => some [.func f x y]
  | .nilFunc => some [.nilFunc]
  | .iface t v => some [.iface t v]
  | .nilIface => some [.nilIface]
  | _ => none
theorem cellsO_spec {v : Value} {zs : List Value} (h : cellsO v = some zs) : v.cells.toList = zs := by
  cases v <;> simp [cellsO] at h <;> simp [Value.cells, h]

/- stores -/
theorem St.setRow {w : World} (s : St m h w) {b : Nat} {cs cs' : Array Value} {e : TypeId} (u : Upd h (.pt b (.cells cs e (0, 0))) (.pt b (.cells cs' e (0, 0))) h') : St m h' (w.setRow b cs') := by
  have hb : w.heap[b]? = some (.cells cs e (0, 0)) := s.ok _ u.mem
  exact s.upd u rfl rfl rfl (fun k _ hk => setRow_other w b k cs' (fun e => hk (by rw [e]; rfl))) (setRow_heap w b cs cs' e (0, 0) hb) (fun k hk => .inl hk)

theorem WL.storeW {x y : Operand} {t : TypeId} {b off : Nat} {cs vs : List Value} {e : TypeId} {v : Value} (hq : (P.info? t).map (·.size) = some vs.length) (ex : Ev n F x (.pointer (some ⟨b, off, none⟩))) (ey : Ev n F y v)
    (hvs : v.cells.toList = vs) (h1 : ∀ u ∈ vs, u.oneCell' = true) (hl : off + vs.length ≤ cs.length)
    (u : Upd h (.pt b (.cells cs.toArray e (0, 0))) (.pt b (.cells (cs.take off ++ vs ++ cs.drop (off + vs.length)).toArray e (0, 0))) h') (k : WL P ops Q n rest F h' m) :
    WL P ops Q n (⟨none, .store t x y, ty, pos, after, none⟩ :: rest) F h m := .mk fun a w ha hs => by
  subst hvs
  have hb : w.heap[b]? = some (.cells cs.toArray e (0, 0)) := hs.ok _ u.mem
  have hr := run_storeCells_at P b off e v.cells.toList 0 cs.toArray w hb (by simpa using hl) h1
  have hrun : (execOp a.eval ⟨none, .store t x y, ty, pos, after, none⟩).run P w = .ok .skip (w.setRow b (cs.take off ++ v.cells.toList ++ cs.drop (off + v.cells.toList.length)).toArray) := by
    cases hi : P.info? t with
    | none => simp [hi] at hq
    | some i =>
      have e1 : i.size = v.cells.size := by simpa [hi] using hq
      have hr' := hr
      simp only [Nat.add_zero] at hr'
      simp [execOp, ex a ha, ey a ha, Instr.storeAt, Instr.sureAddr, storeVar, sizeOf, typeInfo, hi, e1] at hr' ⊢
      rw [hr']; rfl
  exact wpList_of_wp rfl (wp_of_skip hrun (k _ _ ha (hs.setRow u)))

/-- A store into a block whose cells stand written out. -/
theorem WL.store {x y : Operand} {t : TypeId} {b off : Nat} {cs cs' vs : List Value} {e : TypeId} {v : Value} (hq : (P.info? t).map (·.size) = some vs.length) (ex : Ev n F x (.pointer (some ⟨b, off, none⟩))) (ey : Ev n F y v)
    (hvs : cellsO v = some vs) (h1 : vs.all (·.oneCell') = true) (h0 : vs.isEmpty = false) (hc : setLs cs off vs = some cs')
    (u : Upd h (.pt b (.cells cs.toArray e (0, 0))) (.pt b (.cells cs'.toArray e (0, 0))) h') (k : WL P ops Q n rest F h' m) :
    WL P ops Q n (⟨none, .store t x y, ty, pos, after, none⟩ :: rest) F h m := by
  have hne : vs ≠ [] := by cases vs <;> simp_all
  have e1 := setLs_eq hc
  subst e1
  exact WL.storeW hq ex ey (cellsO_spec hvs) (by simpa using h1) (setLs_len hc hne) u k

theorem WL.alloc {t : TypeId} {z : Value} {zs : List Value} (hz : (P.info? t).bind (·.zero) = some z) (hzs : cellsO z = some zs) (hd : d < n.num)
    (k : ∀ b, WL P ops Q n rest ((d, .pointer (some ⟨b, 0, none⟩)) :: F) (.pt b (.cells zs.toArray t (0, 0)) :: h) m) :
    WL P ops Q n (⟨some d, .alloc t, ty, pos, after, none⟩ :: rest) F h m := .mk fun a w ha hs => by
  have hzs := cellsO_spec hzs
  subst hzs
  have hrun : (execOp a.eval ⟨some d, .alloc t, ty, pos, after, none⟩).run P w = .ok (.value (.pointer (some ⟨w.heap.size, 0, none⟩))) (w.alloc (.cells z.cells.toList.toArray t)) := by
    cases hi : P.info? t with
    | none => simp [hi] at hz
    | some i =>
      have e1 : i.zero = some z := by simpa [hi] using hz
      simp [execOp, Instr.alloc, zeroValue, typeInfo, hi, e1, newVar, newRow]
  exact wpList_of_wp rfl (wp_of_run hrun (k _ _ _ (ha.put hd _) (hs.alloc _)))

theorem WL.box {x : Operand} {t : TypeId} {v : Value} {zs : List Value} (ex : Ev n F x v) (hzs : cellsO v = some zs) (hd : d < n.num)
    (k : ∀ b, WL P ops Q n rest ((d, .pointer (some ⟨b, 0, none⟩)) :: F) (.pt b (.cells zs.toArray t (0, 0)) :: h) m) :
    WL P ops Q n (⟨some d, .box t x, ty, pos, after, none⟩ :: rest) F h m := .mk fun a w ha hs => by
  have hzs := cellsO_spec hzs
  subst hzs
  have hrun : (execOp a.eval ⟨some d, .box t x, ty, pos, after, none⟩).run P w = .ok (.value (.pointer (some ⟨w.heap.size, 0, none⟩))) (w.alloc (.cells v.cells.toList.toArray t)) := by
    simp [execOp, Instr.box, ex a ha, newVar, newRow]
  exact wpList_of_wp rfl (wp_of_run hrun (k _ _ _ (ha.put hd _) (hs.alloc _)))

/- calls -/
theorem run_call {f : Operand} {args : List Operand} {tys : Array TypeId} {vs first cap : List Value} {q : FuncId} {a : Act} {w : World} {gd : Option (Nat × Bool)} (ha : Fr n F a)
    (ef : Ev n F f (.func (.func q) first.toArray cap.toArray)) (ea : Evs n F args vs) (he : ∀ as w, (callFunc q as).run P w = .ok (.enter q as) w) :
    (execOp a.eval ⟨dst, .call ⟨.value f, args.toArray, tys⟩, ty, pos, after, gd⟩).run P w = .ok (.enter q (first ++ vs ++ cap).toArray) w := by
  simp [execOp, resolve, ef a ha, Deferred.ofValue, invoke, ea.map ha, he]

theorem WL.call {f : Operand} {args : List Operand} {tys : Array TypeId} {vs first cap : List Value} {q : FuncId} {R : Value → View → List Res → Prop} (ef : Ev n F f (.func (.func q) first.toArray cap.toArray)) (ea : Evs n F args vs)
    (c : CT P q (first ++ vs ++ cap) h m R) (hd : d < n.num) (k : ∀ v m' h', m.le m' → R v m' h' → WL P ops Q n rest ((d, v) :: F) h' m') :
    WL P ops Q n (⟨some d, .call ⟨.value f, args.toArray, tys⟩, ty, pos, after, none⟩ :: rest) F h m := .mk fun a w ha hs => by
  refine wpList_of_wp rfl ?_
  unfold Oper.wp
  rw [run_call ha ef ea c.enter]
  refine Calls.mono (c.calls w hs) ?_
  rintro e w' ⟨v, m', h', rfl, hle, hst, hR⟩
  exact k v m' h' hle hR _ _ (ha.put hd v) hst
theorem WL.call0 {f : Operand} {args : List Operand} {tys : Array TypeId} {vs first cap : List Value} {q : FuncId} {R : Value → View → List Res → Prop} (ef : Ev n F f (.func (.func q) first.toArray cap.toArray)) (ea : Evs n F args vs)
    (c : CT P q (first ++ vs ++ cap) h m R) (k : ∀ v m' h', m.le m' → R v m' h' → WL P ops Q n rest F h' m') :
    WL P ops Q n (⟨none, .call ⟨.value f, args.toArray, tys⟩, ty, pos, after, none⟩ :: rest) F h m := .mk fun a w ha hs => by
  refine wpList_of_wp rfl ?_
  unfold Oper.wp
  rw [run_call ha ef ea c.enter]
  refine Calls.mono (c.calls w hs) ?_
  rintro e w' ⟨v, m', h', rfl, hle, hst, hR⟩
  exact k v m' h' hle hR _ _ ha hst

/-- A call that leaves all owned memory alone and hands back just v. -/
def Pure1 (h : List Res) (v : Value) : Value → View → List Res → Prop := fun v' _ h' => v' = v ∧ h' = h

theorem WL.callT {f : Operand} {args : List Operand} {tys : Array TypeId} {vs first cap : List Value} {q : FuncId} {j t : Nat} {c : Bool} {v : Value} (hj : gslot ops j = some t) (hc : look F t = some (.bool c))
    (hp : c = true → Ev n F f (.func (.func q) first.toArray cap.toArray) ∧ Evs n F args vs ∧ CT P q (first ++ vs ++ cap) h m (Pure1 h v)) (hd : d < n.num) (k : ∀ m', m.le m' → WL P ops Q n rest ((d, gv c v) :: F) h m') :
    WL P ops Q n (⟨some d, .call ⟨.value f, args.toArray, tys⟩, ty, pos, after, some (j, true)⟩ :: rest) F h m := .mk fun a w ha hs => by
  have hy := yielded_of hj (ha.get t _ hc)
  cases c with
  | true =>
    obtain ⟨ef, ea, ct⟩ := hp rfl
    refine wpList_of_wp (by simp [Region.wanted, hy]) ?_
    unfold Oper.wp
    rw [run_call ha ef ea ct.enter]
    refine Calls.mono (ct.calls w hs) ?_
    rintro e w' ⟨v', m', h', rfl, hle, hst, rfl, rfl⟩
    exact k m' hle _ _ (ha.put hd _) hst
  | false =>
    unfold wpList
    rw [if_neg (by simp [Region.wanted, hy])]
    exact k m (View.le.refl m) _ _ (ha.put hd undef) hs
theorem WL.callF {f : Operand} {args : List Operand} {tys : Array TypeId} {vs first cap : List Value} {q : FuncId} {j t : Nat} {c : Bool} {v : Value} (hj : gslot ops j = some t) (hc : look F t = some (.bool c))
    (hp : (!c) = true → Ev n F f (.func (.func q) first.toArray cap.toArray) ∧ Evs n F args vs ∧ CT P q (first ++ vs ++ cap) h m (Pure1 h v)) (hd : d < n.num) (k : ∀ m', m.le m' → WL P ops Q n rest ((d, gv (!c) v) :: F) h m') :
    WL P ops Q n (⟨some d, .call ⟨.value f, args.toArray, tys⟩, ty, pos, after, some (j, false)⟩ :: rest) F h m := .mk fun a w ha hs => by
  have hy := yielded_of hj (ha.get t _ hc)
  cases c with
  | false =>
    obtain ⟨ef, ea, ct⟩ := hp rfl
    refine wpList_of_wp (by simp [Region.wanted, hy]) ?_
    unfold Oper.wp
    rw [run_call ha ef ea ct.enter]
    refine Calls.mono (ct.calls w hs) ?_
    rintro e w' ⟨v', m', h', rfl, hle, hst, rfl, rfl⟩
    exact k m' hle _ _ (ha.put hd _) hst
  | true =>
    unfold wpList
    rw [if_neg (by simp [Region.wanted, hy])]
    exact k m (View.le.refl m) _ _ (ha.put hd undef) hs

/- a body -/
def enumF : Nat → List Value → Fm
  | _, [] => []
  | k, v :: vs => (k, v) :: enumF (k + 1) vs

theorem look_enum : ∀ (vs : List Value) (k t : Nat) (v : Value), look (enumF k vs) t = some v → ∃ j, t = k + j ∧ vs[j]? = some v
  | [], k, t, v, h => by simp [enumF, look] at h
  | u :: vs, k, t, v, h => by
    simp only [enumF, look] at h
    cases hb : Nat.beq k t with
    | true =>
      rw [hb] at h
      exact ⟨0, by have := Nat.eq_of_beq_eq_true hb; omega, by simpa using h⟩
    | false =>
      rw [hb] at h
      obtain ⟨j, e, hj⟩ := look_enum vs (k + 1) t v h
      exact ⟨j + 1, by omega, by simpa using hj⟩

theorem Fr.enter (vs : List Value) (N : Nat) (hN : vs.length ≤ N) : Fr ⟨N, none, []⟩ (enumF 0 vs) { tmps := vs.toArray ++ Array.replicate (N - vs.toArray.size) undef, defers := [] } := by
  refine ⟨rfl, by simp; omega, fun t v ht => ?_⟩
  obtain ⟨j, e, hj⟩ := look_enum vs 0 t v ht
  have e' : t = j := by omega
  subst e'
  have hlt : t < vs.length := by
    rcases Nat.lt_or_ge t vs.length with h' | h'
    · exact h'
    · rw [List.getElem?_eq_none h'] at hj; cases hj
  rw [Array.getElem?_append_left (by simpa using hlt)]
  simpa using hj

def enumO : Nat → List Value → Option Fm
  | _, [] => some []
  | k, v :: vs => match enumO (k + 1) vs with
    | some r => some ((k, v) :: r)
    | none => none
theorem enumO_eq : ∀ {vs : List Value} {k : Nat} {F : Fm}, enumO k vs = some F → enumF k vs = F
  | [], k, F, h => by simp only [enumO, Option.some.injEq] at h; exact h
  | v :: vs, k, F, h => by
    simp only [enumO] at h
    cases h1 : enumO (k + 1) vs with
    | none => simp [h1] at h
    | some r => simp only [h1, Option.some.injEq] at h; subst h; simp [enumF, enumO_eq h1]
theorem CT.body {f : FuncId} {args : List Value} {R : Value → View → List Res → Prop} {fn : Func} {c : Code} {F0 : Fm} {N : Nat} (he : ∀ as w, (callFunc f as).run P w = .ok (.enter f as) w)
    (hf : P.funcs[f]? = some fn) (hb : fn.body = some c) (hN : fn.ntmps = N) (hl : args.length ≤ N) (hF : enumO 0 args = some F0) (k : WC P c (bodyPost P fn (RQ m R)) ⟨N, none, []⟩ F0 h m) : CT P f args h m R := by
  have hF := enumO_eq hF
  subst hF hN
  exact ⟨he, fun w hs => calls_of_wp hf hb (wpIn_wide.1 (wpIn_mono (k.e _ w (Fr.enter args fn.ntmps hl) hs) fun _ _ _ q => cutQ_imp q))⟩

theorem CT.mono {f : FuncId} {args : List Value} {R R' : Value → View → List Res → Prop} (c : CT P f args h m R) (hr : ∀ v m' h', m.le m' → R v m' h' → R' v m' h') : CT P f args h m R' :=
  ⟨c.enter, fun w hs => Calls.mono (c.calls w hs) (by rintro e w' ⟨v, m', h', rfl, hle, hst, hR⟩; exact ⟨v, m', h', rfl, hle, hst, hr _ _ _ hle hR⟩)⟩

/-- What a result variable reads as. -/
def resOf (tmps : Array Value) (r : ResultVar) : Sem Value :=
  match r with
  | .tmp t => pure (tmps.getD t undef)
  | .cell b t => do loadVar t (← asAddr (tmps.getD b undef))
theorem results_eq (fn : Func) (tmps : Array Value) : results fn tmps = (do
    let vs ← fn.results.mapM (resOf tmps)
    pure (if h : vs.size = 1 then vs[0] else .tuple vs)) := by
  unfold results
  have e : (fun r : ResultVar => match r with
    | .tmp t => pure (tmps.getD t undef)
    | .cell a t => do loadVar t (← asAddr (tmps.getD a undef))) = resOf tmps := by funext r; cases r <;> rfl
  rw [← e]
  rfl
structure RV (P : Program) (n : Cx) (F : Fm) (h : List Res) (m : View) (r : ResultVar) (v : Value) : Prop where
  e : ∀ a w, Fr n F a → St m h w → (resOf a.tmps r).run P w = .ok v w
theorem RV.tmp {t : Nat} {v : Value} (hl : look F t = some v) : RV P n F h m (.tmp t) v := .mk fun a w ha _ => by simp only [resOf, ha.getD hl]; rfl
theorem RV.cell1 {p t : Nat} {u : TypeDesc} {b off : Nat} {cs : List Value} {e : TypeId} {fz : Nat × Nat} {v : Value} (ht : P.underlying t = some u) (hp : plainD u = true) (hl : look F p = some (.pointer (some ⟨b, off, none⟩)))
    (hm : Res.pt b (.cells cs.toArray e fz) ∈ h) (hv : cs[off]? = some v) : RV P n F h m (.cell p t) v := .mk fun a w ha hs => by
  have e1 := ha.getD hl
  have hc : w.cell? ⟨b, off, none⟩ = some v := by rw [hs.pt_cell hm]; simpa using hv
  simp only [resOf, e1, asAddr]
  simp [loadVar, run_isAgg_plain w ht hp, hc]
theorem RV.cellA {p t : Nat} {u : TypeDesc} {b off : Nat} {cs : List Value} {e : TypeId} {fz : Nat × Nat} {vs : List Value} (ht : P.underlying t = some u) (hp : plainD u = false) (hq : (P.info? t).isSome = true)
    (hl : look F p = some (.pointer (some ⟨b, off, none⟩))) (hm : Res.pt b (.cells cs.toArray e fz) ∈ h) (hv : seg cs off (P.cellsOf t) = some vs) : RV P n F h m (.cell p t) (.agg vs.toArray) := .mk fun a w ha hs => by
  have e1 := ha.getD hl
  obtain ⟨hl, hj⟩ := seg_spec hv
  have := run_loadAgg (P := P) w (b := b) (off := off) ht hp hl.symm hq (fun j v hv => by rw [hs.pt_cell hm]; simpa using hj j v hv)
  simp only [resOf, e1, asAddr]
  simp [this]

theorem end_ {fn : Func} {ex : Exit} {R : Ending → World → Prop} {v : Value} (hex : ex = .ret ∨ ex = .normal) (hr : ∀ a w, Fr n F a → St m h w → (results fn a.tmps).run P w = .ok v w) (hR : ∀ w, St m h w → R (.returned v) w) (hds : n.ds = []) :
    ∀ a w, Fr n F a → St m h w → bodyPost P fn R ex a w := fun a w ha hs => by
  rcases hex with rfl | rfl
  · exact ⟨ha.d.trans hds, v, hr a w ha hs, hR w hs⟩
  · exact ⟨ha.d.trans hds, v, hr a w ha hs, hR w hs⟩

theorem dropE {A : Act → World → Prop} {h' : List Res} (hs : h'.Sublist h) (k : ∀ a w, Fr n F a → St m h' w → A a w) : ∀ a w, Fr n F a → St m h w → A a w := fun a w ha st => k a w ha (st.sub hs)
theorem end0 {fn : Func} {ex : Exit} {m0 : View} {R : Value → View → List Res → Prop} (hex : ex = .ret ∨ ex = .normal) (hfn : fn.results = #[]) (hle : m0.le m) (hd : h'.Sublist h) (hR : R (.tuple #[]) m h') (hds : n.ds = [] := by rfl) :
    ∀ a w, Fr n F a → St m h w → bodyPost P fn (RQ m0 R) ex a w :=
  end_ hex (fun a w ha hs => by simp [results, hfn]) (fun w hs => ⟨_, m, h', rfl, hle, hs.sub hd, hR⟩) hds
theorem end1 {fn : Func} {ex : Exit} {m0 : View} {R : Value → View → List Res → Prop} {r : ResultVar} {v : Value} (hex : ex = .ret ∨ ex = .normal) (hfn : fn.results = #[r]) (h1 : RV P n F h m r v) (hle : m0.le m) (hd : h'.Sublist h) (hR : R v m h') (hds : n.ds = [] := by rfl) :
    ∀ a w, Fr n F a → St m h w → bodyPost P fn (RQ m0 R) ex a w :=
  end_ hex (fun a w ha hs => by
    have h1 := h1.e a w ha hs
    simp [results_eq, hfn, h1]) (fun w hs => ⟨_, m, h', rfl, hle, hs.sub hd, hR⟩) hds
theorem end2 {fn : Func} {ex : Exit} {m0 : View} {R : Value → View → List Res → Prop} {r r' : ResultVar} {v v' : Value} (hex : ex = .ret ∨ ex = .normal) (hfn : fn.results = #[r, r']) (h1 : RV P n F h m r v) (h2 : RV P n F h m r' v') (hle : m0.le m) (hd : h'.Sublist h) (hR : R (.tuple #[v, v']) m h') (hds : n.ds = [] := by rfl) :
    ∀ a w, Fr n F a → St m h w → bodyPost P fn (RQ m0 R) ex a w :=
  end_ hex (fun a w ha hs => by
    have h1 := h1.e a w ha hs
    have h2 := h2.e a w ha hs
    simp [results_eq, hfn, h1, h2]) (fun w hs => ⟨_, m, h', rfl, hle, hs.sub hd, hR⟩) hds
theorem end3 {fn : Func} {ex : Exit} {m0 : View} {R : Value → View → List Res → Prop} {r r' r'' : ResultVar} {v v' v'' : Value} (hex : ex = .ret ∨ ex = .normal) (hfn : fn.results = #[r, r', r'']) (h1 : RV P n F h m r v) (h2 : RV P n F h m r' v') (h3 : RV P n F h m r'' v'')
    (hle : m0.le m) (hd : h'.Sublist h) (hR : R (.tuple #[v, v', v'']) m h') (hds : n.ds = [] := by rfl) :
    ∀ a w, Fr n F a → St m h w → bodyPost P fn (RQ m0 R) ex a w :=
  end_ hex (fun a w ha hs => by
    have h1 := h1.e a w ha hs
    have h2 := h2.e a w ha hs
    have h3 := h3.e a w ha hs
    simp [results_eq, hfn, h1, h2, h3]) (fun w hs => ⟨_, m, h', rfl, hle, hs.sub hd, hR⟩) hds

end
end Go.Eng

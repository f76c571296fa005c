/- The program logic of these proofs: frames as lists of known slots, memory as an unchanging view beside a list of owned blocks. Proved once over any program. -/
import Derived.WalkKit
import Derived.OrdersIn
import Derived.Sort.LoopGhostIn
import Derived.RangeFuncRecord
namespace Go.Eng
open Go Go.RowKit

/-- What is known of an activation from outside: the number of its slots; in whose round it runs; what it has put off to its end. -/
structure Cx where
  num : Nat
  ro : Option Nat := none
  ds : List Deferred := []
instance : Coe Cx Nat := ⟨Cx.num⟩
/-- The fence that lets everything in, around a frame of this make. -/
def fen (ro : Option Nat) : Fence := { Fence.wide with round := ro }
/-- Outgrown ends are not asked for. -/
def cutQ (Q : Exit → Act → World → Prop) : Exit → Act → World → Prop
  | .outgrown, _, _ => False
  | e, a, w => Q e a w
theorem cutQ_imp {Q : Exit → Act → World → Prop} {e : Exit} {a : Act} {w : World} (h : cutQ Q e a w) : Q e a w := by
  cases e <;> first | exact h | exact h.elim
theorem cutQ_then {K : Act → World → Prop} {Q : Exit → Act → World → Prop} {e : Exit} {a : Act} {w : World} (h : cutQ (Exit.then K Q) e a w) : Exit.then K (cutQ Q) e a w := by
  cases e <;> exact h
theorem cutQ_block {id : Nat} {Q : Exit → Act → World → Prop} {e : Exit} {a : Act} {w : World} (h : cutQ (Exit.inBlock id Q) e a w) : Exit.inBlock id (cutQ Q) e a w := by
  cases e with
  | exit k =>
    have h' : Exit.inBlock id Q (.exit k) a w := h
    unfold Exit.inBlock at h' ⊢
    split at h' <;> rename_i e1 <;> simp_all [cutQ]
  | _ => exact h
theorem cutQ_out {Q : Exit → Act → World → Prop} : ¬ LetsOut (cutQ Q) := fun ⟨_, _, h⟩ => h
/-- An operation that puts nothing off. -/
def plainOp (o : Oper) : Bool := match o.op with | .defer _ => false | _ => true
theorem semAt_plain {o : Oper} (h : plainOp o = true) (r : Option Nat) (ρ : Operand → Value) : o.semAt r ρ = execOp ρ o :=
  Oper.semAt_eq r ρ o fun c e => by unfold plainOp at h; rw [e] at h; cases h
theorem wp_to_in {P : Program} {o : Oper} {a : Act} {w : World} {K K' : Act → World → Prop} {Q : Exit → Act → World → Prop} {r : Option Nat} (hp : plainOp o = true) (hk : ∀ a w, K a w → K' a w)
    (h : o.wp P a w K (cutQ Q)) : o.wpIn (fen r) 0 P a w K' (cutQ Q) := by
  refine ⟨fun _ _ => trivial, ?_⟩
  show o.uponIn (fen r) 0 P a K' (cutQ Q) ((o.semAt r a.eval).run P w)
  rw [semAt_plain hp]
  unfold Oper.wp at h
  generalize (execOp a.eval o).run P w = q at h ⊢
  cases q with
  | ok x w' =>
    cases x <;> simp only [Oper.upon, Oper.uponIn] at h ⊢
    case value => exact hk _ _ h
    case skip => exact hk _ _ h
    case defer => exact hk _ _ h
    case enter =>
      refine ⟨fun hh => (by cases hh), callsIn_wide.2 (Calls.mono h ?_)⟩
      intro e w'' he
      cases e with
      | returned v => exact hk _ _ he
      | panicked c => exact he
      | outgrown => exact (cutQ_out he).elim
    case row =>
      refine ⟨fun hh => (by cases hh), fun c cs _ => ?_⟩
      obtain ⟨v, w2, hv, hst⟩ := h c cs
      exact ⟨v, w2, hk _ _ hv, stepsIn_wide.2 hst⟩
  | halt x w' => cases x <;> simp only [Oper.upon, Oper.uponIn] at h ⊢ <;> exact h
theorem ops_to_in {P : Program} {ops : Array Oper} {Q : Exit → Act → World → Prop} {r : Option Nat} (hp : ∀ (i : Nat) (o : Oper), ops[i]? = some o → plainOp o = true) :
    ∀ (l : List Nat) (a : Act) (w : World), wpOps P ops (cutQ Q) l a w → wpOpsIn (fen r) 0 P ops (cutQ Q) l a w
  | [], _, _, h => h
  | i :: l, a, w, h => by
    simp only [wpOps, wpOpsIn] at h ⊢
    cases ho : ops[i]? with
    | none => simp only [ho] at h ⊢; exact ops_to_in hp l a w h
    | some o =>
      simp only [ho] at h ⊢
      split
      · rename_i hw
        rw [if_pos hw] at h
        rcases h with h | ⟨_, h⟩
        · exact wp_to_in (hp i o ho) (ops_to_in hp l) h
        · exact (cutQ_out h).elim
      · rename_i hw
        rw [if_neg hw] at h
        exact ⟨fun _ _ => trivial, ops_to_in hp l _ w h⟩
theorem list_to_in {P : Program} {ops : Array Oper} {Q : Exit → Act → World → Prop} {r : Option Nat} :
    ∀ (l : List Oper) (a : Act) (w : World), (∀ o ∈ l, plainOp o = true) → wpList P ops (cutQ Q) l a w → wpListIn (fen r) 0 P ops (cutQ Q) l a w
  | [], _, _, _, h => h
  | o :: l, a, w, hp, h => by
    simp only [wpList, wpListIn] at h ⊢
    split
    · rename_i hw
      rw [if_pos hw] at h
      rcases h with h | ⟨_, h⟩
      · exact wp_to_in (hp o (by simp)) (fun a w h => list_to_in l a w (fun o ho => hp o (by simp [ho])) h) h
      · exact (cutQ_out h).elim
    · rename_i hw
      rw [if_neg hw] at h
      exact ⟨fun _ _ => trivial, list_to_in l _ w (fun o ho => hp o (by simp [ho])) h⟩

/-- What is known to lie in memory and is written by nobody any more; the streams and the tape beside it. -/
structure View where
  blk : Nat → Option Obj
  os : Os
  out : Array (Nat × ByteArray)
  tape : Nat → Question → Nat

structure View.le (m m' : View) : Prop where
  os : m'.os = m.os
  out : m'.out = m.out
  tape : m'.tape = m.tape
  blk : ∀ b o, m.blk b = some o → m'.blk b = some o

theorem View.le.refl (m : View) : m.le m := ⟨rfl, rfl, rfl, fun _ _ h => h⟩
theorem View.le.trans {a b c : View} (h : a.le b) (k : b.le c) : a.le c :=
  ⟨k.os.trans h.os, k.out.trans h.out, k.tape.trans h.tape, fun i o e => k.blk i o (h.blk i o e)⟩

def View.cell (m : View) (a : Addr) : Option Value :=
  match m.blk a.block with
  | some (.cells c _ _) => if a.spot.isSome then none else c[a.off]?
  | _ => none

theorem View.le.cell {m m' : View} (h : m.le m') {a : Addr} {v : Value} (hc : m.cell a = some v) : m'.cell a = some v := by
  unfold View.cell at *
  cases hb : m.blk a.block with
  | none => simp [hb] at hc
  | some o => rw [h.blk _ _ hb]; simpa [hb] using hc

/-- A view with one block more. -/
def View.add (m : View) (b : Nat) (o : Obj) : View := { m with blk := fun k => if k = b then some o else m.blk k }
theorem View.le_add {m : View} {b : Nat} {o : Obj} (h : m.blk b = none) : m.le (m.add b o) :=
  ⟨rfl, rfl, rfl, fun k o' hk => by
    show (if k = b then some o else m.blk k) = some o'
    rw [if_neg (fun e => by rw [e, h] at hk; cases hk)]; exact hk⟩
theorem View.add_blk (m : View) (b : Nat) (o : Obj) : (m.add b o).blk b = some o := if_pos rfl

/-- An owned piece of memory: a block known whole, or a slice that grows by append. -/
inductive Res where
  | pt (b : Nat) (o : Obj)
  | row (v : Value) (e : TypeId) (sz n : Nat) (xs : List Value)

def Res.fp : Res → Option Nat
  | .pt b _ => some b
  | .row v _ _ _ _ => v.ownBlock

def Res.ok (w : World) : Res → Prop
  | .pt b o => w.heap[b]? = some o
  | .row v e sz n xs => w.ownsRow 0 e sz v n xs

def Res.apart (r s : Res) : Prop := ∀ b, r.fp = some b → s.fp = some b → False

theorem Res.apart_symm {r s : Res} (h : r.apart s) : s.apart r := fun b h1 h2 => h b h2 h1

theorem lt_of_some {w : World} {b : Nat} {o : Obj} (h : w.heap[b]? = some o) : b < w.heap.size := by
  rcases Nat.lt_or_ge b w.heap.size with h' | h'
  · exact h'
  · simp [Array.getElem?_eq_none h'] at h

theorem old_block (w : World) (o : Obj) (i : Nat) (h : i < w.heap.size) : (w.alloc o).heap[i]? = w.heap[i]? := by
  show (w.heap.push o)[i]? = w.heap[i]?
  rw [Array.getElem?_push, if_neg (Nat.ne_of_lt h)]
theorem new_block (w : World) (o : Obj) : (w.alloc o).heap[w.heap.size]? = some o := by
  show (w.heap.push o)[w.heap.size]? = some o
  simp

theorem Res.lt {w : World} {r : Res} (h : r.ok w) : ∀ b, r.fp = some b → b < w.heap.size := by
  intro b hb
  cases r with
  | pt c o => simp only [Res.fp, Option.some.injEq] at hb; subst hb; exact lt_of_some h
  | row v e sz n xs => exact (World.ownsRow.lt h b hb).2

theorem Res.ok_of_block {w w' : World} {r : Res} (h : r.ok w) (hs : ∀ b, r.fp = some b → w'.heap[b]? = w.heap[b]?) : r.ok w' := by
  cases r with
  | pt c o => exact (hs c rfl).trans h
  | row v e sz n xs =>
    obtain ⟨h1, h2⟩ := h
    refine ⟨h1, ?_⟩
    rcases h2 with h2 | ⟨g, cap, cur, hv, hg, hh, r⟩
    · exact .inl h2
    · subst hv
      exact .inr ⟨g, cap, cur, rfl, hg, (hs g rfl).trans hh, r⟩

structure St (m : View) (h : List Res) (w : World) : Prop where
  os : w.os = m.os
  out : w.output = m.out
  tape : w.tape = m.tape
  blk : ∀ b o, m.blk b = some o → w.heap[b]? = some o
  ok : ∀ r ∈ h, r.ok w
  nd : h.Pairwise Res.apart
  fr : ∀ r ∈ h, ∀ b, r.fp = some b → m.blk b = none

theorem St.cell {m : View} {h : List Res} {w : World} (s : St m h w) {a : Addr} {v : Value} (hc : m.cell a = some v) : w.cell? a = some v := by
  unfold View.cell at hc
  cases hb : m.blk a.block with
  | none => simp [hb] at hc
  | some o =>
    have hw := s.blk _ _ hb
    rw [hb] at hc
    unfold World.cell?
    rw [hw]
    cases o <;> simp_all

theorem St.drew {m : View} {h : List Res} {w : World} (s : St m h w) : St m h w.drew :=
  ⟨s.os, s.out, s.tape, s.blk, fun r hr => Res.ok_of_block (s.ok r hr) fun _ _ => rfl, s.nd, s.fr⟩

theorem St.sub {m : View} {h h' : List Res} {w : World} (s : St m h w) (hs : h'.Sublist h) : St m h' w :=
  ⟨s.os, s.out, s.tape, s.blk, fun r hr => s.ok r (hs.subset hr), s.nd.sublist hs, fun r hr => s.fr r (hs.subset hr)⟩

theorem St.perm {m : View} {h h' : List Res} {w : World} (s : St m h w) (hs : h.Perm h') : St m h' w :=
  ⟨s.os, s.out, s.tape, s.blk, fun r hr => s.ok r (hs.mem_iff.2 hr), (hs.pairwise_iff (fun {_ _} e => Res.apart_symm e)).1 s.nd, fun r hr => s.fr r (hs.mem_iff.2 hr)⟩

/-- A new block. -/
theorem St.alloc {m : View} {h : List Res} {w : World} (s : St m h w) (o : Obj) : St m (.pt w.heap.size o :: h) (w.alloc o) where
  os := s.os
  out := s.out
  tape := s.tape
  blk b o' hb := by
    have h1 := s.blk b o' hb
    have := lt_of_some h1
    rw [old_block _ _ _ this]; exact h1
  ok r hr := by
    cases hr with
    | head => exact new_block w o
    | tail _ hr =>
      have h1 := s.ok r hr
      exact Res.ok_of_block h1 fun b hb => old_block _ _ _ (Res.lt h1 b hb)
  nd := by
    refine List.pairwise_cons.2 ⟨fun r hr b hb hb' => ?_, s.nd⟩
    simp only [Res.fp, Option.some.injEq] at hb
    have := Res.lt (s.ok r hr) b hb'
    omega
  fr r hr b hb := by
    cases hr with
    | head =>
      simp only [Res.fp, Option.some.injEq] at hb
      cases hm : m.blk b with
      | none => rfl
      | some o' => have := lt_of_some (s.blk b o' hm); omega
    | tail _ hr => exact s.fr r hr b hb

/-- One owned piece is replaced by another. -/
inductive Upd : List Res → Res → Res → List Res → Prop
  | here {r r' : Res} {t : List Res} : Upd (r :: t) r r' (r' :: t)
  | next {r r' x : Res} {t t' : List Res} (h : Upd t r r' t') : Upd (x :: t) r r' (x :: t')

theorem Upd.split {h h' : List Res} {r r' : Res} (u : Upd h r r' h') : ∃ l1 l2, h = l1 ++ r :: l2 ∧ h' = l1 ++ r' :: l2 := by
  induction u with
  | @here r r' t => exact ⟨[], t, rfl, rfl⟩
  | @next r r' x t t' _ ih =>
    obtain ⟨l1, l2, rfl, rfl⟩ := ih
    exact ⟨x :: l1, l2, rfl, rfl⟩

theorem Upd.mem {h h' : List Res} {r r' : Res} (u : Upd h r r' h') : r ∈ h := by
  obtain ⟨l1, l2, rfl, _⟩ := u.split; simp

theorem St.upd {m : View} {h h' : List Res} {w w' : World} {r r' : Res} (s : St m h w) (u : Upd h r r' h')
    (hos : w'.os = w.os) (hout : w'.output = w.output) (htape : w'.tape = w.tape)
    (hsame : ∀ b, b < w.heap.size → r.fp ≠ some b → w'.heap[b]? = w.heap[b]?) (hok : r'.ok w')
    (hfp : ∀ b, r'.fp = some b → r.fp = some b ∨ w.heap.size ≤ b) : St m h' w' := by
  obtain ⟨l1, l2, rfl, rfl⟩ := u.split
  have hrm : r ∈ l1 ++ r :: l2 := by simp
  obtain ⟨n1, n23, n12⟩ := List.pairwise_append.1 s.nd
  obtain ⟨n2, n3⟩ := List.pairwise_cons.1 n23
  have old : ∀ x ∈ l1 ++ l2, x ∈ l1 ++ r :: l2 := by
    intro x hx; simp at hx ⊢; rcases hx with h | h <;> simp [h]
  have ap : ∀ x ∈ l1 ++ l2, r.apart x := by
    intro x hx
    rcases List.mem_append.1 hx with h | h
    · exact Res.apart_symm (n12 x h r (by simp))
    · exact n2 x h
  have ap' : ∀ x ∈ l1 ++ l2, r'.apart x := by
    intro x hx b hb hb'
    rcases hfp b hb with h | h
    · exact ap x hx b h hb'
    · have := Res.lt (s.ok x (old x hx)) b hb'
      omega
  have mid : ∀ x ∈ l1 ++ r' :: l2, x = r' ∨ x ∈ l1 ++ l2 := by
    intro x hx
    rcases List.mem_append.1 hx with h | h
    · exact .inr (List.mem_append.2 (.inl h))
    · rcases List.mem_cons.1 h with h | h
      · exact .inl h
      · exact .inr (List.mem_append.2 (.inr h))
  refine ⟨hos.trans s.os, hout.trans s.out, htape.trans s.tape, fun b o hb => ?_, fun x hx => ?_, ?_, fun x hx b hb => ?_⟩
  · have h1 := s.blk b o hb
    rw [hsame b (lt_of_some h1) (fun e => by rw [s.fr r hrm b e] at hb; cases hb)]
    exact h1
  · have : x = r' ∨ x ∈ l1 ++ l2 := mid x hx
    rcases this with rfl | hx
    · exact hok
    · have h1 := s.ok x (old x hx)
      exact Res.ok_of_block h1 fun b hb => hsame b (Res.lt h1 b hb) fun e => ap x hx b e hb
  · refine List.pairwise_append.2 ⟨n1, List.pairwise_cons.2 ⟨fun x hx => ap' x (by simp [hx]), n3⟩, fun x hx y hy => ?_⟩
    rcases List.mem_cons.1 hy with rfl | hy
    · exact Res.apart_symm (ap' x (by simp [hx]))
    · exact n12 x hx y (by simp [hy])
  · have : x = r' ∨ x ∈ l1 ++ l2 := mid x hx
    rcases this with rfl | hx
    · rcases hfp b hb with h | h
      · exact s.fr r hrm b h
      · cases hm : m.blk b with
        | none => rfl
        | some o' => have := lt_of_some (s.blk b o' hm); omega
    · exact s.fr x (old x hx) b hb

/-- A block known whole is handed over to the view: nobody writes it any more. -/
theorem St.sealB {m : View} {h : List Res} {w : World} {b : Nat} {o : Obj} (s : St m (.pt b o :: h) w) : m.le (m.add b o) ∧ St (m.add b o) h w := by
  have hb : m.blk b = none := s.fr (.pt b o) (by simp) b rfl
  refine ⟨View.le_add hb, s.os, s.out, s.tape, fun k o' hk => ?_, fun r hr => s.ok r (by simp [hr]), (List.pairwise_cons.1 s.nd).2, fun r hr k hk => ?_⟩
  · by_cases hkb : k = b
    · subst hkb
      rw [View.add_blk] at hk
      cases hk
      exact s.ok (.pt k o) (by simp)
    · have : m.blk k = some o' := by simpa [View.add, hkb] using hk
      exact s.blk k o' this
  · have hne : k ≠ b := fun e => (List.pairwise_cons.1 s.nd).1 r hr b rfl (e ▸ hk)
    simp [View.add, hne]
    exact s.fr r (by simp [hr]) k hk

/- Frames. -/
abbrev Fm := List (Nat × Value)
def look : Fm → Nat → Option Value
  | [], _ => none
  | (k, v) :: r, t => match Nat.beq k t with
    | true => some v
    | false => look r t

structure Fr (n : Cx) (F : Fm) (a : Act) : Prop where
  d : a.defers = n.ds
  sz : a.tmps.size = n.num
  get : ∀ t v, look F t = some v → a.tmps[t]? = some v

theorem Fr.getD {n : Cx} {F : Fm} {a : Act} (h : Fr n F a) {t : Nat} {v : Value} (hl : look F t = some v) : a.tmps.getD t undef = v := by
  have := h.get t v hl
  simp [this]

theorem Fr.put {n : Cx} {F : Fm} {a : Act} (h : Fr n F a) {d : Nat} (hd : d < n.num) (v : Value) : Fr n ((d, v) :: F) (a.put (some d) v) := by
  refine ⟨h.d, by simpa [Act.put] using h.sz, fun t u ht => ?_⟩
  simp only [look] at ht
  cases hb : Nat.beq d t with
  | true =>
    rw [hb] at ht
    have e : d = t := Nat.eq_of_beq_eq_true hb
    subst e
    simp only [Option.some.injEq] at ht
    subst ht
    simp [Act.put, h.sz, hd]
  | false =>
    rw [hb] at ht
    have ne : d ≠ t := Nat.ne_of_beq_eq_false hb
    simp only [Act.put, Array.getElem?_setIfInBounds_ne ne]
    exact h.get t u ht

/-- Those of the slots that are known. -/
def keep (F : Fm) : List Nat → Option Fm
  | [] => some []
  | t :: ts => match keep F ts with
    | some r => match look F t with
      | some v => some ((t, v) :: r)
      | none => some r
    | none => none

theorem look_keep {F : Fm} : ∀ {ts : List Nat} {F' : Fm}, keep F ts = some F' → ∀ t v, look F' t = some v → look F t = some v
  | [], F', h, t, v, hl => by simp only [keep, Option.some.injEq] at h; subst h; simp [look] at hl
  | s :: ts, F', h, t, v, hl => by
    simp only [keep] at h
    cases h2 : keep F ts with
    | none => simp [h2] at h
    | some r =>
      cases h1 : look F s with
      | none =>
        simp only [h1, h2, Option.some.injEq] at h
        subst h
        exact look_keep h2 t v hl
      | some u =>
        simp only [h1, h2, Option.some.injEq] at h
        subst h
        simp only [look] at hl
        cases hb : Nat.beq s t with
        | true =>
          rw [hb] at hl
          have e : s = t := Nat.eq_of_beq_eq_true hb
          subst e
          simp only [Option.some.injEq] at hl
          subst hl
          exact h1
        | false =>
          rw [hb] at hl
          exact look_keep h2 t v hl

theorem Fr.sub {n : Cx} {F F' : Fm} {a : Act} (h : Fr n F a) (hs : ∀ t v, look F' t = some v → look F t = some v) : Fr n F' a :=
  ⟨h.d, h.sz, fun t v ht => h.get t v (hs t v ht)⟩

/-- Each listed slot of F' holds the same in F. -/
inductive Sub (F : Fm) : Fm → Prop
  | nil : Sub F []
  | cons {t : Nat} {v : Value} {r : Fm} (h : look F t = some v) (k : Sub F r) : Sub F ((t, v) :: r)

theorem Sub.look {F F' : Fm} (h : Sub F F') : ∀ t v, look F' t = some v → look F t = some v := by
  induction h with
  | nil => intro t v ht; simp [Eng.look] at ht
  | @cons s u r h _ ih =>
    intro t v ht
    simp only [Eng.look] at ht
    cases hb : Nat.beq s t with
    | true =>
      rw [hb] at ht
      have e : s = t := Nat.eq_of_beq_eq_true hb
      subst e
      simp only [Option.some.injEq] at ht
      subst ht
      exact h
    | false => rw [hb] at ht; exact ih t v ht

/-- A value that is there only if a guard was met. -/
def gv (c : Bool) (v : Value) : Value := match c with | true => v | false => undef

structure Ev (n : Cx) (F : Fm) (x : Operand) (v : Value) : Prop where
  e : ∀ a, Fr n F a → a.eval x = v
instance {n : Cx} {F : Fm} {x : Operand} {v : Value} : CoeFun (Ev n F x v) fun _ => ∀ a, Fr n F a → a.eval x = v := ⟨Ev.e⟩
theorem Ev.tmp {n : Cx} {F : Fm} {t : Nat} {v : Value} (h : look F t = some v) : Ev n F (.tmp t) v := .mk fun _ ha => ha.getD h
theorem Ev.gv {n : Cx} {F : Fm} {t : Nat} {c : Bool} {v : Value} (h : look F t = some (gv c v)) (hc : c = true) : Ev n F (.tmp t) v :=
  .mk fun _ ha => by subst hc; exact ha.getD h
theorem Ev.const {n : Cx} {F : Fm} {v : Value} : Ev n F (.const v) v := .mk fun _ _ => rfl
theorem Ev.func {n : Cx} {F : Fm} {f : FuncId} : Ev n F (.func f) (.func (.func f) #[] #[]) := .mk fun _ _ => rfl
theorem Ev.global {n : Cx} {F : Fm} {g : Nat} : Ev n F (.global g) (.pointer (some ⟨g, 0, none⟩)) := .mk fun _ _ => rfl
theorem Ev.eq {n : Cx} {F : Fm} {x : Operand} {u v : Value} (h : Ev n F x u) (e : u = v) : Ev n F x v := e ▸ h

inductive Evs (n : Cx) (F : Fm) : List Operand → List Value → Prop
  | nil : Evs n F [] []
  | cons {x : Operand} {v : Value} {xs : List Operand} {vs : List Value} (h : Ev n F x v) (k : Evs n F xs vs) : Evs n F (x :: xs) (v :: vs)

theorem Evs.map {n : Cx} {F : Fm} {xs : List Operand} {vs : List Value} (h : Evs n F xs vs) {a : Act} (ha : Fr n F a) : xs.map a.eval = vs := by
  induction h with
  | nil => rfl
  | cons h _ ih => simp [h a ha, ih]

section
variable (P : Program)
structure PO (o : Oper) (n : Cx) (F : Fm) (h : List Res) (m : View) (v : Value) : Prop where
  e : ∀ a w, Fr n F a → St m h w → (execOp a.eval o).run P w = .ok (.value v) w
structure WL (ops : Array Oper) (Q : Exit → Act → World → Prop) (n : Cx) (l : List Oper) (F : Fm) (h : List Res) (m : View) : Prop where
  e : ∀ a w, Fr n F a → St m h w → wpList P ops (cutQ Q) l a w
structure WC (c : Code) (Q : Exit → Act → World → Prop) (n : Cx) (F : Fm) (h : List Res) (m : View) : Prop where
  e : ∀ a w, Fr n F a → St m h w → c.wpIn (fen n.ro) 0 P (cutQ Q) a w
/-- What a call ends in. -/
def RQ (m : View) (R : Value → View → List Res → Prop) (e : Ending) (w : World) : Prop :=
  ∃ v m' h', e = .returned v ∧ m.le m' ∧ St m' h' w ∧ R v m' h'
structure CT (f : FuncId) (args : List Value) (h : List Res) (m : View) (R : Value → View → List Res → Prop) : Prop where
  enter : ∀ as w, (callFunc f as).run P w = .ok (.enter f as) w
  calls : ∀ w, St m h w → Calls P f args.toArray w (RQ m R)
end

section
variable {P : Program} {ops : Array Oper} {Q : Exit → Act → World → Prop} {n : Cx} {F : Fm} {h : List Res} {m : View} {rest : List Oper}
variable {op : Op} {ty : TypeId} {pos : String} {after : Array Edge} {d : Nat} {v : Value}
instance {o : Oper} : CoeFun (PO P o n F h m v) fun _ => ∀ a w, Fr n F a → St m h w → (execOp a.eval o).run P w = .ok (.value v) w := ⟨PO.e⟩
instance {l : List Oper} : CoeFun (WL P ops Q n l F h m) fun _ => ∀ a w, Fr n F a → St m h w → wpList P ops (cutQ Q) l a w := ⟨WL.e⟩
instance {c : Code} : CoeFun (WC P c Q n F h m) fun _ => ∀ a w, Fr n F a → St m h w → c.wpIn (fen n.ro) 0 P (cutQ Q) a w := ⟨WC.e⟩

theorem wpList_of_wp {o : Oper} {a : Act} {w : World} (hw : Region.wanted o (yielded ops a.tmps) = true) (h : o.wp P a w (wpList P ops Q rest) Q) : wpList P ops Q (o :: rest) a w := by
  unfold wpList
  rw [if_pos hw]
  exact .inl h

theorem wp_of_run {o : Oper} {a : Act} {w w' : World} {K : Act → World → Prop} {v : Value} (hr : (execOp a.eval o).run P w = .ok (.value v) w') (h : K (a.put o.dst v) w') : o.wp P a w K Q := by
  unfold Oper.wp
  rw [hr]
  exact h

theorem wp_of_skip {o : Oper} {a : Act} {w w' : World} {K : Act → World → Prop} (hr : (execOp a.eval o).run P w = .ok .skip w') (h : K (a.put o.dst undef) w') : o.wp P a w K Q := by
  unfold Oper.wp
  rw [hr]
  exact h

/-- The slot that a guard looks at. -/
def gslot (ops : Array Oper) (j : Nat) : Option Nat := (ops[j]?).bind (·.dst)

theorem WL.nil (k : ∀ a w, Fr n F a → St m h w → Q .normal a w) : WL P ops Q n [] F h m := .mk fun a w ha hs => k a w ha hs

theorem WL.po (hp : PO P ⟨some d, op, ty, pos, after, none⟩ n F h m v) (hn : d < n.num) (k : WL P ops Q n rest ((d, v) :: F) h m) :
    WL P ops Q n (⟨some d, op, ty, pos, after, none⟩ :: rest) F h m := .mk fun a w ha hs =>
  wpList_of_wp rfl (wp_of_run (hp a w ha hs) (k _ _ (ha.put hn v) hs))

theorem yielded_of {j t : Nat} {c : Bool} {a : Act} (hj : gslot ops j = some t) (hc : a.tmps[t]? = some (.bool c)) : yielded ops a.tmps j = some c := by
  unfold yielded
  unfold gslot at hj
  simp [hj, hc]

theorem WL.poT {j t : Nat} {c : Bool} (hj : gslot ops j = some t) (hc : look F t = some (.bool c))
    (hp : c = true → PO P ⟨some d, op, ty, pos, after, some (j, true)⟩ n F h m v) (hn : d < n.num) (k : WL P ops Q n rest ((d, gv c v) :: F) h m) :
    WL P ops Q n (⟨some d, op, ty, pos, after, some (j, true)⟩ :: rest) F h m := .mk fun a w ha hs => by
  have hy := yielded_of hj (ha.get t _ hc)
  cases c with
  | true => exact wpList_of_wp (by simp [Region.wanted, hy]) (wp_of_run (hp rfl a w ha hs) (k _ _ (ha.put hn v) hs))
  | false =>
    unfold wpList
    rw [if_neg (by simp [Region.wanted, hy])]
    exact k _ _ (ha.put hn undef) hs

theorem WL.poF {j t : Nat} {c : Bool} (hj : gslot ops j = some t) (hc : look F t = some (.bool c))
    (hp : (!c) = true → PO P ⟨some d, op, ty, pos, after, some (j, false)⟩ n F h m v) (hn : d < n.num) (k : WL P ops Q n rest ((d, gv (!c) v) :: F) h m) :
    WL P ops Q n (⟨some d, op, ty, pos, after, some (j, false)⟩ :: rest) F h m := .mk fun a w ha hs => by
  have hy := yielded_of hj (ha.get t _ hc)
  cases c with
  | false => exact wpList_of_wp (by simp [Region.wanted, hy]) (wp_of_run (hp rfl a w ha hs) (k _ _ (ha.put hn v) hs))
  | true =>
    unfold wpList
    rw [if_neg (by simp [Region.wanted, hy])]
    exact k _ _ (ha.put hn undef) hs

theorem keepF {F' : Fm} {ts : List Nat} {A : Act → World → Prop} (hk : keep F ts = some F') (k : ∀ a w, Fr n F' a → St m h w → A a w) :
    ∀ a w, Fr n F a → St m h w → A a w := fun a w ha hs => k a w (ha.sub (look_keep hk)) hs

theorem WC.seq {x y : Code} (k : WC P x (Exit.then (y.wpIn (fen n.ro) 0 P (cutQ Q)) Q) n F h m) : WC P (.seq x y) Q n F h m := .mk fun a w ha hs =>
  wpIn_seq (wpIn_mono (k a w ha hs) fun _ _ _ q => cutQ_then q)
/-- The same, with what comes behind kept out of sight. -/
theorem WC.seqK {x y : Code} (k : ∀ K : Act → World → Prop, (∀ ds F h m, WC P y Q { n with ds := ds } F h m → ∀ a w, Fr { n with ds := ds } F a → St m h w → K a w) → WC P x (Exit.then K Q) n F h m) : WC P (.seq x y) Q n F h m :=
  WC.seq (k _ fun _ _ _ _ hy => hy.e)
theorem toK {K : Act → World → Prop} {y : Code} (hK : ∀ ds F h m, WC P y Q { n with ds := ds } F h m → ∀ a w, Fr { n with ds := ds } F a → St m h w → K a w) (k : WC P y Q n F h m) : ∀ a w, Fr n F a → St m h w → K a w := hK n.ds F h m k
theorem WC.block {id : Nat} {c : Code} (k : WC P c (Exit.inBlock id Q) n F h m) : WC P (.block id c) Q n F h m := .mk fun a w ha hs => wpIn_block (wpIn_mono (k a w ha hs) fun _ _ _ q => cutQ_block q)
theorem WC.label {l : Nat} (k : ∀ a w, Fr n F a → St m h w → Q .normal a w) : WC P (.label l) Q n F h m := .mk fun a w ha hs => wpIn_label (k a w ha hs)
theorem region_in {id : Nat} {l : List Oper} {r : Option Nat} {a : Act} {w : World} (hp : ∀ o ∈ l, plainOp o = true) (k : wpList P l.toArray (cutQ Q) l a w) : (Code.region id l.toArray false).wpIn (fen r) 0 P (cutQ Q) a w :=
  wpIn_region_lit (list_to_in l a w hp k)
def dsts : List Oper → Option (List (Option Nat))
  | [] => some []
  | ⟨some d, _, _, _, _, _⟩ :: l => match dsts l with
    | some r => some (some d :: r)
    | none => none
  | ⟨none, _, _, _, _, _⟩ :: l => match dsts l with
    | some r => some (none :: r)
    | none => none
def dstsP (l : List Oper) : Option (List (Option Nat)) := match l.all plainOp with
  | true => dsts l
  | false => none
theorem dsts_eq : ∀ {l : List Oper} {G : List (Option Nat)}, dsts l = some G → l.map (·.dst) = G
  | [], G, h => by simp only [dsts, Option.some.injEq] at h; subst h; rfl
  | ⟨some d, _, _, _, _, _⟩ :: l, G, h => by
    simp only [dsts] at h
    cases h1 : dsts l with
    | none => simp [h1] at h
    | some r => simp only [h1, Option.some.injEq] at h; subst h; simp [dsts_eq h1]
  | ⟨none, _, _, _, _, _⟩ :: l, G, h => by
    simp only [dsts] at h
    cases h1 : dsts l with
    | none => simp [h1] at h
    | some r => simp only [h1, Option.some.injEq] at h; subst h; simp [dsts_eq h1]
/-- The same; of the operations' slots a table is kept. -/
theorem WC.regionG {id : Nat} {l : List Oper} {G : List (Option Nat)} (hG : dstsP l = some G) (k : ∀ ops : Array Oper, (∀ j t, G[j]? = some (some t) → gslot ops j = some t) → WL P ops Q n l F h m) : WC P (.region id l.toArray false) Q n F h m := .mk fun a w ha hs =>
  have hG0 : l.all plainOp = true := by
    unfold dstsP at hG
    split at hG
    · assumption
    · cases hG
  region_in (by simpa using hG0) ((k _ fun j t hj => by
    unfold dstsP at hG
    rw [hG0] at hG
    have hG := dsts_eq hG
    subst hG
    unfold gslot
    simp only [List.getElem?_map] at hj
    simp only [List.getElem?_toArray]
    cases hl : l[j]? with
    | none => simp [hl] at hj
    | some o => simpa [hl] using hj).e a w ha hs)
theorem WC.ret (k : ∀ a w, Fr n F a → St m h w → Q .ret a w) : WC P .ret Q n F h m := .mk fun a w ha hs => wpIn_ret (k a w ha hs)
theorem WC.skip (k : ∀ a w, Fr n F a → St m h w → Q .normal a w) : WC P .skip Q n F h m := .mk fun a w ha hs => wpIn_skip (k a w ha hs)
theorem WC.exit {id : Nat} (k : ∀ a w, Fr n F a → St m h w → Q (.exit id) a w) : WC P (.exit id) Q n F h m := .mk fun a w ha hs => wpIn_exit (k a w ha hs)
theorem WC.cond {c : Operand} {x y : Code} {b : Bool} (hc : Ev n F c (.bool b)) (kt : b = true → WC P x Q n F h m) (kf : b = false → WC P y Q n F h m) :
    WC P (.cond c x y) Q n F h m := .mk fun a w ha hs => wpIn_cond_split (hc a ha) (fun e => kt e a w ha hs) (fun e => kf e a w ha hs)

/-- A loop: J says what holds at a round's head, with a number that every round lowers. -/
theorem WC.loop {c : Code} (J : Nat → Fm → List Res → View → Prop) (μ : Nat) (F0 : Fm) (hsub : Sub F F0) (h0 : J μ F0 h m)
    (round : ∀ μ F h m, J μ F h m → WC P c (Exit.then (fun a w => ∃ μ' F' h' m', μ' < μ ∧ J μ' F' h' m' ∧ Fr n F' a ∧ St m' h' w) Q) n F h m) :
    WC P (.loop c) Q n F h m := by
  refine .mk fun a w ha hs => wpIn_loop_ghost (fun μ a w => ∃ F h m, J μ F h m ∧ Fr n F a ∧ St m h w) μ ⟨F0, h, m, h0, ha.sub hsub.look, hs⟩ ?_
  rintro μ a w ⟨F, h, m, hJ, ha, hs⟩
  refine wpIn_mono ((round μ F h m hJ).e a w ha hs) fun e a' w' q => ?_
  cases e with
  | normal =>
    obtain ⟨μ', F', h', m', hlt, hJ', ha', hs'⟩ := q
    exact ⟨μ', hlt, F', h', m', hJ', ha', hs'⟩
  | _ => exact q

/-- The end of a round. -/
theorem loopBack {J : Nat → Fm → List Res → View → Prop} {μ : Nat} (μ' : Nat) (F' : Fm) (hlt : μ' < μ) (hs : Sub F F') (hJ : J μ' F' h m) :
    ∀ a w, Fr n F a → St m h w → ∃ μ' F' h' m', μ' < μ ∧ J μ' F' h' m' ∧ Fr n F' a ∧ St m' h' w :=
  fun _ _ ha st => ⟨μ', F', h, m, hlt, hJ, ha.sub hs.look, st⟩

end

/- Short names, for the texts' sake. -/
theorem leB {a b : Nat} (h : Nat.ble a b = true) : a ≤ b := Nat.le_of_ble_eq_true h
theorem sub0 {α : Type} (l : List α) : l.Sublist l := List.Sublist.refl l
theorem subA {α : Type} (l r : List α) : r.Sublist (l ++ r) := List.sublist_append_right l r
theorem subC {α : Type} {l r : List α} (a : α) (h : l.Sublist r) : (a :: l).Sublist (a :: r) := h.cons_cons a
theorem subK {α : Type} {l r : List α} (a : α) (h : l.Sublist r) : l.Sublist (a :: r) := h.cons a
theorem subT {α : Type} {l r : List α} (k : List α) (h : l.Sublist r) : l.Sublist (k ++ r) := h.trans (List.sublist_append_right k r)
theorem mem0 {α : Type} {a : α} (l : List α) : List.Mem a (a :: l) := List.Mem.head l
theorem memT {α : Type} {a : α} (b : α) {l : List α} (h : List.Mem a l) : List.Mem a (b :: l) := List.Mem.tail b h
end Go.Eng

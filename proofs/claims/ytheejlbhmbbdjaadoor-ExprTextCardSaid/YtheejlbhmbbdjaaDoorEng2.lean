/- Operations that leave the world alone, one lemma each. -/
import Derived.Test.YtheejlbhmbbdjaaDoorEng1
namespace Go.Eng
open Go Go.RowKit
section
variable {P : Program} {n : Cx} {F : Fm} {h : List Res} {m : View}
variable {ty : TypeId} {pos : String} {after : Array Edge} {dst : Option Tmp} {g : Option (Nat × Bool)}

theorem PO.eq {o : Oper} {v v' : Value} (p : PO P o n F h m v) (e : v = v') : PO P o n F h m v' := e ▸ p
theorem PO.move {x : Operand} {v : Value} (e : Ev n F x v) : PO P ⟨dst, .move x, ty, pos, after, g⟩ n F h m v := .mk fun a w ha _ => by
  simp [execOp, e a ha]
theorem PO.assign {x : Operand} {v : Value} (e : Ev n F x v) : PO P ⟨dst, .assign x, ty, pos, after, g⟩ n F h m v := .mk fun a w ha _ => by
  simp [execOp, e a ha]

theorem PO.pickB {c x y : Operand} {b : Bool} {u v : Value} (e : Ev n F c (.bool b)) (e1 : Ev n F x u) (e2 : Ev n F y v) :
    PO P ⟨dst, .pick c x y, ty, pos, after, g⟩ n F h m (if b then u else v) := .mk fun a w ha _ => by
  simp [execOp, e a ha, e1 a ha, e2 a ha, asBool]
theorem PO.pickAnd {t u : Nat} {c b : Bool} (e : look F t = some (.bool c)) (e1 : look F u = some (gv c (.bool b))) :
    PO P ⟨dst, .pick (.tmp t) (.tmp u) (.const (.bool false)), ty, pos, after, g⟩ n F h m (.bool (c && b)) := .mk fun a w ha _ => by
  have h1 : a.eval (.tmp t) = .bool c := ha.getD e
  have h2 : a.eval (.tmp u) = gv c (.bool b) := ha.getD e1
  have h3 : ∀ b, a.eval (.const (.bool b)) = .bool b := fun _ => rfl
  simp only [execOp, h1, h2, h3, asBool]
  cases c <;> rfl
theorem PO.pickOr {t u : Nat} {c b : Bool} (e : look F t = some (.bool c)) (e1 : look F u = some (gv (!c) (.bool b))) :
    PO P ⟨dst, .pick (.tmp t) (.const (.bool true)) (.tmp u), ty, pos, after, g⟩ n F h m (.bool (c || b)) := .mk fun a w ha _ => by
  have h1 : a.eval (.tmp t) = .bool c := ha.getD e
  have h2 : a.eval (.tmp u) = gv (!c) (.bool b) := ha.getD e1
  have h3 : ∀ b, a.eval (.const (.bool b)) = .bool b := fun _ => rfl
  simp only [execOp, h1, h2, h3, asBool]
  cases c <;> rfl

/- Integers. -/
def band (k : IntKind) (x y : Int) : Int := k.wrap (BitVec.ofInt k.bits x &&& BitVec.ofInt k.bits y).toNat
def bor (k : IntKind) (x y : Int) : Int := k.wrap (BitVec.ofInt k.bits x ||| BitVec.ofInt k.bits y).toNat
def bxor (k : IntKind) (x y : Int) : Int := k.wrap (BitVec.ofInt k.bits x ^^^ BitVec.ofInt k.bits y).toNat
def bandn (k : IntKind) (x y : Int) : Int := k.wrap (BitVec.ofInt k.bits x &&& ~~~ BitVec.ofInt k.bits y).toNat
def bshl (k : IntKind) (x y : Int) : Int := k.wrap (x * 2 ^ min y.toNat k.bits)
def bshr (k : IntKind) (x y : Int) : Int := x.fdiv (2 ^ min y.toNat k.bits)

def iop (op : BinOp) (k : IntKind) (x y : Int) : Option Value :=
  match op with
  | .add => some (.int k (k.wrap (x + y)))
  | .sub => some (.int k (k.wrap (x - y)))
  | .mul => some (.int k (k.wrap (x * y)))
  | .and => some (.int k (band k x y))
  | .or => some (.int k (bor k x y))
  | .xor => some (.int k (bxor k x y))
  | .andNot => some (.int k (bandn k x y))
  | .eql => some (.bool (x == y))
  | .neq => some (.bool (x != y))
  | .lss => some (.bool (x < y))
  | .leq => some (.bool (x ≤ y))
  | .gtr => some (.bool (x > y))
  | .geq => some (.bool (x ≥ y))
  | _ => none

theorem run_iop (w : World) {op : BinOp} {k : IntKind} {x y : Int} {v : Value} (t : TypeId) (h : iop op k x y = some v) : (binOp op t (.int k x) (.int k y)).run P w = .ok v w := by
  cases op <;> simp [iop] at h <;> subst h <;> simp [binOp, Op.intArith, Op.intBits, Op.intCmp, band, bor, bxor, bandn]

theorem run_eqGuard_int (w : World) (op : BinOp) (t : TypeId) (x y : Operand) (k k' : IntKind) (a b : Int) : (eqGuard op t x y (.int k a) (.int k' b)).run P w = .ok () w := by
  cases op <;> simp [eqGuard]

theorem PO.bin {op : BinOp} {x y : Operand} {k : IntKind} {i j : Int} {v : Value} {t t' : TypeId} (ex : Ev n F x (.int k i)) (ey : Ev n F y (.int k j)) (hv : iop op k i j = some v) :
    PO P ⟨dst, .binOp op t x y t', ty, pos, after, g⟩ n F h m v := .mk fun a w ha _ => by
  simp [execOp, ex a ha, ey a ha, run_eqGuard_int, run_iop w t hv]

theorem PO.addI {x y : Operand} {i j : Int} {t t' : TypeId} (ex : Ev n F x (.int .i64 i)) (ey : Ev n F y (.int .i64 j)) (h1 : -9223372036854775808 ≤ i + j ∧ i + j ≤ 9223372036854775807) :
    PO P ⟨dst, .binOp .add t x y t', ty, pos, after, g⟩ n F h m (.int .i64 (i + j)) := by
  have e : IntKind.i64.wrap (i + j) = i + j := by rw [IntKind.wrap_i64]; omega
  exact PO.bin ex ey (by simp [iop, e])
theorem PO.subI {x y : Operand} {i j : Int} {t t' : TypeId} (ex : Ev n F x (.int .i64 i)) (ey : Ev n F y (.int .i64 j)) (h1 : -9223372036854775808 ≤ i - j ∧ i - j ≤ 9223372036854775807) :
    PO P ⟨dst, .binOp .sub t x y t', ty, pos, after, g⟩ n F h m (.int .i64 (i - j)) := by
  have e : IntKind.i64.wrap (i - j) = i - j := by rw [IntKind.wrap_i64]; omega
  exact PO.bin ex ey (by simp [iop, e])
theorem PO.mulI {x y : Operand} {i j : Int} {t t' : TypeId} (ex : Ev n F x (.int .i64 i)) (ey : Ev n F y (.int .i64 j)) (h1 : -9223372036854775808 ≤ i * j ∧ i * j ≤ 9223372036854775807) :
    PO P ⟨dst, .binOp .mul t x y t', ty, pos, after, g⟩ n F h m (.int .i64 (i * j)) := by
  have e : IntKind.i64.wrap (i * j) = i * j := by rw [IntKind.wrap_i64]; omega
  exact PO.bin ex ey (by simp [iop, e])

theorem PO.quo {x y : Operand} {k : IntKind} {i j : Int} {t t' : TypeId} (ex : Ev n F x (.int k i)) (ey : Ev n F y (.int k j)) (hj : j ≠ 0) :
    PO P ⟨dst, .binOp .quo t x y t', ty, pos, after, g⟩ n F h m (.int k (k.wrap (i.tdiv j))) := .mk fun a w ha _ => by
  simp [execOp, ex a ha, ey a ha, run_eqGuard_int, binOp, Op.intDiv, hj]
theorem PO.rem {x y : Operand} {k : IntKind} {i j : Int} {t t' : TypeId} (ex : Ev n F x (.int k i)) (ey : Ev n F y (.int k j)) (hj : j ≠ 0) :
    PO P ⟨dst, .binOp .rem t x y t', ty, pos, after, g⟩ n F h m (.int k (i.tmod j)) := .mk fun a w ha _ => by
  simp [execOp, ex a ha, ey a ha, run_eqGuard_int, binOp, Op.intDiv, hj]
theorem PO.shl {x y : Operand} {k k' : IntKind} {i j : Int} {t t' : TypeId} (ex : Ev n F x (.int k i)) (ey : Ev n F y (.int k' j)) (hj : 0 ≤ j) :
    PO P ⟨dst, .binOp .shl t x y t', ty, pos, after, g⟩ n F h m (.int k (bshl k i j)) := .mk fun a w ha _ => by
  simp [execOp, ex a ha, ey a ha, run_eqGuard_int, binOp, Op.shift, Int.not_lt.2 hj, bshl]
theorem PO.shr {x y : Operand} {k k' : IntKind} {i j : Int} {t t' : TypeId} (ex : Ev n F x (.int k i)) (ey : Ev n F y (.int k' j)) (hj : 0 ≤ j) :
    PO P ⟨dst, .binOp .shr t x y t', ty, pos, after, g⟩ n F h m (.int k (bshr k i j)) := .mk fun a w ha _ => by
  simp [execOp, ex a ha, ey a ha, run_eqGuard_int, binOp, Op.shift, Int.not_lt.2 hj, bshr]

theorem PO.not {x : Operand} {b : Bool} {t : TypeId} (ex : Ev n F x (.bool b)) : PO P ⟨dst, .unOp .not t x, ty, pos, after, g⟩ n F h m (.bool (!b)) := .mk fun a w ha _ => by
  simp [execOp, ex a ha, Op.unary]
theorem PO.neg {x : Operand} {k : IntKind} {i : Int} {t : TypeId} (ex : Ev n F x (.int k i)) : PO P ⟨dst, .unOp .neg t x, ty, pos, after, g⟩ n F h m (.int k (k.wrap (0 - i))) := .mk fun a w ha _ => by
  simp [execOp, ex a ha, Op.unary, Op.intArith]
theorem PO.compl {x : Operand} {k : IntKind} {i : Int} {t : TypeId} (ex : Ev n F x (.int k i)) :
    PO P ⟨dst, .unOp .xor t x, ty, pos, after, g⟩ n F h m (.int k (bxor k (if k.signed then -1 else k.max) i)) := .mk fun a w ha _ => by
  simp [execOp, ex a ha, Op.unary, Op.intBits, bxor]

theorem PO.conv {x : Operand} {k k' : IntKind} {i : Int} {s t : TypeId} {d : TypeDesc} (hs : P.underlying s = some d) (ht : P.underlying t = some (.int k)) (ex : Ev n F x (.int k' i)) :
    PO P ⟨dst, .convert s t x, ty, pos, after, g⟩ n F h m (.int k (k.wrap i)) := .mk fun a w ha _ => by
  simp [execOp, ex a ha, convert, run_underlying hs, run_underlying ht, Conv.intToInt]
theorem PO.convI {x : Operand} {k k' : IntKind} {i : Int} {s t : TypeId} {d : TypeDesc} (hs : P.underlying s = some d) (ht : P.underlying t = some (.int k)) (ex : Ev n F x (.int k' i)) (hw : k.wrap i = i) :
    PO P ⟨dst, .convert s t x, ty, pos, after, g⟩ n F h m (.int k i) := by
  have := PO.conv (P := P) (h := h) (m := m) (dst := dst) (ty := ty) (pos := pos) (after := after) (g := g) hs ht ex
  rwa [hw] at this

/- bool, string: equality -/
theorem PO.eqlB {x y : Operand} {a b : Bool} {t t' : TypeId} (ht : P.underlying t = some .bool) (ex : Ev n F x (.bool a)) (ey : Ev n F y (.bool b)) :
    PO P ⟨dst, .binOp .eql t x y t', ty, pos, after, g⟩ n F h m (.bool (a == b)) := .mk fun c w ha _ => by
  have e1 := fun (op : BinOp) => (show eqGuard op t x y (.bool a) (.bool b) = pure () from by cases op <;> rfl)
  simp only [execOp, ex c ha, ey c ha, e1, pure_bind]
  first
    | (simp [run_eql_bool w t a b ht]; done)
    | simp [run_neq_bool w t a b ht]
theorem PO.neqB {x y : Operand} {a b : Bool} {t t' : TypeId} (ht : P.underlying t = some .bool) (ex : Ev n F x (.bool a)) (ey : Ev n F y (.bool b)) :
    PO P ⟨dst, .binOp .neq t x y t', ty, pos, after, g⟩ n F h m (.bool (!(a == b))) := .mk fun c w ha _ => by
  have e1 := fun (op : BinOp) => (show eqGuard op t x y (.bool a) (.bool b) = pure () from by cases op <;> rfl)
  simp only [execOp, ex c ha, ey c ha, e1, pure_bind]
  first
    | (simp; done)
    | simp [run_neq_bool w t a b ht]

abbrev str (l : List UInt8) : Value := .string ⟨l.toArray⟩
theorem toList_str (l : List UInt8) : (⟨l.toArray⟩ : ByteArray).toList = l := by rw [ByteArray.toList_eq]

theorem PO.eqlS {x y : Operand} {a b : List UInt8} {t t' : TypeId} (ex : Ev n F x (str a)) (ey : Ev n F y (str b)) :
    PO P ⟨dst, .binOp .eql t x y t', ty, pos, after, g⟩ n F h m (.bool (a == b)) := .mk fun c w ha _ => by
  simp [execOp, ex c ha, ey c ha, eqGuard, binOp, Op.stringOp]
theorem PO.neqS {x y : Operand} {a b : List UInt8} {t t' : TypeId} (ex : Ev n F x (str a)) (ey : Ev n F y (str b)) :
    PO P ⟨dst, .binOp .neq t x y t', ty, pos, after, g⟩ n F h m (.bool (!(a == b))) := .mk fun c w ha _ => by
  simp [execOp, ex c ha, ey c ha, eqGuard, binOp, Op.stringOp]
theorem PO.catS {x y : Operand} {a b : List UInt8} {t t' : TypeId} (ex : Ev n F x (str a)) (ey : Ev n F y (str b)) (hl : a.length + b.length ≤ 9223372036854775807) :
    PO P ⟨dst, .binOp .add t x y t', ty, pos, after, g⟩ n F h m (str (a ++ b)) := .mk fun c w ha _ => by
  have e : ¬ ((9223372036854775807 : Int) < (a.length : Int) + b.length) := by omega
  have e2 : (⟨a.toArray⟩ : ByteArray) ++ ⟨b.toArray⟩ = ⟨(a ++ b).toArray⟩ := by
    apply ByteArray.ext; simp
  simp [execOp, ex c ha, ey c ha, eqGuard, binOp, Op.stringOp, ByteArray.size, e, e2]

/- len, extract -/
theorem PO.lenSl {x : Operand} {t : TypeId} {e : TypeId} {a : Option Addr} {l c : Nat} (ht : P.underlying t = some (.slice e)) (ex : Ev n F x (.slice a l c)) :
    PO P ⟨dst, .call ⟨.builtin .len, #[x], #[t]⟩, ty, pos, after, g⟩ n F h m (.int .i64 l) := .mk fun b w ha _ => by
  simp [execOp, resolve, invoke, builtin, ex b ha, Builtin.len_, run_underlying ht, goInt]
theorem PO.lenS {x : Operand} {t : TypeId} {l : List UInt8} (ht : P.underlying t = some .string) (ex : Ev n F x (str l)) :
    PO P ⟨dst, .call ⟨.builtin .len, #[x], #[t]⟩, ty, pos, after, g⟩ n F h m (.int .i64 l.length) := .mk fun b w ha _ => by
  simp [execOp, resolve, invoke, builtin, ex b ha, Builtin.len_, run_underlying ht, goInt]
  rfl
theorem PO.extract {x : Operand} {i : Nat} {vs : Array Value} {v : Value} (ex : Ev n F x (.tuple vs)) (hv : vs[i]? = some v) :
    PO P ⟨dst, .extract x i, ty, pos, after, g⟩ n F h m v := .mk fun b w ha _ => by
  simp [execOp, ex b ha, Instr.extract, hv]
theorem PO.makeFunc {fn : Fn} {xs ys : List Operand} {us vs : List Value} (e1 : Evs n F xs us) (e2 : Evs n F ys vs) :
    PO P ⟨dst, .makeFunc fn xs.toArray ys.toArray, ty, pos, after, g⟩ n F h m (.func fn us.toArray vs.toArray) := .mk fun b w ha _ => by
  simp [execOp, Instr.makeFunc, e1.map ha, e2.map ha]

/- addresses and loads -/
theorem PO.fieldAddr {x : Operand} {t i : Nat} {fs : Array Field} {f : Field} {b off : Nat} (ht : P.underlying t = some (.struct fs)) (hf : fs[i]? = some f) (hz : P.cellsOf f.type ≠ 0)
    (ex : Ev n F x (.pointer (some ⟨b, off, none⟩))) : PO P ⟨dst, .fieldAddr t x i, ty, pos, after, g⟩ n F h m (.pointer (some ⟨b, off + f.offset, none⟩)) := .mk fun a w ha _ => by
  unfold Program.cellsOf at hz
  cases hq : P.info? f.type with
  | none => simp [hq] at hz
  | some q =>
    have : ¬ q.size = 0 := by simpa [hq] using hz
    simp [execOp, ex a ha, Instr.fieldAt, run_underlying ht, hf, Instr.sureAddr, fieldPlace, sizeOf, typeInfo, hq, this, Addr.add_lit]

def plainD (d : TypeDesc) : Bool := match d with
  | .struct _ | .array _ _ => false
  | _ => true

theorem run_isAgg_plain (w : World) {t : TypeId} {d : TypeDesc} (ht : P.underlying t = some d) (hp : plainD d = true) : (isAgg t).run P w = .ok false w := by
  cases d <;> simp [plainD] at hp <;> simp [isAgg, run_underlying ht]
theorem run_isAgg_agg (w : World) {t : TypeId} {d : TypeDesc} (ht : P.underlying t = some d) (hp : plainD d = false) : (isAgg t).run P w = .ok true w := by
  cases d <;> simp [plainD] at hp <;> simp [isAgg, run_underlying ht]

theorem St.pt_cell {w : World} (s : St m h w) {b off : Nat} {cs : Array Value} {e : TypeId} {fz : Nat × Nat} (hm : Res.pt b (.cells cs e fz) ∈ h) : w.cell? ⟨b, off, none⟩ = cs[off]? := by
  have := s.ok _ hm
  simp only [Res.ok] at this
  simp [World.cell?, this]

theorem PO.load1 {x : Operand} {t : TypeId} {d : TypeDesc} {b off : Nat} {cs : List Value} {e : TypeId} {fz : Nat × Nat} {v : Value} (ht : P.underlying t = some d) (hp : plainD d = true)
    (ex : Ev n F x (.pointer (some ⟨b, off, none⟩))) (hm : Res.pt b (.cells cs.toArray e fz) ∈ h) (hv : cs[off]? = some v) : PO P ⟨dst, .load t x, ty, pos, after, g⟩ n F h m v := .mk fun a w ha hs => by
  have hc : w.cell? ⟨b, off, none⟩ = some v := by rw [hs.pt_cell hm]; simpa using hv
  simp [execOp, ex a ha, Instr.loadAt, Instr.sureAddr, loadVar, run_isAgg_plain w ht hp, hc]
theorem PO.loadV {x : Operand} {t : TypeId} {d : TypeDesc} {ad : Addr} {v : Value} (ht : P.underlying t = some d) (hp : plainD d = true)
    (ex : Ev n F x (.pointer (some ad))) (hv : m.cell ad = some v) : PO P ⟨dst, .load t x, ty, pos, after, g⟩ n F h m v := .mk fun a w ha hs => by
  have hc := hs.cell hv
  simp [execOp, ex a ha, Instr.loadAt, Instr.sureAddr, loadVar, run_isAgg_plain w ht hp, hc]

/-- k cells from off on. -/
def seg (cs : List Value) : Nat → Nat → Option (List Value)
  | _, 0 => some []
  | off, k + 1 => match cs[off]?, seg cs (off + 1) k with
    | some v, some r => some (v :: r)
    | _, _ => none
theorem seg_spec {cs : List Value} : ∀ {k off : Nat} {vs : List Value}, seg cs off k = some vs → vs.length = k ∧ ∀ j v, vs[j]? = some v → cs[off + j]? = some v
  | 0, off, vs, h => by simp only [seg, Option.some.injEq] at h; subst h; exact ⟨rfl, fun j v hv => by simp at hv⟩
  | k + 1, off, vs, h => by
    simp only [seg] at h
    cases h1 : cs[off]? with
    | none => simp [h1] at h
    | some u =>
      cases h2 : seg cs (off + 1) k with
      | none => simp [h1, h2] at h
      | some r =>
        simp only [h1, h2, Option.some.injEq] at h
        subst h
        obtain ⟨l, q⟩ := seg_spec h2
        refine ⟨by simp [l], fun j v hv => ?_⟩
        cases j with
        | zero => simp at hv; subst hv; exact h1
        | succ j => have := q j v (by simpa using hv); rwa [show off + (j + 1) = off + 1 + j by omega]

theorem run_loadAgg (w : World) {t : TypeId} {d : TypeDesc} {b off : Nat} {vs : List Value} (ht : P.underlying t = some d) (hp : plainD d = false) (hsz : P.cellsOf t = vs.length)
    (hq : (P.info? t).isSome = true) (hc : ∀ j v, vs[j]? = some v → w.cell? ⟨b, off + j, none⟩ = some v) : (loadVar t ⟨b, off, none⟩).run P w = .ok (.agg vs.toArray) w := by
  cases hi : P.info? t with
  | none => simp [hi] at hq
  | some i =>
    have e : i.size = vs.length := by simpa [Program.cellsOf, hi] using hsz
    have := run_loadCells_list (P := P) w ⟨b, off, none⟩ vs (fun j v hv => by rw [Addr.add_lit]; exact hc j v hv)
    simp [loadVar, run_isAgg_agg w ht hp, sizeOf, typeInfo, hi, e, this]

theorem PO.loadA {x : Operand} {t : TypeId} {d : TypeDesc} {b off : Nat} {cs : List Value} {e : TypeId} {fz : Nat × Nat} {vs : List Value} (ht : P.underlying t = some d) (hp : plainD d = false)
    (hq : (P.info? t).isSome = true) (ex : Ev n F x (.pointer (some ⟨b, off, none⟩))) (hm : Res.pt b (.cells cs.toArray e fz) ∈ h) (hv : seg cs off (P.cellsOf t) = some vs) :
    PO P ⟨dst, .load t x, ty, pos, after, g⟩ n F h m (.agg vs.toArray) := .mk fun a w ha hs => by
  obtain ⟨hl, hj⟩ := seg_spec hv
  have := run_loadAgg (P := P) w (b := b) (off := off) ht hp hl.symm hq (fun j v hv => by rw [hs.pt_cell hm]; simpa using hj j v hv)
  simp [execOp, ex a ha, Instr.loadAt, Instr.sureAddr, this]
theorem PO.loadAV {x : Operand} {t : TypeId} {d : TypeDesc} {b off : Nat} {vs : List Value} (ht : P.underlying t = some d) (hp : plainD d = false)
    (hq : (P.info? t).isSome = true) (ex : Ev n F x (.pointer (some ⟨b, off, none⟩))) (hl : P.cellsOf t = vs.length) (hv : ∀ j v, vs[j]? = some v → m.cell ⟨b, off + j, none⟩ = some v) :
    PO P ⟨dst, .load t x, ty, pos, after, g⟩ n F h m (.agg vs.toArray) := .mk fun a w ha hs => by
  have := run_loadAgg (P := P) w (b := b) (off := off) ht hp hl hq (fun j v hj => hs.cell (hv j v hj))
  simp [execOp, ex a ha, Instr.loadAt, Instr.sureAddr, this]

/- structs by value -/
theorem PO.field1 {x : Operand} {t i : Nat} {fs : Array Field} {f : Field} {d : TypeDesc} {cs : List Value} {v : Value} (ht : P.underlying t = some (.struct fs)) (hf : fs[i]? = some f)
    (hd : P.underlying f.type = some d) (hp : plainD d = true) (ex : Ev n F x (.agg cs.toArray)) (hv : cs[f.offset]? = some v) : PO P ⟨dst, .field t x i, ty, pos, after, g⟩ n F h m v := .mk fun a w ha _ => by
  simp [execOp, ex a ha, Instr.field, run_underlying ht, hf, asAgg, part, run_isAgg_plain w hd hp, hv]

/-- cs with vs from off on. -/
def setLs : List Value → Nat → List Value → Option (List Value)
  | cs, _, [] => some cs
  | [], _, _ :: _ => none
  | _ :: cs, 0, v :: vs => match setLs cs 0 vs with
    | some r => some (v :: r)
    | none => none
  | c :: cs, k + 1, v :: vs => match setLs cs k (v :: vs) with
    | some r => some (c :: r)
    | none => none

theorem setLs_spec : ∀ {cs : List Value} {k : Nat} {vs r : List Value}, setLs cs k vs = some r → k + vs.length ≤ cs.length + (if vs = [] then k else 0) ∧ r = cs.take k ++ vs ++ cs.drop (k + vs.length) ∨ vs = [] ∧ r = cs := by
  intro cs
  induction cs with
  | nil =>
    intro k vs r h
    cases vs with
    | nil => simp only [setLs, Option.some.injEq] at h; right; exact ⟨rfl, h.symm⟩
    | cons v vs => simp [setLs] at h
  | cons c cs ih =>
    intro k vs r h
    cases vs with
    | nil => simp only [setLs, Option.some.injEq] at h; right; exact ⟨rfl, h.symm⟩
    | cons v vs =>
      left
      cases k with
      | zero =>
        simp only [setLs] at h
        cases h1 : setLs cs 0 vs with
        | none => simp [h1] at h
        | some q =>
          simp only [h1, Option.some.injEq] at h
          subst h
          rcases ih h1 with ⟨l, e⟩ | ⟨e1, e2⟩
          · subst e
            refine ⟨?_, by simp⟩
            split at l <;> simp_all
          · subst e1; subst e2; simp
      | succ k =>
        simp only [setLs] at h
        cases h1 : setLs cs k (v :: vs) with
        | none => simp [h1] at h
        | some q =>
          simp only [h1, Option.some.injEq] at h
          subst h
          rcases ih h1 with ⟨l, e⟩ | ⟨e1, e2⟩
          · subst e
            refine ⟨?_, by simp [Nat.add_right_comm k 1]⟩
            simp at l ⊢
            omega
          · simp at e1

theorem setLs_len {cs : List Value} {k : Nat} {vs r : List Value} (h : setLs cs k vs = some r) (hv : vs ≠ []) : k + vs.length ≤ cs.length := by
  rcases setLs_spec h with ⟨l, _⟩ | ⟨e, _⟩
  · simpa [hv] using l
  · exact absurd e hv
theorem setLs_eq {cs : List Value} {k : Nat} {vs r : List Value} (h : setLs cs k vs = some r) : r = cs.take k ++ vs ++ cs.drop (k + vs.length) := by
  rcases setLs_spec h with ⟨_, e⟩ | ⟨e, e'⟩
  · exact e
  · subst e; subst e'; simp

end
end Go.Eng

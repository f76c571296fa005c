/- Slices that are only read; operations that make or write memory; calls; a function's body. -/
import Derived.Test.YtheejlbhmbbdjaaDoorEng2
namespace Go.Eng
open Go Go.RowKit

/-- The slice with base a, length n and capacity cap holds the cells xs, in memory that nobody writes any more. -/
structure Sl (m : View) (a : Option Addr) (n cap sz : Nat) (xs : List Value) : Prop where
  len : xs.length = n * sz
  le : n ≤ cap
  mx : cap ≤ 9223372036854775807
  at_ : ∀ j v, xs[j]? = some v → ∃ b off, a = some ⟨b, off, none⟩ ∧ m.cell ⟨b, off + j, none⟩ = some v

theorem Sl.mono {m m' : View} {a : Option Addr} {n cap sz : Nat} {xs : List Value} (h : Sl m a n cap sz xs) (hm : m.le m') : Sl m' a n cap sz xs :=
  ⟨h.len, h.le, h.mx, fun j v hj => by obtain ⟨b, off, e, hc⟩ := h.at_ j v hj; exact ⟨b, off, e, hm.cell hc⟩⟩

theorem Sl.nil (m : View) (sz : Nat) : Sl m none 0 0 sz [] := ⟨by simp, Nat.le_refl _, by omega, fun j v h => by simp at h⟩

def elt (a : Option Addr) (o : Nat) : Option Addr := a.map fun p => ⟨p.block, p.off + o, none⟩

/-- The base of x[l:..]. -/
def sl1 (a : Option Addr) (l cap sz : Nat) : Option Addr := if cap = l then a else a.map (·.add (l * sz))

theorem Sl.sub {m : View} {a : Option Addr} {n cap sz : Nat} {xs : List Value} (s : Sl m a n cap sz xs) {l k : Nat} (h1 : l ≤ k) (h2 : k ≤ n) :
    Sl m (sl1 a l cap sz) (k - l) (cap - l) sz ((xs.drop (l * sz)).take ((k - l) * sz)) := by
  have hle := s.le
  have hmx := s.mx
  have hml : l * sz + (k - l) * sz ≤ n * sz := by
    rw [← Nat.add_mul, show l + (k - l) = k by omega]; exact Nat.mul_le_mul_right _ h2
  refine ⟨?_, by omega, by omega, fun j v hj => ?_⟩
  · rw [List.length_take, List.length_drop, s.len]; omega
  · rw [List.getElem?_take] at hj
    split at hj
    · rename_i hlt
      rw [List.getElem?_drop] at hj
      obtain ⟨b, off, e, hc⟩ := s.at_ _ v hj
      subst e
      by_cases hcl : cap = l
      · have : k - l = 0 := by omega
        rw [this] at hlt; simp at hlt
      · refine ⟨b, off + l * sz, by simp [sl1, hcl, Addr.add_lit], ?_⟩
        rw [Nat.add_assoc]; exact hc
    · simp at hj

theorem flat_get {α : Type} {sz : Nat} (enc : α → List Value) (henc : ∀ x, (enc x).length = sz) : ∀ (l : List α) (q j : Nat), j < sz → (l.flatMap enc)[q * sz + j]? = (l[q]?).bind fun x => (enc x)[j]?
  | [], q, j, _ => by simp
  | x :: l, 0, j, hj => by
    simp [List.getElem?_append, henc, hj]
  | x :: l, q + 1, j, hj => by
    have ih := flat_get enc henc l q j hj
    rw [List.flatMap_cons, List.getElem?_append_right (by rw [henc, Nat.add_mul]; omega), henc,
      show (q + 1) * sz + j - sz = q * sz + j by rw [Nat.add_mul]; omega, ih]
    simp

def bv (bs : List UInt8) : List Value := bs.map fun b => .int .u8 b.toNat
theorem bv_get {bs : List UInt8} {j : Nat} {b : UInt8} (h : bs[j]? = some b) : (bv bs)[j]? = some (.int .u8 b.toNat) := by simp [bv, h]
theorem bv_len (bs : List UInt8) : (bv bs).length = bs.length := by simp [bv]

/-- The slice with base a, length n and capacity cap holds the cells xs, in every world of this kind. -/
structure Rd (m : View) (h : List Res) (a : Option Addr) (n cap sz : Nat) (xs : List Value) : Prop where
  len : xs.length = n * sz
  le : n ≤ cap
  mx : cap ≤ 9223372036854775807
  at_ : ∀ w, St m h w → ∀ j u, xs[j]? = some u → ∃ b off, a = some ⟨b, off, none⟩ ∧ w.cell? ⟨b, off + j, none⟩ = some u
theorem Rd.ofSl {m : View} {h : List Res} {a : Option Addr} {n cap sz : Nat} {xs : List Value} (s : Sl m a n cap sz xs) : Rd m h a n cap sz xs :=
  ⟨s.len, s.le, s.mx, fun w st j u hj => by obtain ⟨b, off, e, hc⟩ := s.at_ j u hj; exact ⟨b, off, e, st.cell hc⟩⟩
theorem St.weaken {m m' : View} {h h' : List Res} {w : World} (s : St m' h' w) (hm : m.le m') (hh : h.Sublist h') : St m h w := by
  have s' := s.sub hh
  exact ⟨s'.os.trans hm.os, s'.out.trans hm.out, s'.tape.trans hm.tape, fun b o hb => s'.blk b o (hm.blk b o hb), s'.ok, s'.nd, fun r hr b hb => by
    have := s'.fr r hr b hb
    cases hq : m.blk b with
    | none => rfl
    | some o => rw [hm.blk b o hq] at this; cases this⟩
theorem Rd.mono {m m' : View} {h h' : List Res} {a : Option Addr} {n cap sz : Nat} {xs : List Value} (r : Rd m h a n cap sz xs) (hm : m.le m') (hh : h.Sublist h') : Rd m' h' a n cap sz xs :=
  ⟨r.len, r.le, r.mx, fun w st => r.at_ w (st.weaken hm hh)⟩
theorem Rd.cons {m : View} {h : List Res} {a : Option Addr} {n cap sz : Nat} {xs : List Value} {x : Res} (r : Rd m h a n cap sz xs) : Rd m (x :: h) a n cap sz xs := r.mono (View.le.refl m) (List.sublist_cons_self _ _)
theorem Rd.sub {m : View} {h : List Res} {a : Option Addr} {n cap sz : Nat} {xs : List Value} (s : Rd m h a n cap sz xs) {l k : Nat} (h1 : l ≤ k) (h2 : k ≤ n) :
    Rd m h (sl1 a l cap sz) (k - l) (cap - l) sz ((xs.drop (l * sz)).take ((k - l) * sz)) := by
  have hle := s.le
  have hmx := s.mx
  have hml : l * sz + (k - l) * sz ≤ n * sz := by
    rw [← Nat.add_mul, show l + (k - l) = k by omega]; exact Nat.mul_le_mul_right _ h2
  refine ⟨?_, by omega, by omega, fun w st j v hj => ?_⟩
  · rw [List.length_take, List.length_drop, s.len]; omega
  · rw [List.getElem?_take] at hj
    split at hj
    · rename_i hlt
      rw [List.getElem?_drop] at hj
      obtain ⟨b, off, e, hc⟩ := s.at_ w st _ v hj
      subst e
      by_cases hcl : cap = l
      · have : k - l = 0 := by omega
        rw [this] at hlt; simp at hlt
      · refine ⟨b, off + l * sz, by simp [sl1, hcl, Addr.add_lit], ?_⟩
        rw [Nat.add_assoc]; exact hc
    · simp at hj

section
variable {P : Program} {ops : Array Oper} {Q : Exit → Act → World → Prop} {n : Cx} {F : Fm} {h h' : List Res} {m : View} {rest : List Oper}
variable {ty : TypeId} {pos : String} {after : Array Edge} {dst : Option Tmp} {g : Option (Nat × Bool)} {d : Nat}

theorem PO.idx {x i : Operand} {t e : TypeId} {a : Option Addr} {len cap sz q : Nat} {k : IntKind} {j : Int} {xs : List Value} (ht : P.underlying t = some (.slice e)) (hsz : (P.info? e).map (·.size) = some sz)
    (hz : 0 < sz) (ex : Ev n F x (.slice a len cap)) (ei : Ev n F i (.int k j)) (hs : Rd m h a len cap sz xs) (hj : j = (q : Int)) (hq : q < len) :
    PO P ⟨dst, .indexAddr t x i, ty, pos, after, g⟩ n F h m (.pointer (elt a (q * sz))) := .mk fun b w ha st => by
  subst hj
  have hlt : q * sz < xs.length := by rw [hs.len]; exact Nat.mul_lt_mul_of_pos_right hq hz
  obtain ⟨b0, off, e0, _⟩ := hs.at_ w st _ _ (List.getElem?_eq_getElem hlt)
  subst e0
  cases hi : P.info? e with
  | none => simp [hi] at hsz
  | some i0 =>
    have e1 : i0.size = sz := by simpa [hi] using hsz
    have e2 : (q : Int) < len := by omega
    simp [execOp, ex b ha, ei b ha, Instr.indexAt, asIntOf, run_underlying ht, sizeOf, typeInfo, hi, e1, hq, elt, Addr.add_lit]

theorem PO.fieldE {x : Operand} {t i o len cap sz j : Nat} {fs : Array Field} {f : Field} {a : Option Addr} {xs : List Value} (ht : P.underlying t = some (.struct fs)) (hf : fs[i]? = some f) (hz : P.cellsOf f.type ≠ 0) (hs : Rd m h a len cap sz xs) (hj : j < xs.length)
    (ex : Ev n F x (.pointer (elt a o))) : PO P ⟨dst, .fieldAddr t x i, ty, pos, after, g⟩ n F h m (.pointer (elt a (o + f.offset))) := .mk fun b w ha st => by
  obtain ⟨b0, off, e0, _⟩ := hs.at_ w st _ _ (List.getElem?_eq_getElem hj)
  subst e0
  have := PO.fieldAddr (P := P) (h := h) (m := m) (dst := dst) (ty := ty) (pos := pos) (after := after) (g := g) (b := b0) (off := off + o) ht hf hz ex
  have e : elt (some ⟨b0, off, none⟩) (o + f.offset) = some ⟨b0, off + o + f.offset, none⟩ := by simp [elt, Nat.add_assoc]
  rw [e]
  exact this b w ha st

theorem PO.loadE {x : Operand} {t : TypeId} {u : TypeDesc} {a : Option Addr} {len cap sz o : Nat} {xs : List Value} {v : Value} (ht : P.underlying t = some u) (hp : plainD u = true) (hs : Rd m h a len cap sz xs)
    (ex : Ev n F x (.pointer (elt a o))) (hv : xs[o]? = some v) : PO P ⟨dst, .load t x, ty, pos, after, g⟩ n F h m v := .mk fun b w ha st => by
  obtain ⟨b0, off, e, hc⟩ := hs.at_ w st _ _ hv
  subst e
  have ex' : b.eval x = .pointer (some ⟨b0, off + o, none⟩) := ex b ha
  simp [execOp, ex', Instr.loadAt, Instr.sureAddr, loadVar, run_isAgg_plain w ht hp, hc]

theorem PO.loadEA {x : Operand} {t : TypeId} {u : TypeDesc} {a : Option Addr} {len cap sz o : Nat} {xs vs : List Value} (ht : P.underlying t = some u) (hp : plainD u = false) (hq : (P.info? t).isSome = true)
    (hs : Rd m h a len cap sz xs) (ex : Ev n F x (.pointer (elt a o))) (hl : P.cellsOf t = vs.length) (h0 : 0 < vs.length) (hv : ∀ j v, vs[j]? = some v → xs[o + j]? = some v) :
    PO P ⟨dst, .load t x, ty, pos, after, g⟩ n F h m (.agg vs.toArray) := .mk fun b w ha st => by
  obtain ⟨b0, off, e, hc⟩ := hs.at_ w st _ _ (hv 0 _ (List.getElem?_eq_getElem h0))
  subst e
  have ex' : b.eval x = .pointer (some ⟨b0, off + o, none⟩) := ex b ha
  have := run_loadAgg (P := P) w (b := b0) (off := off + o) ht hp hl hq (fun j v hj => by
    obtain ⟨b', off', e', hc'⟩ := hs.at_ w st _ _ (hv j v hj)
    simp only [Option.some.injEq, Addr.mk.injEq, and_true] at e'
    obtain ⟨rfl, rfl⟩ := e'
    rw [Nat.add_assoc]; exact hc')
  simp [execOp, ex', Instr.loadAt, Instr.sureAddr, this]

/- x[lo:hi] of a slice; the bounds are ints -/
theorem PO.sliceLH {x lo hi : Operand} {t e : TypeId} {a : Option Addr} {len cap sz l u : Nat} {i j : Int} {k k' : IntKind} (ht : P.underlying t = some (.slice e)) (hsz : (P.info? e).map (·.size) = some sz)
    (ex : Ev n F x (.slice a len cap)) (el : Ev n F lo (.int k i)) (eh : Ev n F hi (.int k' j)) (hil : i = (l : Int)) (hju : j = (u : Int)) (h1 : l ≤ u) (h2 : u ≤ cap) :
    PO P ⟨dst, .slice t x (some lo) (some hi) none, ty, pos, after, g⟩ n F h m (.slice (sl1 a l cap sz) (u - l) (cap - l)) := .mk fun b w ha _ => by
  subst hil hju
  have e1 : (u : Int) ≤ cap := by omega
  have e2 : (l : Int) ≤ u := by omega
  cases hq : P.info? e with
  | none => simp [hq] at hsz
  | some i0 =>
    have e3 : i0.size = sz := by simpa [hq] using hsz
    simp [execOp, ex b ha, el b ha, eh b ha, Instr.sliceAt, Instr.slice, run_underlying ht, Instr.sliceBounds, run_sliceBound, sizeOf, typeInfo, hq, e3, e1, e2, sl1]
theorem PO.sliceH {x hi : Operand} {t e : TypeId} {a : Option Addr} {len cap sz u : Nat} {j : Int} {k' : IntKind} (ht : P.underlying t = some (.slice e)) (hsz : (P.info? e).map (·.size) = some sz)
    (ex : Ev n F x (.slice a len cap)) (eh : Ev n F hi (.int k' j)) (hj : j = (u : Int)) (h2 : u ≤ cap) :
    PO P ⟨dst, .slice t x none (some hi) none, ty, pos, after, g⟩ n F h m (.slice (sl1 a 0 cap sz) u cap) := .mk fun b w ha _ => by
  subst hj
  have e1 : (u : Int) ≤ cap := by omega
  cases hq : P.info? e with
  | none => simp [hq] at hsz
  | some i0 =>
    have e3 : i0.size = sz := by simpa [hq] using hsz
    simp [execOp, ex b ha, eh b ha, Instr.sliceAt, Instr.slice, run_underlying ht, Instr.sliceBounds, run_sliceBound, sizeOf, typeInfo, hq, e1, sl1]
theorem PO.sliceL {x lo : Operand} {t e : TypeId} {a : Option Addr} {len cap sz l : Nat} {i : Int} {k : IntKind} (ht : P.underlying t = some (.slice e)) (hsz : (P.info? e).map (·.size) = some sz)
    (ex : Ev n F x (.slice a len cap)) (el : Ev n F lo (.int k i)) (hi : i = (l : Int)) (h1 : l ≤ len) :
    PO P ⟨dst, .slice t x (some lo) none none, ty, pos, after, g⟩ n F h m (.slice (sl1 a l cap sz) (len - l) (cap - l)) := .mk fun b w ha _ => by
  subst hi
  have e2 : (l : Int) ≤ len := by omega
  cases hq : P.info? e with
  | none => simp [hq] at hsz
  | some i0 =>
    have e3 : i0.size = sz := by simpa [hq] using hsz
    simp [execOp, ex b ha, el b ha, Instr.sliceAt, Instr.slice, run_underlying ht, Instr.sliceBounds, run_sliceBound, sizeOf, typeInfo, hq, e3, e2, sl1]

/- strings -/
theorem PO.idxS {x i : Operand} {t : TypeId} {l : List UInt8} {k : IntKind} {j : Int} {q : Nat} {c : UInt8} (ht : P.underlying t = some .string) (ex : Ev n F x (str l)) (ei : Ev n F i (.int k j)) (hj : j = (q : Int)) (hc : l[q]? = some c) :
    PO P ⟨dst, .index t x i, ty, pos, after, g⟩ n F h m (.int .u8 c.toNat) := .mk fun b w ha _ => by
  subst hj
  have e : (⟨l.toArray⟩ : ByteArray)[q]? = some c := by
    have h1 : q < l.length := by
      rcases Nat.lt_or_ge q l.length with h' | h'
      · exact h'
      · rw [List.getElem?_eq_none h'] at hc; cases hc
    have h2 : q < (⟨l.toArray⟩ : ByteArray).size := by simpa [ByteArray.size] using h1
    have h3 : (⟨l.toArray⟩ : ByteArray)[q]? = some ((⟨l.toArray⟩ : ByteArray)[q]'h2) := getElem?_pos (⟨l.toArray⟩ : ByteArray) q h2
    rw [h3]
    have h4 : l[q] = c := by rw [List.getElem?_eq_getElem h1] at hc; exact Option.some.inj hc
    rw [← h4]; rfl
  simp [execOp, ex b ha, ei b ha, Instr.index, asIntOf, run_underlying ht, e]

theorem extract_str (l : List UInt8) (i j : Nat) : (⟨l.toArray⟩ : ByteArray).extract i j = ⟨((l.drop i).take (j - i)).toArray⟩ := by
  apply ByteArray.ext
  rw [ByteArray.data_extract]
  simp

theorem PO.sliceSLH {x lo hi : Operand} {t : TypeId} {s : List UInt8} {l u : Nat} {i j : Int} {k k' : IntKind} (ht : P.underlying t = some .string)
    (ex : Ev n F x (str s)) (el : Ev n F lo (.int k i)) (eh : Ev n F hi (.int k' j)) (hil : i = (l : Int)) (hju : j = (u : Int)) (h1 : l ≤ u) (h2 : u ≤ s.length) :
    PO P ⟨dst, .slice t x (some lo) (some hi) none, ty, pos, after, g⟩ n F h m (str ((s.drop l).take (u - l))) := .mk fun b w ha _ => by
  subst hil hju
  have e1 : (u : Int) ≤ s.length := by omega
  have e2 : (l : Int) ≤ u := by omega
  have e3 : (⟨s.toArray⟩ : ByteArray).size = s.length := rfl
  simp [execOp, ex b ha, el b ha, eh b ha, Instr.sliceAt, Instr.slice, run_underlying ht, Instr.sliceBounds, run_sliceBound, e1, e2, e3, extract_str]
theorem PO.sliceSH {x hi : Operand} {t : TypeId} {s : List UInt8} {u : Nat} {j : Int} {k' : IntKind} (ht : P.underlying t = some .string)
    (ex : Ev n F x (str s)) (eh : Ev n F hi (.int k' j)) (hj : j = (u : Int)) (h2 : u ≤ s.length) :
    PO P ⟨dst, .slice t x none (some hi) none, ty, pos, after, g⟩ n F h m (str (s.take u)) := .mk fun b w ha _ => by
  subst hj
  have e1 : (u : Int) ≤ s.length := by omega
  have e3 : (⟨s.toArray⟩ : ByteArray).size = s.length := rfl
  simp [execOp, ex b ha, eh b ha, Instr.sliceAt, Instr.slice, run_underlying ht, Instr.sliceBounds, run_sliceBound, e1, e3, extract_str]
theorem PO.sliceSL {x lo : Operand} {t : TypeId} {s : List UInt8} {l : Nat} {i : Int} {k : IntKind} (ht : P.underlying t = some .string)
    (ex : Ev n F x (str s)) (el : Ev n F lo (.int k i)) (hi : i = (l : Int)) (h1 : l ≤ s.length) :
    PO P ⟨dst, .slice t x (some lo) none none, ty, pos, after, g⟩ n F h m (str (s.drop l)) := .mk fun b w ha _ => by
  subst hi
  have e2 : (l : Int) ≤ s.length := by omega
  have e3 : (⟨s.toArray⟩ : ByteArray).size = s.length := rfl
  have e4 : (s.drop l).take (s.length - l) = s.drop l := List.take_of_length_le (by simp)
  simp [execOp, ex b ha, el b ha, Instr.sliceAt, Instr.slice, run_underlying ht, Instr.sliceBounds, run_sliceBound, e2, e3, extract_str, e4]

/- string(b) of a slice that is only read -/
theorem foldl_push (l : List UInt8) : ∀ s : List UInt8, (l.map fun b => ((b.toNat : Nat) : Int)).foldl (fun (r : ByteArray) n => r.push (UInt8.ofNat n.toNat)) ⟨s.toArray⟩ = ⟨(s ++ l).toArray⟩ := by
  induction l with
  | nil => intro s; simp
  | cons b l ih =>
    intro s
    simp only [List.map_cons, List.foldl_cons, Int.toNat_natCast, UInt8.ofNat_toNat]
    have e : (⟨s.toArray⟩ : ByteArray).push b = ⟨(s ++ [b]).toArray⟩ := by apply ByteArray.ext; simp [ByteArray.push]
    rw [e, ih (s ++ [b])]
    simp
theorem PO.strOf {x : Operand} {s t e : TypeId} {a : Option Addr} {len cap : Nat} {bs : List UInt8} (hs : P.underlying s = some (.slice e)) (he : P.underlying e = some (.int .u8)) (ht : P.underlying t = some .string)
    (ex : Ev n F x (.slice a len cap)) (hb : Rd m h a len cap 1 (bv bs)) : PO P ⟨dst, .convert s t x, ty, pos, after, g⟩ n F h m (str bs) := .mk fun b w ha st => by
  have hl : bs.length = len := by have := hb.len; simpa [bv_len] using this
  have hr : (convert s t (.slice a len cap)).run P w = .ok (str bs) w := by
    rw [run_convert_bytes_string w s t e a len cap hs he ht]
    cases bs with
    | nil =>
      simp at hl; subst hl
      cases a with
      | none => simp [Conv.bytesToString]; rfl
      | some ad =>
        have := run_bytesToString (P := P) w ad 0 cap [] (by simp [loadCells, loadCellsFrom])
        exact this.trans rfl
    | cons c bs =>
      obtain ⟨b0, off, e0, _⟩ := hb.at_ w st 0 _ (bv_get (by simp; rfl))
      subst e0
      have hld := run_loadCells_list (P := P) w ⟨b0, off, none⟩ (bv (c :: bs)) (fun j v hj => by
        obtain ⟨b1, off1, e1, hc⟩ := hb.at_ w st j v hj
        simp only [Option.some.injEq, Addr.mk.injEq, and_true] at e1
        obtain ⟨rfl, rfl⟩ := e1
        rw [Addr.add_lit]; exact hc)
      have e2 : bv (c :: bs) = ((c :: bs).map fun b => ((b.toNat : Nat) : Int)).map (Value.int .u8) := by simp [bv]
      rw [bv_len, hl, e2] at hld
      rw [run_bytesToString (P := P) w _ len cap _ hld]
      have := foldl_push (c :: bs) []
      simp only [List.nil_append] at this
      exact congrArg (fun z => Result.ok (Value.string z) w) this
  simp [execOp, ex b ha, hr]

/- the cells of a value, written out -/
def cellsO : Value → Option (List Value)
  | .agg ⟨l⟩ => some l
  | .tuple _ => none
  | .bool b => some [.bool b]
  | .int k i => some [.int k i]
  | .string s => some [.string s]
  | .pointer p => some [.pointer p]
  | .slice a l c => some [.slice a l c]
  | .map r => some [.map r]
  | .func f x y => some [.func f x y]
  | .nilFunc => some [.nilFunc]
  | .iface t v => some [.iface t v]
  | .nilIface => some [.nilIface]
  | _ => none
theorem cellsO_spec {v : Value} {zs : List Value} (h : cellsO v = some zs) : v.cells.toList = zs := by
  cases v <;> simp [cellsO] at h <;> simp [Value.cells, h]

/- stores -/
theorem St.setRow {w : World} (s : St m h w) {b : Nat} {cs cs' : Array Value} {e : TypeId} (u : Upd h (.pt b (.cells cs e (0, 0))) (.pt b (.cells cs' e (0, 0))) h') : St m h' (w.setRow b cs') := by
  have hb : w.heap[b]? = some (.cells cs e (0, 0)) := s.ok _ u.mem
  exact s.upd u rfl rfl rfl (fun k _ hk => setRow_other w b k cs' (fun e => hk (by rw [e]; rfl))) (setRow_heap w b cs cs' e (0, 0) hb) (fun k hk => .inl hk)

theorem WL.storeW {x y : Operand} {t : TypeId} {b off : Nat} {cs vs : List Value} {e : TypeId} {v : Value} (hq : (P.info? t).map (·.size) = some vs.length) (ex : Ev n F x (.pointer (some ⟨b, off, none⟩))) (ey : Ev n F y v)
    (hvs : v.cells.toList = vs) (h1 : ∀ u ∈ vs, u.oneCell' = true) (hl : off + vs.length ≤ cs.length)
    (u : Upd h (.pt b (.cells cs.toArray e (0, 0))) (.pt b (.cells (cs.take off ++ vs ++ cs.drop (off + vs.length)).toArray e (0, 0))) h') (k : WL P ops Q n rest F h' m) :
    WL P ops Q n (⟨none, .store t x y, ty, pos, after, none⟩ :: rest) F h m := .mk fun a w ha hs => by
  subst hvs
  have hb : w.heap[b]? = some (.cells cs.toArray e (0, 0)) := hs.ok _ u.mem
  have hr := run_storeCells_at P b off e v.cells.toList 0 cs.toArray w hb (by simpa using hl) h1
  have hrun : (execOp a.eval ⟨none, .store t x y, ty, pos, after, none⟩).run P w = .ok .skip (w.setRow b (cs.take off ++ v.cells.toList ++ cs.drop (off + v.cells.toList.length)).toArray) := by
    cases hi : P.info? t with
    | none => simp [hi] at hq
    | some i =>
      have e1 : i.size = v.cells.size := by simpa [hi] using hq
      have hr' := hr
      simp only [Nat.add_zero] at hr'
      simp [execOp, ex a ha, ey a ha, Instr.storeAt, Instr.sureAddr, storeVar, sizeOf, typeInfo, hi, e1] at hr' ⊢
      rw [hr']; rfl
  exact wpList_of_wp rfl (wp_of_skip hrun (k _ _ ha (hs.setRow u)))

/-- A store into a block whose cells stand written out. -/
theorem WL.store {x y : Operand} {t : TypeId} {b off : Nat} {cs cs' vs : List Value} {e : TypeId} {v : Value} (hq : (P.info? t).map (·.size) = some vs.length) (ex : Ev n F x (.pointer (some ⟨b, off, none⟩))) (ey : Ev n F y v)
    (hvs : cellsO v = some vs) (h1 : vs.all (·.oneCell') = true) (h0 : vs.isEmpty = false) (hc : setLs cs off vs = some cs')
    (u : Upd h (.pt b (.cells cs.toArray e (0, 0))) (.pt b (.cells cs'.toArray e (0, 0))) h') (k : WL P ops Q n rest F h' m) :
    WL P ops Q n (⟨none, .store t x y, ty, pos, after, none⟩ :: rest) F h m := by
  have hne : vs ≠ [] := by cases vs <;> simp_all
  have e1 := setLs_eq hc
  subst e1
  exact WL.storeW hq ex ey (cellsO_spec hvs) (by simpa using h1) (setLs_len hc hne) u k

theorem WL.alloc {t : TypeId} {z : Value} {zs : List Value} (hz : (P.info? t).bind (·.zero) = some z) (hzs : cellsO z = some zs) (hd : d < n.num)
    (k : ∀ b, WL P ops Q n rest ((d, .pointer (some ⟨b, 0, none⟩)) :: F) (.pt b (.cells zs.toArray t (0, 0)) :: h) m) :
    WL P ops Q n (⟨some d, .alloc t, ty, pos, after, none⟩ :: rest) F h m := .mk fun a w ha hs => by
  have hzs := cellsO_spec hzs
  subst hzs
  have hrun : (execOp a.eval ⟨some d, .alloc t, ty, pos, after, none⟩).run P w = .ok (.value (.pointer (some ⟨w.heap.size, 0, none⟩))) (w.alloc (.cells z.cells.toList.toArray t)) := by
    cases hi : P.info? t with
    | none => simp [hi] at hz
    | some i =>
      have e1 : i.zero = some z := by simpa [hi] using hz
      simp [execOp, Instr.alloc, zeroValue, typeInfo, hi, e1, newVar, newRow]
  exact wpList_of_wp rfl (wp_of_run hrun (k _ _ _ (ha.put hd _) (hs.alloc _)))

theorem WL.box {x : Operand} {t : TypeId} {v : Value} {zs : List Value} (ex : Ev n F x v) (hzs : cellsO v = some zs) (hd : d < n.num)
    (k : ∀ b, WL P ops Q n rest ((d, .pointer (some ⟨b, 0, none⟩)) :: F) (.pt b (.cells zs.toArray t (0, 0)) :: h) m) :
    WL P ops Q n (⟨some d, .box t x, ty, pos, after, none⟩ :: rest) F h m := .mk fun a w ha hs => by
  have hzs := cellsO_spec hzs
  subst hzs
  have hrun : (execOp a.eval ⟨some d, .box t x, ty, pos, after, none⟩).run P w = .ok (.value (.pointer (some ⟨w.heap.size, 0, none⟩))) (w.alloc (.cells v.cells.toList.toArray t)) := by
    simp [execOp, Instr.box, ex a ha, newVar, newRow]
  exact wpList_of_wp rfl (wp_of_run hrun (k _ _ _ (ha.put hd _) (hs.alloc _)))

/- calls -/
theorem run_call {f : Operand} {args : List Operand} {tys : Array TypeId} {vs first cap : List Value} {q : FuncId} {a : Act} {w : World} {gd : Option (Nat × Bool)} (ha : Fr n F a)
    (ef : Ev n F f (.func (.func q) first.toArray cap.toArray)) (ea : Evs n F args vs) (he : ∀ as w, (callFunc q as).run P w = .ok (.enter q as) w) :
    (execOp a.eval ⟨dst, .call ⟨.value f, args.toArray, tys⟩, ty, pos, after, gd⟩).run P w = .ok (.enter q (first ++ vs ++ cap).toArray) w := by
  simp [execOp, resolve, ef a ha, Deferred.ofValue, invoke, ea.map ha, he]

theorem WL.call {f : Operand} {args : List Operand} {tys : Array TypeId} {vs first cap : List Value} {q : FuncId} {R : Value → View → List Res → Prop} (ef : Ev n F f (.func (.func q) first.toArray cap.toArray)) (ea : Evs n F args vs)
    (c : CT P q (first ++ vs ++ cap) h m R) (hd : d < n.num) (k : ∀ v m' h', m.le m' → R v m' h' → WL P ops Q n rest ((d, v) :: F) h' m') :
    WL P ops Q n (⟨some d, .call ⟨.value f, args.toArray, tys⟩, ty, pos, after, none⟩ :: rest) F h m := .mk fun a w ha hs => by
  refine wpList_of_wp rfl ?_
  unfold Oper.wp
  rw [run_call ha ef ea c.enter]
  refine Calls.mono (c.calls w hs) ?_
  rintro e w' ⟨v, m', h', rfl, hle, hst, hR⟩
  exact k v m' h' hle hR _ _ (ha.put hd v) hst
theorem WL.call0 {f : Operand} {args : List Operand} {tys : Array TypeId} {vs first cap : List Value} {q : FuncId} {R : Value → View → List Res → Prop} (ef : Ev n F f (.func (.func q) first.toArray cap.toArray)) (ea : Evs n F args vs)
    (c : CT P q (first ++ vs ++ cap) h m R) (k : ∀ v m' h', m.le m' → R v m' h' → WL P ops Q n rest F h' m') :
    WL P ops Q n (⟨none, .call ⟨.value f, args.toArray, tys⟩, ty, pos, after, none⟩ :: rest) F h m := .mk fun a w ha hs => by
  refine wpList_of_wp rfl ?_
  unfold Oper.wp
  rw [run_call ha ef ea c.enter]
  refine Calls.mono (c.calls w hs) ?_
  rintro e w' ⟨v, m', h', rfl, hle, hst, hR⟩
  exact k v m' h' hle hR _ _ ha hst

/-- A call that leaves all owned memory alone and hands back just v. -/
def Pure1 (h : List Res) (v : Value) : Value → View → List Res → Prop := fun v' _ h' => v' = v ∧ h' = h

theorem WL.callT {f : Operand} {args : List Operand} {tys : Array TypeId} {vs first cap : List Value} {q : FuncId} {j t : Nat} {c : Bool} {v : Value} (hj : gslot ops j = some t) (hc : look F t = some (.bool c))
    (hp : c = true → Ev n F f (.func (.func q) first.toArray cap.toArray) ∧ Evs n F args vs ∧ CT P q (first ++ vs ++ cap) h m (Pure1 h v)) (hd : d < n.num) (k : ∀ m', m.le m' → WL P ops Q n rest ((d, gv c v) :: F) h m') :
    WL P ops Q n (⟨some d, .call ⟨.value f, args.toArray, tys⟩, ty, pos, after, some (j, true)⟩ :: rest) F h m := .mk fun a w ha hs => by
  have hy := yielded_of hj (ha.get t _ hc)
  cases c with
  | true =>
    obtain ⟨ef, ea, ct⟩ := hp rfl
    refine wpList_of_wp (by simp [Region.wanted, hy]) ?_
    unfold Oper.wp
    rw [run_call ha ef ea ct.enter]
    refine Calls.mono (ct.calls w hs) ?_
    rintro e w' ⟨v', m', h', rfl, hle, hst, rfl, rfl⟩
    exact k m' hle _ _ (ha.put hd _) hst
  | false =>
    unfold wpList
    rw [if_neg (by simp [Region.wanted, hy])]
    exact k m (View.le.refl m) _ _ (ha.put hd undef) hs
theorem WL.callF {f : Operand} {args : List Operand} {tys : Array TypeId} {vs first cap : List Value} {q : FuncId} {j t : Nat} {c : Bool} {v : Value} (hj : gslot ops j = some t) (hc : look F t = some (.bool c))
    (hp : (!c) = true → Ev n F f (.func (.func q) first.toArray cap.toArray) ∧ Evs n F args vs ∧ CT P q (first ++ vs ++ cap) h m (Pure1 h v)) (hd : d < n.num) (k : ∀ m', m.le m' → WL P ops Q n rest ((d, gv (!c) v) :: F) h m') :
    WL P ops Q n (⟨some d, .call ⟨.value f, args.toArray, tys⟩, ty, pos, after, some (j, false)⟩ :: rest) F h m := .mk fun a w ha hs => by
  have hy := yielded_of hj (ha.get t _ hc)
  cases c with
  | false =>
    obtain ⟨ef, ea, ct⟩ := hp rfl
    refine wpList_of_wp (by simp [Region.wanted, hy]) ?_
    unfold Oper.wp
    rw [run_call ha ef ea ct.enter]
    refine Calls.mono (ct.calls w hs) ?_
    rintro e w' ⟨v', m', h', rfl, hle, hst, rfl, rfl⟩
    exact k m' hle _ _ (ha.put hd _) hst
  | true =>
    unfold wpList
    rw [if_neg (by simp [Region.wanted, hy])]
    exact k m (View.le.refl m) _ _ (ha.put hd undef) hs

/- a body -/
def enumF : Nat → List Value → Fm
  | _, [] => []
  | k, v :: vs => (k, v) :: enumF (k + 1) vs

theorem look_enum : ∀ (vs : List Value) (k t : Nat) (v : Value), look (enumF k vs) t = some v → ∃ j, t = k + j ∧ vs[j]? = some v
  | [], k, t, v, h => by simp [enumF, look] at h
  | u :: vs, k, t, v, h => by
    simp only [enumF, look] at h
    cases hb : Nat.beq k t with
    | true =>
      rw [hb] at h
      exact ⟨0, by have := Nat.eq_of_beq_eq_true hb; omega, by simpa using h⟩
    | false =>
      rw [hb] at h
      obtain ⟨j, e, hj⟩ := look_enum vs (k + 1) t v h
      exact ⟨j + 1, by omega, by simpa using hj⟩

theorem Fr.enter (vs : List Value) (N : Nat) (hN : vs.length ≤ N) : Fr ⟨N, none, []⟩ (enumF 0 vs) { tmps := vs.toArray ++ Array.replicate (N - vs.toArray.size) undef, defers := [] } := by
  refine ⟨rfl, by simp; omega, fun t v ht => ?_⟩
  obtain ⟨j, e, hj⟩ := look_enum vs 0 t v ht
  have e' : t = j := by omega
  subst e'
  have hlt : t < vs.length := by
    rcases Nat.lt_or_ge t vs.length with h' | h'
    · exact h'
    · rw [List.getElem?_eq_none h'] at hj; cases hj
  rw [Array.getElem?_append_left (by simpa using hlt)]
  simpa using hj

def enumO : Nat → List Value → Option Fm
  | _, [] => some []
  | k, v :: vs => match enumO (k + 1) vs with
    | some r => some ((k, v) :: r)
    | none => none
theorem enumO_eq : ∀ {vs : List Value} {k : Nat} {F : Fm}, enumO k vs = some F → enumF k vs = F
  | [], k, F, h => by simp only [enumO, Option.some.injEq] at h; exact h
  | v :: vs, k, F, h => by
    simp only [enumO] at h
    cases h1 : enumO (k + 1) vs with
    | none => simp [h1] at h
    | some r => simp only [h1, Option.some.injEq] at h; subst h; simp [enumF, enumO_eq h1]
theorem CT.body {f : FuncId} {args : List Value} {R : Value → View → List Res → Prop} {fn : Func} {c : Code} {F0 : Fm} {N : Nat} (he : ∀ as w, (callFunc f as).run P w = .ok (.enter f as) w)
    (hf : P.funcs[f]? = some fn) (hb : fn.body = some c) (hN : fn.ntmps = N) (hl : args.length ≤ N) (hF : enumO 0 args = some F0) (k : WC P c (bodyPost P fn (RQ m R)) ⟨N, none, []⟩ F0 h m) : CT P f args h m R := by
  have hF := enumO_eq hF
  subst hF hN
  exact ⟨he, fun w hs => calls_of_wp hf hb (wpIn_wide.1 (wpIn_mono (k.e _ w (Fr.enter args fn.ntmps hl) hs) fun _ _ _ q => cutQ_imp q))⟩

theorem CT.mono {f : FuncId} {args : List Value} {R R' : Value → View → List Res → Prop} (c : CT P f args h m R) (hr : ∀ v m' h', m.le m' → R v m' h' → R' v m' h') : CT P f args h m R' :=
  ⟨c.enter, fun w hs => Calls.mono (c.calls w hs) (by rintro e w' ⟨v, m', h', rfl, hle, hst, hR⟩; exact ⟨v, m', h', rfl, hle, hst, hr _ _ _ hle hR⟩)⟩

/-- What a result variable reads as. -/
def resOf (tmps : Array Value) (r : ResultVar) : Sem Value :=
  match r with
  | .tmp t => pure (tmps.getD t undef)
  | .cell b t => do loadVar t (← asAddr (tmps.getD b undef))
theorem results_eq (fn : Func) (tmps : Array Value) : results fn tmps = (do
    let vs ← fn.results.mapM (resOf tmps)
    pure (if h : vs.size = 1 then vs[0] else .tuple vs)) := by
  unfold results
  have e : (fun r : ResultVar => match r with
    | .tmp t => pure (tmps.getD t undef)
    | .cell a t => do loadVar t (← asAddr (tmps.getD a undef))) = resOf tmps := by funext r; cases r <;> rfl
  rw [← e]
  rfl
structure RV (P : Program) (n : Cx) (F : Fm) (h : List Res) (m : View) (r : ResultVar) (v : Value) : Prop where
  e : ∀ a w, Fr n F a → St m h w → (resOf a.tmps r).run P w = .ok v w
theorem RV.tmp {t : Nat} {v : Value} (hl : look F t = some v) : RV P n F h m (.tmp t) v := .mk fun a w ha _ => by simp only [resOf, ha.getD hl]; rfl
theorem RV.cell1 {p t : Nat} {u : TypeDesc} {b off : Nat} {cs : List Value} {e : TypeId} {fz : Nat × Nat} {v : Value} (ht : P.underlying t = some u) (hp : plainD u = true) (hl : look F p = some (.pointer (some ⟨b, off, none⟩)))
    (hm : Res.pt b (.cells cs.toArray e fz) ∈ h) (hv : cs[off]? = some v) : RV P n F h m (.cell p t) v := .mk fun a w ha hs => by
  have e1 := ha.getD hl
  have hc : w.cell? ⟨b, off, none⟩ = some v := by rw [hs.pt_cell hm]; simpa using hv
  simp only [resOf, e1, asAddr]
  simp [loadVar, run_isAgg_plain w ht hp, hc]
theorem RV.cellA {p t : Nat} {u : TypeDesc} {b off : Nat} {cs : List Value} {e : TypeId} {fz : Nat × Nat} {vs : List Value} (ht : P.underlying t = some u) (hp : plainD u = false) (hq : (P.info? t).isSome = true)
    (hl : look F p = some (.pointer (some ⟨b, off, none⟩))) (hm : Res.pt b (.cells cs.toArray e fz) ∈ h) (hv : seg cs off (P.cellsOf t) = some vs) : RV P n F h m (.cell p t) (.agg vs.toArray) := .mk fun a w ha hs => by
  have e1 := ha.getD hl
  obtain ⟨hl, hj⟩ := seg_spec hv
  have := run_loadAgg (P := P) w (b := b) (off := off) ht hp hl.symm hq (fun j v hv => by rw [hs.pt_cell hm]; simpa using hj j v hv)
  simp only [resOf, e1, asAddr]
  simp [this]

theorem end_ {fn : Func} {ex : Exit} {R : Ending → World → Prop} {v : Value} (hex : ex = .ret ∨ ex = .normal) (hr : ∀ a w, Fr n F a → St m h w → (results fn a.tmps).run P w = .ok v w) (hR : ∀ w, St m h w → R (.returned v) w) (hds : n.ds = []) :
    ∀ a w, Fr n F a → St m h w → bodyPost P fn R ex a w := fun a w ha hs => by
  rcases hex with rfl | rfl
  · exact ⟨ha.d.trans hds, v, hr a w ha hs, hR w hs⟩
  · exact ⟨ha.d.trans hds, v, hr a w ha hs, hR w hs⟩

theorem dropE {A : Act → World → Prop} {h' : List Res} (hs : h'.Sublist h) (k : ∀ a w, Fr n F a → St m h' w → A a w) : ∀ a w, Fr n F a → St m h w → A a w := fun a w ha st => k a w ha (st.sub hs)
theorem end0 {fn : Func} {ex : Exit} {m0 : View} {R : Value → View → List Res → Prop} (hex : ex = .ret ∨ ex = .normal) (hfn : fn.results = #[]) (hle : m0.le m) (hd : h'.Sublist h) (hR : R (.tuple #[]) m h') (hds : n.ds = [] := by rfl) :
    ∀ a w, Fr n F a → St m h w → bodyPost P fn (RQ m0 R) ex a w :=
  end_ hex (fun a w ha hs => by simp [results, hfn]) (fun w hs => ⟨_, m, h', rfl, hle, hs.sub hd, hR⟩) hds
theorem end1 {fn : Func} {ex : Exit} {m0 : View} {R : Value → View → List Res → Prop} {r : ResultVar} {v : Value} (hex : ex = .ret ∨ ex = .normal) (hfn : fn.results = #[r]) (h1 : RV P n F h m r v) (hle : m0.le m) (hd : h'.Sublist h) (hR : R v m h') (hds : n.ds = [] := by rfl) :
    ∀ a w, Fr n F a → St m h w → bodyPost P fn (RQ m0 R) ex a w :=
  end_ hex (fun a w ha hs => by
    have h1 := h1.e a w ha hs
    simp [results_eq, hfn, h1]) (fun w hs => ⟨_, m, h', rfl, hle, hs.sub hd, hR⟩) hds
theorem end2 {fn : Func} {ex : Exit} {m0 : View} {R : Value → View → List Res → Prop} {r r' : ResultVar} {v v' : Value} (hex : ex = .ret ∨ ex = .normal) (hfn : fn.results = #[r, r']) (h1 : RV P n F h m r v) (h2 : RV P n F h m r' v') (hle : m0.le m) (hd : h'.Sublist h) (hR : R (.tuple #[v, v']) m h') (hds : n.ds = [] := by rfl) :
    ∀ a w, Fr n F a → St m h w → bodyPost P fn (RQ m0 R) ex a w :=
  end_ hex (fun a w ha hs => by
    have h1 := h1.e a w ha hs
    have h2 := h2.e a w ha hs
    simp [results_eq, hfn, h1, h2]) (fun w hs => ⟨_, m, h', rfl, hle, hs.sub hd, hR⟩) hds
theorem end3 {fn : Func} {ex : Exit} {m0 : View} {R : Value → View → List Res → Prop} {r r' r'' : ResultVar} {v v' v'' : Value} (hex : ex = .ret ∨ ex = .normal) (hfn : fn.results = #[r, r', r'']) (h1 : RV P n F h m r v) (h2 : RV P n F h m r' v') (h3 : RV P n F h m r'' v'')
    (hle : m0.le m) (hd : h'.Sublist h) (hR : R (.tuple #[v, v', v'']) m h') (hds : n.ds = [] := by rfl) :
    ∀ a w, Fr n F a → St m h w → bodyPost P fn (RQ m0 R) ex a w :=
  end_ hex (fun a w ha hs => by
    have h1 := h1.e a w ha hs
    have h2 := h2.e a w ha hs
    have h3 := h3.e a w ha hs
    simp [results_eq, hfn, h1, h2, h3]) (fun w hs => ⟨_, m, h', rfl, hle, hs.sub hd, hR⟩) hds

end
end Go.Eng

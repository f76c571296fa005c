/- types: the types, protocols and tokens in plain Lean, as the program and as the reference compute them. -/
import Derived.Test.YtheejlbhmbbdjaaDoorLexP
namespace Go.Ty
open Go.Lx
structure Ty where
  kind : Int
  dim : Int
  item : Int
  proto : B
def zeroT : Ty := ⟨0, 0, 0, []⟩
def cellT (t : Ty) : List Value := [.int .u8 t.kind, .int .i64 t.dim, .int .u8 t.item, Eng.str t.proto]
def tyV (t : Ty) : Value := .agg (cellT t).toArray
def eqT (t u : Ty) : Bool := (t.kind == u.kind) && ((t.dim == u.dim) && ((t.item == u.item) && ((t.proto == u.proto) && true)))
theorem eqT_iff (t u : Ty) : eqT t u = true ↔ t = u := by
  cases t; cases u; simp [eqT]
/-- A token. -/
structure Tok where
  kind : Int
  at_ : Int
  text : B
  n : Int
def zeroK : Tok := ⟨0, 0, [], 0⟩
def encK (t : Tok) : List Value := [.int .u8 t.kind, .int .i64 t.at_, Eng.str t.text, .int .i32 t.n]
theorem encK_len (t : Tok) : (encK t).length = 4 := rfl
def tokV (t : Tok) : Value := .agg (encK t).toArray
def eqK (t u : Tok) : Bool := (t.kind == u.kind) && ((t.at_ == u.at_) && ((t.text == u.text) && ((t.n == u.n) && true)))
theorem eqK_iff (t u : Tok) : eqK t u = true ↔ t = u := by
  cases t; cases u; simp [eqK]
/- the primitive kinds -/
structure Pm where
  kind : Int
  word : B
  size : Int
def encP (p : Pm) : List Value := [.int .u8 p.kind, Eng.str p.word, .int .i64 p.size]
theorem encP_len (p : Pm) : (encP p).length = 3 := rfl
def wINT : B := [73, 78, 84]
def wBYTE : B := [66, 89, 84, 69]
def wBOOL : B := [66, 79, 79, 76]
def prims : List Pm := [⟨1, wINT, 4⟩, ⟨2, wBYTE, 1⟩, ⟨3, wBOOL, 1⟩]
def wordIn (k : Int) : List Pm → B × Int × Bool
  | [] => ([], 0, false)
  | p :: l => if p.kind == k then (p.word, p.size, true) else wordIn k l
theorem wordIn_drop (k : Int) {l : List Pm} {i : Nat} {p : Pm} (hp : l[i]? = some p) : wordIn k (l.drop i) = if p.kind == k then (p.word, p.size, true) else wordIn k (l.drop (i + 1)) := by
  have h1 : i < l.length := (List.getElem?_eq_some_iff.1 hp).1
  rw [List.drop_eq_getElem_cons h1, (List.getElem?_eq_some_iff.1 hp).2]
  rfl
def wordS (k : Int) : B × Int × Bool := wordIn k prims
def is (k : Int) : Bool := (wordS k).2.2
def prim (k : Int) : Bool := (k == 1) || (k == 2) || (k == 3)
theorem is_eq (k : Int) : is k = prim k := by
  unfold is wordS prims wordIn wordIn wordIn wordIn prim
  rw [show ((1 : Int) == k) = (k == 1) from Bool.beq_comm, show ((2 : Int) == k) = (k == 2) from Bool.beq_comm, show ((3 : Int) == k) = (k == 3) from Bool.beq_comm]
  cases k == 1 <;> cases k == 2 <;> cases k == 3 <;> rfl
/- may a type be? -/
def far (t : Ty) : Bool := decide (t.dim < 0) || decide (t.dim > 64)
def timer : Ty := ⟨5, 0, 0, []⟩
def may (t : Ty) : Bool :=
  if far t then false
  else if is t.kind then (t.item == 0) && (t.proto == [])
  else if t.kind != 4 then eqT t timer
  else if t.item == 0 then name t.proto
  else is t.item && (t.proto == [])
def mayR (t : Ty) : Bool :=
  if far t then false
  else if prim t.kind then (t.item == 0) && (t.proto == [])
  else if t.kind == 4 then (prim t.item && (t.proto == [])) || ((t.item == 0) && nameR t.proto)
  else eqT t timer
theorem may_eq (t : Ty) : may t = mayR t := by
  unfold may mayR
  rw [is_eq, is_eq, name_eq]
  cases far t
  · cases prim t.kind
    · simp only [Bool.false_eq_true, if_false]
      by_cases h4 : t.kind = 4
      · simp only [h4, bne_self_eq_false, Bool.false_eq_true, if_false, beq_self_eq_true, if_true]
        by_cases h0 : t.item = 0
        · rw [h0]; simp [prim]
        · have : (t.item == 0) = false := by simpa using h0
          rw [this]; simp
      · have h : (t.kind == 4) = false := by simpa using h4
        simp [bne, h]
    · rfl
  · rfl
/- variants -/
structure Vr where
  tag : B
  a : Option Addr
  n : Nat
  c : Nat
  items : List Int
def encI (k : Int) : List Value := [.int .u8 k]
theorem encI_len (k : Int) : (encI k).length = 1 := rfl
def encV (v : Vr) : List Value := [Eng.str v.tag, .slice v.a v.n v.c]
theorem encV_len (v : Vr) : (encV v).length = 2 := rfl
structure VOk (m : Eng.View) (h : List Eng.Res) (v : Vr) : Prop where
  rd : Eng.Rd m h v.a v.n v.c 1 (Eng.fl encI v.items)
theorem VOk.mono {m m' : Eng.View} {h h' : List Eng.Res} {v : Vr} (o : VOk m h v) (hm : m.le m') (hh : h.Sublist h') : VOk m' h' v := ⟨o.rd.mono hm hh⟩
/-- A protocol's cells: its variants lie at a. -/
def prL (cs : Bool) (a : Option Addr) (k c : Nat) : List Value := [.bool cs, .slice a k c]
def prV (cs : Bool) (a : Option Addr) (k c : Nat) : Value := .agg (prL cs a k c).toArray
structure PrOk (m : Eng.View) (h : List Eng.Res) (a : Option Addr) (k c : Nat) (l : List Vr) : Prop where
  rd : Eng.Rd m h a k c 2 (Eng.fl encV l)
  ok : ∀ v, v ∈ l → VOk m h v
  tag : ∀ v, v ∈ l → v.tag.length ≤ 9223372036854775807
theorem PrOk.mono {m m' : Eng.View} {h h' : List Eng.Res} {a : Option Addr} {k c : Nat} {l : List Vr} (o : PrOk m h a k c l) (hm : m.le m') (hh : h.Sublist h') : PrOk m' h' a k c l :=
  ⟨o.rd.mono hm hh, fun v hv => (o.ok v hv).mono hm hh, o.tag⟩
/-- slices.IndexFunc -/
def idxF {α : Type} (q : α → Bool) : List α → Int → Int
  | [], _ => -1
  | x :: l, k => if q x then k else idxF q l (k + 1)
theorem idxF_drop {α : Type} (q : α → Bool) {l : List α} {i : Nat} {x : α} (hx : l[i]? = some x) (k : Int) : idxF q (l.drop i) k = if q x then k else idxF q (l.drop (i + 1)) (k + 1) := by
  have h1 : i < l.length := (List.getElem?_eq_some_iff.1 hx).1
  rw [List.drop_eq_getElem_cons h1, (List.getElem?_eq_some_iff.1 hx).2]
  rfl
theorem idxF_any {α : Type} (q : α → Bool) : ∀ (l : List α) (k : Int), 0 ≤ k → decide (idxF q l k ≥ 0) = l.any q
  | [], _, _ => rfl
  | x :: l, k, hk => by
    unfold idxF
    rw [List.any_cons]
    cases h : q x
    · rw [Bool.false_or, ← idxF_any q l (k + 1) (by omega)]; rfl
    · simp only [if_true, Bool.true_or]; exact decide_eq_true hk
/- items -/
def itemsB (l : List Int) (least : Int) : Bool := decide ((l.length : Int) ≥ least) && decide ((l.length : Int) ≤ 8) && !(l.any fun k => !is k)
def itemsR (l : List Int) (least : Int) : Bool := (l.all prim) && (decide ((l.length : Int) ≥ least) && decide ((l.length : Int) ≤ 8))
theorem items_eq (l : List Int) (least : Int) : itemsB l least = itemsR l least := by
  unfold itemsB itemsR
  have : (!(l.any fun k => !is k)) = l.all prim := by
    rw [List.any_eq_not_all_not]
    simp only [Bool.not_not]
    congr 1
    funext k
    exact is_eq k
  rw [this, Bool.and_comm]
/- values -/
def fits (k v : Int) : Bool := if k == 2 then v == IntKind.i32.wrap (IntKind.u8.wrap v) else if k == 3 then Eng.bor .i32 v 1 == 1 else k == 1
def fitsR (k v : Int) : Bool := if k == 1 then true else if k == 2 then decide (v ≥ 0) && decide (v ≤ 255) else if k == 3 then (v == 0) || (v == 1) else false
/- protocols -/
def tagIn (tag : B) (l : List Vr) : Bool := l.any fun w => w.tag == tag
def badV (pre : List Vr) (v : Vr) : Bool := !name v.tag || !itemsB v.items 0 || tagIn v.tag pre
def mayIn (pre : List Vr) : List Vr → Bool
  | [] => true
  | v :: r => if badV pre v then false else mayIn (pre ++ [v]) r
theorem mayIn_drop {l : List Vr} {i : Nat} {v : Vr} (hv : l[i]? = some v) : mayIn (l.take i) (l.drop i) = if badV (l.take i) v then false else mayIn (l.take (i + 1)) (l.drop (i + 1)) := by
  have h1 : i < l.length := (List.getElem?_eq_some_iff.1 hv).1
  rw [Eng.take_snoc hv, List.drop_eq_getElem_cons h1, (List.getElem?_eq_some_iff.1 hv).2]
  rfl
def zeroV : Vr := ⟨[], none, 0, 0, []⟩
def hdV (l : List Vr) : Vr := l.headD zeroV
theorem hdV_get {l : List Vr} (h : ((l.length : Int) == 1) = true) : l[0]? = some (hdV l) := by
  cases l with
  | nil => simp at h
  | cons v l => rfl
def mayPr (cs : Bool) (l : List Vr) : Bool :=
  if !cs then ((l.length : Int) == 1) && ((hdV l).tag == []) && itemsB (hdV l).items 1
  else if decide ((l.length : Int) < 1) || decide ((l.length : Int) > 16) then false
  else mayIn [] l
/- finding -/
def findV (tag : B) : List Vr → Nat → Option (Vr × Nat)
  | [], _ => none
  | v :: l, k => if v.tag == tag then some (v, k) else findV tag l (k + 1)
theorem findV_drop (tag : B) {l : List Vr} {i : Nat} {v : Vr} (hv : l[i]? = some v) (k : Nat) : findV tag (l.drop i) k = if v.tag == tag then some (v, k) else findV tag (l.drop (i + 1)) (k + 1) := by
  have h1 : i < l.length := (List.getElem?_eq_some_iff.1 hv).1
  rw [List.drop_eq_getElem_cons h1, (List.getElem?_eq_some_iff.1 hv).2]
  rfl
/-- What is found: the variant, its place, whether. -/
def findW (cs : Bool) (l : List Vr) (tag : B) : Vr × Nat × Bool :=
  if mayPr cs l then (match findV tag l 0 with | some (v, j) => (v, j, true) | none => (zeroV, 0, false)) else (zeroV, 0, false)
theorem findW_no {cs : Bool} {l : List Vr} (tag : B) (h : mayPr cs l = false) : findW cs l tag = (zeroV, 0, false) := by
  unfold findW; rw [h]; rfl
theorem findW_some {cs : Bool} {l : List Vr} {tag : B} {v : Vr} {j : Nat} (h : mayPr cs l = true) (hf : findV tag l 0 = some (v, j)) : findW cs l tag = (v, j, true) := by
  unfold findW; rw [h, hf]; rfl
theorem findW_none {cs : Bool} {l : List Vr} {tag : B} (h : mayPr cs l = true) (hf : findV tag l 0 = none) : findW cs l tag = (zeroV, 0, false) := by
  unfold findW; rw [h, hf]; rfl
theorem mayIn_items : ∀ {l pre : List Vr}, mayIn pre l = true → ∀ v, v ∈ l → v.items.length ≤ 8
  | [], _, _, v, hv => by cases hv
  | w :: r, pre, h, v, hv => by
    unfold mayIn at h
    cases hb : badV pre w with
    | true => rw [hb] at h; cases h
    | false =>
      rw [hb] at h
      rcases List.mem_cons.1 hv with rfl | hv
      · unfold badV itemsB at hb
        simp at hb
        omega
      · exact mayIn_items h v hv
theorem mayPr_items {cs : Bool} {l : List Vr} (h : mayPr cs l = true) : ∀ v, v ∈ l → v.items.length ≤ 8 := by
  unfold mayPr at h
  cases cs with
  | false =>
    simp only [Bool.not_false, if_true, Bool.and_eq_true] at h
    intro v hv
    have h1 := hdV_get h.1.1
    match l, h.1.1, hv with
    | [w], _, hv =>
      have : v = w := by simpa using hv
      subst this
      have h2 := h.2
      unfold itemsB hdV at h2
      simp at h2
      omega
  | true =>
    simp only [Bool.not_true, Bool.false_eq_true, if_false] at h
    split at h
    · cases h
    · exact mayIn_items h
theorem tagIn_drop (tag : B) {l : List Vr} {i : Nat} {w : Vr} (hw : l[i]? = some w) : tagIn tag (l.drop i) = ((w.tag == tag) || tagIn tag (l.drop (i + 1))) := by
  have h1 : i < l.length := (List.getElem?_eq_some_iff.1 hw).1
  rw [List.drop_eq_getElem_cons h1, (List.getElem?_eq_some_iff.1 hw).2]
  rfl
def eqI (x y : Int) : Bool := x == y
theorem eqI_iff (x y : Int) : eqI x y = true ↔ x = y := by simp [eqI]
theorem eqI_ne {x y : Int} (h : (x != y) = true) : eqI x y = false := by simpa [eqI] using h
theorem eqI_eq {x y : Int} (h : (x != y) = false) : eqI x y = true := by simpa [eqI] using h
theorem eqK_ne {x y : Tok} (h : (!eqK x y) = true) : eqK x y = false := by simpa using h
theorem eqK_eq {x y : Tok} (h : (!eqK x y) = false) : eqK x y = true := by simpa using h
end Go.Ty

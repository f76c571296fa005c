/- Bytes: parts of a readable slice; a store into an owned slice; a literal's conversion to its own type. -/
import Derived.Test.YtheejlbhmbbdjaaDoorEng5
namespace Go.Eng
open Go Go.RowKit

theorem Rd.subB {m : View} {h : List Res} {a : Option Addr} {n cap : Nat} {xs : List UInt8} (s : Rd m h a n cap 1 (bv xs)) {l k : Nat} (h1 : l ≤ k) (h2 : k ≤ n) :
    Rd m h (sl1 a l cap 1) (k - l) (cap - l) 1 (bv ((xs.drop l).take (k - l))) := by
  have := s.sub h1 h2
  simp only [Nat.mul_one] at this
  have e : ((bv xs).drop l).take (k - l) = bv ((xs.drop l).take (k - l)) := by simp [bv]
  rwa [e] at this
theorem Rd.lenB {m : View} {h : List Res} {a : Option Addr} {n cap : Nat} {xs : List UInt8} (s : Rd m h a n cap 1 (bv xs)) : xs.length = n := by
  have := s.len; simpa [bv_len] using this
theorem Rd.dropB {m : View} {h : List Res} {a : Option Addr} {n cap : Nat} {xs : List UInt8} (s : Rd m h a n cap 1 (bv xs)) {l : Nat} (h1 : l ≤ n) :
    Rd m h (sl1 a l cap 1) (n - l) (cap - l) 1 (bv (xs.drop l)) := by
  have := s.subB h1 (Nat.le_refl n)
  rwa [List.take_of_length_le (by have := s.lenB; simp; omega)] at this
theorem Rd.takeB {m : View} {h : List Res} {a : Option Addr} {n cap : Nat} {xs : List UInt8} (s : Rd m h a n cap 1 (bv xs)) {k : Nat} (h2 : k ≤ n) :
    Rd m h (sl1 a 0 cap 1) k cap 1 (bv (xs.take k)) := by
  have := s.subB (Nat.zero_le k) h2
  simpa using this

theorem Rd.fr {m : View} {h : List Res} {a : Option Addr} {n cap sz : Nat} {xs : List Value} (s : Rd m h a n cap sz xs) (fr : List Res) : Rd m (fr ++ h) a n cap sz xs := s.mono (View.le.refl m) (List.sublist_append_right fr h)

theorem Rd.nilB (m : View) (h : List Res) : Rd m h none 0 0 1 (bv []) := ⟨rfl, Nat.le_refl _, by omega, fun _ _ j u hj => by simp [bv] at hj⟩
theorem CT.val {P : Program} {f : FuncId} {args : List Value} {h : List Res} {m : View} {v v' : Value} (c : CT P f args h m (Pure1 h v)) (e : v = v') : CT P f args h m (Pure1 h v') := e ▸ c

theorem CT.conv {P : Program} {f : FuncId} {args : List Value} {h : List Res} {m : View} {R R' : Value → View → List Res → Prop} (c : CT P f args h m R)
    (k : ∀ v m' h' w, m.le m' → St m' h' w → R v m' h' → ∃ m'' h'', m'.le m'' ∧ St m'' h'' w ∧ R' v m'' h'') : CT P f args h m R' :=
  ⟨c.enter, fun w hs => Calls.mono (c.calls w hs) (by
    rintro e w' ⟨v, m', h', rfl, hle, hst, hR⟩
    obtain ⟨m2, h2, h3, h4, h5⟩ := k v m' h' w' hle hst hR
    exact ⟨v, m2, h2, rfl, hle.trans h3, h4, h5⟩)⟩

theorem take_set {α : Type} (xs : List α) (i k : Nat) (v : α) : (xs.set i v).take k = (xs.take k).set i v := by
  rw [List.take_set]

section
variable {P : Program} {ops : Array Oper} {Q : Exit → Act → World → Prop} {n : Cx} {F : Fm} {h h' : List Res} {m : View} {rest : List Oper}
variable {ty : TypeId} {pos : String} {after : Array Edge} {dst : Option Tmp} {g : Option (Nat × Bool)} {d : Nat}

theorem WL.call1 {f : Operand} {args : List Operand} {tys : Array TypeId} {vs first cap : List Value} {q : FuncId} {v : Value} (ef : Ev n F f (.func (.func q) first.toArray cap.toArray)) (ea : Evs n F args vs)
    (c : CT P q (first ++ vs ++ cap) h m (Pure1 h v)) (hd : d < n.num) (k : ∀ m', m.le m' → WL P ops Q n rest ((d, v) :: F) h m') :
    WL P ops Q n (⟨some d, .call ⟨.value f, args.toArray, tys⟩, ty, pos, after, none⟩ :: rest) F h m :=
  WL.call ef ea c hd fun _ m' _ hm hR => by obtain ⟨rfl, rfl⟩ := hR; exact k m' hm

/-- A store of one cell into an owned slice. -/
theorem WL.storeR {x y : Operand} {t e : TypeId} {a : Option Addr} {l cap sz o : Nat} {xs : List Value} {v : Value} (hq : (P.info? t).map (·.size) = some 1) (ex : Ev n F x (.pointer (elt a o))) (ey : Ev n F y v)
    (hvs : cellsO v = some [v]) (h1 : v.oneCell' = true) (ho : o < xs.length)
    (u : Upd h (.row (.slice a l cap) e sz l xs) (.row (.slice a l cap) e sz l (xs.set o v)) h') (k : WL P ops Q n rest F h' m) :
    WL P ops Q n (⟨none, .store t x y, ty, pos, after, none⟩ :: rest) F h m := .mk fun f w ha hs => by
  have hvs := cellsO_spec hvs
  have hown : w.ownsRow 0 e sz (.slice a l cap) l xs := hs.ok _ u.mem
  obtain ⟨hxl, hn | ⟨b, cp, cur, hv, _, hb, hnc, hcm, hsz, htk⟩⟩ := hown
  · obtain ⟨_, h0'⟩ := hn
    subst h0'
    simp only [Nat.zero_mul] at hxl
    omega
  · simp only [Value.slice.injEq] at hv
    obtain ⟨rfl, _, rfl⟩ := hv
    have hlc : l * sz ≤ cap * sz := Nat.mul_le_mul_right _ hnc
    have hoc : o < cur.size := by rw [hsz]; omega
    have hst := run_storeCells_at P b o e [v] 0 cur w hb (by simp; omega) (by intro u hu; simp at hu; subst hu; exact h1)
    have ec : cur.toList.take o ++ [v] ++ cur.toList.drop (o + 1) = cur.toList.set o v := by
      rw [List.set_eq_take_append_cons_drop, if_pos (by simpa using hoc)]; simp
    simp only [Nat.add_zero, List.length_singleton] at hst
    rw [ec] at hst
    have hrun : (execOp f.eval ⟨none, .store t x y, ty, pos, after, none⟩).run P w = .ok .skip (w.setRow b (cur.toList.set o v).toArray) := by
      cases hi : P.info? t with
      | none => simp [hi] at hq
      | some i =>
        have e1 : i.size = 1 := by simpa [hi] using hq
        have ev' : v.cells = #[v] := by rw [← Array.toList_inj]; simpa using hvs
        have ex' : f.eval x = .pointer (some ⟨b, 0 + o, none⟩) := ex f ha
        rw [Nat.zero_add] at ex'
        simp [execOp, ex', ey f ha, Instr.storeAt, Instr.sureAddr, storeVar, sizeOf, typeInfo, hi, e1, ev']
        rw [hst]; rfl
    refine wpList_of_wp rfl (wp_of_skip hrun (k _ _ ha ?_))
    refine hs.upd u rfl rfl rfl (fun q _ hq => setRow_other w b q _ (fun e => hq (by rw [e]; rfl))) ?_ (fun b hb => .inl hb)
    refine ⟨by simpa using hxl, .inr ⟨b, cap, _, rfl, Nat.zero_le _, setRow_heap w b cur _ e _ hb, hnc, hcm, by simpa using hsz, ?_⟩⟩
    rw [← htk]
    simp [List.take_set]

theorem freeze_at (w : World) (b : Nat) (cs : Array Value) (e : TypeId) (k : Nat) (hb : w.heap[b]? = some (.cells cs e (0, 0))) :
    (w.freeze ⟨b, k, none⟩ 1).heap[b]? = some (.cells cs e (k, k + 1)) ∧ (∀ q, q ≠ b → (w.freeze ⟨b, k, none⟩ 1).heap[q]? = w.heap[q]?) ∧
    (w.freeze ⟨b, k, none⟩ 1).os = w.os ∧ (w.freeze ⟨b, k, none⟩ 1).output = w.output ∧ (w.freeze ⟨b, k, none⟩ 1).tape = w.tape := by
  unfold World.freeze
  rw [if_neg (by decide)]
  refine ⟨?_, fun q hq => ?_, rfl, rfl, rfl⟩
  · simp [Array.getElem?_modify, hb]
  · simp [Array.getElem?_modify, Ne.symm hq]

/-- []byte("..") of a constant: the literal's new block is marked. -/
theorem WL.mark {x : Operand} {t e : TypeId} {b k c : Nat} {cs : List Value} (ht : P.underlying t = some (.slice e)) (he : P.underlying e = some (.int .u8)) (ex : Ev n F x (.slice (some ⟨b, 0, none⟩) k c))
    (u : Upd h (.pt b (.cells cs.toArray e (0, 0))) (.pt b (.cells cs.toArray e (cs.length, cs.length + 1))) h') (hd : d < n.num) (kk : WL P ops Q n rest ((d, .slice (some ⟨b, 0, none⟩) k c) :: F) h' m) :
    WL P ops Q n (⟨some d, .convert t t x, ty, pos, after, none⟩ :: rest) F h m := .mk fun f w ha hs => by
  have hb : w.heap[b]? = some (.cells cs.toArray e (0, 0)) := hs.ok _ u.mem
  obtain ⟨h1, h2, h3, h4, h5⟩ := freeze_at w b cs.toArray e cs.length hb
  have hsh : w.shape? b = some (e, cs.length) := by simp [World.shape?, hb]
  have hrun : (execOp f.eval ⟨some d, .convert t t x, ty, pos, after, none⟩).run P w = .ok (.value (.slice (some ⟨b, 0, none⟩) k c)) (w.freeze ⟨b, cs.length, none⟩ 1) := by
    simp [execOp, ex f ha, convert, run_underlying ht, run_underlying he, markStringish, hsh]
  exact wpList_of_wp rfl (wp_of_run hrun (kk _ _ (ha.put hd _) (hs.upd u h3 h4 h5 (fun q _ hq => h2 q (fun e => hq (by rw [e]; rfl))) h1 (fun b hb => .inl hb))))
end
end Go.Eng

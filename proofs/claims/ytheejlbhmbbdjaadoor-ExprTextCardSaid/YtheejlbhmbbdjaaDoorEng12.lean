/- Eng12, Eng13, Eng14, Eng15, Eng16, Eng17 as one text. -/
import Derived.Test.YtheejlbhmbbdjaaDoorEng11
import Derived.ChangeMaps5
import Derived.Lib.ConvBytes
import Derived.Laws.AppendOwn
import Derived.Lib.AppendIntMem
/- Guarded calls that change what is owned. -/
namespace Go.Eng
open Go
section
variable {P : Program} {ops : Array Oper} {Q : Exit → Act → World → Prop} {n : Cx} {F : Fm} {h h' : List Res} {m : View} {rest : List Oper}
variable {ty : TypeId} {pos : String} {after : Array Edge} {d : Nat} {v : Value}
theorem CT.perm {f : FuncId} {args : List Value} {h1 h2 h1' h2' : List Res} (hp : h1.Perm h2) (c : CT P f args h2 m (Pure1 h2' v)) (hp' : h2'.Perm h1') : CT P f args h1 m (Pure1 h1' v) :=
  ⟨c.enter, fun w st => Calls.mono (c.calls w (st.perm hp)) (by rintro e w' ⟨v', m', h', rfl, hle, hst, rfl, rfl⟩; exact ⟨v', m', h1', rfl, hle, hst.perm hp', rfl, rfl⟩)⟩
theorem CT.outE {f : FuncId} {args : List Value} {h1 h2 : List Res} (e : h1 = h2) (c : CT P f args h m (Pure1 h1 v)) : CT P f args h m (Pure1 h2 v) := e ▸ c
theorem CT.frame {f : FuncId} {args : List Value} {fr hp hp' hs : List Res} (c : CT P f args (hp ++ (fr ++ hs)) m (Pure1 (hp' ++ (fr ++ hs)) v)) : CT P f args (fr ++ (hp ++ hs)) m (Pure1 (fr ++ (hp' ++ hs)) v) :=
  CT.perm (List.perm_append_comm_assoc fr hp hs) c (List.perm_append_comm_assoc hp' fr hs)
theorem perm_four {fr h : List Res} (x5 x3 x2 x1 : Res) : (fr ++ ([x3, x2] ++ (x5 :: x1 :: h))).Perm ([x5, x3, x2, x1] ++ (fr ++ h)) := by
  refine (List.perm_append_comm_assoc fr [x3, x2] (x5 :: x1 :: h)).trans ?_
  refine ((List.perm_append_comm_assoc fr [x5, x1] h).append_left [x3, x2]).trans ?_
  exact List.perm_middle (l₁ := [x3, x2])
theorem WL.callGK {f : Operand} {args : List Operand} {tys : Array TypeId} {vs first cap : List Value} {q : FuncId} {gd : Nat × Bool} {c : Bool} (hg : GU ops n F gd c)
    (p : c = true → Ev n F f (.func (.func q) first.toArray cap.toArray) ∧ Evs n F args vs ∧ CT P q (first ++ vs ++ cap) h m (Pure1 h' v)) (h0 : c = false → h' = h) (hd : d < n.num)
    (k : WL P ops Q n rest ((d, gv c v) :: F) h' m) : WL P ops Q n (⟨some d, .call ⟨.value f, args.toArray, tys⟩, ty, pos, after, some gd⟩ :: rest) F h m := by
  cases c with
  | false =>
    cases h0 rfl
    exact WL.skG hg rfl hd k
  | true =>
    obtain ⟨ef, ea, ct⟩ := p rfl
    refine WL.unG hg rfl (WL.callK ef ea ct hd ?_)
    rintro _ _ ⟨rfl, rfl⟩
    exact k
theorem SR.callGK {eff : List Nat} {t : Tl} {hs hp hp' : List Res} {i : Nat} {s : Tr} {f : Operand} {args : List Operand} {tys : Array TypeId} {vs first cap : List Value} {q : FuncId} {gd : Nat × Bool} {c : Bool}
    (ho : ops[i]? = some ⟨some d, .call ⟨.value f, args.toArray, tys⟩, ty, pos, after, some gd⟩) (he : eff.contains i = true) (hg : GU ops n F gd c)
    (p : c = true → Ev n F f (.func (.func q) first.toArray cap.toArray) ∧ Evs n F args vs ∧ ∀ fr, CT P q (first ++ vs ++ cap) (fr ++ (hp ++ hs)) m (Pure1 (fr ++ (hp' ++ hs)) v)) (h0 : c = false → hp' = hp) (hd : d < n.num)
    (k : SR P ops Q n eff t hs s ((d, gv c v) :: F) hp' m) : SR P ops Q n eff t hs (.op i s) F hp m := ⟨_, ho, fun x hx => by cases hx; exact hd, by
  rw [he]
  refine ⟨fun fr a w ha st => ?_⟩
  have hy := hg.wanted (dst := some d) (op := .call ⟨.value f, args.toArray, tys⟩) (ty := ty) (pos := pos) (after := after) ha
  cases c with
  | true =>
    refine ⟨fun _ => ?_, fun h => by rw [hy] at h; cases h⟩
    obtain ⟨ef, ea, ct⟩ := p rfl
    rw [run_call ha ef ea (ct fr).enter]
    refine Calls.mono ((ct fr).calls w st) ?_
    rintro e w' ⟨v', m', h', rfl, hle, hst, rfl, rfl⟩
    exact .inl ⟨_, rfl, m, hp', View.le.refl m, hst.back hle, nofun, k.e⟩
  | false =>
    cases h0 rfl
    exact ⟨fun h => (by rw [hy] at h; cases h), fun _ => ⟨nofun, k.e⟩⟩⟩
section
variable {eff : List Nat} {t : Tl} {hs hp : List Res} {i : Nat} {s : Tr} {op : Op}
/-- Reading what the region itself turns: ordered as an effect. -/
theorem SR.poE (ho : ops[i]? = some ⟨some d, op, ty, pos, after, none⟩) (he : eff.contains i = true) (p : ∀ fr, PO P ⟨some d, op, ty, pos, after, none⟩ n F (fr ++ (hp ++ hs)) m v) (hd : d < n.num)
    (k : SR P ops Q n eff t hs s ((d, v) :: F) hp m) : SR P ops Q n eff t hs (.op i s) F hp m := ⟨_, ho, fun x hx => by cases hx; exact hd, by
  rw [he]
  cases hr : isRd ⟨some d, op, ty, pos, after, none⟩ with
  | true => exact ⟨v, ⟨fun a w ha st => ⟨fun _ => (p []).e a w ha st, fun h => by simp [Region.wanted] at h⟩⟩, k.e⟩
  | false =>
    simp only
    refine ⟨fun fr a w ha st => ⟨fun _ => ?_, fun h => by simp [Region.wanted] at h⟩⟩
    rw [(p fr).e a w ha st]
    exact ⟨m, hp, View.le.refl m, st, fun _ => List.Sublist.refl _, k.e⟩⟩
theorem isRd_guard {dst : Option Nat} {gd : Nat × Bool} : isRd ⟨dst, op, ty, pos, after, some gd⟩ = false := by
  unfold isRd
  split <;> simp_all
theorem SR.poEG {gd : Nat × Bool} {c : Bool} (ho : ops[i]? = some ⟨some d, op, ty, pos, after, some gd⟩) (he : eff.contains i = true) (hg : GU ops n F gd c)
    (p : c = true → ∀ fr, PO P ⟨some d, op, ty, pos, after, some gd⟩ n F (fr ++ (hp ++ hs)) m v) (hd : d < n.num) (k : SR P ops Q n eff t hs s ((d, gv c v) :: F) hp m) :
    SR P ops Q n eff t hs (.op i s) F hp m := ⟨_, ho, fun x hx => by cases hx; exact hd, by
  rw [he]
  simp only [isRd_guard]
  refine ⟨fun fr a w ha st => ?_⟩
  have hy := hg.wanted (dst := some d) (op := op) (ty := ty) (pos := pos) (after := after) ha
  cases c with
  | true =>
    refine ⟨fun _ => ?_, fun h => by rw [hy] at h; cases h⟩
    rw [(p rfl fr).e a w ha st]
    exact ⟨m, hp, View.le.refl m, st, fun _ => List.Sublist.refl _, k.e⟩
  | false => exact ⟨fun h => (by rw [hy] at h; cases h), fun _ => ⟨fun _ => List.Sublist.refl _, k.e⟩⟩⟩
end
end
end Go.Eng

/- A call in a drawn region that gives a slice of its own. -/
namespace Go.Eng
open Go
section
variable {P : Program} {ops : Array Oper} {Q : Exit → Act → World → Prop} {n : Cx} {F : Fm} {h h' : List Res} {m : View} {rest : List Oper}
variable {ty : TypeId} {pos : String} {after : Array Edge} {d : Nat} {v : Value}
theorem SR.callN {eff : List Nat} {t : Tl} {hs hp : List Res} {i : Nat} {s : Tr} {f : Operand} {args : List Operand} {tys : Array TypeId} {vs first cap : List Value} {q : FuncId} {V : Option Addr → Nat → Value} {row : Option Addr → Nat → Res}
    (ho : ops[i]? = some ⟨some d, .call ⟨.value f, args.toArray, tys⟩, ty, pos, after, none⟩) (he : eff.contains i = true) (ef : Ev n F f (.func (.func q) first.toArray cap.toArray)) (ea : Evs n F args vs)
    (c : ∀ fr, CT P q (first ++ vs ++ cap) (fr ++ (hp ++ hs)) m (fun v _ h' => ∃ a c, v = V a c ∧ h' = row a c :: (fr ++ (hp ++ hs)))) (hd : d < n.num)
    (k : ∀ a c, SR P ops Q n eff t hs s ((d, V a c) :: F) (row a c :: hp) m) : SR P ops Q n eff t hs (.op i s) F hp m := ⟨_, ho, fun x hx => by cases hx; exact hd, by
  rw [he]
  refine ⟨fun fr a w ha st => ⟨fun _ => ?_, fun h => by simp [Region.wanted] at h⟩⟩
  rw [run_call ha ef ea (c fr).enter]
  refine Calls.mono ((c fr).calls w st) ?_
  rintro e w' ⟨v', m', h', rfl, hle, hst, a1, c1, rfl, rfl⟩
  exact .inl ⟨_, rfl, m, row a1 c1 :: hp, View.le.refl m, (hst.perm (List.perm_middle (l₁ := fr) (l₂ := hp ++ hs)).symm).back hle, nofun, (k a1 c1).e⟩⟩
end
/-- A string that a law is given. -/
theorem str_arg {H : Type} {enc : TypeId × Value → H} {P : Program} {W : World} {base b0 : Nat} {sp : Nat → Bool} {held : Bool} {r : Reach} {t : TypeId} {v : Value} {d : DataW H} {ps : List MemPlace} (ht : P.underlying t = some .string) (hv : Value.okWide P W r b0 t v) (hd : DataW.Trod enc P W base sp held t v d ps) :
    ∃ s : List UInt8, v = str s ∧ s.length ≤ 9223372036854775807 := by
  obtain ⟨s, rfl, _, _, hs⟩ := Go.ChangeMaps.open_string ht hv hd
  refine ⟨s.data.toList, by simp [str], ?_⟩
  rw [Array.length_toList]
  exact hs
end Go.Eng

/- []byte(s) of a string that is no constant; string(n) of a character. -/
namespace Go.Eng
open Go
section
variable {P : Program} {ops : Array Oper} {Q : Exit → Act → World → Prop} {n : Cx} {F : Fm} {h h' : List Res} {m : View} {rest : List Oper}
variable {ty : TypeId} {pos : String} {after : Array Edge} {d : Nat} {v : Value}
/-- A slice over the first part of a block. -/
theorem Rd.ofPtP {b k cap sz : Nat} {cs zs : List Value} {e : TypeId} {fz : Nat × Nat} (hl : cs.length = k * sz) (hle : k ≤ cap) (hmx : cap ≤ 9223372036854775807) (hm : Res.pt b (.cells (cs ++ zs).toArray e fz) ∈ h) : Rd m h (some ⟨b, 0, none⟩) k cap sz cs :=
  ⟨hl, hle, hmx, fun w st j u hj => ⟨b, 0, rfl, by
    rw [st.pt_cell hm, Nat.zero_add]
    have := (List.getElem?_eq_some_iff.1 hj).1
    simp only [List.getElem?_toArray, List.getElem?_append_left this]
    exact hj⟩⟩
theorem WL.strBytes {x : Operand} {t0 t e : TypeId} {s : List UInt8} (ht0 : P.underlying t0 = some .string) (ht : P.underlying t = some (.slice e)) (he : P.underlying e = some (.int .u8)) (ex : Ev n F x (str s)) (hd : d < n.num) (hs : s.length ≤ 9223372036854775807)
    (kk : ∀ b zs fz cap, s.length ≤ cap → cap ≤ 9223372036854775807 → WL P ops Q n rest ((d, .slice (some ⟨b, 0, none⟩) s.length cap) :: F) (.pt b (.cells (bv s ++ zs).toArray e fz) :: h) m) :
    WL P ops Q n (⟨some d, .convert t0 t x, ty, pos, after, none⟩ :: rest) F h m := .mk fun f w ha st => by
  have hr := Lib.run_convert_string_bytes (P := P) w t0 t e ⟨s.toArray⟩ ht0 ht he
  have hsz : (⟨s.toArray⟩ : ByteArray).size = s.length := by simp [ByteArray.size]
  rw [hsz] at hr
  have hrun : (execOp f.eval ⟨some d, .convert t0 t x, ty, pos, after, none⟩).run P w = .ok (.value (.slice (some ⟨w.heap.size, 0, none⟩) s.length (grownCap w s.length 0 e))) (Lib.bytesWorld w e ⟨s.toArray⟩) := by
    simp [execOp, ex f ha, hr]
  have hC : Lib.bytesCells w e ⟨s.toArray⟩ = (bv s ++ List.replicate (grownCap w s.length 0 e - s.length) (Value.int .u8 0)).toArray := by
    unfold Lib.bytesCells
    rw [hsz]
    simp [bv]
  have hnew : (w.drew.alloc (.cells (Lib.bytesCells w e ⟨s.toArray⟩) e)).heap[w.heap.size]? = some (.cells (Lib.bytesCells w e ⟨s.toArray⟩) e (0, 0)) := new_block w.drew _
  obtain ⟨h1, h2, h3, h4, h5⟩ := freeze_at _ w.heap.size (Lib.bytesCells w e ⟨s.toArray⟩) e (Lib.bytesCells w e ⟨s.toArray⟩).size hnew
  refine wpList_of_wp rfl (wp_of_run hrun (kk w.heap.size (List.replicate (grownCap w s.length 0 e - s.length) (Value.int .u8 0)) ((Lib.bytesCells w e ⟨s.toArray⟩).size, (Lib.bytesCells w e ⟨s.toArray⟩).size + 1) (grownCap w s.length 0 e) (grownCap_ge w s.length 0 e) (grownCap_le_maxLen w s.length 0 e (by unfold maxLen; exact hs)) _ _ (ha.put hd _) ?_))
  have := (st.drew.alloc (.cells (Lib.bytesCells w e ⟨s.toArray⟩) e)).upd (r' := .pt w.heap.size (.cells (Lib.bytesCells w e ⟨s.toArray⟩) e ((Lib.bytesCells w e ⟨s.toArray⟩).size, (Lib.bytesCells w e ⟨s.toArray⟩).size + 1))) Upd.here h3 h4 h5 (fun q _ hq => h2 q (fun e => hq (by rw [e]; rfl))) h1 (fun b hb => .inl hb)
  rw [← hC]
  exact this
end
end Go.Eng

/- Characters, own heaps that grow. -/
namespace Go.Eng
open Go Go.Sort
section
variable {P : Program} {ops : Array Oper} {Q : Exit → Act → World → Prop} {n : Cx} {F : Fm} {h h' : List Res} {m : View} {rest : List Oper} {dst : Option Nat} {g : Option (Nat × Bool)}
variable {ty : TypeId} {pos : String} {after : Array Edge} {d : Nat} {v : Value}
theorem SR.val {eff : List Nat} {t : Tl} {hs hp : List Res} {s : Tr} {v' : Value} (e : v = v') (k : SR P ops Q n eff t hs s ((d, v') :: F) hp m) : SR P ops Q n eff t hs s ((d, v) :: F) hp m := e ▸ k
theorem enc_byte : ∀ c, c < 128 → (Utf8.encode ((c : Nat) : Int)).data.toList = [UInt8.ofNat c] := by decide +kernel
theorem PO.intS {x : Operand} {k : IntKind} {i : Int} {s t : TypeId} {u : TypeDesc} {c : Nat} (hs : P.underlying s = some u) (ht : P.underlying t = some .string) (ex : Ev n F x (.int k i)) (hi : i = (c : Int)) (hc : c < 128) :
    PO P ⟨dst, .convert s t x, ty, pos, after, g⟩ n F h m (str [UInt8.ofNat c]) := .mk fun a w ha _ => by
  subst hi
  have e : Utf8.encode ((c : Nat) : Int) = ⟨[UInt8.ofNat c].toArray⟩ := by
    have := enc_byte c hc
    apply ByteArray.ext
    apply Array.ext'
    simpa using this
  simp [execOp, ex a ha, convert, run_underlying hs, run_underlying ht, Conv.intToString, e]
theorem St.wider {w w' : World} (s : St m h w) (h1 : w'.os = w.os) (h2 : w'.output = w.output) (h3 : w'.tape = w.tape) (hh : ∀ b, b < w.heap.size → w'.heap[b]? = w.heap[b]?) : St m h w' where
  os := h1.trans s.os
  out := h2.trans s.out
  tape := h3.trans s.tape
  blk b o hb := by
    have e := s.blk b o hb
    rw [hh b (lt_of_some e)]
    exact e
  ok r hr := Res.ok_of_block (s.ok r hr) fun b hb => hh b (Res.lt (s.ok r hr) b hb)
  nd := s.nd
  fr := s.fr
theorem CT.ofGrow {f : FuncId} {args : List Value} (he : ∀ as w, (callFunc f as).run P w = .ok (.enter f as) w)
    (hc : ∀ w, St m h w → Calls P f args.toArray w fun e w' => e = .returned v ∧ ∃ k os, w' = grow (w.drewN k) os) : CT P f args h m (Pure1 h v) :=
  ⟨he, fun w st => Calls.mono (hc w st) (by rintro e w' ⟨rfl, k, os, rfl⟩; exact ⟨v, m, h, rfl, View.le.refl m, st.wider rfl rfl rfl (fun b hb => by simp [grow, World.drewN, Array.getElem?_append, hb]), rfl, rfl⟩)⟩
end
end Go.Eng

/- Reading a law's arguments, with their sizes. -/
namespace Go.Eng
open Go
section
variable {H : Type} {enc : TypeId × Value → H} {P : Program} {W : World} {held : Bool} {fuel : Nat} {t : TypeId} {cs : List Value} {x : DataW H × List MemPlace}
theorem rd_strW (ht : P.underlying t = some .string) (h : RdT enc P W held fuel t cs x) : ∃ l : List UInt8, cs = [str l] ∧ l.length ∈ x.1.weights P t := by
  obtain ⟨f, rfl⟩ := rd_pos h
  unfold RdT DataW.trod at h
  rw [ht] at h
  split at h <;> simp_all
  rename_i s
  obtain ⟨_, rfl⟩ := h
  exact ⟨s.data.toList, by simp, by simp [DataW.weights]⟩
theorem rd_structW {fs : Array Field} (ht : P.underlying t = some (.struct fs)) (h : RdT enc P W held fuel t cs x) :
    cs.length = P.cellsOf t ∧ ∃ f, fuel = f + 1 ∧ ∀ q ∈ fs.toList, ∃ (d : DataW H) (p : List MemPlace), RdT enc P W held f q.type ((cs.drop q.offset).take (P.cellsOf q.type)) (d, p) ∧ ∀ n ∈ d.weights P q.type, n ∈ x.1.weights P t := by
  have ht' := ht
  obtain ⟨f, rfl⟩ := rd_pos h
  unfold RdT DataW.trod at h
  rw [ht] at h
  split at h <;> simp_all
  obtain ⟨h1, xs, h2, hx⟩ := h
  intro q hq
  obtain ⟨j, hj⟩ := Array.getElem?_of_mem hq
  obtain ⟨e, k⟩ := mapM_get h2
  obtain ⟨y, hy, hr⟩ := k j q (by simpa using hj)
  refine ⟨y.1, ⟨y.2, hr⟩, fun n hn => ?_⟩
  subst hx
  unfold DataW.weights
  rw [ht']
  exact DataW.weights_mem_each (j := j) (by simp [hj]) (by simp [hy]) n hn
theorem weightsAll_mem {e : TypeId} {d : DataW H} : ∀ {l : List (DataW H)}, d ∈ l → ∀ n ∈ d.weights P e, n ∈ DataW.weightsAll P e l
  | y :: l, hd, n, hn => by
    unfold DataW.weightsAll
    rcases List.mem_cons.1 hd with rfl | hd
    · exact List.mem_append_left _ hn
    · exact List.mem_append_right _ (weightsAll_mem hd n hn)
theorem rd_sliceW {e : TypeId} (ht : P.underlying t = some (.slice e)) (h : RdT enc P W held fuel t cs x) :
    cs = [.slice none 0 0] ∨ ∃ a n c f, cs = [.slice (some a) n c] ∧ fuel = f + 1 ∧ n ≤ c ∧ c ≤ maxLen ∧ ∀ i, i < n → ∃ ys y, W.cells? 0 (a.add (i * P.cellsOf e)) (P.cellsOf e) = some ys ∧ RdT enc P W held f e ys y ∧ ∀ k ∈ y.1.weights P e, k ∈ x.1.weights P t := by
  rcases DataW.trod_slice ht h with ⟨rfl, _⟩ | ⟨a, n, c, el, rs, f, rfl, rfl, rfl, _, h1, h2, h3, h4, _, _⟩
  · exact .inl rfl
  · refine .inr ⟨a, n, c, f, rfl, rfl, h1, h2, fun i hi => ?_⟩
    have he := h4 i hi
    rw [List.getElem?_eq_getElem (by omega)] at he
    cases hc : W.cells? 0 (a.add (i * P.cellsOf e)) (P.cellsOf e) with
    | none => rw [hc] at he; cases he
    | some ys =>
      rw [hc] at he
      refine ⟨ys, el[i]'(by omega), rfl, he, fun k hk => ?_⟩
      unfold DataW.weights
      rw [ht]
      exact List.mem_cons_of_mem _ (List.mem_append_left _ (weightsAll_mem (List.mem_map.2 ⟨_, List.getElem_mem _, rfl⟩) k hk))
theorem slice_argW {α : Type} {Pr : α → Prop} {enc' : α → List Value} {e sz : Nat} (ht : P.underlying t = some (.slice e)) (hsz : P.cellsOf e = sz) (hpos : 0 < sz) (henc : ∀ x, (enc' x).length = sz)
    (hdec : ∀ f ys y, RdT enc P W held f e ys y → (∀ k ∈ y.1.weights P e, k ∈ x.1.weights P t) → ∃ z, ys = enc' z ∧ Pr z) (h : RdT enc P W held fuel t cs x) :
    ∃ a n c l, cs = [.slice a n c] ∧ l.length = n ∧ Sl (viewOf W) a n c sz (fl enc' l) ∧ ∀ z ∈ l, Pr z := by
  rcases rd_sliceW ht h with rfl | ⟨a, n, c, f, rfl, rfl, h1, h2, h3⟩
  · exact ⟨none, 0, 0, [], rfl, rfl, Sl.nil _ _, fun _ h => by cases h⟩
  · rw [hsz] at h3
    have h4 : ∀ i, i < n → ∃ z, W.cells? 0 (a.add (i * sz)) sz = some (enc' z) ∧ Pr z := fun i hi => by
      obtain ⟨ys, y, e1, e2, e3⟩ := h3 i hi
      obtain ⟨z, rfl, hz⟩ := hdec f ys y e2 e3
      exact ⟨z, e1, hz⟩
    obtain ⟨l, hl, hp⟩ := choose_list n h4
    refine ⟨some a, n, c, l, rfl, hl, ⟨by rw [fl_len henc, hl], h1, by unfold maxLen at h2; omega, fun j v hj => ?_⟩, fun z hz => ?_⟩
    · have hjl : j < n * sz := by have := (List.getElem?_eq_some_iff.1 hj).1; rwa [fl_len henc, hl] at this
      have hq : j / sz < n := Nat.div_lt_of_lt_mul (by rwa [Nat.mul_comm] at hjl)
      obtain ⟨z, hz⟩ := get_some (l := l) (k := j / sz) (by omega)
      have hm : j % sz < sz := Nat.mod_lt _ hpos
      have hj2 : (enc' z)[j % sz]? = some v := by
        have := flat_get (sz := sz) enc' henc l (j / sz) (j % sz) hm
        rw [Nat.mul_comm, Nat.div_add_mod, hz] at this
        unfold fl at hj
        rw [hj] at this
        exact this.symm
      obtain ⟨hc, _⟩ := hp _ z hz
      have hcell := (cells_get hc).2 _ v hj2
      have hsp : a.spot = none := by
        obtain ⟨z0, hz0⟩ := get_some (l := l) (k := 0) (by rw [hl]; exact Nat.lt_of_le_of_lt (Nat.zero_le _) hq)
        obtain ⟨v0, hv0⟩ := get_some (l := enc' z0) (k := 0) (by rw [henc]; omega)
        have h0 := (cells_get (hp _ z0 hz0).1).2 _ v0 hv0
        have e0 : (a.add (0 * sz)).add 0 = a := by simp [Addr.add]
        rw [e0] at h0
        unfold World.cell? at h0
        split at h0
        · cases hs : a.spot with
          | none => rfl
          | some q => rw [hs] at h0; cases h0
        · cases h0
      obtain ⟨b, off, sp⟩ := a
      cases hsp
      refine ⟨b, off, rfl, ?_⟩
      rw [Addr.add_lit, Addr.add_lit, Nat.add_assoc, show j / sz * sz + j % sz = j by rw [Nat.mul_comm, Nat.div_add_mod]] at hcell
      exact start_cell hcell
    · obtain ⟨i, hi⟩ := List.getElem?_of_mem hz
      exact (hp i z hi).2
end
end Go.Eng

/- Guards known to say yes, in drawn regions. -/
namespace Go.Eng
open Go
section
variable {P : Program} {ops : Array Oper} {Q : Exit → Act → World → Prop} {n : Cx} {F : Fm} {h h' : List Res} {m : View} {rest : List Oper}
variable {ty : TypeId} {pos : String} {after : Array Edge} {d : Nat} {v : Value} {eff : List Nat} {hs hp : List Res} {i : Nat} {s : Tr}
theorem SR.callU {t : Tl} {f : Operand} {args : List Operand} {tys : Array TypeId} {vs first cap : List Value} {q : FuncId} {gd : Nat × Bool} {c : Bool} {v : Value} (ho : ops[i]? = some ⟨some d, .call ⟨.value f, args.toArray, tys⟩, ty, pos, after, some gd⟩)
    (he : eff.contains i = true) (hg : GU ops n F gd c) (hc : c = true) (ef : Ev n F f (.func (.func q) first.toArray cap.toArray)) (ea : Evs n F args vs) (ct : ∀ fr, CT P q (first ++ vs ++ cap) (fr ++ (hp ++ hs)) m (Pure1 (fr ++ (hp ++ hs)) v)) (hd : d < n.num)
    (k : SR P ops Q n eff t hs s ((d, v) :: F) hp m) : SR P ops Q n eff t hs (.op i s) F hp m := by
  subst hc
  exact SR.callG ho he hg (fun _ => ⟨ef, ea, ct⟩) hd k
theorem SR.buildSliceU {t' : Tl} {t e k : Nat} {sz by_ : Nat} {ps : List (Nat × Operand)} {vs : List (Nat × Value)} {z : Value} {zs cs : List Value} {gd : Nat × Bool} {c : Bool}
    (ho : ops[i]? = some ⟨some d, .buildSlice t k ps.toArray, ty, pos, after, some gd⟩) (he : eff.contains i = true) (hg : GU ops n F gd c) (hc : c = true) (E : EL P t e sz by_) (hz : (P.info? e).bind (·.zero) = some z) (ev : EvP n F ps vs)
    (hzs : zeros z k = some zs) (hf : fillO (fun i => some (i * sz, sz)) zs vs = some cs) (hk : k * sz ≤ 16777216) (h0 : Nat.beq (k * sz) 0 = false) (hd : d < n.num)
    (kk : ∀ b, SR P ops Q n eff t' hs s ((d, .slice (some ⟨b, 0, none⟩) k k) :: F) (.pt b (.cells cs.toArray e (0, 0)) :: hp) m) :
    SR P ops Q n eff t' hs (.op i s) F hp m := ⟨_, ho, fun y hy => by cases hy; exact hd, by
  subst hc
  rw [he]
  refine ⟨fun fr f w hf' st => ?_⟩
  have hy := hg.wanted (dst := some d) (op := .buildSlice t k ps.toArray) (ty := ty) (pos := pos) (after := after) hf'
  refine ⟨fun _ => ?_, fun h => by rw [hy] at h; cases h⟩
  have hrun := run_buildSlice (P := P) w (dst := some d) (ty := ty) (pos := pos) (after := after) (g := some gd) E hz ev hzs hf hk h0 hf'
  rw [hrun]
  exact ⟨m, .pt w.heap.size (.cells cs.toArray e) :: hp, View.le.refl m, (st.alloc _).perm List.perm_middle.symm, fun _ => List.sublist_cons_self _ _, (kk _).e⟩⟩
end
end Go.Eng

/- Door ArgE ArgP LOutside -/
import Derived.Test.YtdhmplmpbcnojaaGreatDoorLOutsideX7
import Derived.SevenTiedAt
import Derived.Test.YtdhmplmpbcnojaaGreatDoorCards
import Derived.Test.YtdhmplmpbcnojaaGreatDoorTie
import Derived.ChangeMaps5
/- Door -/
section
namespace Go.Proofs.YtdhmplmpbcnojaaGreatDoor
open Go Go.Eng Go.RowKit Go.ChangeShapes Go.WideShapes Go.ChangeAt Go.Joins
set_option maxRecDepth 100000
theorem Tryz.own : ownKnob Tryz.prog.godebug = none := by kernel_rfl
theorem Tryz.laidOut : laidOutB Tryz.prog = true := by kernel_rfl
theorem cellsPm : Tryz.prog.cellsOf 240 = 3 := by kernel_rfl
abbrev laidL : List (String × DataW Unit) := [("transputer/types.primitive", Rows.laid_transputer_types_primitive), ("transputer/syntax.one", Rows.laid_transputer_syntax_one), ("transputer/syntax.some", Rows.laid_transputer_syntax_some), ("transputer/syntax.all", Rows.laid_transputer_syntax_all)]
theorem prim_at {W : World} {fuel : Nat} {ys : List Value} {kd sz : Int} {wd : List UInt8} {p : List MemPlace}
   (h : DataW.trod (fun _ => ()) Tryz.prog W 0 (fun _ => true) false fuel 240 ys = some (.agg [.lit (.int .u8 kd), .lit (.string wd), .lit (.int .i64 sz)], p)) :
   ys[0]? = some (.int .u8 kd) ∧ ys[1]? = some (str wd) ∧ ys[2]? = some (.int .i64 sz) := by
 obtain ⟨f, hf⟩ := data_struct u240 h
 obtain ⟨_, h0⟩ := hf 0 _ _ rfl rfl
 obtain ⟨_, h1⟩ := hf 1 _ _ rfl rfl
 obtain ⟨_, h2⟩ := hf 2 _ _ rfl rfl
 exact ⟨Eng.cell_of_cut (data_int u24 h0), Eng.cell_of_cut (data_str u9 h1), Eng.cell_of_cut (data_int u3 h2)⟩
theorem cut_at {cs ys : List Value} {i j : Nat} {v : Value} (e : (cs.drop (i * 3)).take 3 = ys) (h : ys[j]? = some v) : cs[i * 3 + j]? = some v := by
 subst e
 rw [List.getElem?_take] at h
 split at h
 · rwa [List.getElem?_drop] at h
 · cases h
theorem span_at {W : World} {fuel : Nat} {ys : List Value} {a b : Int} {p : List MemPlace} (h : DataW.trod (fun _ => ()) Tryz.prog W 0 (fun _ => true) false fuel 176 ys = some (.agg [.lit (.int .i64 a), .lit (.int .i64 b)], p)) :
   ∀ (j : Nat) (v : Value), ([.int .i64 a, .int .i64 b] : List Value)[j]? = some v → ys[j]? = some v := by
 obtain ⟨f, hf⟩ := data_struct u176 h
 obtain ⟨_, h0⟩ := hf 0 _ _ rfl rfl
 obtain ⟨_, h1⟩ := hf 1 _ _ rfl rfl
 have e0 := Eng.cell_of_cut (data_int u3 h0)
 have e1 := Eng.cell_of_cut (data_int u3 h1)
 intro j v hj
 match j, hj with
 | 0, hj => cases hj; exact e0
 | 1, hj => cases hj; exact e1
theorem glob_of {W : World} (h : laidMet Tryz.prog laidL W) (hsh : W.ShapedOpen Tryz.prog) : Glob (viewOf W) := by
 obtain ⟨_, ⟨g0, t0, cs0, f0, p0, q0, hg0, ht0, hv0, hd0, ⟨g1, t1, cs1, f1, p1, q1, hg1, ht1, hv1, hd1, ⟨g2, t2, cs2, f2, p2, q2, hg2, ht2, hv2, hd2, ⟨g3, t3, cs3, f3, p3, q3, hg3, ht3, hv3, hd3, _, _⟩, _⟩, _⟩, _⟩, _⟩ := h
 obtain rfl := Option.some.inj ((show Tryz.prog.globalNamed "transputer/types.primitive" = some 4 by kernel_rfl).symm.trans hg0)
 obtain rfl := Option.some.inj ((show Tryz.prog.globalNamed "transputer/syntax.one" = some 1 by kernel_rfl).symm.trans hg1)
 obtain rfl := Option.some.inj ((show Tryz.prog.globalNamed "transputer/syntax.some" = some 2 by kernel_rfl).symm.trans hg2)
 obtain rfl := Option.some.inj ((show Tryz.prog.globalNamed "transputer/syntax.all" = some 0 by kernel_rfl).symm.trans hg3)
 obtain rfl := Option.some.inj ((show (Tryz.prog.globals[4]?).map (·.type) = some 241 by kernel_rfl).symm.trans ht0)
 obtain rfl := Option.some.inj ((show (Tryz.prog.globals[1]?).map (·.type) = some 176 by kernel_rfl).symm.trans ht1)
 obtain rfl := Option.some.inj ((show (Tryz.prog.globals[2]?).map (·.type) = some 176 by kernel_rfl).symm.trans ht2)
 obtain rfl := Option.some.inj ((show (Tryz.prog.globals[0]?).map (·.type) = some 176 by kernel_rfl).symm.trans ht3)
 refine ⟨(Tryz.laysM144.s1_3 W hsh).imp fun _ e => start_cell e, fun j v hj => start_cell ?_, fun j v hj => start_cell ?_, fun j v hj => start_cell ?_, fun j v hj => start_cell ?_⟩
 · obtain ⟨f, hf⟩ := data_array u241 hd0
   obtain ⟨_, h0⟩ := hf 0 _ (by decide) rfl
   obtain ⟨_, h1⟩ := hf 1 _ (by decide) rfl
   obtain ⟨_, h2⟩ := hf 2 _ (by decide) rfl
   rw [cellsPm] at h0 h1 h2
   have a0 := prim_at h0
   have a1 := prim_at h1
   have a2 := prim_at h2
   rw [World.var?_cell hg0 hv0 j, ← Array.getElem?_toList]
   match j, hj with
   | 0, hj => cases hj; exact cut_at (i := 0) rfl a0.1
   | 1, hj => cases hj; exact cut_at (i := 0) rfl a0.2.1
   | 2, hj => cases hj; exact cut_at (i := 0) rfl a0.2.2
   | 3, hj => cases hj; exact cut_at (i := 1) rfl a1.1
   | 4, hj => cases hj; exact cut_at (i := 1) rfl a1.2.1
   | 5, hj => cases hj; exact cut_at (i := 1) rfl a1.2.2
   | 6, hj => cases hj; exact cut_at (i := 2) rfl a2.1
   | 7, hj => cases hj; exact cut_at (i := 2) rfl a2.2.1
   | 8, hj => cases hj; exact cut_at (i := 2) rfl a2.2.2
 · rw [World.var?_cell hg1 hv1 j, ← Array.getElem?_toList]
   exact span_at hd1 j v hj
 · rw [World.var?_cell hg2 hv2 j, ← Array.getElem?_toList]
   exact span_at hd2 j v hj
 · rw [World.var?_cell hg3 hv3 j, ← Array.getElem?_toList]
   exact span_at hd3 j v hj
noncomputable def setC (g : Nat) (l : List Value) (hp : Array Obj) : Array Obj := hp.modify g fun
     | .cells _ t fz => .cells l.toArray t fz
     | o => o
noncomputable def laidWorld (os : Os) : World :=
 { World.holding Tryz.prog os ⟨#[], #[], []⟩ with heap := setC 4 primC (setC 1 oneC (setC 2 someC (setC 0 allC (World.holding Tryz.prog os ⟨#[], #[], []⟩).heap))) }
theorem laidWorld_met (os : Os) (args : Array Value) : laidMet Tryz.prog laidL ((laidWorld os).forCall (fun _ _ => 0) ⟨#[], args, []⟩).memory :=
 laidMet_of_run' 8 (by kernel_rfl) (by kernel_rfl)
end Go.Proofs.YtdhmplmpbcnojaaGreatDoor
end
/- ArgE -/
section
namespace Go.Proofs.YtdhmplmpbcnojaaGreatDoor
open Go Go.Eng Go.Ty Go.Xp Go.RowKit Go.ChangeShapes Go.WideShapes Go.ChangeAt Go.Joins
set_option maxRecDepth 100000
variable {H : Type} {enc : TypeId × Value → H} {W : World}
theorem cellsExpr : Tryz.prog.cellsOf 27 = 6 := by kernel_rfl
theorem ex_read : ∀ (fuel : Nat) {cs : List Value} {x : DataW H × List MemPlace}, RdT enc Tryz.prog W true fuel 27 cs x → (∀ q ∈ x.1.weights Tryz.prog 27, q ≤ reachBytes) → ∃ e : Ex, cs = exE e ∧ TOk (viewOf W) [] e ∧ Wf e := by
 intro fuel
 induction fuel using Nat.strongRecOn with
 | _ fuel ih =>
 intro cs x hr hw
 obtain ⟨hl, f, hfu, hf⟩ := rd_structW u27 hr
 rw [cellsExpr] at hl
 match cs, hl with
 | [c0, c1, c2, c3, c4, c5], _ =>
   obtain ⟨_, _, h0, _⟩ := hf _ (.head _)
   obtain ⟨_, _, h1, _⟩ := hf _ (.tail _ (.head _))
   obtain ⟨_, _, h2, _⟩ := hf _ (.tail _ (.tail _ (.head _)))
   obtain ⟨_, _, h3, _⟩ := hf _ (.tail _ (.tail _ (.tail _ (.head _))))
   obtain ⟨_, _, h4, k4⟩ := hf _ (.tail _ (.tail _ (.tail _ (.tail _ (.head _)))))
   obtain ⟨d5, p5, h5, k5⟩ := hf _ (.tail _ (.tail _ (.tail _ (.tail _ (.tail _ (.head _))))))
   obtain ⟨n0, e0, w0⟩ := rd_int u22 h0
   obtain ⟨n1, e1, w1⟩ := rd_int u23 h1
   obtain ⟨n2, e2, w2⟩ := rd_int u24 h2
   obtain ⟨n3, e3, w3⟩ := rd_int u21 h3
   obtain ⟨n4, e4, w4⟩ := rd_strW u9 h4
   obtain ⟨a, n, c, l, e5, hll, hs, hp⟩ := slice_argF (Pr := fun e : Ex => TOk (viewOf W) [] e ∧ Wf e) (enc' := exE) u25 cellsExpr (by decide) exE_len (fun g ys y hg hy hk => by
     obtain ⟨e, he1, he2⟩ := ih g (by omega) hy fun q hq => hw q (k5 q (hk q hq))
     exact ⟨e, he1, he2⟩) h5
   obtain rfl : c0 = .int .u8 n0 := List.head_eq_of_cons_eq e0
   obtain rfl : c1 = .int .u8 n1 := List.head_eq_of_cons_eq e1
   obtain rfl : c2 = .int .u8 n2 := List.head_eq_of_cons_eq e2
   obtain rfl : c3 = .int .i32 n3 := List.head_eq_of_cons_eq e3
   obtain rfl : c4 = str n4 := List.head_eq_of_cons_eq e4
   obtain rfl : c5 = .slice a n c := List.head_eq_of_cons_eq e5
   subst hll
   have u0 : 0 ≤ n0 ∧ n0 ≤ 255 := by simpa [Lit.wf, show IntKind.u8.min = 0 from rfl, show IntKind.u8.max = 255 from rfl] using w0
   have u1 : 0 ≤ n1 ∧ n1 ≤ 255 := by simpa [Lit.wf, show IntKind.u8.min = 0 from rfl, show IntKind.u8.max = 255 from rfl] using w1
   have u2 : 0 ≤ n2 ∧ n2 ≤ 255 := by simpa [Lit.wf, show IntKind.u8.min = 0 from rfl, show IntKind.u8.max = 255 from rfl] using w2
   have u3 : -2147483648 ≤ n3 ∧ n3 ≤ 2147483647 := by simp [Lit.wf] at w3; exact w3
   exact ⟨.mk n0 n1 n2 n3 n4 a c l, rfl, .mk (Rd.ofSl hs) fun y hy => (hp y hy).1, .mk u0 u1 u2 u3 (Nat.le_trans (hw _ (k4 _ w4)) (by decide)) fun y hy => (hp y hy).2⟩
end Go.Proofs.YtdhmplmpbcnojaaGreatDoor
end
/- ArgP -/
section
namespace Go.Proofs.YtdhmplmpbcnojaaGreatDoor
open Go.Xp hiding B
open Go Go.Eng Go.Ty Go.Pc Go.RowKit Go.ChangeShapes Go.WideShapes Go.ChangeAt Go.Joins
open Go.Lx (encB encB_len)
set_option maxRecDepth 100000
variable {H : Type} {enc : TypeId × Value → H} {W : World}
abbrev Wt (x : DataW H × List MemPlace) (t : TypeId) : Prop := ∀ q ∈ x.1.weights Tryz.prog t, q ≤ reachBytes
theorem cut_chain (cs : List Value) (i n : Nat) : cs.drop i = (cs.drop i).take n ++ cs.drop (i + n) := by
 rw [← List.drop_drop, List.take_append_drop]
theorem cellsStr : Tryz.prog.cellsOf 9 = 1 := by kernel_rfl
theorem cellsInt : Tryz.prog.cellsOf 3 = 1 := by kernel_rfl
theorem cellsTy : Tryz.prog.cellsOf 30 = 4 := by kernel_rfl
theorem cellsVr : Tryz.prog.cellsOf 102 = 2 := by kernel_rfl
theorem cellsTk : Tryz.prog.cellsOf 24 = 1 := by kernel_rfl
theorem cellsPo : Tryz.prog.cellsOf 51 = 2 := by kernel_rfl
theorem cellsFo : Tryz.prog.cellsOf 60 = 6 := by kernel_rfl
theorem cellsRp : Tryz.prog.cellsOf 43 = 13 := by kernel_rfl
theorem cellsSp : Tryz.prog.cellsOf 54 = 16 := by kernel_rfl
theorem cellsGu : Tryz.prog.cellsOf 70 = 23 := by kernel_rfl
theorem cellsPr : Tryz.prog.cellsOf 56 = 42 := by kernel_rfl
theorem u8_wf {n : Int} (w : (Lit.int .u8 n).wf = true) : 0 ≤ n ∧ n ≤ 255 := by simpa [Lit.wf, show IntKind.u8.min = 0 from rfl, show IntKind.u8.max = 255 from rfl] using w
theorem i64_wf {n : Int} (w : (Lit.int .i64 n).wf = true) : -9223372036854775808 ≤ n ∧ n ≤ 9223372036854775807 := by
 simp [Lit.wf] at w
 exact w
theorem ty_readW {fuel : Nat} {cs : List Value} {x : DataW H × List MemPlace} (hr : RdT enc Tryz.prog W true fuel 30 cs x) (hw : Wt x 30) : ∃ t : Ty, cs = cellT t ∧ TyW t := by
 obtain ⟨hl, f, _, hf⟩ := rd_structW u30 hr
 rw [cellsTy] at hl
 match cs, hl with
 | [c0, c1, c2, c3], _ =>
   obtain ⟨_, _, h0, _⟩ := hf _ (.head _)
   obtain ⟨_, _, h1, _⟩ := hf _ (.tail _ (.head _))
   obtain ⟨_, _, h2, _⟩ := hf _ (.tail _ (.tail _ (.head _)))
   obtain ⟨_, _, h3, k3⟩ := hf _ (.tail _ (.tail _ (.tail _ (.head _))))
   obtain ⟨n0, e0, w0⟩ := rd_int u24 h0
   obtain ⟨n1, e1, w1⟩ := rd_int u3 h1
   obtain ⟨n2, e2, w2⟩ := rd_int u24 h2
   obtain ⟨n3, e3, w3⟩ := rd_strW u9 h3
   obtain rfl : c0 = .int .u8 n0 := List.head_eq_of_cons_eq e0
   obtain rfl : c1 = .int .i64 n1 := List.head_eq_of_cons_eq e1
   obtain rfl : c2 = .int .u8 n2 := List.head_eq_of_cons_eq e2
   obtain rfl : c3 = str n3 := List.head_eq_of_cons_eq e3
   exact ⟨⟨n0, n1, n2, n3⟩, rfl, u8_wf w0, u8_wf w2, i64_wf w1, Nat.le_trans (hw _ (k3 _ w3)) (by decide)⟩
theorem str_readW {fuel : Nat} {cs : List Value} {x : DataW H × List MemPlace} (hr : RdT enc Tryz.prog W true fuel 9 cs x) (hw : Wt x 9) : ∃ s : List UInt8, cs = encB s ∧ s.length ≤ Big := by
 obtain ⟨s, e, w⟩ := rd_strW u9 hr
 exact ⟨s, e, Nat.le_trans (hw _ w) (by decide)⟩
theorem fo_read {fuel : Nat} {cs : List Value} {x : DataW H × List MemPlace} (hr : RdT enc Tryz.prog W true fuel 60 cs x) (hw : Wt x 60) : ∃ f : Fo, cs = foE f ∧ FoW f := by
 obtain ⟨hl, f, _, hf⟩ := rd_structW u60 hr
 rw [cellsFo] at hl
 obtain ⟨_, _, h0, _⟩ := hf _ (.head _)
 obtain ⟨_, _, h1, k1⟩ := hf _ (.tail _ (.head _))
 obtain ⟨_, _, h2, k2⟩ := hf _ (.tail _ (.tail _ (.head _)))
 obtain ⟨b, e0⟩ := rd_bool u4 h0
 obtain ⟨t, e1, w1⟩ := ty_readW h1 fun q hq => hw q (k1 q hq)
 obtain ⟨s, e2, w2⟩ := str_readW h2 fun q hq => hw q (k2 q hq)
 refine ⟨⟨b, t, s⟩, ?_, w1, w2⟩
 have h : cs.drop 6 = [] := List.drop_eq_nil_of_le (by omega)
 rw [show cs = cs.drop 0 from rfl, cut_chain cs 0 1, show (cs.drop 0).take 1 = _ from e0, cut_chain cs 1 4, show (cs.drop (0 + 1)).take 4 = _ from e1, cut_chain cs 5 1, show (cs.drop (1 + 4)).take 1 = _ from e2, h]
 rfl
theorem ex_readE {fuel : Nat} {cs : List Value} {x : DataW H × List MemPlace} (hr : RdT enc Tryz.prog W true fuel 27 cs x) (hw : Wt x 27) : ∃ e : Ex, cs = exE e ∧ EOk (viewOf W) [] e := by
 obtain ⟨e, h1, h2, h3⟩ := ex_read fuel hr hw
 exact ⟨e, h1, h2, h3⟩
theorem exs_read {fuel : Nat} {cs : List Value} {x : DataW H × List MemPlace} (hr : RdT enc Tryz.prog W true fuel 25 cs x) (hw : Wt x 25) : ∃ s : Sli Ex, cs = [.slice s.a s.l.length s.c] ∧ LOk (viewOf W) [] s := by
 obtain ⟨a, n, c, l, e, hl, hs, hp⟩ := slice_argF (Pr := fun e : Ex => EOk (viewOf W) [] e) (enc' := exE) u25 cellsExpr (by decide) exE_len (fun g ys y _ hy hk => ex_readE hy fun q hq => hw q (hk q hq)) hr
 subst hl
 exact ⟨⟨a, c, l⟩, e, Rd.ofSl hs, hp⟩
theorem strs_read {fuel : Nat} {cs : List Value} {x : DataW H × List MemPlace} (hr : RdT enc Tryz.prog W true fuel 48 cs x) (hw : Wt x 48) : ∃ s : Sli B, cs = [.slice s.a s.l.length s.c] ∧ Rd (viewOf W) [] s.a s.l.length s.c 1 (fl encB s.l) ∧ ∀ x ∈ s.l, x.length ≤ Big := by
 obtain ⟨a, n, c, l, e, hl, hs, hp⟩ := slice_argF (Pr := fun x : B => x.length ≤ Big) (enc' := encB) u48 cellsStr (by decide) encB_len (fun g ys y _ hy hk => str_readW hy fun q hq => hw q (hk q hq)) hr
 subst hl
 exact ⟨⟨a, c, l⟩, e, Rd.ofSl hs, hp⟩
theorem ints_read {fuel : Nat} {cs : List Value} {x : DataW H × List MemPlace} (hr : RdT enc Tryz.prog W true fuel 46 cs x) : ∃ s : Sli Int, cs = [.slice s.a s.l.length s.c] ∧ Rd (viewOf W) [] s.a s.l.length s.c 1 (fl encN s.l) ∧ ∀ x ∈ s.l, -9223372036854775808 ≤ x ∧ x ≤ 9223372036854775807 := by
 obtain ⟨a, n, c, l, e, hl, hs, hp⟩ := slice_argF (Pr := fun x : Int => -9223372036854775808 ≤ x ∧ x ≤ 9223372036854775807) (enc' := encN) u46 cellsInt (by decide) encN_len (fun g ys y _ hy _ => by
   obtain ⟨n, e, w⟩ := rd_int u3 hy
   exact ⟨n, e, i64_wf w⟩) hr
 subst hl
 exact ⟨⟨a, c, l⟩, e, Rd.ofSl hs, hp⟩
theorem fos_read {fuel : Nat} {cs : List Value} {x : DataW H × List MemPlace} (hr : RdT enc Tryz.prog W true fuel 52 cs x) (hw : Wt x 52) : ∃ s : Sli Fo, cs = [.slice s.a s.l.length s.c] ∧ Rd (viewOf W) [] s.a s.l.length s.c 6 (fl foE s.l) ∧ ∀ x ∈ s.l, FoW x := by
 obtain ⟨a, n, c, l, e, hl, hs, hp⟩ := slice_argF (Pr := fun x : Fo => FoW x) (enc' := foE) u52 cellsFo (by decide) foE_len (fun g ys y _ hy hk => fo_read hy fun q hq => hw q (hk q hq)) hr
 subst hl
 exact ⟨⟨a, c, l⟩, e, Rd.ofSl hs, hp⟩
theorem rp_read {fuel : Nat} {cs : List Value} {x : DataW H × List MemPlace} (hr : RdT enc Tryz.prog W true fuel 43 cs x) (hw : Wt x 43) : ∃ r : Rp, cs = rpE r ∧ r.name.length ≤ Big ∧ EOk (viewOf W) [] r.base ∧ EOk (viewOf W) [] r.count := by
 obtain ⟨hl, f, _, hf⟩ := rd_structW u43 hr
 rw [cellsRp] at hl
 obtain ⟨_, _, h0, k0⟩ := hf _ (.head _)
 obtain ⟨_, _, h1, k1⟩ := hf _ (.tail _ (.head _))
 obtain ⟨_, _, h2, k2⟩ := hf _ (.tail _ (.tail _ (.head _)))
 obtain ⟨s, e0, w0⟩ := str_readW h0 fun q hq => hw q (k0 q hq)
 obtain ⟨b, e1, w1⟩ := ex_readE h1 fun q hq => hw q (k1 q hq)
 obtain ⟨c, e2, w2⟩ := ex_readE h2 fun q hq => hw q (k2 q hq)
 refine ⟨⟨s, b, c⟩, ?_, w0, w1, w2⟩
 have h : cs.drop 13 = [] := List.drop_eq_nil_of_le (by omega)
 rw [show cs = cs.drop 0 from rfl, cut_chain cs 0 1, show (cs.drop 0).take 1 = _ from e0, cut_chain cs 1 6, show (cs.drop (0 + 1)).take 6 = _ from e1, cut_chain cs 7 6, show (cs.drop (1 + 6)).take 6 = _ from e2, h]
 rfl
theorem vr_readW {fuel : Nat} {cs : List Value} {x : DataW H × List MemPlace} (hr : RdT enc Tryz.prog W true fuel 102 cs x) (hw : Wt x 102) : ∃ v : Vr, cs = encV v ∧ (VOk (viewOf W) [] v ∧ v.tag.length ≤ 9223372036854775807) ∧ v.items.length = v.n := by
 obtain ⟨hl, f, _, hf⟩ := rd_structW u102 hr
 rw [cellsVr] at hl
 match cs, hl with
 | [c0, c1], _ =>
   obtain ⟨_, _, h0, k0⟩ := hf _ (.head _)
   obtain ⟨_, _, h1, k1⟩ := hf _ (.tail _ (.head _))
   obtain ⟨n0, e0, w0⟩ := str_readW h0 fun q hq => hw q (k0 q hq)
   obtain ⟨a, n, c, l, e1, hll, hs, _⟩ := slice_argF (Pr := fun _ : Int => True) (enc' := encI) u100 cellsTk (by decide) encI_len (fun g ys y _ hy _ => by
     obtain ⟨n, e, _⟩ := rd_int u24 hy
     exact ⟨n, e, trivial⟩) h1
   obtain rfl : c0 = str n0 := List.head_eq_of_cons_eq e0
   obtain rfl : c1 = .slice a n c := List.head_eq_of_cons_eq e1
   exact ⟨⟨n0, a, n, c, l⟩, rfl, ⟨⟨Rd.ofSl hs⟩, Nat.le_trans w0 (by decide)⟩, hll⟩
theorem po_read {fuel : Nat} {cs : List Value} {x : DataW H × List MemPlace} (hr : RdT enc Tryz.prog W true fuel 51 cs x) (hw : Wt x 51) : ∃ (b : Bool) (s : Sli Vr), cs = [.bool b, .slice s.a s.l.length s.c] ∧ PrOk (viewOf W) [] s.a s.l.length s.c s.l ∧ ∀ x ∈ s.l, x.items.length = x.n := by
 obtain ⟨hl, f, _, hf⟩ := rd_structW u51 hr
 rw [cellsPo] at hl
 match cs, hl with
 | [c0, c1], _ =>
   obtain ⟨_, _, h0, _⟩ := hf _ (.head _)
   obtain ⟨_, _, h1, k1⟩ := hf _ (.tail _ (.head _))
   obtain ⟨b, e0⟩ := rd_bool u4 h0
   obtain ⟨a, n, c, l, e1, hll, hs, hp⟩ := slice_argF (Pr := fun v : Vr => (VOk (viewOf W) [] v ∧ v.tag.length ≤ 9223372036854775807) ∧ v.items.length = v.n) (enc' := encV) u49 cellsVr (by decide) encV_len (fun g ys y _ hy hk => vr_readW hy fun q hq => hw q (k1 q (hk q hq))) h1
   obtain rfl : c0 = .bool b := List.head_eq_of_cons_eq e0
   obtain rfl : c1 = .slice a n c := List.head_eq_of_cons_eq e1
   subst hll
   exact ⟨b, ⟨a, c, l⟩, rfl, ⟨Rd.ofSl hs, fun v hv => (hp v hv).1.1, fun v hv => (hp v hv).1.2⟩, fun v hv => (hp v hv).2⟩
abbrev PsR (fuel : Nat) : Prop := ∀ g, g < fuel → ∀ {cs : List Value} {x : DataW H × List MemPlace}, RdT enc Tryz.prog W true g 56 cs x → Wt x 56 → ∃ p : Pr, cs = prE p ∧ POk (viewOf W) [] p
theorem prs_read {fuel : Nat} (ih : PsR (enc := enc) (W := W) fuel) {cs : List Value} {x : DataW H × List MemPlace} (hr : RdT enc Tryz.prog W true fuel 45 cs x) (hw : Wt x 45) :
   ∃ a c l, cs = [.slice a l.length c] ∧ Rd (viewOf W) [] a l.length c 42 (fl prE l) ∧ ∀ p ∈ l, POk (viewOf W) [] p := by
 obtain ⟨a, n, c, l, e, hl, hs, hp⟩ := slice_argF (Pr := fun p : Pr => POk (viewOf W) [] p) (enc' := prE) u45 cellsPr (by decide) prE_len (fun g ys y hg hy hk => ih g hg hy fun q hq => hw q (hk q hq)) hr
 subst hl
 exact ⟨a, c, l, e, Rd.ofSl hs, hp⟩
theorem PsR.less {f g : Nat} (ih : PsR (enc := enc) (W := W) f) (h : g ≤ f) : PsR (enc := enc) (W := W) g := fun k hk => ih k (Nat.lt_of_lt_of_le hk h)
theorem sp_read {fuel : Nat} (ih : PsR (enc := enc) (W := W) fuel) {cs : List Value} {x : DataW H × List MemPlace} (hr : RdT enc Tryz.prog W true fuel 54 cs x) (hw : Wt x 54) :
   ∃ s : Sp, cs = spE s ∧ SOk (viewOf W) [] s ∧ ∀ p ∈ s.bl, POk (viewOf W) [] p := by
 obtain ⟨hl, f, hfu, hf⟩ := rd_structW u54 hr
 rw [cellsSp] at hl
 obtain ⟨_, _, h0, _⟩ := hf _ (.head _)
 obtain ⟨_, _, h1, k1⟩ := hf _ (.tail _ (.head _))
 obtain ⟨_, _, h2, k2⟩ := hf _ (.tail _ (.tail _ (.head _)))
 obtain ⟨_, _, h3, k3⟩ := hf _ (.tail _ (.tail _ (.tail _ (.head _))))
 obtain ⟨_, _, h4, k4⟩ := hf _ (.tail _ (.tail _ (.tail _ (.tail _ (.head _)))))
 obtain ⟨_, _, h5, k5⟩ := hf _ (.tail _ (.tail _ (.tail _ (.tail _ (.tail _ (.head _))))))
 obtain ⟨_, _, h6, k6⟩ := hf _ (.tail _ (.tail _ (.tail _ (.tail _ (.tail _ (.tail _ (.head _)))))))
 obtain ⟨n0, e0, w0⟩ := rd_int u47 h0
 obtain ⟨t1, e1, w1⟩ := ty_readW h1 fun q hq => hw q (k1 q hq)
 obtain ⟨s2, e2, r2, w2⟩ := strs_read h2 fun q hq => hw q (k2 q hq)
 obtain ⟨x3, e3, w3⟩ := ex_readE h3 fun q hq => hw q (k3 q hq)
 obtain ⟨b4, s4, e4, r4, w4⟩ := po_read h4 fun q hq => hw q (k4 q hq)
 obtain ⟨s5, e5, r5, w5⟩ := fos_read h5 fun q hq => hw q (k5 q hq)
 obtain ⟨a6, c6, l6, e6, r6, w6⟩ := prs_read (ih.less (by omega)) h6 fun q hq => hw q (k6 q hq)
 refine ⟨.mk n0 t1 s2 x3 b4 s4 s5 a6 c6 l6, ?_, ⟨u8_wf w0, w1, r2, w2, w3, r4, w4, r5, w5, r6⟩, w6⟩
 have h : cs.drop 16 = [] := List.drop_eq_nil_of_le (by omega)
 rw [show cs = cs.drop 0 from rfl, cut_chain cs 0 1, show (cs.drop 0).take 1 = _ from e0, cut_chain cs 1 4, show (cs.drop (0 + 1)).take 4 = _ from e1, cut_chain cs 5 1, show (cs.drop (1 + 4)).take 1 = _ from e2,
   cut_chain cs 6 6, show (cs.drop (5 + 1)).take 6 = _ from e3, cut_chain cs 12 2, show (cs.drop (6 + 6)).take 2 = _ from e4, cut_chain cs 14 1, show (cs.drop (12 + 2)).take 1 = _ from e5, cut_chain cs 15 1, show (cs.drop (14 + 1)).take 1 = _ from e6, h]
 rfl
theorem gu_read {fuel : Nat} (ih : PsR (enc := enc) (W := W) fuel) {cs : List Value} {x : DataW H × List MemPlace} (hr : RdT enc Tryz.prog W true fuel 70 cs x) (hw : Wt x 70) :
   ∃ g : Gu, cs = guE g ∧ GOk (viewOf W) [] g ∧ ∀ p ∈ g.bl, POk (viewOf W) [] p := by
 obtain ⟨hl, f, hfu, hf⟩ := rd_structW u70 hr
 rw [cellsGu] at hl
 obtain ⟨_, _, h0, _⟩ := hf _ (.head _)
 obtain ⟨_, _, h1, k1⟩ := hf _ (.tail _ (.head _))
 obtain ⟨_, _, h2, k2⟩ := hf _ (.tail _ (.tail _ (.head _)))
 obtain ⟨_, _, h3, k3⟩ := hf _ (.tail _ (.tail _ (.tail _ (.head _))))
 obtain ⟨_, _, h4, k4⟩ := hf _ (.tail _ (.tail _ (.tail _ (.tail _ (.head _)))))
 obtain ⟨_, _, h5, k5⟩ := hf _ (.tail _ (.tail _ (.tail _ (.tail _ (.tail _ (.head _))))))
 obtain ⟨_, _, h6, k6⟩ := hf _ (.tail _ (.tail _ (.tail _ (.tail _ (.tail _ (.tail _ (.head _)))))))
 obtain ⟨_, _, h7, k7⟩ := hf _ (.tail _ (.tail _ (.tail _ (.tail _ (.tail _ (.tail _ (.tail _ (.head _))))))))
 obtain ⟨n0, e0, w0⟩ := rd_int u68 h0
 obtain ⟨s1, e1, w1⟩ := str_readW h1 fun q hq => hw q (k1 q hq)
 obtain ⟨x2, e2, w2⟩ := ex_readE h2 fun q hq => hw q (k2 q hq)
 obtain ⟨x3, e3, w3⟩ := ex_readE h3 fun q hq => hw q (k3 q hq)
 obtain ⟨s4, e4, w4⟩ := exs_read h4 fun q hq => hw q (k4 q hq)
 obtain ⟨s5, e5, w5⟩ := exs_read h5 fun q hq => hw q (k5 q hq)
 obtain ⟨x6, e6, w6⟩ := ex_readE h6 fun q hq => hw q (k6 q hq)
 obtain ⟨a7, c7, l7, e7, r7, w7⟩ := prs_read (ih.less (by omega)) h7 fun q hq => hw q (k7 q hq)
 refine ⟨.mk n0 s1 x2 x3 s4 s5 x6 a7 c7 l7, ?_, ⟨u8_wf w0, w1, w2, w3, w4, w5, w6, r7⟩, w7⟩
 have h : cs.drop 23 = [] := List.drop_eq_nil_of_le (by omega)
 rw [show cs = cs.drop 0 from rfl, cut_chain cs 0 1, show (cs.drop 0).take 1 = _ from e0, cut_chain cs 1 1, show (cs.drop (0 + 1)).take 1 = _ from e1, cut_chain cs 2 6, show (cs.drop (1 + 1)).take 6 = _ from e2,
   cut_chain cs 8 6, show (cs.drop (2 + 6)).take 6 = _ from e3, cut_chain cs 14 1, show (cs.drop (8 + 6)).take 1 = _ from e4, cut_chain cs 15 1, show (cs.drop (14 + 1)).take 1 = _ from e5, cut_chain cs 16 6, show (cs.drop (15 + 1)).take 6 = _ from e6, cut_chain cs 22 1, show (cs.drop (16 + 6)).take 1 = _ from e7, h]
 rfl
theorem gus_read {fuel : Nat} (ih : PsR (enc := enc) (W := W) fuel) {cs : List Value} {x : DataW H × List MemPlace} (hr : RdT enc Tryz.prog W true fuel 44 cs x) (hw : Wt x 44) :
   ∃ a c l, cs = [.slice a l.length c] ∧ Rd (viewOf W) [] a l.length c 23 (fl guE l) ∧ ∀ g ∈ l, GOk (viewOf W) [] g ∧ ∀ p ∈ g.bl, POk (viewOf W) [] p := by
 obtain ⟨a, n, c, l, e, hl, hs, hp⟩ := slice_argF (Pr := fun g : Gu => GOk (viewOf W) [] g ∧ ∀ p ∈ g.bl, POk (viewOf W) [] p) (enc' := guE) u44 cellsGu (by decide) guE_len (fun g ys y hg hy hk => gu_read (ih.less (by omega)) hy fun q hq => hw q (hk q hq)) hr
 subst hl
 exact ⟨a, c, l, e, Rd.ofSl hs, hp⟩
theorem pr_read : ∀ (fuel : Nat) {cs : List Value} {x : DataW H × List MemPlace}, RdT enc Tryz.prog W true fuel 56 cs x → Wt x 56 → ∃ p : Pr, cs = prE p ∧ POk (viewOf W) [] p := by
 intro fuel
 induction fuel using Nat.strongRecOn with
 | _ fuel ih =>
 intro cs x hr hw
 replace ih : PsR (enc := enc) (W := W) fuel := fun g hg => ih g hg
 obtain ⟨hl, f, hfu, hf⟩ := rd_structW u56 hr
 rw [cellsPr] at hl
 obtain ⟨_, _, h0, _⟩ := hf _ (.head _)
 obtain ⟨_, _, h1, k1⟩ := hf _ (.tail _ (.head _))
 obtain ⟨_, _, h2, k2⟩ := hf _ (.tail _ (.tail _ (.head _)))
 obtain ⟨_, _, h3, k3⟩ := hf _ (.tail _ (.tail _ (.tail _ (.head _))))
 obtain ⟨_, _, h4, k4⟩ := hf _ (.tail _ (.tail _ (.tail _ (.tail _ (.head _)))))
 obtain ⟨_, _, h5, k5⟩ := hf _ (.tail _ (.tail _ (.tail _ (.tail _ (.tail _ (.head _))))))
 obtain ⟨_, _, h6, k6⟩ := hf _ (.tail _ (.tail _ (.tail _ (.tail _ (.tail _ (.tail _ (.head _)))))))
 obtain ⟨_, _, h7, k7⟩ := hf _ (.tail _ (.tail _ (.tail _ (.tail _ (.tail _ (.tail _ (.tail _ (.head _))))))))
 obtain ⟨_, _, h8, _⟩ := hf _ (.tail _ (.tail _ (.tail _ (.tail _ (.tail _ (.tail _ (.tail _ (.tail _ (.head _)))))))))
 obtain ⟨_, _, h9, k9⟩ := hf _ (.tail _ (.tail _ (.tail _ (.tail _ (.tail _ (.tail _ (.tail _ (.tail _ (.tail _ (.head _))))))))))
 obtain ⟨n0, e0, w0⟩ := rd_int u41 h0
 obtain ⟨s1, e1, w1⟩ := str_readW h1 fun q hq => hw q (k1 q hq)
 obtain ⟨x2, e2, w2⟩ := ex_readE h2 fun q hq => hw q (k2 q hq)
 obtain ⟨s3, e3, w3⟩ := exs_read h3 fun q hq => hw q (k3 q hq)
 obtain ⟨s4, e4, w4⟩ := exs_read h4 fun q hq => hw q (k4 q hq)
 obtain ⟨r5, e5, w5, wb5, wc5⟩ := rp_read h5 fun q hq => hw q (k5 q hq)
 obtain ⟨a6, c6, l6, e6, r6, w6⟩ := gus_read (ih.less (by omega)) h6 fun q hq => hw q (k6 q hq)
 obtain ⟨a7, c7, l7, e7, r7, w7⟩ := prs_read (ih.less (by omega)) h7 fun q hq => hw q (k7 q hq)
 obtain ⟨s8, e8, r8, w8⟩ := ints_read h8
 obtain ⟨s9, e9, r9, w9⟩ := sp_read (ih.less (by omega)) h9 fun q hq => hw q (k9 q hq)
 refine ⟨.mk n0 s1 x2 s3 s4 r5 a6 c6 l6 a7 c7 l7 s8 s9, ?_, .mk ⟨u8_wf w0, w1, w2, w3, w4, w5, wb5, wc5, r6, fun g hg => (w6 g hg).1, r7, r8, w8, r9⟩ fun y hy => ?_⟩
 · have h : cs.drop 42 = [] := List.drop_eq_nil_of_le (by omega)
   rw [show cs = cs.drop 0 from rfl, cut_chain cs 0 1, show (cs.drop 0).take 1 = _ from e0, cut_chain cs 1 1, show (cs.drop (0 + 1)).take 1 = _ from e1, cut_chain cs 2 6, show (cs.drop (1 + 1)).take 6 = _ from e2,
     cut_chain cs 8 1, show (cs.drop (2 + 6)).take 1 = _ from e3, cut_chain cs 9 1, show (cs.drop (8 + 1)).take 1 = _ from e4, cut_chain cs 10 13, show (cs.drop (9 + 1)).take 13 = _ from e5, cut_chain cs 23 1, show (cs.drop (10 + 13)).take 1 = _ from e6,
     cut_chain cs 24 1, show (cs.drop (23 + 1)).take 1 = _ from e7, cut_chain cs 25 1, show (cs.drop (24 + 1)).take 1 = _ from e8, cut_chain cs 26 16, show (cs.drop (25 + 1)).take 16 = _ from e9, h]
   rfl
 · cases hy with
   | l h => exact w7 y h
   | s h => exact w9 y h
   | g hg h => exact (w6 _ hg).2 y h
theorem prs_all (fuel : Nat) : PsR (enc := enc) (W := W) fuel := fun g _ => pr_read g
theorem pr_arg {r : Reach} {base : Nat} {v : Value} {d : DataW H} {p : List MemPlace} (hv : Value.okWide Tryz.prog W r base 56 v) (h : DataW.Trod enc Tryz.prog W 0 (fun _ => true) true 56 v d p) (hw : ∀ q ∈ d.weights Tryz.prog 56, q ≤ reachBytes) :
   ∃ x : Pr, v = prV x ∧ POk (viewOf W) [] x := by
 obtain ⟨cs, rfl, _⟩ := okWide_struct u56 hv
 obtain ⟨fuel, hf⟩ := h
 obtain ⟨e, he, ht⟩ := pr_read fuel (x := (d, p)) hf hw
 refine ⟨e, ?_, ht⟩
 unfold Pc.prV
 rw [← show cs.toList = prE e from he]
theorem sp_arg {r : Reach} {base : Nat} {v : Value} {d : DataW H} {p : List MemPlace} (hv : Value.okWide Tryz.prog W r base 54 v) (h : DataW.Trod enc Tryz.prog W 0 (fun _ => true) true 54 v d p) (hw : ∀ q ∈ d.weights Tryz.prog 54, q ≤ reachBytes) :
   ∃ x : Sp, v = spV x ∧ SOk (viewOf W) [] x ∧ ∀ y ∈ x.bl, POk (viewOf W) [] y := by
 obtain ⟨cs, rfl, _⟩ := okWide_struct u54 hv
 obtain ⟨fuel, hf⟩ := h
 obtain ⟨e, he, ht⟩ := sp_read (prs_all fuel) (x := (d, p)) hf hw
 refine ⟨e, ?_, ht⟩
 unfold spV
 rw [← show cs.toList = spE e from he]
theorem sps_arg {v : Value} {d : DataW H} {p : List MemPlace} {r : Reach} {base : Nat} (hv : Value.okWide Tryz.prog W r base 28 v) (h : DataW.Trod enc Tryz.prog W 0 (fun _ => true) true 28 v d p) (hw : ∀ q ∈ d.weights Tryz.prog 28, q ≤ reachBytes) :
   ∃ a k c l, v = .slice a k c ∧ Rd (viewOf W) [] a k c 16 (fl spE l) ∧ ∀ s ∈ l, SOk (viewOf W) [] s := by
 obtain ⟨a, k, c, rfl⟩ := okWide_slice u28 hv
 obtain ⟨fuel, hf⟩ := h
 obtain ⟨a', k', c', l, e, hl, hs, hp⟩ := slice_argF (x := (d, p)) (Pr := fun s : Sp => SOk (viewOf W) [] s) (enc' := spE) u28 cellsSp (by decide) spE_len (fun g ys y _ hy hk => by
   obtain ⟨s, h1, h2, _⟩ := sp_read (prs_all g) hy fun q hq => hw q (hk q hq)
   exact ⟨s, h1, h2⟩) hf
 have e := List.head_eq_of_cons_eq (show [Value.slice a k c] = [.slice a' k' c'] from e)
 cases e
 exact ⟨a, k, c, l, rfl, Rd.ofSl hs, hp⟩
end Go.Proofs.YtdhmplmpbcnojaaGreatDoor
end
/- LOutside -/
section
namespace Go.Proofs.YtdhmplmpbcnojaaGreatDoor
open Go Go.Eng Go.RowKit Go.ChangeShapes Go.WideShapes Go.ChangeAt Go.Joins

set_option maxRecDepth 100000 in
theorem typingOutside_lifted (os : Os) (started : os.Started) (H : Type) (enc : TypeId × Value → H) :
   ReturnsInHanded {} Tryz.checked os 5 .any (fun w args => (Rows.typingOutsideSpec.pre enc Tryz.prog Tryz.f5 [] false w args ∧ laidMet Tryz.prog laidL w) ∧ sizedMet enc Tryz.prog Tryz.f5 (OpenSpec.ofChange Rows.typingOutsideSpec) false w args)
     (Rows.typingOutsideSpec.post enc Tryz.prog Tryz.f5 false true false false) := by
 refine returnsInHanded_laid (C := Tryz.checked) Tryz.own started (by kernel_rfl) Tryz.func5
   (ChangeSpec.witness_at (enc := enc) (C := Tryz.checked) (os := os) (X := fun w _ => laidMet Tryz.prog laidL w) false (laidWorld os) #[.agg #[.int .u8 0, .string ⟨#[]⟩, .int .u8 0, .int .u8 0, .int .u8 0, .int .i32 0, .string ⟨#[]⟩, .slice none 0 0, .slice none 0 0, .slice none 0 0, .string ⟨#[]⟩, .int .u8 0, .int .u8 0, .int .u8 0, .int .i32 0, .string ⟨#[]⟩, .slice none 0 0, .int .u8 0, .int .u8 0, .int .u8 0, .int .i32 0, .string ⟨#[]⟩, .slice none 0 0, .slice none 0 0, .slice none 0 0, .slice none 0 0, .int .u8 0, .int .u8 0, .int .i64 0, .int .u8 0, .string ⟨#[]⟩, .slice none 0 0, .int .u8 0, .int .u8 0, .int .u8 0, .int .i32 0, .string ⟨#[]⟩, .slice none 0 0, .bool false, .slice none 0 0, .slice none 0 0, .slice none 0 0], .slice none 0 0, .agg #[.int .u8 0, .int .u8 0, .int .i64 0, .int .u8 0, .string ⟨#[]⟩, .slice none 0 0, .int .u8 0, .int .u8 0, .int .u8 0, .int .i32 0, .string ⟨#[]⟩, .slice none 0 0, .bool false, .slice none 0 0, .slice none 0 0, .slice none 0 0]] 8 rfl (by kernel_rfl) (by kernel_rfl) (by kernel_rfl) (by kernel_rfl) (by kernel_rfl) (laidWorld_met os _)) ?_
 intro W base args ds gs before hval hW hsz hL hsh
 have hg := glob_of hL hsh
 refine law_post (C := Tryz.checked) Tryz.laidOut (by kernel_rfl) rfl rfl u4 (fun ds hd => ?_) hW ?_
 · match ds, hd with
   | [d0, d1, d2], _ => rfl
 · obtain ⟨p, q, hA, hV, rfl, -, -⟩ := hW
   obtain ⟨rfl, rfl⟩ := trodVars_none (show DataW.TrodVars enc Tryz.prog W (fun _ => true) [] gs q from hV)
   rw [show Tryz.checked.prog = Tryz.prog from rfl, Tryz.params5] at hA hsz
   obtain ⟨v0, v1, v2, d0, d1, d2, p0, p1, p2, rfl, rfl, rfl, h0, h1, h2⟩ := trodAll_three hA
   obtain ⟨p0, rfl, hP0⟩ := pr_arg (hval 0 56 v0 rfl rfl) h0 (fun q hq => by simpa using List.all_eq_true.1 hsz q (DataW.weights_mem_each (j := 0) (t := 56) rfl rfl q hq))
   obtain ⟨a, k, c, l, rfl, hr, hS⟩ := sps_arg (hval 1 28 v1 rfl rfl) h1 (fun q hq => by simpa using List.all_eq_true.1 hsz q (DataW.weights_mem_each (j := 1) (t := 28) rfl rfl q hq))
   obtain ⟨s2, rfl, hS2, hB2⟩ := sp_arg (hval 2 54 v2 rfl rfl) h2 (fun q hq => by simpa using List.all_eq_true.1 hsz q (DataW.weights_mem_each (j := 2) (t := 54) rfl rfl q hq))
   have hv : VOkE (viewOf W) [] l := ⟨fun x hx => (hS x hx).nr, fun x hx => (hS x hx).fr, fun x hx => (hS x hx).v⟩
   exact outside_law hg p0 a k c l s2 _ hP0 hr hv hS hS2

theorem typingOutside_holds : Rows.TypingOutsideSaid :=
 OpenClaim.holds_of_wide 5 Tryz.f5 rfl rfl rfl rfl rfl rfl rfl ⟨rfl, rfl, rfl, rfl, rfl⟩ rfl rfl rfl rfl rfl (by kernel_rfl) Tryz.func5 (by kernel_rfl)
   (of_decide_eq_true (by kernel_rfl)) (by unfold Func.isWrapper; rw [if_neg (by decide +kernel)]; exact ⟨rfl, rfl⟩)
   (fun os started H enc _ => typingOutside_lifted os started H enc)

theorem typingOutside_card : Rows.TypingOutsideCardSaid :=
 Claim7.holds_tied_plain_at .later [] [.data, .data, .data, .data] true (true, "bc84e5f55452caa94bec5d9f10acfbe12ea07e9c19f3114bcca25cfb5a91555f") false
   typingOutside_holds (fun _ h => by cases h) (by kernel_rfl) (fun _ h => by cases h) typingOutside_row_tie rfl ⟨rfl, rfl⟩ (by kernel_rfl) rfl
   (fun f fn hf hfn => by
     obtain rfl : f = 5 := Option.some.inj ((show Tryz.prog.funcNamed "transputer/transputerlaw13.TypingOutside" = some 5 by kernel_rfl).symm.trans hf) |>.symm
     obtain rfl : fn = Tryz.f5 := (Option.some.inj (Tryz.func5.symm.trans hfn)).symm
     exact ⟨by kernel_rfl, fun j t ht => by
       rw [Tryz.params5] at ht
       match j, ht with
       | 0, ht => cases ht; exact (show Tryz.prog.wantsStandIn 56 = false by kernel_rfl)
       | 1, ht => cases ht; exact (show Tryz.prog.wantsStandIn 28 = false by kernel_rfl)
       | 2, ht => cases ht; exact (show Tryz.prog.wantsStandIn 54 = false by kernel_rfl)
       | j + 3, ht => simp at ht⟩)
   (by kernel_rfl)
end Go.Proofs.YtdhmplmpbcnojaaGreatDoor
end

/- types: what a row's conditions give: the package variables' cells; a world that meets them. -/
import Derived.Test.YtcejocfjienpfaaDoorGlob
import Derived.SevenTiedAt
import Derived.Test.YtcejocfjienpfaaDoorCards
import Derived.Test.YtcejocfjienpfaaDoorTie
namespace Go.Proofs.YtcejocfjienpfaaDoor
open Go Go.Eng Go.RowKit Go.ChangeShapes Go.WideShapes Go.ChangeAt Go.Joins
set_option maxRecDepth 100000
theorem Tryd.own : ownKnob Tryd.prog.godebug = none := by kernel_rfl
theorem Tryd.laidOut : laidOutB Tryd.prog = true := by kernel_rfl
theorem cells70 : Tryd.prog.cellsOf 70 = 3 := by kernel_rfl
theorem cells22 : Tryd.prog.cellsOf 22 = 1 := by kernel_rfl
theorem cells9 : Tryd.prog.cellsOf 9 = 1 := by kernel_rfl
theorem cells3 : Tryd.prog.cellsOf 3 = 1 := by kernel_rfl
theorem prim_at {W : World} {fuel : Nat} {ys : List Value} {kd sz : Int} {wd : List UInt8} {p : List MemPlace}
    (h : DataW.trod (fun _ => ()) Tryd.prog W 0 (fun _ => true) false fuel 70 ys = some (.agg [.lit (.int .u8 kd), .lit (.string wd), .lit (.int .i64 sz)], p)) :
    ys[0]? = some (.int .u8 kd) ∧ ys[1]? = some (str wd) ∧ ys[2]? = some (.int .i64 sz) := by
  obtain ⟨f, hf⟩ := data_struct Tryd.underlying70 h
  obtain ⟨_, h0⟩ := hf 0 _ _ rfl rfl
  obtain ⟨_, h1⟩ := hf 1 _ _ rfl rfl
  obtain ⟨_, h2⟩ := hf 2 _ _ rfl rfl
  exact ⟨Eng.cell_of_cut (data_int Tryd.underlying22 h0), Eng.cell_of_cut (data_str Tryd.underlying9 h1), Eng.cell_of_cut (data_int Tryd.underlying3 h2)⟩
theorem cut_at {cs ys : List Value} {i j : Nat} {v : Value} (e : (cs.drop (i * 3)).take 3 = ys) (h : ys[j]? = some v) : cs[i * 3 + j]? = some v := by
  subst e
  rw [List.getElem?_take] at h
  split at h
  · rwa [List.getElem?_drop] at h
  · cases h
theorem prim_cells {W : World} (h : laidMet Tryd.prog [("transputer/types.primitive", Rows.laid_transputer_types_primitive)] W) : ∀ j v, primC[j]? = some v → W.cell? ⟨0, j, none⟩ = some v := by
  obtain ⟨ps, ⟨g, t, cs, fuel, p, q, hg, ht, hvar, hd, _, _⟩, _⟩ := h
  obtain rfl := Option.some.inj ((show Tryd.prog.globalNamed "transputer/types.primitive" = some 0 by kernel_rfl).symm.trans hg)
  obtain rfl := Option.some.inj ((show (Tryd.prog.globals[0]?).map (·.type) = some 71 by kernel_rfl).symm.trans ht)
  obtain ⟨f, hf⟩ := data_array Tryd.underlying71 hd
  obtain ⟨_, h0⟩ := hf 0 _ (by decide) rfl
  obtain ⟨_, h1⟩ := hf 1 _ (by decide) rfl
  obtain ⟨_, h2⟩ := hf 2 _ (by decide) rfl
  rw [cells70] at h0 h1 h2
  have a0 := prim_at h0
  have a1 := prim_at h1
  have a2 := prim_at h2
  intro j v hj
  rw [World.var?_cell hg hvar j, ← Array.getElem?_toList]
  match j, hj with
  | 0, hj => cases hj; exact cut_at (i := 0) rfl a0.1
  | 1, hj => cases hj; exact cut_at (i := 0) rfl a0.2.1
  | 2, hj => cases hj; exact cut_at (i := 0) rfl a0.2.2
  | 3, hj => cases hj; exact cut_at (i := 1) rfl a1.1
  | 4, hj => cases hj; exact cut_at (i := 1) rfl a1.2.1
  | 5, hj => cases hj; exact cut_at (i := 1) rfl a1.2.2
  | 6, hj => cases hj; exact cut_at (i := 2) rfl a2.1
  | 7, hj => cases hj; exact cut_at (i := 2) rfl a2.2.1
  | 8, hj => cases hj; exact cut_at (i := 2) rfl a2.2.2
theorem glob_of {W : World} (h : laidMet Tryd.prog [("transputer/types.primitive", Rows.laid_transputer_types_primitive)] W) (hsh : W.ShapedOpen Tryd.prog) : Glob (viewOf W) :=
  ⟨(Tryd.laysM144.s1_3 W hsh).imp fun _ e => start_cell e, fun j v hj => start_cell (prim_cells h j v hj)⟩
noncomputable def laidWorld (os : Os) : World :=
  { World.holding Tryd.prog os ⟨#[], #[], []⟩ with heap := (World.holding Tryd.prog os ⟨#[], #[], []⟩).heap.modify 0 fun
      | .cells _ t fz => .cells primC.toArray t fz
      | o => o }
theorem laidWorld_met (os : Os) (args : Array Value) : laidMet Tryd.prog [("transputer/types.primitive", Rows.laid_transputer_types_primitive)] ((laidWorld os).forCall (fun _ _ => 0) ⟨#[], args, []⟩).memory :=
  laidMet_of_run' 8 (by kernel_rfl) (by kernel_rfl)
end Go.Proofs.YtcejocfjienpfaaDoor

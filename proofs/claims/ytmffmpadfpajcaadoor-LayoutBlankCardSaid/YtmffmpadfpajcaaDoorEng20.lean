/- An empty slice made in a drawn region. -/
import Derived.Test.YtmffmpadfpajcaaDoorEng19
namespace Go.Eng
open Go Go.RowKit
section
variable {P : Program} {ops : Array Oper} {Q : Exit → Act → World → Prop} {n : Cx} {F : Fm} {m : View}
variable {ty : TypeId} {pos : String} {after : Array Edge} {d : Nat} {eff : List Nat} {hs hp : List Res} {i : Nat} {s : Tr} {t' : Tl}
theorem SR.buildSlice0 {t e : Nat} {sz by_ : Nat} (ho : ops[i]? = some ⟨some d, .buildSlice t 0 #[], ty, pos, after, none⟩) (he : eff.contains i = true) (E : EL P t e sz by_) (hd : d < n.num)
    (kk : ∀ b, SR P ops Q n eff t' hs s ((d, .slice (some ⟨b, 0, none⟩) 0 0) :: F) (.row (.slice (some ⟨b, 0, none⟩) 0 0) e sz 0 [] :: hp) m) :
    SR P ops Q n eff t' hs (.op i s) F hp m := ⟨_, ho, fun y hy => by cases hy; exact hd, by
  rw [he]
  refine ⟨fun fr f w hf' st => ⟨fun _ => ?_, fun h => by simp [Region.wanted] at h⟩⟩
  obtain ⟨i, z', ht, hi, hz', hsize, hby, hzsz, hsz⟩ := E.ex
  have hrun : (execOp f.eval ⟨some d, .buildSlice t 0 #[], ty, pos, after, none⟩).run P w = .ok (.value (.slice (some ⟨w.heap.size, 0, none⟩) 0 0)) (w.alloc (.cells #[] e)) := by
    simp [execOp, Instr.buildSlice, run_underlying ht, sizeOf, typeInfo, hi, Instr.fill, newRow, Array.range_zero']
  rw [hrun]
  refine ⟨m, .row (.slice (some ⟨w.heap.size, 0, none⟩) 0 0) e sz 0 [] :: hp, View.le.refl m, ?_, fun _ => List.sublist_cons_self _ _, (kk _).e⟩
  have h1 := (st.alloc (.cells #[] e)).conv (r' := .row (.slice (some ⟨w.heap.size, 0, none⟩) 0 0) e sz 0 []) Upd.here rfl fun hh => by
    have := row_of_cells (sz := sz) (n := 0) (cap := 0) hh (Nat.le_refl _) (by unfold maxLen; omega) (by simp)
    simp only [Nat.zero_mul, List.take_zero] at this
    exact this
  exact h1.perm List.perm_middle.symm⟩
end
end Go.Eng

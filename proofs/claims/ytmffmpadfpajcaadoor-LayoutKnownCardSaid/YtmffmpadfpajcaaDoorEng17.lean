/- Guards known to say yes, in drawn regions. -/
import Derived.Test.YtmffmpadfpajcaaDoorEng16
namespace Go.Eng
open Go
section
variable {P : Program} {ops : Array Oper} {Q : Exit → Act → World → Prop} {n : Cx} {F : Fm} {h h' : List Res} {m : View} {rest : List Oper}
variable {ty : TypeId} {pos : String} {after : Array Edge} {d : Nat} {v : Value} {eff : List Nat} {hs hp : List Res} {i : Nat} {s : Tr}
theorem SR.callU {t : Tl} {f : Operand} {args : List Operand} {tys : Array TypeId} {vs first cap : List Value} {q : FuncId} {gd : Nat × Bool} {c : Bool} {v : Value} (ho : ops[i]? = some ⟨some d, .call ⟨.value f, args.toArray, tys⟩, ty, pos, after, some gd⟩)
    (he : eff.contains i = true) (hg : GU ops n F gd c) (hc : c = true) (ef : Ev n F f (.func (.func q) first.toArray cap.toArray)) (ea : Evs n F args vs) (ct : ∀ fr, CT P q (first ++ vs ++ cap) (fr ++ (hp ++ hs)) m (Pure1 (fr ++ (hp ++ hs)) v)) (hd : d < n.num)
    (k : SR P ops Q n eff t hs s ((d, v) :: F) hp m) : SR P ops Q n eff t hs (.op i s) F hp m := by
  subst hc
  exact SR.callG ho he hg (fun _ => ⟨ef, ea, ct⟩) hd k
theorem SR.buildSliceU {t' : Tl} {t e k : Nat} {sz by_ : Nat} {ps : List (Nat × Operand)} {vs : List (Nat × Value)} {z : Value} {zs cs : List Value} {gd : Nat × Bool} {c : Bool}
    (ho : ops[i]? = some ⟨some d, .buildSlice t k ps.toArray, ty, pos, after, some gd⟩) (he : eff.contains i = true) (hg : GU ops n F gd c) (hc : c = true) (E : EL P t e sz by_) (hz : (P.info? e).bind (·.zero) = some z) (ev : EvP n F ps vs)
    (hzs : zeros z k = some zs) (hf : fillO (fun i => some (i * sz, sz)) zs vs = some cs) (hk : k * sz ≤ 16777216) (h0 : Nat.beq (k * sz) 0 = false) (hd : d < n.num)
    (kk : ∀ b, SR P ops Q n eff t' hs s ((d, .slice (some ⟨b, 0, none⟩) k k) :: F) (.pt b (.cells cs.toArray e (0, 0)) :: hp) m) :
    SR P ops Q n eff t' hs (.op i s) F hp m := ⟨_, ho, fun y hy => by cases hy; exact hd, by
  subst hc
  rw [he]
  refine ⟨fun fr f w hf' st => ?_⟩
  have hy := hg.wanted (dst := some d) (op := .buildSlice t k ps.toArray) (ty := ty) (pos := pos) (after := after) hf'
  refine ⟨fun _ => ?_, fun h => by rw [hy] at h; cases h⟩
  have hrun := run_buildSlice (P := P) w (dst := some d) (ty := ty) (pos := pos) (after := after) (g := some gd) E hz ev hzs hf hk h0 hf'
  rw [hrun]
  exact ⟨m, .pt w.heap.size (.cells cs.toArray e) :: hp, View.le.refl m, (st.alloc _).perm List.perm_middle.symm, fun _ => List.sublist_cons_self _ _, (kk _).e⟩⟩
end
end Go.Eng

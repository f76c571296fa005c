/- A call in a drawn region that gives a slice of its own. -/
import Derived.Test.YtmffmpadfpajcaaDoorEng12
import Derived.ChangeMaps5
namespace Go.Eng
open Go
section
variable {P : Program} {ops : Array Oper} {Q : Exit → Act → World → Prop} {n : Cx} {F : Fm} {h h' : List Res} {m : View} {rest : List Oper}
variable {ty : TypeId} {pos : String} {after : Array Edge} {d : Nat} {v : Value}
theorem SR.callN {eff : List Nat} {t : Tl} {hs hp : List Res} {i : Nat} {s : Tr} {f : Operand} {args : List Operand} {tys : Array TypeId} {vs first cap : List Value} {q : FuncId} {V : Option Addr → Nat → Value} {row : Option Addr → Nat → Res}
    (ho : ops[i]? = some ⟨some d, .call ⟨.value f, args.toArray, tys⟩, ty, pos, after, none⟩) (he : eff.contains i = true) (ef : Ev n F f (.func (.func q) first.toArray cap.toArray)) (ea : Evs n F args vs)
    (c : ∀ fr, CT P q (first ++ vs ++ cap) (fr ++ (hp ++ hs)) m (fun v _ h' => ∃ a c, v = V a c ∧ h' = row a c :: (fr ++ (hp ++ hs)))) (hd : d < n.num)
    (k : ∀ a c, SR P ops Q n eff t hs s ((d, V a c) :: F) (row a c :: hp) m) : SR P ops Q n eff t hs (.op i s) F hp m := ⟨_, ho, fun x hx => by cases hx; exact hd, by
  rw [he]
  refine ⟨fun fr a w ha st => ⟨fun _ => ?_, fun h => by simp [Region.wanted] at h⟩⟩
  rw [run_call ha ef ea (c fr).enter]
  refine Calls.mono ((c fr).calls w st) ?_
  rintro e w' ⟨v', m', h', rfl, hle, hst, a1, c1, rfl, rfl⟩
  exact ⟨_, rfl, m, row a1 c1 :: hp, View.le.refl m, (hst.perm (List.perm_middle (l₁ := fr) (l₂ := hp ++ hs)).symm).back hle, nofun, (k a1 c1).e⟩⟩
end
/-- A string that a law is given. -/
theorem str_arg {H : Type} {enc : TypeId × Value → H} {P : Program} {W : World} {base b0 : Nat} {sp : Nat → Bool} {held : Bool} {r : Reach} {t : TypeId} {v : Value} {d : DataW H} {ps : List MemPlace} (ht : P.underlying t = some .string) (hv : Value.okWide P W r b0 t v) (hd : DataW.Trod enc P W base sp held t v d ps) :
    ∃ s : List UInt8, v = str s ∧ s.length ≤ 9223372036854775807 := by
  obtain ⟨s, rfl, _, _, hs⟩ := Go.ChangeMaps.open_string ht hv hd
  refine ⟨s.data.toList, by simp [str], ?_⟩
  rw [Array.length_toList]
  exact hs
end Go.Eng

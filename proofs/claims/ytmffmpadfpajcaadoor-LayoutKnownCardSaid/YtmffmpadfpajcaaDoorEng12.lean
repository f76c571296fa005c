/- Guarded calls that change what is owned. -/
import Derived.Test.YtmffmpadfpajcaaDoorEng11
namespace Go.Eng
open Go
section
variable {P : Program} {ops : Array Oper} {Q : Exit → Act → World → Prop} {n : Cx} {F : Fm} {h h' : List Res} {m : View} {rest : List Oper}
variable {ty : TypeId} {pos : String} {after : Array Edge} {d : Nat} {v : Value}
theorem CT.perm {f : FuncId} {args : List Value} {h1 h2 h1' h2' : List Res} (hp : h1.Perm h2) (c : CT P f args h2 m (Pure1 h2' v)) (hp' : h2'.Perm h1') : CT P f args h1 m (Pure1 h1' v) :=
  ⟨c.enter, fun w st => Calls.mono (c.calls w (st.perm hp)) (by rintro e w' ⟨v', m', h', rfl, hle, hst, rfl, rfl⟩; exact ⟨v', m', h1', rfl, hle, hst.perm hp', rfl, rfl⟩)⟩
theorem CT.outE {f : FuncId} {args : List Value} {h1 h2 : List Res} (e : h1 = h2) (c : CT P f args h m (Pure1 h1 v)) : CT P f args h m (Pure1 h2 v) := e ▸ c
theorem CT.frame {f : FuncId} {args : List Value} {fr hp hp' hs : List Res} (c : CT P f args (hp ++ (fr ++ hs)) m (Pure1 (hp' ++ (fr ++ hs)) v)) : CT P f args (fr ++ (hp ++ hs)) m (Pure1 (fr ++ (hp' ++ hs)) v) :=
  CT.perm (List.perm_append_comm_assoc fr hp hs) c (List.perm_append_comm_assoc hp' fr hs)
theorem perm_four {fr h : List Res} (x5 x3 x2 x1 : Res) : (fr ++ ([x3, x2] ++ (x5 :: x1 :: h))).Perm ([x5, x3, x2, x1] ++ (fr ++ h)) := by
  refine (List.perm_append_comm_assoc fr [x3, x2] (x5 :: x1 :: h)).trans ?_
  refine ((List.perm_append_comm_assoc fr [x5, x1] h).append_left [x3, x2]).trans ?_
  exact List.perm_middle (l₁ := [x3, x2])
theorem WL.callGK {f : Operand} {args : List Operand} {tys : Array TypeId} {vs first cap : List Value} {q : FuncId} {gd : Nat × Bool} {c : Bool} (hg : GU ops n F gd c)
    (p : c = true → Ev n F f (.func (.func q) first.toArray cap.toArray) ∧ Evs n F args vs ∧ CT P q (first ++ vs ++ cap) h m (Pure1 h' v)) (h0 : c = false → h' = h) (hd : d < n.num)
    (k : WL P ops Q n rest ((d, gv c v) :: F) h' m) : WL P ops Q n (⟨some d, .call ⟨.value f, args.toArray, tys⟩, ty, pos, after, some gd⟩ :: rest) F h m := by
  cases c with
  | false =>
    cases h0 rfl
    exact WL.skG hg rfl hd k
  | true =>
    obtain ⟨ef, ea, ct⟩ := p rfl
    refine WL.unG hg rfl (WL.callK ef ea ct hd ?_)
    rintro _ _ ⟨rfl, rfl⟩
    exact k
theorem SR.callGK {eff : List Nat} {t : Tl} {hs hp hp' : List Res} {i : Nat} {s : Tr} {f : Operand} {args : List Operand} {tys : Array TypeId} {vs first cap : List Value} {q : FuncId} {gd : Nat × Bool} {c : Bool}
    (ho : ops[i]? = some ⟨some d, .call ⟨.value f, args.toArray, tys⟩, ty, pos, after, some gd⟩) (he : eff.contains i = true) (hg : GU ops n F gd c)
    (p : c = true → Ev n F f (.func (.func q) first.toArray cap.toArray) ∧ Evs n F args vs ∧ ∀ fr, CT P q (first ++ vs ++ cap) (fr ++ (hp ++ hs)) m (Pure1 (fr ++ (hp' ++ hs)) v)) (h0 : c = false → hp' = hp) (hd : d < n.num)
    (k : SR P ops Q n eff t hs s ((d, gv c v) :: F) hp' m) : SR P ops Q n eff t hs (.op i s) F hp m := ⟨_, ho, fun x hx => by cases hx; exact hd, by
  rw [he]
  refine ⟨fun fr a w ha st => ?_⟩
  have hy := hg.wanted (dst := some d) (op := .call ⟨.value f, args.toArray, tys⟩) (ty := ty) (pos := pos) (after := after) ha
  cases c with
  | true =>
    refine ⟨fun _ => ?_, fun h => by rw [hy] at h; cases h⟩
    obtain ⟨ef, ea, ct⟩ := p rfl
    rw [run_call ha ef ea (ct fr).enter]
    refine Calls.mono ((ct fr).calls w st) ?_
    rintro e w' ⟨v', m', h', rfl, hle, hst, rfl, rfl⟩
    exact ⟨_, rfl, m, hp', View.le.refl m, hst.back hle, nofun, k.e⟩
  | false =>
    cases h0 rfl
    exact ⟨fun h => (by rw [hy] at h; cases h), fun _ => ⟨nofun, k.e⟩⟩⟩
section
variable {eff : List Nat} {t : Tl} {hs hp : List Res} {i : Nat} {s : Tr} {op : Op}
/-- Reading what the region itself turns: ordered as an effect. -/
theorem SR.poE (ho : ops[i]? = some ⟨some d, op, ty, pos, after, none⟩) (he : eff.contains i = true) (p : ∀ fr, PO P ⟨some d, op, ty, pos, after, none⟩ n F (fr ++ (hp ++ hs)) m v) (hd : d < n.num)
    (k : SR P ops Q n eff t hs s ((d, v) :: F) hp m) : SR P ops Q n eff t hs (.op i s) F hp m := ⟨_, ho, fun x hx => by cases hx; exact hd, by
  rw [he]
  cases hr : isRd ⟨some d, op, ty, pos, after, none⟩ with
  | true => exact ⟨v, ⟨fun a w ha st => ⟨fun _ => (p []).e a w ha st, fun h => by simp [Region.wanted] at h⟩⟩, k.e⟩
  | false =>
    simp only
    refine ⟨fun fr a w ha st => ⟨fun _ => ?_, fun h => by simp [Region.wanted] at h⟩⟩
    rw [(p fr).e a w ha st]
    exact ⟨m, hp, View.le.refl m, st, fun _ => List.Sublist.refl _, k.e⟩⟩
theorem isRd_guard {dst : Option Nat} {gd : Nat × Bool} : isRd ⟨dst, op, ty, pos, after, some gd⟩ = false := by
  unfold isRd
  split <;> simp_all
theorem SR.poEG {gd : Nat × Bool} {c : Bool} (ho : ops[i]? = some ⟨some d, op, ty, pos, after, some gd⟩) (he : eff.contains i = true) (hg : GU ops n F gd c)
    (p : c = true → ∀ fr, PO P ⟨some d, op, ty, pos, after, some gd⟩ n F (fr ++ (hp ++ hs)) m v) (hd : d < n.num) (k : SR P ops Q n eff t hs s ((d, gv c v) :: F) hp m) :
    SR P ops Q n eff t hs (.op i s) F hp m := ⟨_, ho, fun x hx => by cases hx; exact hd, by
  rw [he]
  simp only [isRd_guard]
  refine ⟨fun fr a w ha st => ?_⟩
  have hy := hg.wanted (dst := some d) (op := op) (ty := ty) (pos := pos) (after := after) ha
  cases c with
  | true =>
    refine ⟨fun _ => ?_, fun h => by rw [hy] at h; cases h⟩
    rw [(p rfl fr).e a w ha st]
    exact ⟨m, hp, View.le.refl m, st, fun _ => List.Sublist.refl _, k.e⟩
  | false => exact ⟨fun h => (by rw [hy] at h; cases h), fun _ => ⟨fun _ => List.Sublist.refl _, k.e⟩⟩⟩
end
end
end Go.Eng

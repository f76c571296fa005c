/- ObjectTorn: the row. -/
import Derived.Test.YtdfobghpbbohdaaObjF
import Derived.Test.YtdfobghpbbohdaaObjK
namespace Go.Proofs.Ytdfobghpbbohdaa
open Go.Eng Go.Obj Go.RowKit Go.ChangeShapes Go.WideShapes Go.ChangeAt Go.Joins

set_option maxRecDepth 100000 in
theorem objectTorn_lifted (os : Os) (started : os.Started) (H : Type) (enc : TypeId × Value → H) :
    ReturnsInHanded {} Try.checked os 7 .any (Rows.objectTornSpec.pre6 enc Try.prog Try.f7 Rows.objectTornRow.domain false) (Rows.objectTornSpec.post enc Try.prog Try.f7 false true false false) := by
  refine returnsInHanded_of_change_sized (C := Try.checked) Try.own started (by kernel_rfl) Try.func7
    (ChangeSpec.witness6 (enc := enc) (C := Try.checked) false ⟨#[], #[.agg #[.slice none 0 0, .int .i64 0, .int .i64 0, .int .i64 0], .int .u32 0, .int .u32 0, .int .u16 0, .int .u8 0], []⟩ 8 (by kernel_rfl) (by kernel_rfl) (by kernel_rfl) (by kernel_rfl)) ?_
  intro W base args ds gs before hval hW hcnd hsz _
  refine law_post (C := Try.checked) Try.laidOut (by kernel_rfl) rfl rfl Try.underlying4 (fun ds hd => ?_) hW ?_
  · match ds, hd with
    | [d0, d1, d2, d3, d4], _ => rfl
  · obtain ⟨p, q, hA, hV, rfl, -, -⟩ := hW
    obtain ⟨rfl, rfl⟩ := trodVars_none (show DataW.TrodVars enc Try.prog W (fun _ => true) [] gs q from hV)
    rw [show Try.checked.prog = Try.prog from rfl, Try.params7] at hA hsz
    obtain ⟨v0, vs0, d0, ds0, p0, q0, e0, rfl, rfl, h0, hA⟩ := trodAll_cons hA
    obtain ⟨v1, vs1, d1, ds1, p1, q1, rfl, rfl, rfl, h1, hA⟩ := trodAll_cons hA
    obtain ⟨v2, vs2, d2, ds2, p2, q2, rfl, rfl, rfl, h2, hA⟩ := trodAll_cons hA
    obtain ⟨v3, vs3, d3, ds3, p3, q3, rfl, rfl, rfl, h3, hA⟩ := trodAll_cons hA
    obtain ⟨v4, vs4, d4, ds4, p4, q4, rfl, rfl, rfl, h4, hA⟩ := trodAll_cons hA
    obtain ⟨rfl, rfl, rfl⟩ := trodAll_nil hA
    obtain rfl : args = #[v0, v1, v2, v3, v4] := by rw [← Array.toList_inj]; exact e0
    clear e0
    obtain ⟨s0, c0, bs0, e0, a0, b0, rfl, hr0, hb0⟩ := obj_arg (hval 0 24 v0 rfl rfl) h0
    obtain ⟨x1, rfl, rfl, rfl, w1⟩ := open_int Try.underlying37 (hval 1 37 v1 rfl rfl) h1
    obtain ⟨x2, rfl, rfl, rfl, w2⟩ := open_int Try.underlying37 (hval 2 37 v2 rfl rfl) h2
    obtain ⟨x3, rfl, rfl, rfl, w3⟩ := open_int Try.underlying40 (hval 3 40 v3 rfl rfl) h3
    obtain ⟨x4, rfl, rfl, rfl, w4⟩ := open_int Try.underlying5 (hval 4 5 v4 rfl rfl) h4
    have k1 : 0 ≤ x1 ∧ x1 ≤ 4294967295 := by simp only [Lit.wf, Bool.and_eq_true, decide_eq_true_eq] at w1; exact w1
    have k2 : 0 ≤ x2 ∧ x2 ≤ 4294967295 := by simp only [Lit.wf, Bool.and_eq_true, decide_eq_true_eq] at w2; exact w2
    have k3 : 0 ≤ x3 ∧ x3 ≤ 65535 := by simp only [Lit.wf, Bool.and_eq_true, decide_eq_true_eq] at w3; exact w3
    have k4 : 0 ≤ x4 ∧ x4 ≤ 255 := by simp only [Lit.wf, Bool.and_eq_true, decide_eq_true_eq] at w4; exact w4
    have := torn_law s0 c0 bs0 e0 a0 b0 x1.toNat (BitVec.ofNat 32 x2.toNat) x3.toNat (UInt8.ofNat x4.toNat) [] (viewOf W) hr0 (by omega) (by omega)
    have g1 : (x1.toNat : Int) = x1 := by omega
    have g2 : u32 (BitVec.ofNat 32 x2.toNat) = .int .u32 x2 := congrArg (Value.int .u32) (by rw [BitVec.toNat_ofNat]; omega)
    have g3 : (x3.toNat : Int) = x3 := by omega
    have g4 : ((UInt8.ofNat x4.toNat).toNat : Int) = x4 := by simp; omega
    rw [g1, g2, g3, g4] at this
    exact this

theorem objectTorn_holds : Rows.ObjectTornSaid :=
  OpenClaim.holds_of_wide 7 Try.f7 rfl rfl rfl rfl rfl rfl rfl ⟨rfl, rfl, rfl, rfl, rfl⟩ rfl rfl rfl rfl rfl (by kernel_rfl) Try.func7 (by kernel_rfl)
    (of_decide_eq_true (by kernel_rfl)) (by unfold Func.isWrapper; rw [if_neg (by decide +kernel)]; exact ⟨rfl, rfl⟩)
    (fun os started H enc _ => objectTorn_lifted os started H enc)
end Go.Proofs.Ytdfobghpbbohdaa

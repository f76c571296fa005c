/- []byte(s) of a string that is no constant; string(n) of a character. -/
import Derived.Test.YtmffmpadfpajcaaDoorEng13
import Derived.Lib.ConvBytes
import Derived.Laws.AppendOwn
namespace Go.Eng
open Go
section
variable {P : Program} {ops : Array Oper} {Q : Exit → Act → World → Prop} {n : Cx} {F : Fm} {h h' : List Res} {m : View} {rest : List Oper}
variable {ty : TypeId} {pos : String} {after : Array Edge} {d : Nat} {v : Value}
/-- A slice over the first part of a block. -/
theorem Rd.ofPtP {b k cap sz : Nat} {cs zs : List Value} {e : TypeId} {fz : Nat × Nat} (hl : cs.length = k * sz) (hle : k ≤ cap) (hmx : cap ≤ 9223372036854775807) (hm : Res.pt b (.cells (cs ++ zs).toArray e fz) ∈ h) : Rd m h (some ⟨b, 0, none⟩) k cap sz cs :=
  ⟨hl, hle, hmx, fun w st j u hj => ⟨b, 0, rfl, by
    rw [st.pt_cell hm, Nat.zero_add]
    have := (List.getElem?_eq_some_iff.1 hj).1
    simp only [List.getElem?_toArray, List.getElem?_append_left this]
    exact hj⟩⟩
theorem WL.strBytes {x : Operand} {t0 t e : TypeId} {s : List UInt8} (ht0 : P.underlying t0 = some .string) (ht : P.underlying t = some (.slice e)) (he : P.underlying e = some (.int .u8)) (ex : Ev n F x (str s)) (hd : d < n.num) (hs : s.length ≤ 9223372036854775807)
    (kk : ∀ b zs fz cap, s.length ≤ cap → cap ≤ 9223372036854775807 → WL P ops Q n rest ((d, .slice (some ⟨b, 0, none⟩) s.length cap) :: F) (.pt b (.cells (bv s ++ zs).toArray e fz) :: h) m) :
    WL P ops Q n (⟨some d, .convert t0 t x, ty, pos, after, none⟩ :: rest) F h m := .mk fun f w ha st => by
  have hr := Lib.run_convert_string_bytes (P := P) w t0 t e ⟨s.toArray⟩ ht0 ht he
  have hsz : (⟨s.toArray⟩ : ByteArray).size = s.length := by simp [ByteArray.size]
  rw [hsz] at hr
  have hrun : (execOp f.eval ⟨some d, .convert t0 t x, ty, pos, after, none⟩).run P w = .ok (.value (.slice (some ⟨w.heap.size, 0, none⟩) s.length (grownCap w s.length 0 e))) (Lib.bytesWorld w e ⟨s.toArray⟩) := by
    simp [execOp, ex f ha, hr]
  have hC : Lib.bytesCells w e ⟨s.toArray⟩ = (bv s ++ List.replicate (grownCap w s.length 0 e - s.length) (Value.int .u8 0)).toArray := by
    unfold Lib.bytesCells
    rw [hsz]
    simp [bv]
  have hnew : (w.drew.alloc (.cells (Lib.bytesCells w e ⟨s.toArray⟩) e)).heap[w.heap.size]? = some (.cells (Lib.bytesCells w e ⟨s.toArray⟩) e (0, 0)) := new_block w.drew _
  obtain ⟨h1, h2, h3, h4, h5⟩ := freeze_at _ w.heap.size (Lib.bytesCells w e ⟨s.toArray⟩) e (Lib.bytesCells w e ⟨s.toArray⟩).size hnew
  refine wpList_of_wp rfl (wp_of_run hrun (kk w.heap.size (List.replicate (grownCap w s.length 0 e - s.length) (Value.int .u8 0)) ((Lib.bytesCells w e ⟨s.toArray⟩).size, (Lib.bytesCells w e ⟨s.toArray⟩).size + 1) (grownCap w s.length 0 e) (grownCap_ge w s.length 0 e) (grownCap_le_maxLen w s.length 0 e (by unfold maxLen; exact hs)) _ _ (ha.put hd _) ?_))
  have := (st.drew.alloc (.cells (Lib.bytesCells w e ⟨s.toArray⟩) e)).upd (r' := .pt w.heap.size (.cells (Lib.bytesCells w e ⟨s.toArray⟩) e ((Lib.bytesCells w e ⟨s.toArray⟩).size, (Lib.bytesCells w e ⟨s.toArray⟩).size + 1))) Upd.here h3 h4 h5 (fun q _ hq => h2 q (fun e => hq (by rw [e]; rfl))) h1 (fun b hb => .inl hb)
  rw [← hC]
  exact this
end
end Go.Eng

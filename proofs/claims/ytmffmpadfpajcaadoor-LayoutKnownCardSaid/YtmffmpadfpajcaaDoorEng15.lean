/- Characters, own heaps that grow. -/
import Derived.Test.YtmffmpadfpajcaaDoorEng14
import Derived.Lib.AppendIntMem
namespace Go.Eng
open Go Go.Sort
section
variable {P : Program} {ops : Array Oper} {Q : Exit → Act → World → Prop} {n : Cx} {F : Fm} {h h' : List Res} {m : View} {rest : List Oper} {dst : Option Nat} {g : Option (Nat × Bool)}
variable {ty : TypeId} {pos : String} {after : Array Edge} {d : Nat} {v : Value}
theorem SR.val {eff : List Nat} {t : Tl} {hs hp : List Res} {s : Tr} {v' : Value} (e : v = v') (k : SR P ops Q n eff t hs s ((d, v') :: F) hp m) : SR P ops Q n eff t hs s ((d, v) :: F) hp m := e ▸ k
theorem enc_byte : ∀ c, c < 128 → (Utf8.encode ((c : Nat) : Int)).data.toList = [UInt8.ofNat c] := by decide +kernel
theorem PO.intS {x : Operand} {k : IntKind} {i : Int} {s t : TypeId} {u : TypeDesc} {c : Nat} (hs : P.underlying s = some u) (ht : P.underlying t = some .string) (ex : Ev n F x (.int k i)) (hi : i = (c : Int)) (hc : c < 128) :
    PO P ⟨dst, .convert s t x, ty, pos, after, g⟩ n F h m (str [UInt8.ofNat c]) := .mk fun a w ha _ => by
  subst hi
  have e : Utf8.encode ((c : Nat) : Int) = ⟨[UInt8.ofNat c].toArray⟩ := by
    have := enc_byte c hc
    apply ByteArray.ext
    apply Array.ext'
    simpa using this
  simp [execOp, ex a ha, convert, run_underlying hs, run_underlying ht, Conv.intToString, e]
theorem St.wider {w w' : World} (s : St m h w) (h1 : w'.os = w.os) (h2 : w'.output = w.output) (h3 : w'.tape = w.tape) (hh : ∀ b, b < w.heap.size → w'.heap[b]? = w.heap[b]?) : St m h w' where
  os := h1.trans s.os
  out := h2.trans s.out
  tape := h3.trans s.tape
  blk b o hb := by
    have e := s.blk b o hb
    rw [hh b (lt_of_some e)]
    exact e
  ok r hr := Res.ok_of_block (s.ok r hr) fun b hb => hh b (Res.lt (s.ok r hr) b hb)
  nd := s.nd
  fr := s.fr
theorem CT.ofGrow {f : FuncId} {args : List Value} (he : ∀ as w, (callFunc f as).run P w = .ok (.enter f as) w)
    (hc : ∀ w, St m h w → Calls P f args.toArray w fun e w' => e = .returned v ∧ ∃ k os, w' = grow (w.drewN k) os) : CT P f args h m (Pure1 h v) :=
  ⟨he, fun w st => Calls.mono (hc w st) (by rintro e w' ⟨rfl, k, os, rfl⟩; exact ⟨v, m, h, rfl, View.le.refl m, st.wider rfl rfl rfl (fun b hb => by simp [grow, World.drewN, Array.getElem?_append, hb]), rfl, rfl⟩)⟩
end
end Go.Eng

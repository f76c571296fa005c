/- PrW LwM Eng25 FrM PrX PrY PrZ PrU FrH FrI -/
import Derived.Test.YtdhmplmpbcnojaaGreatDoorLOutsideX2
import Derived.KernelRfl
/- PrW -/
section
namespace Go.Pc
open Go.Eng Go.Xp Go
open Go.Ty (Ty Vr)
def mayHead (p : Pr) (d : Int) (pl : Bool) (left : Int) : Bool := ((decide (left - 1 < 0) || decide (d > 32)) || !plainP p) || ((p.k == 11) && !pl)
mutual
def mayC : Pr → Int → Bool → Int → Bool × Int
 | .mk k name ch tg ex rep ga gc gl la lc ll pn sp, d, pl, left =>
   if mayHead (.mk k name ch tg ex rep ga gc gl la lc ll pn sp) d pl left then (false, left - 1)
   else if k = 18 then
     (if (mayS sp d (left - 1)).1 then
       (if (mayL ll d pl (mayS sp d (left - 1)).2).1 then mayG gl (d + 2) (mayL ll d pl (mayS sp d (left - 1)).2).2 else mayL ll d pl (mayS sp d (left - 1)).2)
     else mayS sp d (left - 1))
   else if (mayL ll (if k = 11 then d + 2 else d + 1) false (left - 1)).1 then mayG gl (d + 2) (mayL ll (if k = 11 then d + 2 else d + 1) false (left - 1)).2
   else mayL ll (if k = 11 then d + 2 else d + 1) false (left - 1)
def mayL : List Pr → Int → Bool → Int → Bool × Int
 | [], _, _, q => (true, q)
 | x :: r, d, pl, q => if (mayC x d pl q).1 then mayL r d pl (mayC x d pl q).2 else mayC x d pl q
def mayH : List Pr → Int → Int → Bool × Int
 | [], _, q => (true, q)
 | x :: _, d, q => mayC x d false q
def mayG1 : Gu → Int → Int → Bool × Int
 | .mk _ _ _ _ _ _ _ _ _ bl, d, q => mayH bl d q
def mayG : List Gu → Int → Int → Bool × Int
 | [], _, q => (true, q)
 | g :: r, d, q => if (mayG1 g d q).1 then mayG r d (mayG1 g d q).2 else mayG1 g d q
def mayS : Sp → Int → Int → Bool × Int
 | .mk _ _ _ _ cs _ _ _ _ bl, d, q => if cs && decide (d + 2 > 32) then (false, q) else mayH bl (d + 1) q
end
theorem mayC_eq (p : Pr) (d : Int) (pl : Bool) (left : Int) : mayC p d pl left =
   if mayHead p d pl left then (false, left - 1)
   else if p.k = 18 then
     (if (mayS p.sp d (left - 1)).1 then
       (if (mayL p.ll d pl (mayS p.sp d (left - 1)).2).1 then mayG p.gl (d + 2) (mayL p.ll d pl (mayS p.sp d (left - 1)).2).2 else mayL p.ll d pl (mayS p.sp d (left - 1)).2)
     else mayS p.sp d (left - 1))
   else if (mayL p.ll (if p.k = 11 then d + 2 else d + 1) false (left - 1)).1 then mayG p.gl (d + 2) (mayL p.ll (if p.k = 11 then d + 2 else d + 1) false (left - 1)).2
   else mayL p.ll (if p.k = 11 then d + 2 else d + 1) false (left - 1) := by cases p; rfl
theorem mayG1_eq (g : Gu) (d q : Int) : mayG1 g d q = mayH g.bl d q := by cases g; rfl
theorem mayS_eq (s : Sp) (d q : Int) : mayS s d q = if s.cs && decide (d + 2 > 32) then (false, q) else mayH s.bl (d + 1) q := by cases s; rfl
def mayP (p : Pr) : Bool := (mayC p 0 true 2048).1
theorem sp_bl {s : Sp} (h : spP s = true) : s.bl.length ≤ 1 := by
 have hV := sp_spec h
 by_cases h5 : s.k = 5
 · have := hV.body h5; omega
 · unfold spP at h
   rw [if_pos hV.kd] at h
   simp only [Bool.and_eq_true] at h
   have h2 := h.2
   unfold sameSF at h2
   simp only [Bool.and_eq_true, beq_iff_eq] at h2
   have h3 := h2.2
   have hw : (wantS s).bl.length = 0 := by
     unfold wantS
     split
     · rfl
     split
     · rfl
     split
     · rfl
     split
     · rfl
     · have := hV.kd
       omega
   omega
theorem ns_bl {s : Sp} (h : sameSF s zeroS = true) : s.bl = [] := by
 unfold sameSF at h
 simp only [Bool.and_eq_true, beq_iff_eq] at h
 have h3 : (s.bl.length : Int) = 0 := h.2
 exact List.eq_nil_of_length_eq_zero (by omega)
theorem fields_spec {k : Int} (h : k ≠ 18) : (fieldsP k).1.spec = false := by
 unfold fieldsP
 by_cases h1 : k = 1
 · rw [if_pos h1]; rfl
 rw [if_neg h1]
 by_cases h2 : k = 2
 · rw [if_pos h2]; rfl
 rw [if_neg h2]
 by_cases h3 : k = 3
 · rw [if_pos h3]; rfl
 rw [if_neg h3]
 by_cases h4 : k = 4
 · rw [if_pos h4]; rfl
 rw [if_neg h4]
 by_cases h5 : k = 5
 · rw [if_pos h5]; rfl
 rw [if_neg h5]
 by_cases h6 : k = 6
 · rw [if_pos h6]; rfl
 rw [if_neg h6]
 by_cases h7 : k = 7
 · rw [if_pos h7]; rfl
 rw [if_neg h7]
 by_cases h8 : k = 8
 · rw [if_pos h8]; rfl
 rw [if_neg h8]
 by_cases h9 : k = 9
 · rw [if_pos h9]; rfl
 rw [if_neg h9]
 by_cases h10 : k = 10
 · rw [if_pos h10]; rfl
 rw [if_neg h10]
 by_cases h11 : k = 11
 · rw [if_pos h11]; rfl
 rw [if_neg h11]
 by_cases h12 : k = 12
 · rw [if_pos h12]; rfl
 rw [if_neg h12]
 by_cases h13 : k = 13
 · rw [if_pos h13]; rfl
 rw [if_neg h13]
 by_cases h14 : k = 14
 · rw [if_pos h14]; rfl
 rw [if_neg h14]
 by_cases h15 : k = 15
 · rw [if_pos h15]; rfl
 rw [if_neg h15]
 by_cases h16 : k = 16
 · rw [if_pos h16]; rfl
 rw [if_neg h16]
 by_cases h17 : k = 17
 · rw [if_pos h17]; rfl
 rw [if_neg h17]
 rw [if_neg h]
 rfl
theorem head_no2 {p : Pr} {d left : Int} {pl : Bool} (h : mayHead p d pl left = false) : (0 ≤ left - 1 ∧ d ≤ 32) ∧ plainP p = true := by
 unfold mayHead at h
 simp only [Bool.or_eq_false_iff, decide_eq_false_iff_not, Bool.not_eq_false'] at h
 exact ⟨⟨by omega, by omega⟩, h.1.2⟩
def Cnt (n : Nat) (q : Int) (r : Bool × Int) : Prop := r.1 = true → (n : Int) = q - r.2 ∧ 0 ≤ r.2
theorem mayH_cnt {l : List Pr} {d q : Int} (hq : 0 ≤ q) (hl : l.length ≤ 1) (ih : ∀ x ∈ l, ∀ d pl q, 0 ≤ q → (mayC x d pl q).1 = true → Vld x ∧ Cnt (cntP x) q (mayC x d pl q)) (h : (mayH l d q).1 = true) : (∀ x ∈ l, Vld x) ∧ (cntPs l : Int) = q - (mayH l d q).2 ∧ 0 ≤ (mayH l d q).2 := by
 match l, hl with
 | [], _ => exact ⟨fun x hx => (by cases hx), by show ((0 : Nat) : Int) = q - q; omega, hq⟩
 | [x], _ =>
   have h' : (mayC x d false q).1 = true := h
   obtain ⟨h1, h2⟩ := ih x (List.Mem.head _) d false q hq h'
   obtain ⟨h3, h4⟩ := h2 h'
   refine ⟨fun y hy => by cases List.mem_singleton.1 hy; exact h1, ?_, h4⟩
   show ((cntP x + 0 : Nat) : Int) = _
   rw [Nat.add_zero]
   exact h3
theorem mayL_cnt {d : Int} {pl : Bool} : ∀ {l : List Pr} {q : Int}, 0 ≤ q → (∀ x ∈ l, ∀ d pl q, 0 ≤ q → (mayC x d pl q).1 = true → Vld x ∧ Cnt (cntP x) q (mayC x d pl q)) → (mayL l d pl q).1 = true → (∀ x ∈ l, Vld x) ∧ (cntPs l : Int) = q - (mayL l d pl q).2 ∧ 0 ≤ (mayL l d pl q).2
 | [], q, hq, _, _ => ⟨fun x hx => (by cases hx), by show ((0 : Nat) : Int) = q - q; omega, hq⟩
 | x :: r, q, hq, ih, h => by
   have e : mayL (x :: r) d pl q = if (mayC x d pl q).1 then mayL r d pl (mayC x d pl q).2 else mayC x d pl q := rfl
   rw [e] at h ⊢
   cases hc : (mayC x d pl q).1 with
   | false => rw [hc, if_neg (by decide)] at h; rw [hc] at h; cases h
   | true =>
     rw [hc, if_pos rfl] at h
     rw [if_pos rfl]
     obtain ⟨h1, h2⟩ := ih x (List.Mem.head _) d pl q hq hc
     obtain ⟨h3, h4⟩ := h2 hc
     obtain ⟨h5, h6, h7⟩ := mayL_cnt h4 (fun y hy => ih y (List.Mem.tail _ hy)) h
     refine ⟨fun y hy => ?_, ?_, h7⟩
     · rcases List.mem_cons.1 hy with rfl | hy
       · exact h1
       · exact h5 y hy
     · show ((cntP x + cntPs r : Nat) : Int) = _
       omega
theorem mayG_cnt {d : Int} : ∀ {l : List Gu} {q : Int}, 0 ≤ q → (∀ g ∈ l, g.bl.length ≤ 1) → (∀ g ∈ l, ∀ x ∈ g.bl, ∀ d pl q, 0 ≤ q → (mayC x d pl q).1 = true → Vld x ∧ Cnt (cntP x) q (mayC x d pl q)) → (mayG l d q).1 = true → (∀ g ∈ l, ∀ x ∈ g.bl, Vld x) ∧ (cntGs l : Int) = q - (mayG l d q).2 ∧ 0 ≤ (mayG l d q).2
 | [], q, hq, _, _, _ => ⟨fun x hx => (by cases hx), by show ((0 : Nat) : Int) = q - q; omega, hq⟩
 | g :: r, q, hq, hb, ih, h => by
   have e : mayG (g :: r) d q = if (mayG1 g d q).1 then mayG r d (mayG1 g d q).2 else mayG1 g d q := rfl
   rw [e, mayG1_eq] at h ⊢
   cases hc : (mayH g.bl d q).1 with
   | false => rw [hc, if_neg (by decide)] at h; rw [hc] at h; cases h
   | true =>
     rw [hc, if_pos rfl] at h
     rw [if_pos rfl]
     obtain ⟨h1, h3, h4⟩ := mayH_cnt hq (hb g (List.Mem.head _)) (ih g (List.Mem.head _)) hc
     obtain ⟨h5, h6, h7⟩ := mayG_cnt h4 (fun g' hg => hb g' (List.Mem.tail _ hg)) (fun g' hg => ih g' (List.Mem.tail _ hg)) h
     refine ⟨fun y hy => ?_, ?_, h7⟩
     · rcases List.mem_cons.1 hy with rfl | hy
       · exact h1
       · exact h5 y hy
     · show ((cntG g + cntGs r : Nat) : Int) = _
       rw [cntG_eq]
       omega
theorem mayC_cnt (p : Pr) : ∀ (d : Int) (pl : Bool) (q : Int), 0 ≤ q → (mayC p d pl q).1 = true → Vld p ∧ Cnt (cntP p) q (mayC p d pl q) := by
 refine Pr.ind (q := fun p => ∀ (d : Int) (pl : Bool) (q : Int), 0 ≤ q → (mayC p d pl q).1 = true → Vld p ∧ Cnt (cntP p) q (mayC p d pl q)) (fun p ih d pl q hq h => ?_) p
 have e := mayC_eq p d pl q
 cases hh : mayHead p d pl q with
 | true => rw [hh, if_pos rfl] at e; rw [e] at h; cases h
 | false =>
   rw [hh, if_neg (by decide)] at e
   obtain ⟨⟨h0, _⟩, hpl⟩ := head_no2 hh
   have hV := plain_spec hpl
   have hgb : ∀ g ∈ p.gl, g.bl.length ≤ 1 := fun g hg => by have := (gu_spec (hV.gs g hg).1).body; omega
   have ihL : ∀ x ∈ p.ll, ∀ d pl q, 0 ≤ q → (mayC x d pl q).1 = true → Vld x ∧ Cnt (cntP x) q (mayC x d pl q) := fun x hx => ih x (In.l hx)
   have ihG : ∀ g ∈ p.gl, ∀ x ∈ g.bl, ∀ d pl q, 0 ≤ q → (mayC x d pl q).1 = true → Vld x ∧ Cnt (cntP x) q (mayC x d pl q) := fun g hg x hx => ih x (In.g hg hx)
   have ihS : ∀ x ∈ p.sp.bl, ∀ d pl q, 0 ≤ q → (mayC x d pl q).1 = true → Vld x ∧ Cnt (cntP x) q (mayC x d pl q) := fun x hx => ih x (In.s hx)
   have mk : (∀ x ∈ p.ll, Vld x) → (∀ g ∈ p.gl, ∀ x ∈ g.bl, Vld x) → (∀ x ∈ p.sp.bl, Vld x) → Vld p := fun a b c => .mk hpl fun x hx => by
     cases hx with
     | l h => exact a x h
     | s h => exact c x h
     | g hg h => exact b _ hg x h
   have hcp := cntP_eq p
   by_cases h18 : p.k = 18
   · rw [if_pos h18] at e
     have hsl : p.sp.bl.length ≤ 1 := sp_bl (hV.sp (by rw [h18]; rfl))
     cases hS : (mayS p.sp d (q - 1)).1 with
     | false => rw [hS, if_neg (by decide)] at e; rw [e, hS] at h; cases h
     | true =>
       rw [hS, if_pos rfl] at e
       have hSS : (∀ x ∈ p.sp.bl, Vld x) ∧ (cntPs p.sp.bl : Int) = (q - 1) - (mayS p.sp d (q - 1)).2 ∧ 0 ≤ (mayS p.sp d (q - 1)).2 := by
         rw [mayS_eq] at hS ⊢
         split at hS
         · cases hS
         · rename_i hc
           rw [if_neg hc]
           exact mayH_cnt h0 hsl ihS hS
       obtain ⟨s1, s2, s3⟩ := hSS
       cases hL : (mayL p.ll d pl (mayS p.sp d (q - 1)).2).1 with
       | false => rw [hL, if_neg (by decide)] at e; rw [e, hL] at h; cases h
       | true =>
         rw [hL, if_pos rfl] at e
         obtain ⟨l1, l2, l3⟩ := mayL_cnt s3 ihL hL
         rw [e] at h
         obtain ⟨g1, g2, g3⟩ := mayG_cnt l3 hgb ihG h
         refine ⟨mk l1 g1 s1, fun _ => ?_⟩
         rw [e]
         rw [cntS_eq] at hcp
         exact ⟨by omega, g3⟩
   · rw [if_neg h18] at e
     have hsn : p.sp.bl = [] := by
       have hsp : (fieldsP p.k).1.spec = false := fields_spec h18
       exact ns_bl (hV.ns hsp)
     cases hL : (mayL p.ll (if p.k = 11 then d + 2 else d + 1) false (q - 1)).1 with
     | false => rw [hL, if_neg (by decide)] at e; rw [e, hL] at h; cases h
     | true =>
       rw [hL, if_pos rfl] at e
       obtain ⟨l1, l2, l3⟩ := mayL_cnt h0 ihL hL
       rw [e] at h
       obtain ⟨g1, g2, g3⟩ := mayG_cnt l3 hgb ihG h
       refine ⟨mk l1 g1 (by rw [hsn]; intro x hx; cases hx), fun _ => ?_⟩
       rw [e]
       rw [cntS_eq, hsn] at hcp
       replace hcp : cntP p = 1 + (cntPs p.ll + (0 + cntGs p.gl)) := hcp
       exact ⟨by omega, g3⟩
theorem mayP_vld {p : Pr} (h : mayP p = true) : Vld p ∧ cntP p ≤ 2048 := by
 obtain ⟨h1, h2⟩ := mayC_cnt p 0 true 2048 (by decide) h
 obtain ⟨h3, h4⟩ := h2 h
 exact ⟨h1, by omega⟩
end Go.Pc
end
/- LwM -/
section
namespace Go.Tg
open Go.Eng Go.Pc Go
open Go.Xp hiding B nameT zeroT
open Go.Ty (Ty eqT Vr zeroT)
theorem typX_strip (S : List Ent) (e : Ex) : typX S (strip e) = typX S e := by
 unfold typX
 refine Ex.ind (p := fun e => typF (nameE S) (strip e) = typF (nameE S) e) (fun e ih => ?_) e
 rw [typF_eq, typF_eq, l_strip]
 have key : ∀ l : List Ex, (∀ x ∈ l, x ∈ e.l) → typFL (nameE S) (l.map strip) = typFL (nameE S) l := by
   intro l
   induction l with
   | nil => intro _; rfl
   | cons x r ihr =>
     intro hm
     show typF (nameE S) (strip x) :: typFL (nameE S) (r.map strip) = typF (nameE S) x :: typFL (nameE S) r
     rw [ih x (hm x (List.Mem.head _)), ihr fun y hy => hm y (List.Mem.tail _ hy)]
 rw [key e.l fun _ h => h, strip_eq]
 rfl
theorem ofX_strip (S : List Ent) (e : Ex) : ofX S (strip e) = ofX S e := by unfold ofX; rw [may_strip, typX_strip]
def pE : Ent := ⟨4, zeroT, [[112]], [], false, true, [([], [1, 3])], 4⟩
def dE (nm : B) (t : Ty) (ar : Int) : Ent := ⟨1, t, [nm], [], false, false, [], ar⟩
def someE : List Ent := [dE [120] (tyK 1) 0, dE [118] ⟨1, 4, 0, []⟩ 1, ⟨2, tyK 2, [[107]], [], false, false, [], 2⟩, dE [116] (tyK 5) 3, pE, dE [99] ⟨4, 0, 0, [112]⟩ 5]
def vpr (b : Nat) : Vr := ⟨[], some ⟨b, 0, none⟩, 2, 2, [1, 3]⟩
def leafX (k o t n : Int) (s : B) : Ex := .mk k o t n s none 0 []
def dclS (nm : B) (t : Ty) (b : Nat) : Sp := .mk 1 t ⟨some ⟨b, 0, none⟩, 1, [nm]⟩ zeroE false nilS nilS none 0 []
def someL (b2 b4 b6 b10 b11 b12 b14 b18 : Nat) : List Sp := [dclS [120] (tyK 1) b2, dclS [118] ⟨1, 4, 0, []⟩ b4, .mk 2 (tyK 2) ⟨some ⟨b6, 0, none⟩, 1, [[107]]⟩ (leafX 2 0 0 97 []) false nilS nilS none 0 [],
 dclS [116] (tyK 5) b10, .mk 4 zeroT ⟨some ⟨b11, 0, none⟩, 1, [[112]]⟩ zeroE false ⟨some ⟨b14, 0, none⟩, 1, [vpr b12]⟩ nilS none 0 [], dclS [99] ⟨4, 0, 0, [112]⟩ b18]
theorem some_env (b2 b4 b6 b10 b11 b12 b14 b18 : Nat) : (envS (someL b2 b4 b6 b10 b11 b12 b14 b18) 0).map shE = someE := rfl
abbrev nmX (s : B) : Ex := sx 4 0 0 0 s []
abbrev nuX (n : Int) : Ex := sx 1 0 0 n [] []
instance : DecidableEq Ty := fun t u => decidable_of_iff (eqT t u = true) (Go.Ty.eqT_iff t u)
theorem ex1 : ofX someE (sx 7 1 0 0 [] [nmX [120], sx 5 0 0 0 [118] [nmX [120]]]) = (tyK 1, 0) := by decide +kernel
theorem ex2 : ofX someE (sx 7 1 0 0 [] [nmX [120], nmX [107]]) = (zeroT, 130) := by decide +kernel
theorem ex3 : ofX someE (nmX [121]) = (zeroT, 120) := by decide +kernel
def zeroR : Rp := ⟨[], zeroE, zeroE⟩
def flatP (k : Int) (nm : B) (ch : Ex) (tg ex : Sli Ex) : Pr := .mk k nm ch tg ex zeroR none 0 [] none 0 [] nilS zeroS
def checkE (p : Pr) : Int := checkX (mayP p) someE p
def oneS (b : Nat) (x : Ex) : Sli Ex := ⟨some ⟨b, 0, none⟩, 1, [x]⟩
def twoS (b : Nat) (x y : Ex) : Sli Ex := ⟨some ⟨b, 0, none⟩, 2, [x, y]⟩
abbrev twoX (o : Int) (x y : Ex) (b : Nat) : Ex := .mk 7 o 0 0 [] (some ⟨b, 0, none⟩) 2 [x, y]
theorem ck1 (b b2 : Nat) : checkE (flatP 5 [] (nmX [99]) nilS (twoS b (nmX [120]) (twoX 14 (nmX [120]) (nuX 1) b2))) = 0 := by kernel_rfl
theorem ck2 (b : Nat) : checkE (flatP 5 [] (nmX [99]) nilS (oneS b (nmX [120]))) = 130 := by kernel_rfl
theorem ck3 (b b2 : Nat) : checkE (flatP 3 [] zeroE (oneS b (nmX [107])) (oneS b2 (nmX [107]))) = 130 := by kernel_rfl
end Go.Tg
end
/- Eng25 -/
section
namespace Go.Eng
open Go Go.RowKit
section
variable {P : Program} {ops : Array Oper} {Q : Exit → Act → World → Prop} {n : Cx} {F : Fm} {h h' : List Res} {m : View} {rest : List Oper}
variable {ty : TypeId} {pos : String} {after : Array Edge} {dst : Option Tmp} {g : Option (Nat × Bool)} {d : Nat}
end
end Go.Eng
end
/- FrM -/
section
namespace Go.Fr
open Go.Eng Go.Pc Go
open Go.Xp hiding B
open Go.Ty (Ty Vr)
structure Et where
 name : B
 new : B
 proto : Bool
 ta : Option Addr
 tc : Nat
 tags : List B
def etE (x : Et) : List Value := [str x.name, str x.new, .bool x.proto, .slice x.ta x.tags.length x.tc]
theorem etE_len (x : Et) : (etE x).length = 4 := rfl
def etV (x : Et) : Value := .agg (etE x).toArray
def zeroT0 : Et := ⟨[], [], false, none, 0, []⟩
structure Fe where
 name : B
 proto : Bool
 tags : List B
def Et.f (x : Et) : Fe := ⟨x.name, x.proto, x.tags⟩
abbrev Ev := B × Bool
def evE (e : Ev) : List Value := [str e.1, .bool e.2]
theorem evE_len (e : Ev) : (evE e).length = 2 := rfl
def lkN (E : List Fe) (nm : B) : Nat → Option Fe
 | 0 => none
 | n + 1 => match E[n]? with
   | some x => if x.name == nm then some x else lkN E nm n
   | none => lkN E nm n
def lk (E : List Fe) (nm : B) : Option Fe := lkN E nm E.length
def lkM (E : List Et) (nm : B) : Nat → Option Et
 | 0 => none
 | n + 1 => match E[n]? with
   | some x => if x.name == nm then some x else lkM E nm n
   | none => lkM E nm n
theorem lkM_eq (E : List Et) (nm : B) : ∀ n, (lkM E nm n).map Et.f = lkN (E.map Et.f) nm n
 | 0 => rfl
 | n + 1 => by
   unfold lkM lkN
   rw [List.getElem?_map]
   cases E[n]? with
   | none => exact lkM_eq E nm n
   | some x =>
     show Option.map Et.f (if (x.name == nm) = true then some x else lkM E nm n) = if (x.name == nm) = true then some x.f else lkN (E.map Et.f) nm n
     rw [← lkM_eq E nm n]
     split <;> rfl
def lkE (E : List Et) (nm : B) : Option Et := lkM E nm E.length
theorem lkE_eq (E : List Et) (nm : B) : (lkE E nm).map Et.f = lk (E.map Et.f) nm := by unfold lkE lk; rw [lkM_eq, List.length_map]
theorem lkM_mem {E : List Et} {nm : B} {x : Et} : ∀ {n : Nat}, lkM E nm n = some x → x ∈ E
 | 0, h => by cases h
 | n + 1, h => by
   unfold lkM at h
   split at h
   · rename_i y hy
     split at h
     · cases h; exact List.mem_of_getElem? hy
     · exact lkM_mem h
   · exact lkM_mem h
def evN (E : List Fe) (nm : B) : List Ev := match lk E nm with
 | some _ => []
 | none => [(nm, false)]
mutual
def evX (E : List Fe) : Ex → List Ev
 | .mk k _ _ _ s _ _ l => (if k = 4 ∨ k = 5 ∨ k = 9 then evN E s else []) ++ evXs E l
def evXs (E : List Fe) : List Ex → List Ev
 | [] => []
 | x :: r => evX E x ++ evXs E r
end
theorem evX_eq (E : List Fe) (e : Ex) : evX E e = (if e.k = 4 ∨ e.k = 5 ∨ e.k = 9 then evN E e.s else []) ++ evXs E e.l := by cases e; rfl
def twG : List B → List B → List Ev
 | _, [] => []
 | seen, x :: r => (if seen.contains x then [(x, true)] else []) ++ twG (seen ++ [x]) r
def tagT (E : List Fe) (t : Ty) : List B := match lk E t.proto with
 | some p => if t.kind = 4 ∧ t.proto ≠ [] ∧ p.proto = true then p.tags else []
 | none => []
def hdE1 (l : List Ex) : Ex := l.headD zeroE
def taggedF (E : List Fe) (k : Int) (ch : Ex) (ex : List Ex) : Bool := match lk E ch.s with
 | some x => (((k == 5) && ((hdE1 ex).k == 4)) && !x.proto) && x.tags.contains (hdE1 ex).s
 | none => false
def evT (E : List Fe) (pr : B) : List Ev := if pr = [] then [] else evN E pr
def evTs (E : List Fe) : List Fo → List Ev
 | [] => []
 | f :: r => evT E f.ty.proto ++ evTs E r
def ownF (E : List Fe) (s : Sp) : List Fe := s.names.l.map fun n => ⟨n, s.k == 4, tagT E s.ty ++ (if s.k = 4 ∧ s.cs = true then s.vs.l.map (·.tag) else [])⟩
def innF (E : List Fe) (fs : List Fo) : List Fe := fs.map fun f => ⟨f.name, false, tagT E f.ty⟩
def repF (E : List Fe) (r : Rp) : List Fe := if r.name = [] then E else E ++ [⟨r.name, false, []⟩]
mutual
def evP : Pr → List Fe → List Ev
 | .mk k nm ch tg ex rep _ _ gl _ _ ll _ sp, E =>
   (if k = 17 then evN E nm else []) ++ (evX E ch ++ (evXs E tg.l ++ (evXs E (if taggedF E k ch ex.l then ex.l.drop 1 else ex.l) ++ ((if rep.name = [] then [] else evX E rep.base ++ evX E rep.count) ++
     ((if k = 18 then evS sp (repF E rep) else []) ++ (evGs gl (if k = 18 then repF E rep ++ ownF (repF E rep) sp else repF E rep) ++ evPs ll (if k = 18 then repF E rep ++ ownF (repF E rep) sp else repF E rep)))))))
def evPs : List Pr → List Fe → List Ev
 | [], _ => []
 | x :: r, E => evP x E ++ evPs r E
def evG : Gu → List Fe → List Ev
 | .mk _ _ cond ch tg vl time _ _ bl, E => evX E cond ++ (evX E ch ++ (evXs E tg.l ++ (evXs E vl.l ++ (evX E time ++ evPs bl E))))
def evGs : List Gu → List Fe → List Ev
 | [], _ => []
 | g :: r, E => evG g E ++ evGs r E
def evS : Sp → List Fe → List Ev
 | .mk _ ty names e _ _ fs _ _ bl, E => twG [] names.l ++ (twG [] (fs.l.map (·.name)) ++ (evT E ty.proto ++ (evTs E fs.l ++ (evX E e ++ evPs bl (E ++ innF E fs.l)))))
end
theorem evP_eq (p : Pr) (E : List Fe) : evP p E = (if p.k = 17 then evN E p.name else []) ++ (evX E p.ch ++ (evXs E p.tg.l ++ (evXs E (if taggedF E p.k p.ch p.ex.l then p.ex.l.drop 1 else p.ex.l) ++ ((if p.rep.name = [] then [] else evX E p.rep.base ++ evX E p.rep.count) ++
     ((if p.k = 18 then evS p.sp (repF E p.rep) else []) ++ (evGs p.gl (if p.k = 18 then repF E p.rep ++ ownF (repF E p.rep) p.sp else repF E p.rep) ++ evPs p.ll (if p.k = 18 then repF E p.rep ++ ownF (repF E p.rep) p.sp else repF E p.rep))))))) := by cases p; rfl
theorem evG_eq (g : Gu) (E : List Fe) : evG g E = evX E g.cond ++ (evX E g.ch ++ (evXs E g.tg.l ++ (evXs E g.vl.l ++ (evX E g.time ++ evPs g.bl E)))) := by cases g; rfl
theorem evS_eq (s : Sp) (E : List Fe) : evS s E = twG [] s.names.l ++ (twG [] (s.fs.l.map (·.name)) ++ (evT E s.ty.proto ++ (evTs E s.fs.l ++ (evX E s.e ++ evPs s.bl (E ++ innF E s.fs.l))))) := by cases s; rfl
mutual
def dcP : Pr → Nat
 | .mk _ _ _ _ _ _ _ _ gl _ _ ll _ sp => 1 + (dcS sp + (dcGs gl + dcPs ll))
def dcPs : List Pr → Nat
 | [] => 0
 | x :: r => dcP x + dcPs r
def dcG : Gu → Nat
 | .mk _ _ _ _ _ _ _ _ _ bl => dcPs bl
def dcGs : List Gu → Nat
 | [] => 0
 | g :: r => dcG g + dcGs r
def dcS : Sp → Nat
 | .mk _ _ names _ _ _ fs _ _ bl => names.l.length + (fs.l.length + dcPs bl)
end
theorem dcP_eq (p : Pr) : dcP p = 1 + (dcS p.sp + (dcGs p.gl + dcPs p.ll)) := by cases p; rfl
theorem dcG_eq (g : Gu) : dcG g = dcPs g.bl := by cases g; rfl
theorem dcS_eq (s : Sp) : dcS s = s.names.l.length + (s.fs.l.length + dcPs s.bl) := by cases s; rfl
end Go.Fr
end
/- PrX -/
section
namespace Go.Pc
open Go.Eng Go.Xp Go
open Go.Ty (Ty Vr)
def sameRp (r s : Rp) : Bool := ((r.name == s.name) && sameE r.base s.base) && sameE r.count s.count
def sameVs (c : Bool) (l : List Vr) (d : Bool) (s : List Vr) : Bool := (c == d) && eqL sameVr l s
mutual
def sameP : Pr → Pr → Bool
 | .mk k nm ch tg ex rp _ _ gl _ _ ll pn sp => fun q => eqL (fun a b : Int => a == b) pn.l q.pn.l && ((((((((((k == q.k) && (nm == q.name)) && sameRp rp q.rep) && sameE ch q.ch) && eqL sameE tg.l q.tg.l) && eqL sameE ex.l q.ex.l) && sameGs gl q.gl) && sameL ll q.ll) && sameS sp q.sp))
def sameL : List Pr → List Pr → Bool
 | [] => fun s => match s with
   | [] => true
   | _ :: _ => false
 | x :: r => fun s => match s with
   | [] => false
   | y :: t => sameP x y && sameL r t
def sameG : Gu → Gu → Bool
 | .mk k nm c ch tg vl tm _ _ bl => fun g => (((((((k == g.k) && (nm == g.name)) && sameE c g.cond) && sameE ch g.ch) && sameE tm g.time) && eqL sameE tg.l g.tg.l) && eqL sameE vl.l g.vl.l) && sameL bl g.bl
def sameGs : List Gu → List Gu → Bool
 | [] => fun s => match s with
   | [] => true
   | _ :: _ => false
 | x :: r => fun s => match s with
   | [] => false
   | y :: t => sameG x y && sameGs r t
def sameS : Sp → Sp → Bool
 | .mk k ty nms e cs vs fs _ _ bl => fun s => ((((k == s.k) && Go.Ty.eqT ty s.ty) && eqL eqFo fs.l s.fs.l)) && (((eqL (fun a b : B => a == b) nms.l s.names.l && sameE e s.e) && sameVs cs vs.l s.cs s.vs.l) && sameL bl s.bl)
end
theorem sameL_eq : ∀ l s : List Pr, sameL l s = eqL sameP l s
 | [], [] => rfl
 | x :: r, y :: s => by show (sameP x y && sameL r s) = (sameP x y && eqL sameP r s); rw [sameL_eq r s]
 | [], _ :: _ => rfl
 | _ :: _, [] => rfl
theorem sameGs_eq : ∀ l s : List Gu, sameGs l s = eqL sameG l s
 | [], [] => rfl
 | x :: r, y :: s => by show (sameG x y && sameGs r s) = (sameG x y && eqL sameG r s); rw [sameGs_eq r s]
 | [], _ :: _ => rfl
 | _ :: _, [] => rfl
theorem sameP_eq (p q : Pr) : sameP p q = (eqL (fun a b : Int => a == b) p.pn.l q.pn.l && ((((((((((p.k == q.k) && (p.name == q.name)) && sameRp p.rep q.rep) && sameE p.ch q.ch) && eqL sameE p.tg.l q.tg.l) && eqL sameE p.ex.l q.ex.l) && eqL sameG p.gl q.gl) && eqL sameP p.ll q.ll) && sameS p.sp q.sp))) := by
 rw [← sameGs_eq, ← sameL_eq]
 cases p
 rfl
theorem sameG_eq (p g : Gu) : sameG p g = ((((((((p.k == g.k) && (p.name == g.name)) && sameE p.cond g.cond) && sameE p.ch g.ch) && sameE p.time g.time) && eqL sameE p.tg.l g.tg.l) && eqL sameE p.vl.l g.vl.l) && eqL sameP p.bl g.bl) := by
 rw [← sameL_eq]
 cases p
 rfl
theorem sameS_eq (p s : Sp) : sameS p s = (((((p.k == s.k) && Go.Ty.eqT p.ty s.ty) && eqL eqFo p.fs.l s.fs.l)) && (((eqL (fun a b : B => a == b) p.names.l s.names.l && sameE p.e s.e) && sameVs p.cs p.vs.l s.cs s.vs.l) && eqL sameP p.bl s.bl)) := by
 rw [← sameL_eq]
 cases p
 rfl
theorem sameS_far {x y : Sp} (h : (((x.k != y.k) || !(Go.Ty.eqT x.ty y.ty)) || ((x.fs.l.length : Int) != (y.fs.l.length : Int))) = true) : sameS x y = false := by
 rw [sameS_eq]
 simp only [Bool.or_eq_true, bne_iff_ne, Bool.not_eq_true'] at h
 rcases h with (h | h) | h
 · have : (x.k == y.k) = false := by simpa using h
   simp [this]
 · simp [h]
 · rw [eqL_len eqFo x.fs.l y.fs.l (by omega)]
   simp
theorem sameS_near {x y : Sp} (h : (((x.k != y.k) || !(Go.Ty.eqT x.ty y.ty)) || ((x.fs.l.length : Int) != (y.fs.l.length : Int))) = false) :
   x.fs.l.length = y.fs.l.length ∧ sameS x y = (eqL eqFo x.fs.l y.fs.l && (((eqL (fun a b : B => a == b) x.names.l y.names.l && sameE x.e y.e) && sameVs x.cs x.vs.l y.cs y.vs.l) && eqL sameP x.bl y.bl)) := by
 rw [sameS_eq]
 simp only [Bool.or_eq_false_iff, bne_eq_false_iff_eq, Bool.not_eq_false'] at h
 obtain ⟨⟨h1, h2⟩, h3⟩ := h
 refine ⟨by omega, ?_⟩
 have h4 : (x.k == y.k) = true := by simpa using h1
 rw [h4, h2, Bool.true_and, Bool.true_and]
end Go.Pc
end
/- PrY -/
section
namespace Go.Pc
open Go.Eng Go.Xp Go
open Go.Ty (Ty Vr)
set_option linter.unusedSimpArgs false
theorem each_zero {α : Type} (l : List α) (q : α → Bool) : each l 0 0 q = l.isEmpty := by
 unfold each span
 cases l with
 | nil => rfl
 | cons x r =>
   have : ¬ (((x :: r).length : Int) ≤ 0) := by simp only [List.length_cons]; omega
   simp only [this, decide_false, Bool.and_false, Bool.false_and, List.isEmpty_cons]
theorem each_allZ {α : Type} (l : List α) (q : α → Bool) : each l 0 8 q = (decide ((l.length : Int) ≤ 8) && l.all q) := by
 have h1 : (l.length : Int) ≥ 0 := by omega
 have h2 : (!(l.any fun x => !q x)) = l.all q := by
   induction l with
   | nil => rfl
   | cons x r ih =>
     have := ih (by omega)
     simp only [List.any_cons, List.all_cons, ← this]
     cases q x <;> simp
 unfold each span
 rw [h2]
 simp [h1]
theorem span_one (n : Nat) : span 1 1 (n : Int) = ((n : Int) == 1) := by
 unfold span
 rw [Bool.eq_iff_iff]
 simp
 omega
theorem span_two (n : Nat) : span 2 2 (n : Int) = ((n : Int) == 2) := by
 unfold span
 rw [Bool.eq_iff_iff]
 simp
 omega
theorem span_zero {α : Type} (l : List α) : span 0 0 (l.length : Int) = l.isEmpty := by
 cases l with
 | nil => rfl
 | cons x r =>
   unfold span
   have : ¬ (((x :: r).length : Int) ≤ 0) := by simp only [List.length_cons]; omega
   simp only [this, decide_false, Bool.and_false, List.isEmpty_cons]
theorem eqL_nil {α : Type} (q : α → α → Bool) (l : List α) : eqL q l [] = l.isEmpty := by cases l <;> rfl
theorem eqL_refl {α : Type} {q : α → α → Bool} (hq : ∀ x, q x x = true) : ∀ l : List α, eqL q l l = true
 | [] => rfl
 | x :: r => by show (q x x && eqL q r r) = true; rw [hq, eqL_refl hq r]; rfl
theorem len_zero {α : Type} (l : List α) : ((l.length : Int) == 0) = l.isEmpty := by
 cases l with
 | nil => rfl
 | cons x r =>
   rw [List.isEmpty_cons, beq_eq_false_iff_ne]
   simp only [List.length_cons]
   omega
theorem eqT_refl (t : Ty) : Go.Ty.eqT t t = true := (Go.Ty.eqT_iff t t).2 rfl
theorem eqFo_refl (f : Fo) : eqFo f f = true := by unfold eqFo; simp [eqT_refl]
theorem sameVr_refl (v : Vr) : sameVr v v = true := by unfold sameVr; simp
theorem noneE_zero : noneE zeroE = true := by decide
def zeroG : Gu := .mk 0 [] zeroE zeroE nilS nilS zeroE none 0 []
def zeroR0 : Rp := ⟨[], zeroE, zeroE⟩
def zeroP0 : Pr := .mk 0 [] zeroE nilS nilS zeroR0 none 0 [] none 0 [] nilS zeroS
theorem sameG_zero {nm : B} {c ch tm : Ex} {tg vl : Sli Ex} : sameG (.mk 0 nm c ch tg vl tm none 0 []) zeroG = ((((((nm == []) && noneE c) && noneE ch) && noneE tm) && tg.l.isEmpty) && vl.l.isEmpty) := by
 rw [sameG_eq]
 show (((((((((0 : Int) == 0) && (nm == [])) && sameE c zeroE) && sameE ch zeroE) && sameE tm zeroE) && eqL sameE tg.l []) && eqL sameE vl.l []) && eqL sameP [] []) = _
 rw [eqL_nil, eqL_nil, show ((0 : Int) == 0) = true from rfl, Bool.true_and, show eqL sameP [] [] = true from rfl, Bool.and_true]
 rfl
theorem sameS_zero (s : Sp) : sameS s zeroS = sameSF s zeroS := by
 rw [sameS_eq]
 unfold sameSF
 show (((((s.k == 0) && Go.Ty.eqT s.ty Go.Ty.zeroT) && eqL eqFo s.fs.l [])) && (((eqL (fun a b : B => a == b) s.names.l [] && sameE s.e zeroE) && ((s.cs == false) && eqL sameVr s.vs.l [])) && eqL sameP s.bl [])) = ((((((((s.k == 0) && Go.Ty.eqT s.ty Go.Ty.zeroT) && (s.names.l == [])) && sameE s.e zeroE) && (s.cs == false)) && eqL sameVr s.vs.l []) && eqL eqFo s.fs.l []) && ((s.bl.length : Int) == 0))
 rw [eqL_nil, eqL_nil, eqL_nil, eqL_nil, len_zero, show (s.names.l == []) = s.names.l.isEmpty by cases s.names.l <;> rfl]
 generalize (s.k == 0) = a
 generalize Go.Ty.eqT s.ty Go.Ty.zeroT = b
 generalize s.fs.l.isEmpty = c
 generalize s.names.l.isEmpty = d
 generalize sameE s.e zeroE = e
 generalize (s.cs == false) = f
 generalize s.vs.l.isEmpty = g
 generalize s.bl.isEmpty = i
 revert a b c d e f g i
 decide
theorem sameP_zero {nm : B} {ch : Ex} {tg ex : Sli Ex} {pn : Sli Int} {sp : Sp} : sameP (.mk 0 nm ch tg ex zeroR0 none 0 [] none 0 [] pn sp) zeroP0 = (((((pn.l.isEmpty && (nm == [])) && noneE ch) && tg.l.isEmpty) && ex.l.isEmpty) && sameSF sp zeroS) := by
 rw [sameP_eq, ← sameS_zero]
 show (eqL (fun a b : Int => a == b) pn.l [] && (((((((((((0 : Int) == 0) && (nm == [])) && sameRp zeroR0 zeroR0) && sameE ch zeroE) && eqL sameE tg.l []) && eqL sameE ex.l []) && eqL sameG [] []) && eqL sameP [] []) && sameS sp zeroS))) = _
 rw [eqL_nil, eqL_nil, eqL_nil, show ((0 : Int) == 0) = true from rfl, show sameRp zeroR0 zeroR0 = true by decide, show eqL sameP [] [] = true from rfl, show eqL sameG [] [] = true from rfl]
 show _ = (((((pn.l.isEmpty && (nm == [])) && sameE ch zeroE) && tg.l.isEmpty) && ex.l.isEmpty) && sameS sp zeroS)
 generalize pn.l.isEmpty = a
 generalize (nm == []) = b
 generalize sameE ch zeroE = c
 generalize tg.l.isEmpty = d
 generalize ex.l.isEmpty = e
 generalize sameS sp zeroS = f
 revert a b c d e f
 decide
theorem nil_e {α : Type} : (nilS : Sli α).l.isEmpty = true := rfl
theorem nil_b : (([] : B) == []) = true := rfl
theorem gu_12 {g : Gu} (h : g.k = 1 ∨ g.k = 2) : guP g = ((mayE g.cond && ((g.bl.length : Int) == 1)) && sameG (.mk 0 g.name zeroE g.ch g.tg g.vl g.time none 0 []) zeroG) := by
 rw [sameG_zero]
 try rw [noneE_zero]
 unfold guP condP
 rcases h with h | h
 · rw [h]
   simp only [Int.reduceEq, Int.reduceBEq, Int.reduceBNe, Int.reduceLE, if_true, if_false, reduceIte, decide_true, decide_false, each_zero, either, Bool.or_true, Bool.or_false, Bool.true_or, Bool.false_or, Bool.and_true, Bool.and_false, Bool.true_and, Bool.false_and, Bool.false_eq_true, nil_e, nil_b, noneE_zero]
   generalize mayE g.cond = x0
   generalize noneE g.ch = x1
   generalize noneE g.time = x2
   generalize g.tg.l.isEmpty = x3
   generalize g.vl.l.isEmpty = x4
   generalize (g.name == []) = x5
   generalize ((g.bl.length : Int) == 1) = x6
   revert x0 x1 x2 x3 x4 x5 x6
   decide
 · rw [h]
   simp only [Int.reduceEq, Int.reduceBEq, Int.reduceBNe, Int.reduceLE, if_true, if_false, reduceIte, decide_true, decide_false, each_zero, either, Bool.or_true, Bool.or_false, Bool.true_or, Bool.false_or, Bool.and_true, Bool.and_false, Bool.true_and, Bool.false_and, Bool.false_eq_true, nil_e, nil_b, noneE_zero]
   generalize mayE g.cond = x0
   generalize noneE g.ch = x1
   generalize noneE g.time = x2
   generalize g.tg.l.isEmpty = x3
   generalize g.vl.l.isEmpty = x4
   generalize (g.name == []) = x5
   generalize ((g.bl.length : Int) == 1) = x6
   revert x0 x1 x2 x3 x4 x5 x6
   decide
theorem gu_3 {g : Gu} (h : g.k = 3) : guP g = (((((noneE g.cond || mayE g.cond) && elemE g.ch) && each g.tg.l 1 8 elemE) && ((g.bl.length : Int) == 1)) && sameG (.mk 0 g.name zeroE zeroE nilS g.vl g.time none 0 []) zeroG) := by
 rw [sameG_zero]
 try rw [noneE_zero]
 unfold guP condP
 rw [h]
 simp only [Int.reduceEq, Int.reduceBEq, Int.reduceBNe, Int.reduceLE, if_true, if_false, reduceIte, decide_true, decide_false, each_zero, either, Bool.or_true, Bool.or_false, Bool.true_or, Bool.false_or, Bool.and_true, Bool.and_false, Bool.true_and, Bool.false_and, Bool.false_eq_true, nil_e, nil_b, noneE_zero]
 generalize each g.tg.l 1 8 elemE = x0
 generalize mayE g.cond = x1
 generalize noneE g.cond = x2
 generalize elemE g.ch = x3
 generalize noneE g.time = x4
 generalize g.vl.l.isEmpty = x5
 generalize (g.name == []) = x6
 generalize ((g.bl.length : Int) == 1) = x7
 revert x0 x1 x2 x3 x4 x5 x6 x7
 decide
theorem gu_4 {g : Gu} (h : g.k = 4) : guP g = (((((noneE g.cond || mayE g.cond) && elemE g.ch) && mayE g.time) && ((g.bl.length : Int) == 1)) && sameG (.mk 0 g.name zeroE zeroE g.tg g.vl zeroE none 0 []) zeroG) := by
 rw [sameG_zero]
 try rw [noneE_zero]
 unfold guP condP
 rw [h]
 simp only [Int.reduceEq, Int.reduceBEq, Int.reduceBNe, Int.reduceLE, if_true, if_false, reduceIte, decide_true, decide_false, each_zero, either, Bool.or_true, Bool.or_false, Bool.true_or, Bool.false_or, Bool.and_true, Bool.and_false, Bool.true_and, Bool.false_and, Bool.false_eq_true, nil_e, nil_b, noneE_zero]
 generalize mayE g.cond = x0
 generalize noneE g.cond = x1
 generalize elemE g.ch = x2
 generalize mayE g.time = x3
 generalize g.tg.l.isEmpty = x4
 generalize g.vl.l.isEmpty = x5
 generalize (g.name == []) = x6
 generalize ((g.bl.length : Int) == 1) = x7
 revert x0 x1 x2 x3 x4 x5 x6 x7
 decide
theorem gu_5 {g : Gu} (h : g.k = 5) : guP g = ((each g.vl.l 1 8 mayE && ((g.bl.length : Int) == 1)) && sameG (.mk 0 g.name g.cond g.ch g.tg nilS g.time none 0 []) zeroG) := by
 rw [sameG_zero]
 try rw [noneE_zero]
 unfold guP condP
 rw [h]
 simp only [Int.reduceEq, Int.reduceBEq, Int.reduceBNe, Int.reduceLE, if_true, if_false, reduceIte, decide_true, decide_false, each_zero, either, Bool.or_true, Bool.or_false, Bool.true_or, Bool.false_or, Bool.and_true, Bool.and_false, Bool.true_and, Bool.false_and, Bool.false_eq_true, nil_e, nil_b, noneE_zero]
 generalize each g.vl.l 1 8 mayE = x0
 generalize noneE g.cond = x1
 generalize noneE g.ch = x2
 generalize noneE g.time = x3
 generalize g.tg.l.isEmpty = x4
 generalize (g.name == []) = x5
 generalize ((g.bl.length : Int) == 1) = x6
 revert x0 x1 x2 x3 x4 x5 x6
 decide
theorem gu_6 {g : Gu} (h : g.k = 6) : guP g = ((true && ((g.bl.length : Int) == 1)) && sameG (.mk 0 g.name g.cond g.ch g.tg g.vl g.time none 0 []) zeroG) := by
 rw [sameG_zero]
 try rw [noneE_zero]
 unfold guP condP
 rw [h]
 simp only [Int.reduceEq, Int.reduceBEq, Int.reduceBNe, Int.reduceLE, if_true, if_false, reduceIte, decide_true, decide_false, each_zero, either, Bool.or_true, Bool.or_false, Bool.true_or, Bool.false_or, Bool.and_true, Bool.and_false, Bool.true_and, Bool.false_and, Bool.false_eq_true, nil_e, nil_b, noneE_zero]
 generalize noneE g.cond = x0
 generalize noneE g.ch = x1
 generalize noneE g.time = x2
 generalize g.tg.l.isEmpty = x3
 generalize g.vl.l.isEmpty = x4
 generalize (g.name == []) = x5
 generalize ((g.bl.length : Int) == 1) = x6
 revert x0 x1 x2 x3 x4 x5 x6
 decide
theorem gu_7 {g : Gu} (h : g.k = 7) : guP g = (((Go.Lx.name g.name && each g.tg.l 0 8 elemE) && ((g.bl.length : Int) == 1)) && sameG (.mk 0 [] g.cond g.ch nilS g.vl g.time none 0 []) zeroG) := by
 rw [sameG_zero]
 try rw [noneE_zero]
 unfold guP condP
 rw [h]
 simp only [Int.reduceEq, Int.reduceBEq, Int.reduceBNe, Int.reduceLE, if_true, if_false, reduceIte, decide_true, decide_false, each_zero, either, Bool.or_true, Bool.or_false, Bool.true_or, Bool.false_or, Bool.and_true, Bool.and_false, Bool.true_and, Bool.false_and, Bool.false_eq_true, nil_e, nil_b, noneE_zero]
 generalize each g.tg.l 0 8 elemE = x0
 generalize Go.Lx.name g.name = x1
 generalize noneE g.cond = x2
 generalize noneE g.ch = x3
 generalize noneE g.time = x4
 generalize g.vl.l.isEmpty = x5
 generalize ((g.bl.length : Int) == 1) = x6
 revert x0 x1 x2 x3 x4 x5 x6
 decide
theorem gu_no {g : Gu} (h0 : 0 ≤ g.k) (h : ¬ (g.k = 1 ∨ g.k = 2)) (h3 : g.k ≠ 3) (h4 : g.k ≠ 4) (h5 : g.k ≠ 5) (h6 : g.k ≠ 6) (h7 : g.k ≠ 7) (b : Bool) : guP g = ((false && ((g.bl.length : Int) == 1)) && b) := by
 rw [Bool.false_and, Bool.false_and]
 unfold guP
 by_cases hz : g.k = 0
 · rw [hz]; rfl
 · have : ¬ g.k ≤ 7 := by omega
   simp [this]
theorem mkq_k {k : Int} {ty : Ty} {names : Sli B} {e : Ex} {cs : Bool} {vs : Sli Vr} {fs : Sli Fo} {ba : Option Addr} {bc : Nat} {bl : List Pr} : (Sp.mk k ty names e cs vs fs ba bc bl).k = k := rfl
theorem mkq_ty {k : Int} {ty : Ty} {names : Sli B} {e : Ex} {cs : Bool} {vs : Sli Vr} {fs : Sli Fo} {ba : Option Addr} {bc : Nat} {bl : List Pr} : (Sp.mk k ty names e cs vs fs ba bc bl).ty = ty := rfl
theorem mkq_names {k : Int} {ty : Ty} {names : Sli B} {e : Ex} {cs : Bool} {vs : Sli Vr} {fs : Sli Fo} {ba : Option Addr} {bc : Nat} {bl : List Pr} : (Sp.mk k ty names e cs vs fs ba bc bl).names = names := rfl
theorem mkq_e {k : Int} {ty : Ty} {names : Sli B} {e : Ex} {cs : Bool} {vs : Sli Vr} {fs : Sli Fo} {ba : Option Addr} {bc : Nat} {bl : List Pr} : (Sp.mk k ty names e cs vs fs ba bc bl).e = e := rfl
theorem mkq_cs {k : Int} {ty : Ty} {names : Sli B} {e : Ex} {cs : Bool} {vs : Sli Vr} {fs : Sli Fo} {ba : Option Addr} {bc : Nat} {bl : List Pr} : (Sp.mk k ty names e cs vs fs ba bc bl).cs = cs := rfl
theorem mkq_vs {k : Int} {ty : Ty} {names : Sli B} {e : Ex} {cs : Bool} {vs : Sli Vr} {fs : Sli Fo} {ba : Option Addr} {bc : Nat} {bl : List Pr} : (Sp.mk k ty names e cs vs fs ba bc bl).vs = vs := rfl
theorem mkq_fs {k : Int} {ty : Ty} {names : Sli B} {e : Ex} {cs : Bool} {vs : Sli Vr} {fs : Sli Fo} {ba : Option Addr} {bc : Nat} {bl : List Pr} : (Sp.mk k ty names e cs vs fs ba bc bl).fs = fs := rfl
theorem mkq_bl {k : Int} {ty : Ty} {names : Sli B} {e : Ex} {cs : Bool} {vs : Sli Vr} {fs : Sli Fo} {ba : Option Addr} {bc : Nat} {bl : List Pr} : (Sp.mk k ty names e cs vs fs ba bc bl).bl = bl := rfl
theorem nil_l {α : Type} : (nilS : Sli α).l = [] := rfl
theorem sameE_self (e : Ex) : sameE e e = true := (same_strip e e).2 rfl
theorem len_nil {α : Type} : ((([] : List α).length : Nat) : Int) = 0 := rfl
theorem same_zero : sameE zeroE zeroE = true := by decide
theorem sp_1 {s : Sp} (h : s.k = 1) : spP s = ((Go.Ty.may s.ty && each s.names.l 1 8 Go.Lx.name) && sameS (.mk 0 Go.Ty.zeroT nilS s.e s.cs s.vs s.fs s.ba s.bc s.bl) zeroS) := by
 rw [sameS_zero]
 unfold spP fineS wantS sameSF
 rw [h]
 show _ = (_ && (((((((((0 : Int) == 0) && Go.Ty.eqT Go.Ty.zeroT Go.Ty.zeroT) && (([] : List B) == [])) && sameE s.e zeroE) && (s.cs == false)) && eqL sameVr s.vs.l []) && eqL eqFo s.fs.l []) && (((s.bl : List Pr).length : Int) == 0)))
 simp only [Int.reduceEq, Int.reduceBEq, Int.reduceLE, and_self, and_true, true_and, if_true, if_false, reduceIte, beq_self_eq_true, Bool.and_true, Bool.true_and, mkq_k, mkq_ty, mkq_names, mkq_e, mkq_cs, mkq_vs, mkq_fs, mkq_bl, same_zero, sameE_self, len_nil, eqT_refl, eqL_nil, len_zero, eqL_refl eqFo_refl, eqL_refl sameVr_refl, nil_e, nil_l, List.isEmpty_nil, each_allZ]
 all_goals
   generalize Go.Ty.may s.ty = x0
   generalize each s.names.l 1 8 Go.Lx.name = x1
   generalize sameE s.e zeroE = x2
   generalize (s.cs == false) = x3
   generalize s.vs.l.isEmpty = x4
   generalize s.fs.l.isEmpty = x5
   generalize s.bl.isEmpty = x6
   revert x0 x1 x2 x3 x4 x5 x6
   decide
theorem sp_2 {s : Sp} (h : s.k = 2) : spP s = (((primT s.ty && each s.names.l 1 1 Go.Lx.name) && mayE s.e) && sameS (.mk 0 Go.Ty.zeroT nilS zeroE s.cs s.vs s.fs s.ba s.bc s.bl) zeroS) := by
 rw [sameS_zero]
 unfold spP fineS wantS sameSF
 rw [h]
 show _ = (_ && (((((((((0 : Int) == 0) && Go.Ty.eqT Go.Ty.zeroT Go.Ty.zeroT) && (([] : List B) == [])) && sameE zeroE zeroE) && (s.cs == false)) && eqL sameVr s.vs.l []) && eqL eqFo s.fs.l []) && (((s.bl : List Pr).length : Int) == 0)))
 simp only [Int.reduceEq, Int.reduceBEq, Int.reduceLE, and_self, and_true, true_and, if_true, if_false, reduceIte, beq_self_eq_true, Bool.and_true, Bool.true_and, mkq_k, mkq_ty, mkq_names, mkq_e, mkq_cs, mkq_vs, mkq_fs, mkq_bl, same_zero, sameE_self, len_nil, eqT_refl, eqL_nil, len_zero, eqL_refl eqFo_refl, eqL_refl sameVr_refl, nil_e, nil_l, List.isEmpty_nil, each_allZ]
 all_goals
   generalize primT s.ty = x0
   generalize each s.names.l 1 1 Go.Lx.name = x1
   generalize mayE s.e = x2
   generalize (s.cs == false) = x3
   generalize s.vs.l.isEmpty = x4
   generalize s.fs.l.isEmpty = x5
   generalize s.bl.isEmpty = x6
   revert x0 x1 x2 x3 x4 x5 x6
   decide
theorem sp_3 {s : Sp} (h : s.k = 3) : spP s = (((primT s.ty && each s.names.l 1 1 Go.Lx.name) && elemE s.e) && sameS (.mk 0 Go.Ty.zeroT nilS zeroE s.cs s.vs s.fs s.ba s.bc s.bl) zeroS) := by
 rw [sameS_zero]
 unfold spP fineS wantS sameSF
 rw [h]
 show _ = (_ && (((((((((0 : Int) == 0) && Go.Ty.eqT Go.Ty.zeroT Go.Ty.zeroT) && (([] : List B) == [])) && sameE zeroE zeroE) && (s.cs == false)) && eqL sameVr s.vs.l []) && eqL eqFo s.fs.l []) && (((s.bl : List Pr).length : Int) == 0)))
 simp only [Int.reduceEq, Int.reduceBEq, Int.reduceLE, and_self, and_true, true_and, if_true, if_false, reduceIte, beq_self_eq_true, Bool.and_true, Bool.true_and, mkq_k, mkq_ty, mkq_names, mkq_e, mkq_cs, mkq_vs, mkq_fs, mkq_bl, same_zero, sameE_self, len_nil, eqT_refl, eqL_nil, len_zero, eqL_refl eqFo_refl, eqL_refl sameVr_refl, nil_e, nil_l, List.isEmpty_nil, each_allZ]
 all_goals
   generalize primT s.ty = x0
   generalize each s.names.l 1 1 Go.Lx.name = x1
   generalize elemE s.e = x2
   generalize (s.cs == false) = x3
   generalize s.vs.l.isEmpty = x4
   generalize s.fs.l.isEmpty = x5
   generalize s.bl.isEmpty = x6
   revert x0 x1 x2 x3 x4 x5 x6
   decide
theorem sp_4 {s : Sp} (h : s.k = 4) : spP s = ((each s.names.l 1 1 Go.Lx.name && Go.Ty.mayPr s.cs s.vs.l) && sameS (.mk 0 s.ty nilS s.e false nilS s.fs s.ba s.bc s.bl) zeroS) := by
 rw [sameS_zero]
 unfold spP fineS wantS sameSF
 rw [h]
 show _ = (_ && (((((((((0 : Int) == 0) && Go.Ty.eqT s.ty Go.Ty.zeroT) && (([] : List B) == [])) && sameE s.e zeroE) && (false == false)) && eqL sameVr [] []) && eqL eqFo s.fs.l []) && (((s.bl : List Pr).length : Int) == 0)))
 simp only [Int.reduceEq, Int.reduceBEq, Int.reduceLE, and_self, and_true, true_and, if_true, if_false, reduceIte, beq_self_eq_true, Bool.and_true, Bool.true_and, mkq_k, mkq_ty, mkq_names, mkq_e, mkq_cs, mkq_vs, mkq_fs, mkq_bl, same_zero, sameE_self, len_nil, eqT_refl, eqL_nil, len_zero, eqL_refl eqFo_refl, eqL_refl sameVr_refl, nil_e, nil_l, List.isEmpty_nil, each_allZ]
 all_goals
   generalize each s.names.l 1 1 Go.Lx.name = x0
   generalize Go.Ty.mayPr s.cs s.vs.l = x1
   generalize Go.Ty.eqT s.ty Go.Ty.zeroT = x2
   generalize sameE s.e zeroE = x3
   generalize s.fs.l.isEmpty = x4
   generalize s.bl.isEmpty = x5
   revert x0 x1 x2 x3 x4 x5
   decide
theorem sp_5 {s : Sp} (h : s.k = 5) : spP s = ((((each s.names.l 1 1 Go.Lx.name && decide ((s.fs.l.length : Int) ≤ 8)) && ((s.bl.length : Int) == 1)) && s.fs.l.all foP) && sameS (.mk 0 s.ty nilS s.e s.cs s.vs nilS none 0 []) zeroS) := by
 rw [sameS_zero]
 unfold spP fineS wantS sameSF
 rw [h]
 show _ = (_ && (((((((((0 : Int) == 0) && Go.Ty.eqT s.ty Go.Ty.zeroT) && (([] : List B) == [])) && sameE s.e zeroE) && (s.cs == false)) && eqL sameVr s.vs.l []) && eqL eqFo [] []) && ((([] : List Pr).length : Int) == 0)))
 simp only [Int.reduceEq, Int.reduceBEq, Int.reduceLE, and_self, and_true, true_and, if_true, if_false, reduceIte, beq_self_eq_true, Bool.and_true, Bool.true_and, mkq_k, mkq_ty, mkq_names, mkq_e, mkq_cs, mkq_vs, mkq_fs, mkq_bl, same_zero, sameE_self, len_nil, eqT_refl, eqL_nil, len_zero, eqL_refl eqFo_refl, eqL_refl sameVr_refl, nil_e, nil_l, List.isEmpty_nil, each_allZ]
 all_goals
   generalize each s.names.l 1 1 Go.Lx.name = x0
   generalize decide ((s.fs.l.length : Int) ≤ 8) = x1
   generalize ((s.bl.length : Int) == 1) = x2
   generalize s.fs.l.all foP = x3
   generalize Go.Ty.eqT s.ty Go.Ty.zeroT = x4
   generalize sameE s.e zeroE = x5
   generalize (s.cs == false) = x6
   generalize s.vs.l.isEmpty = x7
   revert x0 x1 x2 x3 x4 x5 x6 x7
   decide
theorem sp_no {s : Sp} (h1 : s.k ≠ 1) (h2 : s.k ≠ 2) (h3 : s.k ≠ 3) (h4 : s.k ≠ 4) (h5 : s.k ≠ 5) (b : Bool) : spP s = (false && b) := by
 unfold spP
 rw [if_neg (by omega), Bool.false_and]
def clrP (nm : B) (ch : Ex) (tg ex : Sli Ex) (pn : Sli Int) (sp : Sp) : Pr := .mk 0 nm ch tg ex zeroR0 none 0 [] none 0 [] pn sp
def gQ (a b : Int) : Gu → Bool := inG { us0 with lo := a, hi := b }
def ownBig (p : Pr) : Bool := if p.k = 8 ∨ p.k = 9 then ((((true && ((!(!(p.rep.name == []))) || ((p.ll.length : Int) == 1))) && ((p.gl.length : Int) == 0)) && repP p.rep) && sameP (clrP p.name p.ch p.tg p.ex p.pn p.sp) zeroP0) else false
def ownP (p : Pr) : Bool := if p.ll.length ≤ 2048 then plainP p else ownBig p
theorem own_of {p : Pr} {pb A : Bool} (hA : pb = false → A = false) (hb : pb = true → p.ll.length ≤ 2048) (hk : ¬ (p.k = 8 ∨ p.k = 9)) (h : plainP p = A) : ownP p = A := by
 unfold ownP
 by_cases hl : p.ll.length ≤ 2048
 · rw [if_pos hl, h]
 · have hf : pb = false := by
     cases hp : pb with
     | false => rfl
     | true => exact absurd (hb hp) hl
   rw [if_neg hl, hA hf]
   unfold ownBig
   rw [if_neg hk]
theorem plain_u {p : Pr} {u : Us} (hu : fieldsP p.k = (u, true)) : plainP p = (repP p.rep && (if (p.rep.name == []) = true then plainU p u else (u.rep && plainU p (repU u)))) := by
 unfold plainP
 rw [hu]
 cases hr : repP p.rep with
 | false => rfl
 | true =>
   cases hn : (p.rep.name == []) with
   | true =>
     have : (p.rep.name != []) = false := by rw [bne, hn]; rfl
     simp [this]
   | false =>
     have : (p.rep.name != []) = true := by rw [bne, hn]; rfl
     cases hx : u.rep <;> simp [this, hx]
theorem plain_n {p : Pr} {u : Us} (hu : fieldsP p.k = (u, true)) (hr : u.rep = false) : plainP p = (repP p.rep && ((p.rep.name == []) && plainU p u)) := by
 rw [plain_u hu, hr]
 cases (p.rep.name == []) <;> simp
theorem emp_le {α : Type} {l : List α} (h : l.isEmpty = true) : l.length ≤ 2048 := by cases l with
 | nil => simp
 | cons _ _ => cases h
theorem one_le {n : Nat} (h : ((n : Int) == 1) = true) : n ≤ 2048 := by
 have : (n : Int) = 1 := by simpa using h
 omega
theorem two_le {n : Nat} (h : ((n : Int) == 2) = true) : n ≤ 2048 := by
 have : (n : Int) = 2 := by simpa using h
 omega
theorem zeroSF : sameSF zeroS zeroS = true := by decide
theorem own_12 {p : Pr} (h : p.k = 1 ∨ p.k = 2) : ownP p = (((((!(!(p.rep.name == []))) && ((p.ll.length : Int) == 0)) && ((p.gl.length : Int) == 0)) && repP p.rep) && sameP (clrP p.name p.ch p.tg p.ex p.pn p.sp) zeroP0) := by
 have hu : fieldsP p.k = (us0, true) := by rcases h with h | h <;> rw [h] <;> rfl
 refine own_of (pb := ((p.ll.length : Int) == 0)) (fun hp => by rw [hp]; simp only [Bool.and_false, Bool.false_and]) (fun hp => by rw [len_zero] at hp; exact emp_le hp) (by omega) ?_
 rw [plain_n hu rfl]
 unfold clrP
 rw [sameP_zero]
 dsimp only [plainU, us0]
 simp only [Bool.false_eq_true, if_true, if_false, reduceIte, each_zero, span_zero, span_one, span_two, either, len_zero, Bool.and_true, Bool.true_and, Bool.false_and, Bool.false_or, Bool.or_false, Bool.not_false, Bool.not_true, nil_e, nil_b, noneE_zero, nil_l, List.isEmpty_nil, zeroSF]
 generalize repP p.rep = x0
 generalize (p.rep.name == []) = x1
 generalize p.ll.isEmpty = x2
 generalize p.gl.isEmpty = x3
 generalize (p.name == []) = x4
 generalize noneE p.ch = x5
 generalize p.tg.l.isEmpty = x6
 generalize p.ex.l.isEmpty = x7
 generalize p.pn.l.isEmpty = x8
 generalize sameSF p.sp zeroS = x9
 revert x0 x1 x2 x3 x4 x5 x6 x7 x8 x9
 decide +kernel
theorem own_3 {p : Pr} (h : p.k = 3) : ownP p = (((((((!(!(p.rep.name == []))) && each p.tg.l 1 8 elemE) && each p.ex.l 1 8 mayE) && ((p.ll.length : Int) == 0)) && ((p.gl.length : Int) == 0)) && repP p.rep) && sameP (clrP p.name p.ch nilS nilS p.pn p.sp) zeroP0) := by
 have hu : fieldsP p.k = ({ us0 with t0 := 1, t1 := 8, e0 := 1, e1 := 8 }, true) := by rw [h]; rfl
 refine own_of (pb := ((p.ll.length : Int) == 0)) (fun hp => by rw [hp]; simp only [Bool.and_false, Bool.false_and]) (fun hp => by rw [len_zero] at hp; exact emp_le hp) (by omega) ?_
 rw [plain_n hu rfl]
 unfold clrP
 rw [sameP_zero]
 dsimp only [plainU, us0]
 simp only [Bool.false_eq_true, if_true, if_false, reduceIte, each_zero, span_zero, span_one, span_two, either, len_zero, Bool.and_true, Bool.true_and, Bool.false_and, Bool.false_or, Bool.or_false, Bool.not_false, Bool.not_true, nil_e, nil_b, noneE_zero, nil_l, List.isEmpty_nil, zeroSF]
 generalize repP p.rep = x0
 generalize (p.rep.name == []) = x1
 generalize p.ll.isEmpty = x2
 generalize p.gl.isEmpty = x3
 generalize (p.name == []) = x4
 generalize noneE p.ch = x5
 generalize each p.tg.l 1 8 elemE = x6
 generalize p.pn.l.isEmpty = x7
 generalize sameSF p.sp zeroS = x8
 generalize each p.ex.l 1 8 mayE = x9
 revert x0 x1 x2 x3 x4 x5 x6 x7 x8 x9
 decide +kernel
theorem own_4 {p : Pr} (h : p.k = 4) : ownP p = (((((((!(!(p.rep.name == []))) && elemE p.ch) && each p.tg.l 1 8 elemE) && ((p.ll.length : Int) == 0)) && ((p.gl.length : Int) == 0)) && repP p.rep) && sameP (clrP p.name zeroE nilS p.ex p.pn p.sp) zeroP0) := by
 have hu : fieldsP p.k = ({ us0 with chan := true, t0 := 1, t1 := 8 }, true) := by rw [h]; rfl
 refine own_of (pb := ((p.ll.length : Int) == 0)) (fun hp => by rw [hp]; simp only [Bool.and_false, Bool.false_and]) (fun hp => by rw [len_zero] at hp; exact emp_le hp) (by omega) ?_
 rw [plain_n hu rfl]
 unfold clrP
 rw [sameP_zero]
 dsimp only [plainU, us0]
 simp only [Bool.false_eq_true, if_true, if_false, reduceIte, each_zero, span_zero, span_one, span_two, either, len_zero, Bool.and_true, Bool.true_and, Bool.false_and, Bool.false_or, Bool.or_false, Bool.not_false, Bool.not_true, nil_e, nil_b, noneE_zero, nil_l, List.isEmpty_nil, zeroSF]
 generalize repP p.rep = x0
 generalize (p.rep.name == []) = x1
 generalize p.ll.isEmpty = x2
 generalize p.gl.isEmpty = x3
 generalize (p.name == []) = x4
 generalize elemE p.ch = x5
 generalize each p.tg.l 1 8 elemE = x6
 generalize p.ex.l.isEmpty = x7
 generalize p.pn.l.isEmpty = x8
 generalize sameSF p.sp zeroS = x9
 revert x0 x1 x2 x3 x4 x5 x6 x7 x8 x9
 decide +kernel
theorem own_5 {p : Pr} (h : p.k = 5) : ownP p = (((((((!(!(p.rep.name == []))) && elemE p.ch) && each p.ex.l 1 9 mayE) && ((p.ll.length : Int) == 0)) && ((p.gl.length : Int) == 0)) && repP p.rep) && sameP (clrP p.name zeroE p.tg nilS p.pn p.sp) zeroP0) := by
 have hu : fieldsP p.k = ({ us0 with chan := true, e0 := 1, e1 := 9 }, true) := by rw [h]; rfl
 refine own_of (pb := ((p.ll.length : Int) == 0)) (fun hp => by rw [hp]; simp only [Bool.and_false, Bool.false_and]) (fun hp => by rw [len_zero] at hp; exact emp_le hp) (by omega) ?_
 rw [plain_n hu rfl]
 unfold clrP
 rw [sameP_zero]
 dsimp only [plainU, us0]
 simp only [Bool.false_eq_true, if_true, if_false, reduceIte, each_zero, span_zero, span_one, span_two, either, len_zero, Bool.and_true, Bool.true_and, Bool.false_and, Bool.false_or, Bool.or_false, Bool.not_false, Bool.not_true, nil_e, nil_b, noneE_zero, nil_l, List.isEmpty_nil, zeroSF]
 generalize repP p.rep = x0
 generalize (p.rep.name == []) = x1
 generalize p.ll.isEmpty = x2
 generalize p.gl.isEmpty = x3
 generalize (p.name == []) = x4
 generalize elemE p.ch = x5
 generalize p.tg.l.isEmpty = x6
 generalize p.pn.l.isEmpty = x7
 generalize sameSF p.sp zeroS = x8
 generalize each p.ex.l 1 9 mayE = x9
 revert x0 x1 x2 x3 x4 x5 x6 x7 x8 x9
 decide +kernel
theorem own_6 {p : Pr} (h : p.k = 6) : ownP p = (((((((!(!(p.rep.name == []))) && elemE p.ch) && each p.ex.l 1 1 mayE) && ((p.ll.length : Int) == 0)) && ((p.gl.length : Int) == 0)) && repP p.rep) && sameP (clrP p.name zeroE p.tg nilS p.pn p.sp) zeroP0) := by
 have hu : fieldsP p.k = ({ us0 with chan := true, e0 := 1, e1 := 1 }, true) := by rw [h]; rfl
 refine own_of (pb := ((p.ll.length : Int) == 0)) (fun hp => by rw [hp]; simp only [Bool.and_false, Bool.false_and]) (fun hp => by rw [len_zero] at hp; exact emp_le hp) (by omega) ?_
 rw [plain_n hu rfl]
 unfold clrP
 rw [sameP_zero]
 dsimp only [plainU, us0]
 simp only [Bool.false_eq_true, if_true, if_false, reduceIte, each_zero, span_zero, span_one, span_two, either, len_zero, Bool.and_true, Bool.true_and, Bool.false_and, Bool.false_or, Bool.or_false, Bool.not_false, Bool.not_true, nil_e, nil_b, noneE_zero, nil_l, List.isEmpty_nil, zeroSF]
 generalize repP p.rep = x0
 generalize (p.rep.name == []) = x1
 generalize p.ll.isEmpty = x2
 generalize p.gl.isEmpty = x3
 generalize (p.name == []) = x4
 generalize elemE p.ch = x5
 generalize p.tg.l.isEmpty = x6
 generalize p.pn.l.isEmpty = x7
 generalize sameSF p.sp zeroS = x8
 generalize each p.ex.l 1 1 mayE = x9
 revert x0 x1 x2 x3 x4 x5 x6 x7 x8 x9
 decide +kernel
theorem own_7 {p : Pr} (h : p.k = 7) : ownP p = ((((((!(!(p.rep.name == []))) && elemE p.ch) && ((p.ll.length : Int) == 0)) && each p.gl 1 16 (gQ 7 7)) && repP p.rep) && sameP (clrP p.name zeroE p.tg p.ex p.pn p.sp) zeroP0) := by
 have hu : fieldsP p.k = ({ us0 with chan := true, g0 := 1, g1 := 16, lo := 7, hi := 7 }, true) := by rw [h]; rfl
 refine own_of (pb := ((p.ll.length : Int) == 0)) (fun hp => by rw [hp]; simp only [Bool.and_false, Bool.false_and]) (fun hp => by rw [len_zero] at hp; exact emp_le hp) (by omega) ?_
 rw [plain_n hu rfl]
 unfold clrP
 rw [sameP_zero]
 dsimp only [plainU, us0]
 simp only [Bool.false_eq_true, if_true, if_false, reduceIte, each_zero, span_zero, span_one, span_two, either, len_zero, Bool.and_true, Bool.true_and, Bool.false_and, Bool.false_or, Bool.or_false, Bool.not_false, Bool.not_true, nil_e, nil_b, noneE_zero, nil_l, List.isEmpty_nil, zeroSF]
 have e1 : each p.gl 1 16 (inG { rep := false, name := false, chan := true, spec := false, procs := false, t0 := 0, t1 := 0, e0 := 0, e1 := 0, p0 := 0, p1 := 0, g0 := 1, g1 := 16, lo := 7, hi := 7 }) = each p.gl 1 16 (gQ 7 7) := rfl
 rw [e1]
 generalize repP p.rep = x0
 generalize (p.rep.name == []) = x1
 generalize p.ll.isEmpty = x2
 generalize (p.name == []) = x3
 generalize elemE p.ch = x4
 generalize p.tg.l.isEmpty = x5
 generalize p.ex.l.isEmpty = x6
 generalize p.pn.l.isEmpty = x7
 generalize sameSF p.sp zeroS = x8
 generalize each p.gl 1 16 (gQ 7 7) = x9
 revert x0 x1 x2 x3 x4 x5 x6 x7 x8 x9
 decide +kernel
theorem own_10 {p : Pr} (h : p.k = 10) : ownP p = (((((!(!(p.rep.name == []))) && ((p.ll.length : Int) == 2)) && ((p.gl.length : Int) == 0)) && repP p.rep) && sameP (clrP p.name p.ch p.tg p.ex p.pn p.sp) zeroP0) := by
 have hu : fieldsP p.k = ({ us0 with p0 := 2, p1 := 2 }, true) := by rw [h]; rfl
 refine own_of (pb := ((p.ll.length : Int) == 2)) (fun hp => by rw [hp]; simp only [Bool.and_false, Bool.false_and]) (fun hp => two_le hp) (by omega) ?_
 rw [plain_n hu rfl]
 unfold clrP
 rw [sameP_zero]
 dsimp only [plainU, us0]
 simp only [Bool.false_eq_true, if_true, if_false, reduceIte, each_zero, span_zero, span_one, span_two, either, len_zero, Bool.and_true, Bool.true_and, Bool.false_and, Bool.false_or, Bool.or_false, Bool.not_false, Bool.not_true, nil_e, nil_b, noneE_zero, nil_l, List.isEmpty_nil, zeroSF]
 generalize repP p.rep = x0
 generalize (p.rep.name == []) = x1
 generalize ((p.ll.length : Int) == 2) = x2
 generalize p.gl.isEmpty = x3
 generalize (p.name == []) = x4
 generalize noneE p.ch = x5
 generalize p.tg.l.isEmpty = x6
 generalize p.ex.l.isEmpty = x7
 generalize p.pn.l.isEmpty = x8
 generalize sameSF p.sp zeroS = x9
 revert x0 x1 x2 x3 x4 x5 x6 x7 x8 x9
 decide +kernel
theorem own_15 {p : Pr} (h : p.k = 15) : ownP p = ((((((!(!(p.rep.name == []))) && each p.ex.l 1 1 mayE) && ((p.ll.length : Int) == 0)) && each p.gl 0 16 (gQ 5 6)) && repP p.rep) && sameP (clrP p.name p.ch p.tg nilS p.pn p.sp) zeroP0) := by
 have hu : fieldsP p.k = ({ us0 with e0 := 1, e1 := 1, g0 := 0, g1 := 16, lo := 5, hi := 6 }, true) := by rw [h]; rfl
 refine own_of (pb := ((p.ll.length : Int) == 0)) (fun hp => by rw [hp]; simp only [Bool.and_false, Bool.false_and]) (fun hp => by rw [len_zero] at hp; exact emp_le hp) (by omega) ?_
 rw [plain_n hu rfl]
 unfold clrP
 rw [sameP_zero]
 dsimp only [plainU, us0]
 simp only [Bool.false_eq_true, if_true, if_false, reduceIte, each_zero, span_zero, span_one, span_two, either, len_zero, Bool.and_true, Bool.true_and, Bool.false_and, Bool.false_or, Bool.or_false, Bool.not_false, Bool.not_true, nil_e, nil_b, noneE_zero, nil_l, List.isEmpty_nil, zeroSF]
 have e1 : each p.gl 0 16 (inG { rep := false, name := false, chan := false, spec := false, procs := false, t0 := 0, t1 := 0, e0 := 1, e1 := 1, p0 := 0, p1 := 0, g0 := 0, g1 := 16, lo := 5, hi := 6 }) = each p.gl 0 16 (gQ 5 6) := rfl
 rw [e1]
 generalize repP p.rep = x0
 generalize (p.rep.name == []) = x1
 generalize p.ll.isEmpty = x2
 generalize (p.name == []) = x3
 generalize noneE p.ch = x4
 generalize p.tg.l.isEmpty = x5
 generalize p.pn.l.isEmpty = x6
 generalize sameSF p.sp zeroS = x7
 generalize each p.ex.l 1 1 mayE = x8
 generalize each p.gl 0 16 (gQ 5 6) = x9
 revert x0 x1 x2 x3 x4 x5 x6 x7 x8 x9
 decide +kernel
theorem own_16 {p : Pr} (h : p.k = 16) : ownP p = ((((((!(!(p.rep.name == []))) && each p.ex.l 1 1 mayE) && ((p.ll.length : Int) == 1)) && ((p.gl.length : Int) == 0)) && repP p.rep) && sameP (clrP p.name p.ch p.tg nilS p.pn p.sp) zeroP0) := by
 have hu : fieldsP p.k = ({ us0 with e0 := 1, e1 := 1, p0 := 1, p1 := 1 }, true) := by rw [h]; rfl
 refine own_of (pb := ((p.ll.length : Int) == 1)) (fun hp => by rw [hp]; simp only [Bool.and_false, Bool.false_and]) (fun hp => one_le hp) (by omega) ?_
 rw [plain_n hu rfl]
 unfold clrP
 rw [sameP_zero]
 dsimp only [plainU, us0]
 simp only [Bool.false_eq_true, if_true, if_false, reduceIte, each_zero, span_zero, span_one, span_two, either, len_zero, Bool.and_true, Bool.true_and, Bool.false_and, Bool.false_or, Bool.or_false, Bool.not_false, Bool.not_true, nil_e, nil_b, noneE_zero, nil_l, List.isEmpty_nil, zeroSF]
 generalize repP p.rep = x0
 generalize (p.rep.name == []) = x1
 generalize ((p.ll.length : Int) == 1) = x2
 generalize p.gl.isEmpty = x3
 generalize (p.name == []) = x4
 generalize noneE p.ch = x5
 generalize p.tg.l.isEmpty = x6
 generalize p.pn.l.isEmpty = x7
 generalize sameSF p.sp zeroS = x8
 generalize each p.ex.l 1 1 mayE = x9
 revert x0 x1 x2 x3 x4 x5 x6 x7 x8 x9
 decide +kernel
theorem own_17 {p : Pr} (h : p.k = 17) : ownP p = (((((((!(!(p.rep.name == []))) && Go.Lx.name p.name) && each p.ex.l 0 8 mayE) && ((p.ll.length : Int) == 0)) && ((p.gl.length : Int) == 0)) && repP p.rep) && sameP (clrP [] p.ch p.tg nilS p.pn p.sp) zeroP0) := by
 have hu : fieldsP p.k = ({ us0 with name := true, e0 := 0, e1 := 8 }, true) := by rw [h]; rfl
 refine own_of (pb := ((p.ll.length : Int) == 0)) (fun hp => by rw [hp]; simp only [Bool.and_false, Bool.false_and]) (fun hp => by rw [len_zero] at hp; exact emp_le hp) (by omega) ?_
 rw [plain_n hu rfl]
 unfold clrP
 rw [sameP_zero]
 dsimp only [plainU, us0]
 simp only [Bool.false_eq_true, if_true, if_false, reduceIte, each_zero, span_zero, span_one, span_two, either, len_zero, Bool.and_true, Bool.true_and, Bool.false_and, Bool.false_or, Bool.or_false, Bool.not_false, Bool.not_true, nil_e, nil_b, noneE_zero, nil_l, List.isEmpty_nil, zeroSF]
 generalize repP p.rep = x0
 generalize (p.rep.name == []) = x1
 generalize p.ll.isEmpty = x2
 generalize p.gl.isEmpty = x3
 generalize Go.Lx.name p.name = x4
 generalize noneE p.ch = x5
 generalize p.tg.l.isEmpty = x6
 generalize p.pn.l.isEmpty = x7
 generalize sameSF p.sp zeroS = x8
 generalize each p.ex.l 0 8 mayE = x9
 revert x0 x1 x2 x3 x4 x5 x6 x7 x8 x9
 decide +kernel
theorem own_18 {p : Pr} (h : p.k = 18) : ownP p = ((((((!(!(p.rep.name == []))) && spP p.sp) && ((p.ll.length : Int) == 1)) && ((p.gl.length : Int) == 0)) && repP p.rep) && sameP (clrP p.name p.ch p.tg p.ex p.pn zeroS) zeroP0) := by
 have hu : fieldsP p.k = ({ us0 with spec := true, p0 := 1, p1 := 1 }, true) := by rw [h]; rfl
 refine own_of (pb := ((p.ll.length : Int) == 1)) (fun hp => by rw [hp]; simp only [Bool.and_false, Bool.false_and]) (fun hp => one_le hp) (by omega) ?_
 rw [plain_n hu rfl]
 unfold clrP
 rw [sameP_zero]
 dsimp only [plainU, us0]
 simp only [Bool.false_eq_true, if_true, if_false, reduceIte, each_zero, span_zero, span_one, span_two, either, len_zero, Bool.and_true, Bool.true_and, Bool.false_and, Bool.false_or, Bool.or_false, Bool.not_false, Bool.not_true, nil_e, nil_b, noneE_zero, nil_l, List.isEmpty_nil, zeroSF]
 generalize repP p.rep = x0
 generalize (p.rep.name == []) = x1
 generalize ((p.ll.length : Int) == 1) = x2
 generalize p.gl.isEmpty = x3
 generalize (p.name == []) = x4
 generalize noneE p.ch = x5
 generalize p.tg.l.isEmpty = x6
 generalize p.ex.l.isEmpty = x7
 generalize p.pn.l.isEmpty = x8
 generalize spP p.sp = x9
 revert x0 x1 x2 x3 x4 x5 x6 x7 x8 x9
 decide +kernel
end Go.Pc
end
/- PrZ -/
section
namespace Go.Pc
open Go.Eng Go.Xp Go
open Go.Ty (Ty Vr)
set_option linter.unusedSimpArgs false
theorem own_89 {p : Pr} (h : p.k = 8 ∨ p.k = 9) : ownP p = ((((true && ((!(!(p.rep.name == []))) || ((p.ll.length : Int) == 1))) && ((p.gl.length : Int) == 0)) && repP p.rep) && sameP (clrP p.name p.ch p.tg p.ex p.pn p.sp) zeroP0) := by
 unfold ownP
 by_cases hl : p.ll.length ≤ 2048
 · rw [if_pos hl]
   have hu : fieldsP p.k = ({ us0 with rep := true, p0 := 0, p1 := 2048 }, true) := by rcases h with h | h <;> rw [h] <;> rfl
   rw [plain_u hu]
   unfold clrP
   rw [sameP_zero]
   have hs : span 0 2048 (p.ll.length : Int) = true := by
     unfold span
     simp
     omega
   rw [show repU { us0 with rep := true, p0 := 0, p1 := 2048 } = { us0 with rep := true, p0 := 1, p1 := 1 } from rfl]
   dsimp only [plainU, us0]
   simp only [Bool.false_eq_true, if_false, reduceIte, each_zero, span_one, hs, either, len_zero, Bool.and_true, Bool.true_and, Bool.false_and, Bool.false_or, Bool.or_false, Bool.not_false, Bool.not_true]
   generalize repP p.rep = x0
   generalize (p.rep.name == []) = x1
   generalize ((p.ll.length : Int) == 1) = x2
   generalize p.gl.isEmpty = x3
   generalize (p.name == []) = x4
   generalize noneE p.ch = x5
   generalize p.tg.l.isEmpty = x6
   generalize p.ex.l.isEmpty = x7
   generalize p.pn.l.isEmpty = x8
   generalize sameSF p.sp zeroS = x9
   revert x0 x1 x2 x3 x4 x5 x6 x7 x8 x9
   decide +kernel
 · rw [if_neg hl]
   unfold ownBig
   rw [if_pos h]
theorem own_rg {p : Pr} {lo hi le mo : Int} (h89 : ¬ (p.k = 8 ∨ p.k = 9)) (hu : fieldsP p.k = ({ us0 with rep := true, g0 := 0, g1 := 16, lo := lo, hi := hi }, true)) (hml : mo = (if (p.rep.name == []) = true then 16 else 1) ∧ le = (if (p.rep.name == []) = true then 0 else 1)) :
   ownP p = ((((true && ((p.ll.length : Int) == 0)) && each p.gl le mo (gQ lo hi)) && repP p.rep) && sameP (clrP p.name p.ch p.tg p.ex p.pn p.sp) zeroP0) := by
 refine own_of (pb := ((p.ll.length : Int) == 0)) (fun hp => by rw [hp]; simp only [Bool.and_false, Bool.false_and]) (fun hp => by rw [len_zero] at hp; exact emp_le hp) h89 ?_
 rw [plain_u hu]
 unfold clrP
 rw [sameP_zero, show repU { us0 with rep := true, g0 := 0, g1 := 16, lo := lo, hi := hi } = { us0 with rep := true, g0 := 1, g1 := 1, lo := lo, hi := hi } from rfl]
 obtain ⟨rfl, rfl⟩ := hml
 have e1 : ∀ a b : Int, each p.gl a b (inG { rep := true, name := false, chan := false, spec := false, procs := false, t0 := 0, t1 := 0, e0 := 0, e1 := 0, p0 := 0, p1 := 0, g0 := a, g1 := b, lo := lo, hi := hi }) = each p.gl a b (gQ lo hi) := fun _ _ => rfl
 dsimp only [plainU, us0]
 simp only [Bool.false_eq_true, if_false, reduceIte, each_zero, span_zero, either, len_zero, Bool.and_true, Bool.true_and, Bool.false_and, Bool.false_or, Bool.or_false, Bool.not_false, Bool.not_true, e1]
 cases hn : (p.rep.name == []) with
 | true =>
   simp only [if_true]
   generalize repP p.rep = x0
   generalize p.ll.isEmpty = x2
   generalize each p.gl 0 16 (gQ lo hi) = x3
   generalize (p.name == []) = x4
   generalize noneE p.ch = x5
   generalize p.tg.l.isEmpty = x6
   generalize p.ex.l.isEmpty = x7
   generalize p.pn.l.isEmpty = x8
   generalize sameSF p.sp zeroS = x9
   revert x0 x2 x3 x4 x5 x6 x7 x8 x9
   decide +kernel
 | false =>
   simp only [Bool.false_eq_true, if_false]
   generalize repP p.rep = x0
   generalize p.ll.isEmpty = x2
   generalize each p.gl 1 1 (gQ lo hi) = x3
   generalize (p.name == []) = x4
   generalize noneE p.ch = x5
   generalize p.tg.l.isEmpty = x6
   generalize p.ex.l.isEmpty = x7
   generalize p.pn.l.isEmpty = x8
   generalize sameSF p.sp zeroS = x9
   revert x0 x2 x3 x4 x5 x6 x7 x8 x9
   decide +kernel
theorem own_1213 {p : Pr} {le mo : Int} (h : p.k = 12 ∨ p.k = 13) (hml : mo = (if (p.rep.name == []) = true then 16 else 1) ∧ le = (if (p.rep.name == []) = true then 0 else 1)) :
   ownP p = ((((true && ((p.ll.length : Int) == 0)) && each p.gl le mo (gQ 2 4)) && repP p.rep) && sameP (clrP p.name p.ch p.tg p.ex p.pn p.sp) zeroP0) :=
 own_rg (by omega) (by rcases h with h | h <;> rw [h] <;> rfl) hml
theorem own_14 {p : Pr} {le mo : Int} (h : p.k = 14) (hml : mo = (if (p.rep.name == []) = true then 16 else 1) ∧ le = (if (p.rep.name == []) = true then 0 else 1)) :
   ownP p = ((((true && ((p.ll.length : Int) == 0)) && each p.gl le mo (gQ 1 1)) && repP p.rep) && sameP (clrP p.name p.ch p.tg p.ex p.pn p.sp) zeroP0) :=
 own_rg (by omega) (by rw [h]; rfl) hml
def okN (n : Int) : Bool := decide (n ≥ 0) && decide (n ≤ 7)
theorem each_len {α : Type} {l : List α} {n : Nat} {q : α → Bool} : each l n n q = (((l.length : Int) == (n : Int)) && l.all q) := by
 have h2 : (!(l.any fun x => !q x)) = l.all q := by
   induction l with
   | nil => rfl
   | cons x r ih =>
     simp only [List.any_cons, List.all_cons, ← ih]
     cases q x <;> simp
 have h3 : span n n (l.length : Int) = ((l.length : Int) == (n : Int)) := by
   unfold span
   rw [Bool.eq_iff_iff]
   simp
   omega
 unfold each
 rw [h2, h3]
theorem own_11 {p : Pr} {v : Bool} (h : p.k = 11) (hJ : p.pn.l.length ≤ 8 → v = (((!(!(p.rep.name == []))) && ((p.pn.l.length : Int) == (p.ll.length : Int))) && p.pn.l.all okN)) (hN : ¬ p.pn.l.length ≤ 8 → v = ((!(!(p.rep.name == []))) && ((p.pn.l.length : Int) == (p.ll.length : Int)))) :
   ownP p = ((((v && (decide ((p.ll.length : Int) ≥ 1) && decide ((p.ll.length : Int) ≤ 8))) && ((p.gl.length : Int) == 0)) && repP p.rep) && sameP (clrP p.name p.ch p.tg p.ex nilS p.sp) zeroP0) := by
 have hu : fieldsP p.k = ({ us0 with procs := true, p0 := 1, p1 := 8 }, true) := by rw [h]; rfl
 refine own_of (pb := (decide ((p.ll.length : Int) ≥ 1) && decide ((p.ll.length : Int) ≤ 8))) (fun hp => by rw [hp]; simp only [Bool.and_false, Bool.false_and]) (fun hp => by simp at hp; omega) (by omega) ?_
 rw [plain_n hu rfl]
 unfold clrP
 rw [sameP_zero]
 have e1 : each p.pn.l (p.ll.length : Int) (p.ll.length : Int) (fun n => decide (n ≥ 0) && decide (n < 8)) = (((p.pn.l.length : Int) == (p.ll.length : Int)) && p.pn.l.all okN) := by
   rw [each_len]
   have : (fun n : Int => decide (n ≥ 0) && decide (n < 8)) = okN := by
     funext n
     unfold okN
     rw [Bool.eq_iff_iff]
     simp
     omega
   rw [this]
 dsimp only [plainU, us0]
 simp only [Bool.false_eq_true, if_true, if_false, reduceIte, each_zero, either, len_zero, Bool.and_true, Bool.true_and, Bool.false_and, Bool.false_or, Bool.or_false, Bool.not_false, Bool.not_true, nil_e, nil_l, e1]
 unfold span
 by_cases h8 : p.pn.l.length ≤ 8
 · rw [hJ h8]
   generalize repP p.rep = x0
   generalize (p.rep.name == []) = x1
   generalize decide ((p.ll.length : Int) ≥ 1) = x2
   generalize decide ((p.ll.length : Int) ≤ 8) = x3
   generalize (p.name == []) = x4
   generalize noneE p.ch = x5
   generalize p.tg.l.isEmpty = x6
   generalize p.ex.l.isEmpty = x7
   generalize ((p.pn.l.length : Int) == (p.ll.length : Int)) = x8
   generalize sameSF p.sp zeroS = x9
   generalize p.pn.l.all okN = x10
   generalize p.gl.isEmpty = x11
   cases x0 <;> cases x11 <;> revert x1 x2 x3 x4 x5 x6 x7 x8 x9 x10 <;> decide +kernel
 · rw [hN h8]
   have hx : (((p.pn.l.length : Int) == (p.ll.length : Int)) && decide ((p.ll.length : Int) ≤ 8)) = false := by
     cases hq : ((p.pn.l.length : Int) == (p.ll.length : Int)) with
     | false => rfl
     | true =>
       have : (p.pn.l.length : Int) = (p.ll.length : Int) := by simpa using hq
       simp
       omega
   revert hx
   generalize repP p.rep = x0
   generalize (p.rep.name == []) = x1
   generalize decide ((p.ll.length : Int) ≥ 1) = x2
   generalize decide ((p.ll.length : Int) ≤ 8) = x3
   generalize (p.name == []) = x4
   generalize noneE p.ch = x5
   generalize p.tg.l.isEmpty = x6
   generalize p.ex.l.isEmpty = x7
   generalize ((p.pn.l.length : Int) == (p.ll.length : Int)) = x8
   generalize sameSF p.sp zeroS = x9
   generalize p.pn.l.all okN = x10
   generalize p.gl.isEmpty = x11
   cases x0 <;> cases x11 <;> revert x1 x2 x3 x4 x5 x6 x7 x8 x9 x10 <;> decide +kernel
theorem own_no {p : Pr} (h12 : ¬ (p.k = 1 ∨ p.k = 2)) (h3 : p.k ≠ 3) (h4 : p.k ≠ 4) (h5 : p.k ≠ 5) (h6 : p.k ≠ 6) (h7 : p.k ≠ 7) (h89 : ¬ (p.k = 8 ∨ p.k = 9)) (h10 : p.k ≠ 10) (h11 : p.k ≠ 11) (h1213 : ¬ (p.k = 12 ∨ p.k = 13)) (h14 : p.k ≠ 14) (h15 : p.k ≠ 15) (h16 : p.k ≠ 16) (h17 : p.k ≠ 17) (h18 : p.k ≠ 18) (a b c : Bool) :
   ownP p = ((((false && a) && b) && repP p.rep) && c) := by
 have hF : (fieldsP p.k).2 = false := by
   unfold fieldsP
   repeat rw [if_neg (by omega)]
 have hp : plainP p = false := by
   unfold plainP
   rw [hF]
   simp
 rw [Bool.false_and, Bool.false_and, Bool.false_and, Bool.false_and]
 unfold ownP
 split
 · exact hp
 · unfold ownBig
   rw [if_neg h89]
end Go.Pc
end
/- PrU -/
section
namespace Go.Pc
open Go.Eng Go.Xp Go
open Go.Ty (Ty Vr)
def roomV (r : Bool × Int) : Int := if r.1 then r.2 else -1
def contL (l : List Pr) (d : Int) (pl : Bool) (q : Int) : Int := if q < 0 then -1 else roomV (mayL l d pl q)
def contG (l : List Gu) (d q : Int) : Int := if q < 0 then -1 else roomV (mayG l d q)
theorem mayC_rg {p : Pr} {d left : Int} {pl : Bool} (h0 : 0 ≤ left) (h : (mayC p d pl left).1 = true) : 0 ≤ (mayC p d pl left).2 ∧ (mayC p d pl left).2 ≤ left := by
 obtain ⟨h1, h2⟩ := (mayC_cnt p d pl left h0 h).2 h
 exact ⟨h2, by omega⟩
theorem roomV_rg {p : Pr} {d left : Int} {pl : Bool} (h0 : 0 ≤ left) : -1 ≤ roomV (mayC p d pl left) ∧ roomV (mayC p d pl left) ≤ left := by
 unfold roomV
 cases hc : (mayC p d pl left).1 with
 | true => have := mayC_rg h0 hc; simp; omega
 | false => simp; omega
theorem contL_neg {l : List Pr} {d q : Int} {pl : Bool} (h : q < 0) : contL l d pl q = -1 := by unfold contL; rw [if_pos h]
theorem contG_neg {l : List Gu} {d q : Int} (h : q < 0) : contG l d q = -1 := by unfold contG; rw [if_pos h]
theorem contL_nil {d q : Int} {pl : Bool} (h : 0 ≤ q) : contL [] d pl q = q := by unfold contL; rw [if_neg (by omega)]; rfl
theorem contG_nil {d q : Int} (h : 0 ≤ q) : contG [] d q = q := by unfold contG; rw [if_neg (by omega)]; rfl
theorem contL_cons {x : Pr} {r : List Pr} {d q : Int} {pl : Bool} (h : 0 ≤ q) : contL (x :: r) d pl q = contL r d pl (roomV (mayC x d pl q)) := by
 unfold contL
 rw [if_neg (by omega)]
 have e : mayL (x :: r) d pl q = if (mayC x d pl q).1 then mayL r d pl (mayC x d pl q).2 else mayC x d pl q := rfl
 rw [e]
 cases hc : (mayC x d pl q).1 with
 | true =>
   have := mayC_rg h hc
   have hv : roomV (mayC x d pl q) = (mayC x d pl q).2 := by unfold roomV; rw [if_pos hc]
   rw [if_pos rfl, hv, if_neg (by omega)]
 | false =>
   have hv : roomV (mayC x d pl q) = -1 := by unfold roomV; rw [if_neg (by rw [hc]; decide)]
   rw [if_neg (by decide), hv]
   rfl
theorem contG_cons {g : Gu} {x : Pr} {r : List Gu} {d q : Int} (h : 0 ≤ q) (hx : g.bl[0]? = some x) : contG (g :: r) d q = contG r d (roomV (mayC x d false q)) := by
 unfold contG
 rw [if_neg (by omega)]
 have e0 : mayG1 g d q = mayC x d false q := by
   rw [mayG1_eq]
   cases hb : g.bl with
   | nil => rw [hb] at hx; cases hx
   | cons y t => rw [hb] at hx; cases hx; rfl
 have e : mayG (g :: r) d q = if (mayC x d false q).1 then mayG r d (mayC x d false q).2 else mayC x d false q := by rw [← e0]; rfl
 rw [e]
 cases hc : (mayC x d false q).1 with
 | true =>
   have := mayC_rg h hc
   have hv : roomV (mayC x d false q) = (mayC x d false q).2 := by unfold roomV; rw [if_pos hc]
   rw [if_pos rfl, hv, if_neg (by omega)]
 | false =>
   have hv : roomV (mayC x d false q) = -1 := by unfold roomV; rw [if_neg (by rw [hc]; decide)]
   rw [if_neg (by decide), hv]
   rfl
theorem cntPs_len : ∀ l : List Pr, l.length ≤ cntPs l
 | [] => Nat.le_refl _
 | x :: r => by
   have h1 := cntPs_len r
   have h2 := cntP_pos x
   show r.length + 1 ≤ cntP x + cntPs r
   omega
theorem mayL_big {l : List Pr} {d q : Int} {pl : Bool} (h0 : 0 ≤ q) (h : q < l.length) : (mayL l d pl q).1 = false := by
 cases hc : (mayL l d pl q).1 with
 | false => rfl
 | true =>
   obtain ⟨_, h2, h3⟩ := mayL_cnt h0 (fun x _ d pl q hq hx => mayC_cnt x d pl q hq hx) hc
   have := cntPs_len l
   omega
theorem fields_p1 (k : Int) : (fieldsP k).1.p1 ≤ 2048 ∧ (repU (fieldsP k).1).p1 ≤ 2048 := by
 by_cases hk : 1 ≤ k ∧ k ≤ 18
 · have : k = 1 ∨ k = 2 ∨ k = 3 ∨ k = 4 ∨ k = 5 ∨ k = 6 ∨ k = 7 ∨ k = 8 ∨ k = 9 ∨ k = 10 ∨ k = 11 ∨ k = 12 ∨ k = 13 ∨ k = 14 ∨ k = 15 ∨ k = 16 ∨ k = 17 ∨ k = 18 := by omega
   rcases this with h | h | h | h | h | h | h | h | h | h | h | h | h | h | h | h | h | h <;> rw [h] <;> decide
 · have : fieldsP k = (us0, false) := by
     unfold fieldsP
     repeat rw [if_neg (by omega)]
   rw [this]
   decide
theorem plain_len {p : Pr} (h : plainP p = true) : p.ll.length ≤ 2048 := by
 have hV := plain_spec h
 by_cases hr : p.rep.name = []
 · have h1 := (hV.pn hr).2
   have := (fields_p1 p.k).1
   omega
 · unfold plainP at h
   have h2 := hV.rp hr
   have h3 : (p.rep.name != []) = true := by simpa using hr
   rw [hV.kd, hV.rep, h3, h2] at h
   simp only [Bool.not_true, Bool.or_self, Bool.false_eq_true, if_false, if_true] at h
   have h4 := span_spec (plU h).1.1.1
   have := (fields_p1 p.k).2
   omega
theorem plain_own {p : Pr} (h : plainP p = true) : ownP p = true := by
 unfold ownP
 rw [if_pos (plain_len h), h]
theorem own_two {p : Pr} (h : ownP p = true) : plainP p = true ∨ (plainP p = false ∧ 2048 < p.ll.length ∧ (p.k = 8 ∨ p.k = 9) ∧ p.gl = []) := by
 cases hp : plainP p with
 | true => exact .inl rfl
 | false =>
   right
   unfold ownP at h
   split at h
   · rw [hp] at h; cases h
   · rename_i hl
     unfold ownBig at h
     split at h
     · rename_i hk
       simp only [Bool.and_eq_true] at h
       have hg := h.1.1.2
       rw [len_zero] at hg
       exact ⟨rfl, by omega, hk, List.isEmpty_iff.1 hg⟩
     · cases h
theorem want_cs {s : Sp} (h : s.k ≠ 4) : (wantS s).cs = false := by
 unfold wantS
 split
 · rfl
 split
 · rfl
 split
 · rfl
 rfl
theorem want_bl {s : Sp} (hk : s.k ≤ 5) (h1 : 1 ≤ s.k) (h : s.k ≠ 5) : (wantS s).bl.length = 0 := by
 unfold wantS
 split
 · rfl
 split
 · rfl
 split
 · rfl
 split
 · rfl
 · omega
theorem sp_cs {s : Sp} (h : spP s = true) (h4 : s.k ≠ 4) : s.cs = false := by
 have hV := sp_spec h
 unfold spP at h
 rw [if_pos hV.kd] at h
 simp only [Bool.and_eq_true] at h
 have h2 := h.2
 unfold sameSF at h2
 simp only [Bool.and_eq_true, beq_iff_eq] at h2
 rw [h2.1.1.1.2, want_cs h4]
theorem sp_nb {s : Sp} (h : spP s = true) (h5 : s.k ≠ 5) : s.bl = [] := by
 have hV := sp_spec h
 unfold spP at h
 rw [if_pos hV.kd] at h
 simp only [Bool.and_eq_true] at h
 have h2 := h.2
 unfold sameSF at h2
 simp only [Bool.and_eq_true, beq_iff_eq] at h2
 have h3 := h2.2
 rw [want_bl hV.kd.2 hV.kd.1 h5] at h3
 exact List.eq_nil_of_length_eq_zero (by omega)
theorem room_neg {p : Pr} {d left : Int} {pl : Bool} (h : (((decide (d > 32) || (left == 0)) || !(ownP p)) || ((p.k == 11) && !pl)) = true) : roomV (mayC p d pl left) = -1 := by
 have hh : mayHead p d pl left = true := by
   unfold mayHead
   simp only [Bool.or_eq_true, Bool.and_eq_true, decide_eq_true_eq, beq_iff_eq, Bool.not_eq_true'] at h ⊢
   rcases h with ((h | h) | h) | h
   · exact .inl (.inl (.inr h))
   · exact .inl (.inl (.inl (by omega)))
   · left; right
     cases hp : plainP p with
     | false => rfl
     | true => rw [plain_own hp] at h; cases h
   · exact .inr h
 rw [mayC_eq, hh]
 rfl
theorem room_step {p : Pr} {d left : Int} {pl : Bool} (hd : d ≤ 32) (h1 : 1 ≤ left) (h2 : left ≤ 2048) (ho : ownP p = true) (h11 : ((p.k == 11) && !pl) = false) :
   roomV (mayC p d pl left) = contG p.gl (d + 2) (contL p.ll (if p.k = 18 then d else if p.k = 11 then d + 2 else d + 1) (pl && (p.k == 18)) (if p.k = 18 then roomV (mayS p.sp d (left - 1)) else left - 1)) := by
 rcases own_two ho with hp | ⟨hp, hl, hk, _⟩
 · have hh : mayHead p d pl left = false := by
     unfold mayHead
     rw [hp, h11]
     simp
     omega
   rw [mayC_eq, hh, if_neg (by decide)]
   have step : ∀ (l : List Pr) (b : Int) (pl : Bool) (q : Int), 0 ≤ q → roomV (if (mayL l b pl q).1 then mayG p.gl (d + 2) (mayL l b pl q).2 else mayL l b pl q) = contG p.gl (d + 2) (contL l b pl q) := fun l b pl q hq => by
     have e : contL l b pl q = roomV (mayL l b pl q) := by unfold contL; rw [if_neg (by omega)]
     rw [e]
     cases hc : (mayL l b pl q).1 with
     | true =>
       obtain ⟨_, e2, e3⟩ := mayL_cnt hq (fun x _ d pl q hq hx => mayC_cnt x d pl q hq hx) hc
       have hv : roomV (mayL l b pl q) = (mayL l b pl q).2 := by unfold roomV; rw [if_pos hc]
       rw [if_pos rfl, hv]
       unfold contG
       rw [if_neg (by omega)]
     | false =>
       have hv : roomV (mayL l b pl q) = -1 := by unfold roomV; rw [if_neg (by rw [hc]; decide)]
       rw [if_neg (by decide), hv]
       rfl
   by_cases h18 : p.k = 18
   · rw [if_pos h18, if_pos h18, if_pos h18, show (p.k == 18) = true by rw [h18]; rfl, Bool.and_true]
     have hV := plain_spec hp
     have hsl : p.sp.bl.length ≤ 1 := sp_bl (hV.sp (by rw [h18]; rfl))
     cases hS : (mayS p.sp d (left - 1)).1 with
     | true =>
       have hr : 0 ≤ (mayS p.sp d (left - 1)).2 := by
         rw [mayS_eq] at hS ⊢
         split at hS
         · cases hS
         · rename_i hc
           rw [if_neg hc]
           exact (mayH_cnt (by omega) hsl (fun x _ d pl q hq hx => mayC_cnt x d pl q hq hx) hS).2.2
       have hv : roomV (mayS p.sp d (left - 1)) = (mayS p.sp d (left - 1)).2 := by unfold roomV; rw [if_pos hS]
       rw [if_pos rfl, hv]
       exact step _ _ _ _ hr
     | false =>
       have hv : roomV (mayS p.sp d (left - 1)) = -1 := by unfold roomV; rw [if_neg (by rw [hS]; decide)]
       rw [if_neg (by decide), hv]
       rfl
   · rw [if_neg h18, if_neg h18, if_neg h18, show (p.k == 18) = false by simpa using h18, Bool.and_false]
     exact step _ _ _ _ (by omega)
 · have hh : mayHead p d pl left = true := by unfold mayHead; rw [hp]; simp
   have h18 : p.k ≠ 18 := by omega
   rw [mayC_eq, hh, if_pos rfl, if_neg h18, if_neg h18]
   have hq : contL p.ll (if p.k = 11 then d + 2 else d + 1) (pl && (p.k == 18)) (left - 1) = -1 := by
     unfold contL
     rw [if_neg (by omega)]
     unfold roomV
     rw [if_neg (by rw [mayL_big (by omega) (by omega)]; decide)]
   rw [hq]
   rfl
end Go.Pc
end
/- FrH -/
section
namespace Go.Fr
open Go.Eng Go.Pc Go.Tg Go
open Go.Xp hiding B nameT
open Go.Ty (Ty Vr eqT)
def up (x : Ent) : Ent := { x with ar := x.ar + 1 }
abbrev Up (z : Ent) (S : List Ent) : List Ent := z :: S.map up
theorem Up_app (z : Ent) (S : List Ent) (x : Ent) (y : Ent) (h : up x = y) : Up z (S ++ [x]) = Up z S ++ [y] := by
 subst h
 show z :: (S ++ [x]).map up = (z :: S.map up) ++ [up x]
 rw [List.map_append]
 rfl
theorem Up_len (z : Ent) (S : List Ent) : (Up z S).length = S.length + 1 := by show (S.map up).length + 1 = _; rw [List.length_map]
def NF (u : B) (l : List Ev) : Prop := ∀ n, (n, false) ∈ l → n ≠ u
theorem NF.left {u : B} {l r : List Ev} (h : NF u (l ++ r)) : NF u l := fun n hn => h n (List.mem_append_left _ hn)
theorem NF.right {u : B} {l r : List Ev} (h : NF u (l ++ r)) : NF u r := fun n hn => h n (List.mem_append_right _ hn)
theorem NF.mem {u : B} {E : List Fe} {l : List Ex} {x : Ex} (h : NF u (evXs E l)) (hx : x ∈ l) : NF u (evX E x) := by
 induction l with
 | nil => cases hx
 | cons y r ih =>
   have h' : NF u (evX E y ++ evXs E r) := h
   rcases List.mem_cons.1 hx with rfl | hx
   · exact h'.left
   · exact ih h'.right hx
theorem findE_succ (S : List Ent) (nm : B) (n : Nat) : findE S nm (n + 1) = match S[n]? with
   | some x => if x.names.contains nm then (n : Int) else findE S nm n
   | none => findE S nm n := rfl
theorem lkN_succ (E : List Fe) (nm : B) (n : Nat) : lkN E nm (n + 1) = match E[n]? with
   | some x => if x.name == nm then some x else lkN E nm n
   | none => lkN E nm n := rfl
theorem find_app (S T : List Ent) (nm : B) : ∀ {n : Nat}, n ≤ S.length → findE (S ++ T) nm n = findE S nm n
 | 0, _ => rfl
 | n + 1, h => by
   unfold findE
   rw [List.getElem?_append_left (by omega), find_app S T nm (n := n) (by omega)]
theorem find_up (z : Ent) (u : B) (hz : z.names = [u]) (S : List Ent) (nm : B) : ∀ n, (nm = u → 0 ≤ findE S nm n) → findE (Up z S) nm (n + 1) = if findE S nm n < 0 then -1 else findE S nm n + 1
 | 0, h => by
   have hne : nm ≠ u := fun e => absurd (h e) (by show ¬ (0 : Int) ≤ -1; decide)
   have hc : z.names.contains nm = false := by rw [hz]; simpa using hne
   show (if z.names.contains nm then ((0 : Nat) : Int) else -1) = if (-1 : Int) < 0 then -1 else -1 + 1
   rw [hc]
   rfl
 | n + 1, h => by
   have e1 : (Up z S)[n + 1]? = (S[n]?).map up := by
     show (z :: S.map up)[n + 1]? = _
     rw [List.getElem?_cons_succ, List.getElem?_map]
   have e2 : findE (Up z S) nm (n + 1 + 1) = match (S[n]?).map up with
     | some x => if x.names.contains nm then ((n + 1 : Nat) : Int) else findE (Up z S) nm (n + 1)
     | none => findE (Up z S) nm (n + 1) := by
     rw [← e1]
     rfl
   have e3 : findE S nm (n + 1) = match S[n]? with
     | some x => if x.names.contains nm then (n : Int) else findE S nm n
     | none => findE S nm n := rfl
   rw [e2]
   cases hx : S[n]? with
   | none =>
     rw [hx] at e3
     rw [e3] at h ⊢
     exact find_up z u hz S nm n h
   | some x =>
     rw [hx] at e3
     dsimp only [Option.map_some]
     have hn : (up x).names = x.names := rfl
     rw [hn]
     dsimp only at e3
     by_cases hc : x.names.contains nm = true
     · rw [if_pos hc] at e3 ⊢
       rw [e3, if_neg (by omega)]
       omega
     · rw [if_neg hc] at e3 ⊢
       rw [e3] at h ⊢
       exact find_up z u hz S nm n h
theorem lkN_app (E D : List Fe) (nm : B) : ∀ {k : Nat}, k ≤ D.length → lkN (E ++ D) nm (E.length + k) = match lkN D nm k with
   | some d => some d
   | none => lkN E nm E.length
 | 0, _ => by
   have key : ∀ n, n ≤ E.length → lkN (E ++ D) nm n = lkN E nm n := by
     intro n
     induction n with
     | zero => intro _; rfl
     | succ n ih =>
       intro h
       unfold lkN
       rw [List.getElem?_append_left (by omega), ih (by omega)]
   exact key _ (Nat.le_refl _)
 | k + 1, h => by
   have e1 : (E ++ D)[E.length + k]? = D[k]? := by rw [List.getElem?_append_right (by omega)]; congr 1; omega
   have ih := lkN_app E D nm (k := k) (by omega)
   rw [show E.length + (k + 1) = E.length + k + 1 from rfl, lkN_succ (E ++ D), lkN_succ D, e1]
   cases hx : D[k]? with
   | none => exact ih
   | some x =>
     dsimp only
     by_cases hc : (x.name == nm) = true
     · rw [if_pos hc, if_pos hc]
     · rw [if_neg hc, if_neg hc]
       exact ih
theorem lk_app (E D : List Fe) (nm : B) : lk (E ++ D) nm = match lk D nm with
   | some d => some d
   | none => lk E nm := by
 unfold lk
 rw [List.length_append]
 exact lkN_app E D nm (Nat.le_refl _)
theorem lkN_spec {D : List Fe} {nm : B} {d : Fe} : ∀ {k : Nat}, lkN D nm k = some d → d ∈ D ∧ d.name = nm
 | 0, h => by cases h
 | k + 1, h => by
   unfold lkN at h
   split at h
   · rename_i x hx
     split at h
     · rename_i hc
       cases h
       exact ⟨List.mem_of_getElem? hx, by simpa using hc⟩
     · exact lkN_spec h
   · exact lkN_spec h
theorem lkN_none {D : List Fe} {nm : B} : ∀ {k : Nat}, lkN D nm k = none → ∀ i < k, ∀ d, D[i]? = some d → d.name ≠ nm
 | 0, _ => fun i hi => absurd hi (Nat.not_lt_zero _)
 | k + 1, h => by
   unfold lkN at h
   intro i hi d hd
   split at h
   · rename_i x hx
     split at h
     · cases h
     · rename_i hc
       by_cases e : i = k
       · subst e
         rw [hx] at hd
         cases hd
         simpa using hc
       · exact lkN_none h i (by omega) d hd
   · exact lkN_none h i (by
       rename_i hx
       by_cases e : i = k
       · subst e; rw [hx] at hd; cases hd
       · omega) d hd
theorem lk_none {D : List Fe} {nm : B} (h : lk D nm = none) : ∀ d ∈ D, d.name ≠ nm := by
 intro d hd
 obtain ⟨i, hi, e⟩ := List.getElem_of_mem hd
 exact lkN_none h i hi d (by rw [List.getElem?_eq_getElem hi, e])
structure Gd (S : List Ent) (d : Fe) (x : Ent) : Prop where
 p : d.proto = true → x.k = 4 ∧ (d.tags ≠ [] → x.cs = true)
 c : d.proto = false → d.tags ≠ [] → x.ty.proto ≠ [] ∧ ∃ y, 0 ≤ findE S x.ty.proto x.ar.toNat ∧ S[(findE S x.ty.proto x.ar.toNat).toNat]? = some y ∧ y.cs = true
theorem Gd.mono {S : List Ent} {d : Fe} {x : Ent} (q : Gd S d x) (T : List Ent) (h : x.ar.toNat ≤ S.length) : Gd (S ++ T) d x := by
 refine ⟨q.p, fun h1 h2 => ?_⟩
 obtain ⟨q1, y, q2, q3, q4⟩ := q.c h1 h2
 have hlt := (List.getElem?_eq_some_iff.1 q3).1
 refine ⟨q1, y, ?_⟩
 rw [find_app S T _ h, List.getElem?_append_left hlt]
 exact ⟨q2, q3, q4⟩
structure Cx (u : B) (E : List Fe) (S : List Ent) : Prop where
 a : ArOk S
 i : ∀ (i : Nat) x, S[i]? = some x → (x.ty.proto = u → 0 ≤ findE S u x.ar.toNat) ∧ ∀ f ∈ x.fs, f.ty.proto = u → 0 ≤ findE S u i
 r : ∀ nm d, lk E nm = some d → ∃ x, 0 ≤ findE S nm S.length ∧ S[(findE S nm S.length).toNat]? = some x ∧ Gd S d x
theorem find_snoc (S : List Ent) (x : Ent) (nm : B) : findE (S ++ [x]) nm (S ++ [x]).length = if x.names.contains nm then (S.length : Int) else findE S nm S.length := by
 have e : (S ++ [x]).length = S.length + 1 := by simp
 rw [e]
 have e1 : (S ++ [x])[S.length]? = some x := by rw [List.getElem?_append_right (Nat.le_refl _), Nat.sub_self]; rfl
 rw [findE_succ, e1]
 dsimp only
 rw [find_app S [x] nm (Nat.le_refl _)]
theorem Cx.snoc {u : B} {E : List Fe} {S : List Ent} (q : Cx u E S) (x : Ent) (D : List Fe) (hA : 0 ≤ x.ar ∧ x.ar ≤ S.length) (hi : (x.ty.proto = u → 0 ≤ findE S u x.ar.toNat) ∧ ∀ f ∈ x.fs, f.ty.proto = u → 0 ≤ findE S u S.length)
   (hD : ∀ d ∈ D, d.name ∈ x.names ∧ Gd S d x) (hn : ∀ nm ∈ x.names, ∃ d ∈ D, d.name = nm) : Cx u (E ++ D) (S ++ [x]) := by
 have hx1 : ∀ (i : Nat) y, (S ++ [x])[i]? = some y → (i < S.length ∧ S[i]? = some y) ∨ (i = S.length ∧ y = x) := by
   intro i y h
   by_cases hl : i < S.length
   · rw [List.getElem?_append_left hl] at h
     exact .inl ⟨hl, h⟩
   · rw [List.getElem?_append_right (by omega)] at h
     have h0 := (List.getElem?_eq_some_iff.1 h).1
     simp only [List.length_singleton] at h0
     have h2 : i = S.length := by omega
     subst h2
     rw [Nat.sub_self] at h
     cases h
     exact .inr ⟨rfl, rfl⟩
 refine ⟨fun i y h => ?_, fun i y h => ?_, fun nm d h => ?_⟩
 · rcases hx1 i y h with ⟨_, h2⟩ | ⟨rfl, rfl⟩
   · exact q.a i y h2
   · exact hA
 · rcases hx1 i y h with ⟨hl, h2⟩ | ⟨rfl, rfl⟩
   · have ha := q.a i y h2
     rw [find_app S [x] u (by omega), find_app S [x] u (by omega)]
     exact q.i i y h2
   · rw [find_app S [y] u (by omega), find_app S [y] u (Nat.le_refl _)]
     exact hi
 · rw [lk_app] at h
   rw [find_snoc]
   cases hd : lk D nm with
   | some d' =>
     rw [hd] at h
     cases h
     obtain ⟨h1, h2⟩ := lkN_spec hd
     obtain ⟨h3, h4⟩ := hD d h1
     rw [h2] at h3
     have hc : x.names.contains nm = true := by simpa using h3
     rw [if_pos hc]
     refine ⟨x, by omega, ?_, h4.mono [x] (by omega)⟩
     rw [show ((S.length : Int)).toNat = S.length from rfl, List.getElem?_append_right (Nat.le_refl _), Nat.sub_self]
     rfl
   | none =>
     rw [hd] at h
     have hnn : ¬ nm ∈ x.names := fun hm => by
       obtain ⟨d', h1, h2⟩ := hn nm hm
       exact lk_none hd d' h1 h2
     have hc : ¬ x.names.contains nm = true := by simpa using hnn
     rw [if_neg hc]
     obtain ⟨y, h1, h2, h3⟩ := q.r nm d h
     have hlt := (List.getElem?_eq_some_iff.1 h2).1
     have ha := q.a _ y h2
     exact ⟨y, h1, by rw [List.getElem?_append_left hlt]; exact h2, h3.mono [x] (by omega)⟩
theorem Cx.found {u : B} {E : List Fe} {S : List Ent} (q : Cx u E S) {nm : B} (h : NF u (evN E nm)) : nm = u → 0 ≤ findE S nm S.length := by
 intro e
 cases hd : lk E nm with
 | some d => obtain ⟨x, h1, _⟩ := q.r nm d hd; exact h1
 | none =>
   refine absurd e (h nm ?_)
   unfold evN
   rw [hd]
   exact List.Mem.head _
theorem Cx.foundT {u : B} {E : List Fe} {S : List Ent} (hu : u ≠ []) (q : Cx u E S) {nm : B} (h : NF u (evT E nm)) : nm = u → 0 ≤ findE S u S.length := by
 intro e
 unfold evT at h
 rw [if_neg (by rw [e]; exact hu)] at h
 have := q.found h e
 rwa [e] at this
theorem Cx.tag {u : B} {E : List Fe} {S : List Ent} (q : Cx u E S) {n : B} {x : Ent} {t : Ty} (ht : x.ty = t) (ha : x.ar = S.length) : Gd S ⟨n, false, tagT E t⟩ x := by
 refine ⟨fun h => Bool.noConfusion h, fun _ h => ?_⟩
 have h' : tagT E t ≠ [] := h
 unfold tagT at h'
 split at h'
 · rename_i p hp
   split at h'
   · rename_i hc
     obtain ⟨y, q1, q2, q3⟩ := q.r _ p hp
     rw [ht, ha]
     refine ⟨hc.2.1, y, q1, q2, (q3.p hc.2.2).2 h'⟩
   · exact absurd rfl h'
 · exact absurd rfl h'
structure HX (u : B) (S : List Ent) (h h1 : Hd) : Prop where
 t : h1.t = h.t
 a : h.t.proto ≠ [] → h1.ar = h.ar + 1 ∧ 0 ≤ h.ar ∧ h.ar ≤ S.length ∧ (h.t.proto = u → 0 ≤ findE S u h.ar.toNat)
inductive RX (u : B) (S : List Ent) : Except Int Hd → Except Int Hd → Prop
 | er (w : Int) : RX u S (.error w) (.error w)
 | ok {h h1 : Hd} (q : HX u S h h1) : RX u S (.ok h) (.ok h1)
theorem RX.sim (u : B) (S : List Ent) (k : Int) : RX u S (.ok (simpleH k)) (.ok (simpleH k)) := .ok ⟨rfl, fun h => absurd rfl h⟩
theorem RX.isT {u : B} {S : List Ent} {r r1 : Except Int Hd} (q : RX u S r r1) (t : Ty) : isT r1 t = isT r t := by
 cases q with
 | er w => rfl
 | ok q => unfold Go.Tg.isT; dsimp only; rw [q.t]
theorem RX.arr {u : B} {S : List Ent} {r r1 : Except Int Hd} (q : RX u S r r1) : RX u S (arrF r) (arrF r1) := by
 cases q with
 | er w => exact .er w
 | @ok h h1 q =>
   unfold arrF
   dsimp only
   rw [q.t]
   split
   · exact .er _
   · exact .ok q
theorem resT_nil {o : Int} {t r : Ty} (h : resT o t = .ok r) : r.proto = [] := by
 unfold resT at h
 repeat' split at h
 all_goals first | (cases h; done) | (cases h; rfl)
theorem RX.tyF {u : B} {S : List Ent} {k o t : Int} {N N1 : Except Int Hd} {ws ws1 : List (Except Int Hd)} (hN : k = 4 ∨ k = 5 ∨ k = 9 → RX u S N N1) (hw : ∀ i, RX u S (ws.getD i (.error 130)) (ws1.getD i (.error 130))) :
   RX u S (tyF N (arrF N) k o t ws) (tyF N1 (arrF N1) k o t ws1) := by
 unfold Go.Tg.tyF
 split
 · exact RX.sim u S 1
 split
 · exact RX.sim u S 2
 split
 · exact RX.sim u S 3
 split
 · rename_i h; exact hN (.inl h)
 split
 · rename_i h
   have q := (hN (.inr (.inr h))).arr
   revert q
   generalize arrF N = a
   generalize arrF N1 = b
   intro q
   cases q with
   | er w => exact .er w
   | ok q => exact RX.sim u S 1
 split
 · rename_i h
   have q := (hN (.inr (.inl h))).arr
   revert q
   generalize arrF N = a
   generalize arrF N1 = b
   intro q
   cases q with
   | er w => exact .er w
   | @ok h h1 q =>
     dsimp only
     rw [(hw 0).isT]
     split
     · exact .ok ⟨by show ({ h1.t with dim := 0 } : Ty) = { h.t with dim := 0 }; rw [q.t], q.a⟩
     · exact .er _
 have q0 := hw 0
 have q1 := hw 1
 revert q0 q1
 generalize ws.getD 0 (.error 130) = a
 generalize ws1.getD 0 (.error 130) = b
 generalize ws.getD 1 (.error 130) = c
 generalize ws1.getD 1 (.error 130) = d
 intro q0 q1
 cases q0 with
 | er w => exact .er w
 | @ok h h1 q =>
   dsimp only
   rw [q.t, q1.isT]
   split
   · exact .er _
   split
   · cases hr : resT o h.t with
     | error w => exact .er w
     | ok r => exact .ok ⟨rfl, fun hp => absurd (resT_nil hr) hp⟩
   split
   · exact RX.sim u S t
   · exact .er _
theorem Cx.name {u : B} {E : List Fe} {S : List Ent} (q : Cx u E S) {z : Ent} (hz : z.names = [u]) {nm : B} (h : NF u (evN E nm)) : RX u S (nameE S nm) (nameE (Up z S) nm) := by
 unfold nameE
 rw [Up_len, find_up z u hz S nm S.length (q.found h)]
 by_cases hf : findE S nm S.length < 0
 · rw [if_pos hf, if_pos hf, if_pos (by decide)]
   exact .er _
 · rw [if_neg hf, if_neg hf, if_neg (by omega)]
   have e : (findE S nm S.length + 1).toNat = (findE S nm S.length).toNat + 1 := by omega
   rw [e]
   show RX u S _ (match (z :: S.map up)[(findE S nm S.length).toNat + 1]? with
     | none => _
     | some x => _)
   rw [List.getElem?_cons_succ, List.getElem?_map]
   cases hx : S[(findE S nm S.length).toNat]? with
   | none => exact .er _
   | some x =>
     dsimp only [Option.map_some]
     have hk : (up x).k = x.k := rfl
     rw [hk]
     split
     · have ha := q.a _ x hx
       have hl := (List.getElem?_eq_some_iff.1 hx).1
       exact .ok ⟨rfl, fun _ => ⟨rfl, ha.1, by show x.ar ≤ _; omega, (q.i _ x hx).1⟩⟩
     · exact .er _
theorem Cx.typ {u : B} {E : List Fe} {S : List Ent} (q : Cx u E S) {z : Ent} (hz : z.names = [u]) (e : Ex) : NF u (evX E e) → RX u S (typX S e) (typX (Up z S) e) := by
 refine Ex.ind (p := fun e => NF u (evX E e) → RX u S (typX S e) (typX (Up z S) e)) (fun e ih hn => ?_) e
 unfold typX
 rw [typF_eq, typF_eq]
 rw [evX_eq] at hn
 refine RX.tyF (fun hk => ?_) (fun i => ?_)
 · rw [if_pos hk] at hn
   exact q.name hz hn.left
 · have hL : ∀ (l : List Ex) (i : Nat), (∀ x ∈ l, RX u S (typX S x) (typX (Up z S) x)) → RX u S ((typFL (nameE S) l).getD i (.error 130)) ((typFL (nameE (Up z S)) l).getD i (.error 130)) := by
     intro l
     induction l with
     | nil => intro i _; exact .er _
     | cons x r ihr =>
       intro i h
       cases i with
       | zero => exact h x (List.Mem.head _)
       | succ i => exact ihr i fun y hy => h y (List.Mem.tail _ hy)
   exact hL e.l i fun x hx => ih x hx (hn.right.mem hx)
end Go.Fr
end
/- FrI -/
section
namespace Go.Fr
open Go.Eng Go.Pc Go.Tg Go
open Go.Xp hiding B nameT
open Go.Ty (Ty Vr eqT)
theorem Cx.proto {u : B} {E : List Fe} {S : List Ent} (_ : Cx u E S) {z : Ent} (hz : z.names = [u]) {h h1 : Hd} (x : HX u S h h1) : protoX (Up z S) h1 = protoX S h := by
 unfold protoX
 rw [x.t]
 by_cases hp : h.t.proto = []
 · rw [if_pos hp, if_pos hp]
 · rw [if_neg hp, if_neg hp]
   obtain ⟨a1, a2, a3, a4⟩ := x.a hp
   have e : h1.ar.toNat = h.ar.toNat + 1 := by omega
   rw [e, find_up z u hz S h.t.proto h.ar.toNat (fun e => by rw [e]; exact a4 e)]
   by_cases hf : findE S h.t.proto h.ar.toNat < 0
   · rw [if_pos hf, if_pos hf, if_pos (by decide)]
   · rw [if_neg hf, if_neg hf, if_neg (by omega), show (findE S h.t.proto h.ar.toNat + 1).toNat = (findE S h.t.proto h.ar.toNat).toNat + 1 by omega]
     rw [show (Up z S)[(findE S h.t.proto h.ar.toNat).toNat + 1]? = (S[(findE S h.t.proto h.ar.toNat).toNat]?).map up by show (z :: S.map up)[_ + 1]? = _; rw [List.getElem?_cons_succ, List.getElem?_map]]
     cases S[(findE S h.t.proto h.ar.toNat).toNat]? with
     | none => rfl
     | some y => rfl
theorem HX.here {u : B} {S : List Ent} {t : Ty} {z : Ent} (h : t.proto = u → 0 ≤ findE S u S.length) : HX u S ⟨t, S.length⟩ ⟨t, (Up z S).length⟩ :=
 ⟨rfl, fun _ => ⟨by rw [Up_len]; rfl, by show (0 : Int) ≤ (S.length : Int); omega, Int.le_refl _, h⟩⟩
theorem Cx.chan {u : B} {E : List Fe} {S : List Ent} (q : Cx u E S) {z : Ent} (hz : z.names = [u]) {e : Ex} (kind : Int) (h : NF u (evX E e)) : chanX (Up z S) e kind = chanX S e kind := by
 have r := q.typ hz e h
 unfold chanX
 revert r
 generalize typX S e = a
 generalize typX (Up z S) e = b
 intro r
 cases r with
 | er w => rfl
 | ok x =>
   dsimp only
   rw [x.t, q.proto hz x]
theorem Cx.is {u : B} {E : List Fe} {S : List Ent} (q : Cx u E S) {z : Ent} (hz : z.names = [u]) {e : Ex} (t : Ty) (h : NF u (evX E e)) : isX (Up z S) e t = isX S e t := (q.typ hz e h).isT t
theorem typ_found {S : List Ent} {e : Ex} {h : Hd} (hk : e.k = 4 ∨ e.k = 5) (ho : typX S e = .ok h) : 0 ≤ findE S e.s S.length := by
 by_cases hf : findE S e.s S.length < 0
 · have hN : nameE S e.s = .error 120 := by unfold nameE; rw [if_pos hf]
   unfold typX at ho
   rw [typF_eq, hN] at ho
   unfold tyF at ho
   rcases hk with hk | hk
   · rw [if_neg (by omega), if_neg (by omega), if_neg (by omega), if_pos hk] at ho
     cases ho
   · rw [if_neg (by omega), if_neg (by omega), if_neg (by omega), if_neg (by omega), if_neg (by omega), if_pos hk] at ho
     cases ho
 · omega
theorem Cx.kind {u : B} {E : List Fe} {S : List Ent} (_ : Cx u E S) {z : Ent} (hz : z.names = [u]) {nm : B} (h : 0 ≤ findE S nm S.length) : kindX (Up z S) nm = kindX S nm := by
 unfold kindX
 rw [Up_len, find_up z u hz S nm S.length (fun _ => h), if_neg (by omega), show (findE S nm S.length + 1).toNat = (findE S nm S.length).toNat + 1 by omega]
 rw [show (Up z S)[(findE S nm S.length).toNat + 1]? = (S[(findE S nm S.length).toNat]?).map up by show (z :: S.map up)[_ + 1]? = _; rw [List.getElem?_cons_succ, List.getElem?_map]]
 cases S[(findE S nm S.length).toNat]? with
 | none => rfl
 | some y => rfl
theorem Cx.tgt {u : B} {E : List Fe} {S : List Ent} (q : Cx u E S) {z : Ent} (hz : z.names = [u]) {e : Ex} (h : NF u (evX E e)) : tgtX (Up z S) e = tgtX S e := by
 have r := q.typ hz e h
 have hf : ∀ hd, e.k = 4 ∨ e.k = 5 → typX S e = .ok hd → 0 ≤ findE S e.s S.length := fun hd hk ho => typ_found hk ho
 unfold tgtX
 revert r hf
 generalize typX S e = a
 generalize typX (Up z S) e = b
 intro r hf
 cases r with
 | er w => rfl
 | @ok h h1 x =>
   dsimp only
   rw [x.t]
   by_cases hk : e.k ≠ 4 ∧ e.k ≠ 5
   · rw [if_pos (.inl hk), if_pos (.inl hk)]
   · rw [q.kind hz (hf h (by omega) rfl)]
theorem Cx.takes {u : B} {E : List Fe} {S : List Ent} (q : Cx u E S) {z : Ent} (hz : z.names = [u]) {e : Ex} (t : Ty) (h : NF u (evX E e)) : takesX (Up z S) e t = takesX S e t := by unfold takesX; rw [q.tgt hz h]
theorem match_congr {f g : Ex → Int → Int} : ∀ {ks : List Int} {l : List Ex}, (∀ x ∈ l, ∀ k, f x k = g x k) → matchX f ks l = matchX g ks l
 | [], [], _ => rfl
 | _ :: _, [], _ => rfl
 | [], _ :: _, _ => rfl
 | k :: ks, x :: r, h => by
   show (if f x k ≠ 0 then f x k else matchX f ks r) = (if g x k ≠ 0 then g x k else matchX g ks r)
   rw [h x (List.Mem.head _) k, match_congr (ks := ks) fun y hy => h y (List.Mem.tail _ hy)]
theorem Cx.matchS {u : B} {E : List Fe} {S : List Ent} (q : Cx u E S) {z : Ent} (hz : z.names = [u]) {ks : List Int} {l : List Ex} (h : NF u (evXs E l)) : matchX (setX (Up z S)) ks l = matchX (setX S) ks l := match_congr fun x hx k => by unfold setX; rw [q.takes hz _ (h.mem hx)]
theorem Cx.matchG {u : B} {E : List Fe} {S : List Ent} (q : Cx u E S) {z : Ent} (hz : z.names = [u]) {ks : List Int} {l : List Ex} (h : NF u (evXs E l)) : matchX (giveX (Up z S)) ks l = matchX (giveX S) ks l := match_congr fun x hx k => by unfold giveX; rw [q.is hz _ (h.mem hx)]
theorem Cx.recv {u : B} {E : List Fe} {S : List Ent} (q : Cx u E S) {z : Ent} (hz : z.names = [u]) {c : Ex} {to : List Ex} (hc : NF u (evX E c)) (h : NF u (evXs E to)) : recvX (Up z S) c to = recvX S c to := by
 unfold recvX
 rw [q.chan hz 4 hc]
 cases chanX S c 4 with
 | error w => rfl
 | ok p => dsimp only; rw [q.matchS hz h]
theorem Cx.inp {u : B} {E : List Fe} {S : List Ent} (q : Cx u E S) {z : Ent} (hz : z.names = [u]) {c : Ex} {to : List Ex} (hc : NF u (evX E c)) (h : NF u (evXs E to)) : inX (Up z S) c to = inX S c to := by
 have r := q.typ hz c hc
 unfold inX
 rw [q.recv hz hc h, q.matchS hz h]
 revert r
 generalize typX S c = a
 generalize typX (Up z S) c = b
 intro r
 cases r with
 | er w => rfl
 | ok x => dsimp only; rw [x.t]
theorem Cx.aft {u : B} {E : List Fe} {S : List Ent} (q : Cx u E S) {z : Ent} (hz : z.names = [u]) {c e : Ex} (hc : NF u (evX E c)) (h : NF u (evX E e)) : afterX (Up z S) c e = afterX S c e := by
 unfold afterX
 rw [q.chan hz 5 hc, q.is hz _ h]
theorem Cx.tagged {u : B} {E : List Fe} {S : List Ent} (q : Cx u E S) {k : Int} {c : Ex} {l : List Ex} (hce : c.k = 4 ∨ c.k = 5) (h : taggedF E k c l = true) {p : Pz} (hp : chanX S c 4 = .ok p) : p.1 = true := by
 unfold taggedF at h
 split at h
 · rename_i d hd
   simp only [Bool.and_eq_true, Bool.not_eq_true'] at h
   obtain ⟨⟨_, h2⟩, h3⟩ := h
   have hne : d.tags ≠ [] := by intro e; rw [e] at h3; cases h3
   obtain ⟨x, q1, q2, q3⟩ := q.r _ d hd
   obtain ⟨q4, y, q5, q6, q7⟩ := q3.c h2 hne
   have hN : nameE S c.s = if x.k = 1 ∨ x.k = 2 ∨ x.k = 3 then .ok ⟨x.ty, x.ar⟩ else .error 130 := by
     unfold nameE
     rw [if_neg (by omega), q2]
   have key : ∀ hd : Hd, typX S c = .ok hd → hd.t.proto = x.ty.proto ∧ hd.ar = x.ar := by
     intro hd ho
     unfold typX at ho
     rw [typF_eq, hN] at ho
     unfold tyF at ho
     rcases hce with hk | hk
     · rw [if_neg (by omega), if_neg (by omega), if_neg (by omega), if_pos hk] at ho
       split at ho
       · cases ho; exact ⟨rfl, rfl⟩
       · cases ho
     · rw [if_neg (by omega), if_neg (by omega), if_neg (by omega), if_neg (by omega), if_neg (by omega), if_pos hk] at ho
       split at ho
       · cases ho
       · rename_i g hg
         split at ho
         · cases ho
           unfold arrF at hg
           split at hg
           · cases hg
           · rename_i g' hg'
             split at hg
             · cases hg
             · cases hg
               split at hg'
               · cases hg'; exact ⟨rfl, rfl⟩
               · cases hg'
         · cases ho
   unfold chanX at hp
   split at hp
   · cases hp
   · rename_i hd ho
     rw [if_neg (by intro q; exact absurd q.1 (by decide))] at hp
     split at hp
     · cases hp
     · obtain ⟨k1, k2⟩ := key hd ho
       unfold protoX at hp
       rw [k1, k2, if_neg q4, if_neg (by omega), q6] at hp
       dsimp only at hp
       split at hp
       · cases hp
       · cases hp; exact q7
 · cases h
theorem Cx.out {u : B} {E : List Fe} {S : List Ent} (q : Cx u E S) {z : Ent} (hz : z.names = [u]) {c : Ex} {l : List Ex} (hce : c.k = 4 ∨ c.k = 5) (hc : NF u (evX E c)) (h : NF u (evXs E (if taggedF E 5 c l then l.drop 1 else l))) : outX (Up z S) c l = outX S c l := by
 have ht : ∀ p : Pz, chanX S c 4 = .ok p → taggedF E 5 c l = true → p.1 = true := fun p hp ht => q.tagged hce ht hp
 unfold outX
 rw [q.chan hz 4 hc]
 cases hp : chanX S c 4 with
 | error w => rfl
 | ok p =>
   dsimp only
   by_cases h1 : p.1 = false
   · rw [if_pos h1, if_pos h1]
     rw [if_neg (by intro t; have := ht p hp t; rw [h1] at this; cases this)] at h
     exact q.matchG hz h
   · rw [if_neg h1, if_neg h1]
     cases l with
     | nil => rfl
     | cons e r =>
       have hr : NF u (evXs E r) := by
         split at h
         · exact h
         · have h' : NF u (evX E e ++ evXs E r) := h
           exact h'.right
       dsimp only
       split
       · rfl
       · cases variantX p e.s with
         | error w => rfl
         | ok ks => exact q.matchG hz hr
theorem Cx.asg {u : B} {E : List Fe} {S : List Ent} (q : Cx u E S) {z : Ent} (hz : z.names = [u]) : ∀ {l r : List Ex}, NF u (evXs E l) → NF u (evXs E r) → asgX (Up z S) l r = asgX S l r
 | [], [], _, _ => rfl
 | _ :: _, [], _, _ => rfl
 | [], _ :: _, _, _ => rfl
 | x :: l, e :: r, h1, h2 => by
   have h1' : NF u (evX E x ++ evXs E l) := h1
   have h2' : NF u (evX E e ++ evXs E r) := h2
   unfold asgX
   rw [q.tgt hz h1'.left]
   cases tgtX S x with
   | error w => rfl
   | ok t => dsimp only; rw [q.is hz t h2'.left, Cx.asg q hz h1'.right h2'.right]
theorem Cx.sel {u : B} {E : List Fe} {S : List Ent} (q : Cx u E S) {z : Ent} (hz : z.names = [u]) (t : Ty) : ∀ {l : List Ex}, NF u (evXs E l) → selX (Up z S) l t = selX S l t
 | [], _ => rfl
 | x :: l, h => by
   have h' : NF u (evX E x ++ evXs E l) := h
   unfold selX
   rw [q.is hz t h'.left, Cx.sel q hz t h'.right]
theorem Cx.act {u : B} {E : List Fe} {S : List Ent} (q : Cx u E S) {z : Ent} (hz : z.names = [u]) {i : Nat} {f : Fo} {e : Ex} (hf : f.ty.proto = u → 0 ≤ findE S u i) (h : NF u (evX E e)) : actX (Up z S) (i + 1) f e = actX S i f e := by
 unfold actX
 rw [q.is hz _ h, q.takes hz _ h]
 split
 · rfl
 split
 · rfl
 have r := q.typ hz e h
 revert r
 generalize typX S e = a
 generalize typX (Up z S) e = b
 intro r
 cases r with
 | er w => rfl
 | @ok g g1 x =>
   dsimp only
   rw [x.t]
   by_cases he : eqT g.t f.ty = false
   · rw [if_pos (.inl he), if_pos (.inl he)]
   · have ht : g.t = f.ty := (Go.Ty.eqT_iff g.t f.ty).1 (by simpa using he)
     by_cases hp : g.t.proto = []
     · rw [if_neg (by rintro (q | q); exact he q; exact q.1 hp), if_neg (by rintro (q | q); exact he q; exact q.1 hp)]
     · obtain ⟨a1, a2, a3, a4⟩ := x.a hp
       rw [show g1.ar.toNat = g.ar.toNat + 1 by omega, find_up z u hz S g.t.proto g.ar.toNat (fun e => by rw [e]; exact a4 e), ← ht, find_up z u hz S g.t.proto i (fun e => by rw [e]; exact hf (by rw [← ht]; exact e))]
       have l1 := findE_lt S g.t.proto g.ar.toNat
       have l2 := findE_lt S g.t.proto i
       have : ((if findE S g.t.proto g.ar.toNat < 0 then (-1 : Int) else findE S g.t.proto g.ar.toNat + 1) ≠ if findE S g.t.proto i < 0 then (-1 : Int) else findE S g.t.proto i + 1) ↔ (findE S g.t.proto g.ar.toNat ≠ findE S g.t.proto i) := by
         split <;> split <;> omega
       simp only [this]
theorem Cx.acts {u : B} {E : List Fe} {S : List Ent} (q : Cx u E S) {z : Ent} (hz : z.names = [u]) {i : Nat} : ∀ {fs : List Fo} {l : List Ex}, (∀ f ∈ fs, f.ty.proto = u → 0 ≤ findE S u i) → NF u (evXs E l) → actsX (Up z S) (i + 1) fs l = actsX S i fs l
 | [], [], _, _ => rfl
 | _ :: _, [], _, _ => rfl
 | [], _ :: _, _, _ => rfl
 | f :: fs, e :: r, hf, h => by
   have h' : NF u (evX E e ++ evXs E r) := h
   unfold actsX
   rw [q.act hz (hf f (List.Mem.head _)) h'.left, Cx.acts q hz (fun g hg => hf g (List.Mem.tail _ hg)) h'.right]
theorem Cx.call {u : B} {E : List Fe} {S : List Ent} (q : Cx u E S) {z : Ent} (hz : z.names = [u]) {nm : B} {l : List Ex} (hn : NF u (evN E nm)) (h : NF u (evXs E l)) : callX (Up z S) nm l = callX S nm l := by
 unfold callX
 rw [Up_len, find_up z u hz S nm S.length (q.found hn)]
 by_cases hf : findE S nm S.length < 0
 · rw [if_pos hf, if_pos hf, if_pos (by decide)]
 · rw [if_neg hf, if_neg hf, if_neg (by omega), show (findE S nm S.length + 1).toNat = (findE S nm S.length).toNat + 1 by omega]
   rw [show (Up z S)[(findE S nm S.length).toNat + 1]? = (S[(findE S nm S.length).toNat]?).map up by show (z :: S.map up)[_ + 1]? = _; rw [List.getElem?_cons_succ, List.getElem?_map]]
   cases hx : S[(findE S nm S.length).toNat]? with
   | none => rfl
   | some x =>
     dsimp only [Option.map_some]
     have e : actsX (Up z S) ((findE S nm S.length).toNat + 1) x.fs l = actsX S (findE S nm S.length).toNat x.fs l := q.acts hz (q.i _ x hx).2 h
     show (if x.k ≠ 5 ∨ x.fs.length ≠ l.length then 130 else actsX (Up z S) ((findE S nm S.length).toNat + 1) x.fs l) = _
     rw [e]
theorem Cx.fosE {u : B} {E : List Fe} {S : List Ent} (q : Cx u E S) {z : Ent} (hz : z.names = [u]) : ∀ {fs : List Fo}, (∀ f ∈ fs, f.ty.proto = u → 0 ≤ findE S u S.length) → fosX (Up z S) fs = fosX S fs
 | [], _ => rfl
 | f :: fs, h => by
   unfold fosX
   rw [q.proto hz (HX.here (h f (List.Mem.head _))), Cx.fosE q hz fun g hg => h g (List.Mem.tail _ hg)]
theorem Cx.rep {u : B} {E : List Fe} {S : List Ent} (q : Cx u E S) {z : Ent} (hz : z.names = [u]) {r : Rp} (h : NF u (if r.name = [] then [] else evX E r.base ++ evX E r.count)) : repX (Up z S) r = repX S r := by
 unfold repX
 split
 · rfl
 · rename_i hn
   rw [if_neg hn] at h
   rw [q.is hz _ h.left, q.is hz _ h.right]
theorem rep_up (z : Ent) (S : List Ent) (r : Rp) : repS (Up z S) r = Up z (repS S r) := by
 unfold repS
 split
 · rfl
 · refine (Up_app z S _ _ ?_).symm
   rw [Up_len]
   rfl
theorem Cx.repC {u : B} {E : List Fe} {S : List Ent} (hu : u ≠ []) (q : Cx u E S) (r : Rp) : Cx u (repF E r) (repS S r) := by
 unfold repF repS
 split
 · exact q
 · refine q.snoc (inE 2 (tyK 1) r.name S.length) _ ⟨by show (0 : Int) ≤ (S.length : Int); omega, Int.le_refl _⟩ ⟨fun e => absurd e.symm hu, fun f hf => by cases hf⟩ (fun d hd => ?_) (fun nm hn => ?_)
   · rw [List.mem_singleton] at hd
     subst hd
     exact ⟨List.Mem.head _, ⟨fun h => Bool.noConfusion h, fun _ h => absurd rfl h⟩⟩
   · have hn' : nm ∈ [r.name] := hn
     rw [List.mem_singleton] at hn'
     exact ⟨_, List.Mem.head _, hn'.symm⟩
theorem evTs_mem {u : B} {E : List Fe} {l : List Fo} {f : Fo} (h : NF u (evTs E l)) (hf : f ∈ l) : NF u (evT E f.ty.proto) := by
 induction l with
 | nil => cases hf
 | cons y r ih =>
   have h' : NF u (evT E y.ty.proto ++ evTs E r) := h
   rcases List.mem_cons.1 hf with rfl | hf
   · exact h'.left
   · exact ih h'.right hf
theorem tagT_zero' (E : List Fe) : tagT E Go.Ty.zeroT = [] := by
 unfold tagT
 cases lk E Go.Ty.zeroT.proto with
 | none => rfl
 | some p => exact if_neg (fun q => absurd q.1 (by decide))
theorem Cx.spC {u : B} {E : List Fe} {S : List Ent} (hu : u ≠ []) (q : Cx u E S) {s : Sp} (h4 : s.k = 4 → s.ty = Go.Ty.zeroT) (ht : NF u (evT E s.ty.proto)) (hf : NF u (evTs E s.fs.l)) : Cx u (E ++ ownF E s) (S ++ [shS s S.length]) := by
 refine q.snoc (shS s S.length) _ ⟨by show (0 : Int) ≤ (S.length : Int); omega, Int.le_refl _⟩ ⟨fun e => q.foundT hu ht e, fun f hm e => q.foundT hu (evTs_mem hf hm) e⟩ (fun d hd => ?_) (fun nm hn => ?_)
 · unfold ownF at hd
   obtain ⟨n, hn, rfl⟩ := List.mem_map.1 hd
   refine ⟨hn, ?_⟩
   by_cases hk : s.k = 4
   · have e : tagT E s.ty = [] := by rw [h4 hk]; exact tagT_zero' E
     rw [e, List.nil_append]
     refine ⟨fun _ => ⟨hk, fun h => ?_⟩, fun h => by rw [hk] at h; cases h⟩
     by_cases hc : s.k = 4 ∧ s.cs = true
     · exact hc.2
     · exact absurd (if_neg hc) h
   · rw [if_neg (fun h => hk h.1), List.append_nil]
     have e : (s.k == 4) = false := by simpa using hk
     rw [e]
     exact q.tag rfl rfl
 · exact ⟨_, List.mem_map.2 ⟨nm, hn, rfl⟩, rfl⟩
theorem Cx.foC {u : B} {E0 : List Fe} {S0 : List Ent} (hu : u ≠ []) (q0 : Cx u E0 S0) : ∀ (fs : List Fo) (E : List Fe) (T : List Ent), (∀ f ∈ fs, f.ty.proto = u → 0 ≤ findE S0 u S0.length) → Cx u E (S0 ++ T) → Cx u (E ++ innF E0 fs) ((S0 ++ T) ++ fs.map fun f => foE1 f S0.length)
 | [], E, T, _, q => by
   show Cx u (E ++ []) ((S0 ++ T) ++ [])
   rw [List.append_nil, List.append_nil]
   exact q
 | f :: fs, E, T, h, q => by
   have q1 : Cx u (E ++ [⟨f.name, false, tagT E0 f.ty⟩]) ((S0 ++ T) ++ [foE1 f S0.length]) := by
     refine q.snoc (foE1 f S0.length) _ ⟨by show (0 : Int) ≤ (S0.length : Int); omega, by show (S0.length : Int) ≤ ((S0 ++ T).length : Int); rw [List.length_append]; omega⟩ ⟨fun e => ?_, fun g hg => by cases hg⟩ (fun d hd => ?_) (fun nm hn => ?_)
     · have e1 : (foE1 f S0.length).ar.toNat = S0.length := rfl
       rw [e1, find_app S0 T u (Nat.le_refl _)]
       exact h f (List.Mem.head _) e
     · rw [List.mem_singleton] at hd
       subst hd
       exact ⟨List.Mem.head _, Gd.mono (q0.tag (t := f.ty) rfl rfl) T (Nat.le_refl _)⟩
     · have hn' : nm ∈ [f.name] := hn
       rw [List.mem_singleton] at hn'
       exact ⟨_, List.Mem.head _, hn'.symm⟩
   have q2 := Cx.foC hu q0 fs (E ++ [⟨f.name, false, tagT E0 f.ty⟩]) (T ++ [foE1 f S0.length]) (fun g hg => h g (List.Mem.tail _ hg)) (by rw [← List.append_assoc]; exact q1)
   have e1 : E ++ innF E0 (f :: fs) = (E ++ [⟨f.name, false, tagT E0 f.ty⟩]) ++ innF E0 fs := by rw [List.append_assoc]; rfl
   have e2 : ((S0 ++ T) ++ (f :: fs).map fun f => foE1 f S0.length) = (S0 ++ (T ++ [foE1 f S0.length])) ++ fs.map fun f => foE1 f S0.length := by simp only [List.map_cons, List.append_assoc, List.cons_append, List.nil_append]
   rw [e1, e2]
   exact q2
theorem evGs_mem {u : B} {E : List Fe} {l : List Gu} {g : Gu} (h : NF u (evGs l E)) (hg : g ∈ l) : NF u (evG g E) := by
 induction l with
 | nil => cases hg
 | cons y r ih =>
   have h' : NF u (evG y E ++ evGs r E) := h
   rcases List.mem_cons.1 hg with rfl | hg
   · exact h'.left
   · exact ih h'.right hg
theorem evPs_mem {u : B} {E : List Fe} {l : List Pr} {x : Pr} (h : NF u (evPs l E)) (hx : x ∈ l) : NF u (evP x E) := by
 induction l with
 | nil => cases hx
 | cons y r ih =>
   have h' : NF u (evP y E ++ evPs r E) := h
   rcases List.mem_cons.1 hx with rfl | hx
   · exact h'.left
   · exact ih h'.right hx
theorem hd_nf {u : B} {E : List Fe} {l : List Ex} (h : NF u (evXs E l)) : NF u (evX E (hdX l)) := by
 cases l with
 | nil => intro n hn; cases hn
 | cons x r => exact h.mem (List.Mem.head _)
theorem chkH_up {S S1 : List Ent} {l : List Pr} (h : ∀ x ∈ l, chkP x S1 = chkP x S) : chkH l S1 = chkH l S := by
 cases l with
 | nil => rfl
 | cons x r => exact h x (List.Mem.head _)
theorem chkL_up {S S1 : List Ent} : ∀ {l : List Pr}, (∀ x ∈ l, chkP x S1 = chkP x S) → chkL l S1 = chkL l S
 | [], _ => rfl
 | x :: r, h => by
   unfold chkL
   rw [h x (List.Mem.head _), chkL_up fun y hy => h y (List.Mem.tail _ hy)]
theorem chkG1_e (g : Gu) (S : List Ent) : chkG1 g S =
   (let c := if g.cond.k = 0 then 0 else isX S g.cond (tyK 3)
   let d := if g.k = 3 then recvX S g.ch g.tg.l else if g.k = 4 then afterX S g.ch g.time else 0
   if c ≠ 0 then c else if d ≠ 0 then d else chkH g.bl S) := by cases g; rfl
theorem chkV1_e (g : Gu) (S : List Ent) (p : Pz) : chkV1 g S p = match variantX p g.name with
   | .error w => w
   | .ok ks => if matchX (setX S) ks g.tg.l ≠ 0 then matchX (setX S) ks g.tg.l else chkH g.bl S := by cases g; rfl
theorem chkC1_e (g : Gu) (S : List Ent) (t : Ty) : chkC1 g S t = if selX S g.vl.l t ≠ 0 then selX S g.vl.l t else chkH g.bl S := by cases g; rfl
theorem chkS_e (s : Sp) (S : List Ent) : chkS s S =
   if s.k = 1 then errT (protoX S ⟨s.ty, S.length⟩)
   else if s.k = 2 then (if simT s.ty = false then 130 else isX S s.e s.ty)
   else if s.k = 3 then (if simT s.ty = false then 130 else takesX S s.e s.ty)
   else if s.k = 5 then (if fosX S s.fs.l ≠ 0 then fosX S s.fs.l else chkH s.bl (S ++ s.fs.l.map fun f => foE1 f S.length))
   else 0 := by cases s; rfl
theorem chkP_e (p : Pr) (S : List Ent) : chkP p S =
   if p.k = 3 then asgX S p.tg.l p.ex.l
   else if p.k = 4 then inX S p.ch p.tg.l
   else if p.k = 5 then outX S p.ch p.ex.l
   else if p.k = 6 then afterX S p.ch (hdX p.ex.l)
   else if p.k = 7 then (match chanX S p.ch 4 with
     | .error w => w
     | .ok q => chkV p.gl S q [])
   else if p.k = 12 ∨ p.k = 13 ∨ p.k = 14 then (if repX S p.rep ≠ 0 then repX S p.rep else chkG p.gl (repS S p.rep))
   else if p.k = 15 then (match typX S (hdX p.ex.l) with
     | .error w => w
     | .ok h => if eqT h.t (tyK 1) = false ∧ eqT h.t (tyK 2) = false then 130 else chkC p.gl S h.t 0)
   else if p.k = 16 then (if isX S (hdX p.ex.l) (tyK 3) ≠ 0 then isX S (hdX p.ex.l) (tyK 3) else chkH p.ll S)
   else if p.k = 17 then callX S p.name p.ex.l
   else if p.k = 18 then (if chkS p.sp S ≠ 0 then chkS p.sp S else chkH p.ll (S ++ [shS p.sp S.length]))
   else if repX S p.rep ≠ 0 then repX S p.rep else chkL p.ll (repS S p.rep) := by cases p; rfl
theorem Cx.g1 {u : B} {E : List Fe} {S : List Ent} (q : Cx u E S) {z : Ent} (hz : z.names = [u]) {g : Gu} (hn : NF u (evG g E)) (ih : ∀ x ∈ g.bl, chkP x (Up z S) = chkP x S) : chkG1 g (Up z S) = chkG1 g S := by
 rw [evG_eq] at hn
 rw [chkG1_e, chkG1_e, q.is hz _ hn.left, q.recv hz hn.right.left hn.right.right.left, q.aft hz hn.right.left hn.right.right.right.right.left, chkH_up ih]
theorem Cx.gG {u : B} {E : List Fe} {S : List Ent} (q : Cx u E S) {z : Ent} (hz : z.names = [u]) : ∀ {l : List Gu}, NF u (evGs l E) → (∀ g ∈ l, ∀ x ∈ g.bl, chkP x (Up z S) = chkP x S) → chkG l (Up z S) = chkG l S
 | [], _, _ => rfl
 | g :: r, h, ih => by
   have h' : NF u (evG g E ++ evGs r E) := h
   unfold chkG
   rw [q.g1 hz h'.left (ih g (List.Mem.head _)), Cx.gG q hz h'.right fun y hy => ih y (List.Mem.tail _ hy)]
theorem Cx.gV {u : B} {E : List Fe} {S : List Ent} (q : Cx u E S) {z : Ent} (hz : z.names = [u]) {p : Pz} : ∀ {l : List Gu} {seen : List B}, NF u (evGs l E) → (∀ g ∈ l, ∀ x ∈ g.bl, chkP x (Up z S) = chkP x S) → chkV l (Up z S) p seen = chkV l S p seen
 | [], _, _, _ => rfl
 | g :: r, seen, h, ih => by
   have h' : NF u (evG g E ++ evGs r E) := h
   have h1 := h'.left
   rw [evG_eq] at h1
   have e : chkV1 g (Up z S) p = chkV1 g S p := by
     rw [chkV1_e, chkV1_e]
     cases variantX p g.name with
     | error w => rfl
     | ok ks => dsimp only; rw [q.matchS hz h1.right.right.left, chkH_up (ih g (List.Mem.head _))]
   unfold chkV
   rw [e, Cx.gV q hz h'.right fun y hy => ih y (List.Mem.tail _ hy)]
theorem Cx.gC {u : B} {E : List Fe} {S : List Ent} (q : Cx u E S) {z : Ent} (hz : z.names = [u]) {t : Ty} : ∀ {l : List Gu} {n : Int}, NF u (evGs l E) → (∀ g ∈ l, ∀ x ∈ g.bl, chkP x (Up z S) = chkP x S) → chkC l (Up z S) t n = chkC l S t n
 | [], _, _, _ => rfl
 | g :: r, n, h, ih => by
   have h' : NF u (evG g E ++ evGs r E) := h
   have h1 := h'.left
   rw [evG_eq] at h1
   have e : chkC1 g (Up z S) t = chkC1 g S t := by
     rw [chkC1_e, chkC1_e, q.sel hz t h1.right.right.right.left, chkH_up (ih g (List.Mem.head _))]
   unfold chkC
   rw [e, Cx.gC q hz h'.right fun y hy => ih y (List.Mem.tail _ hy)]
theorem no_rep {p : Pr} (hV : Pl p) (h : (fieldsP p.k).1.rep = false) : p.rep.name = [] := by
 by_cases hn : p.rep.name = []
 · exact hn
 · rw [hV.rp hn] at h; cases h
theorem sp_zero {s : Sp} (h : spP s = true) (h4 : s.k = 4) : s.ty = Go.Ty.zeroT := by
 unfold spP at h
 rw [if_pos (by omega)] at h
 simp only [Bool.and_eq_true] at h
 have h2 := h.2
 unfold sameSF wantS at h2
 rw [if_neg (by omega), if_neg (by omega), if_neg (by omega), if_pos h4] at h2
 simp only [Bool.and_eq_true] at h2
 exact (Go.Ty.eqT_iff _ _).1 h2.1.1.1.1.1.1.2
def AlikeP (u : B) (z : Ent) (p : Pr) : Prop := ∀ (E : List Fe) (S : List Ent), Vld p → Cx u E S → NF u (evP p E) → chkP p (Up z S) = chkP p S
theorem Cx.spec {u : B} {E : List Fe} {S : List Ent} (hu : u ≠ []) (q : Cx u E S) {z : Ent} (hz : z.names = [u]) {s : Sp} (ih : ∀ x ∈ s.bl, Vld x ∧ AlikeP u z x) (hn : NF u (evS s E)) : chkS s (Up z S) = chkS s S := by
 rw [evS_eq] at hn
 have n3 := hn.right.right.left
 have n4 := hn.right.right.right.left
 have n5 := hn.right.right.right.right.left
 have n6 := hn.right.right.right.right.right
 rw [chkS_e, chkS_e, q.is hz _ n5, q.takes hz _ n5, q.fosE hz (fun f hf e => q.foundT hu (evTs_mem n4 hf) e), q.proto hz (HX.here fun e => q.foundT hu n3 e)]
 have e : chkH s.bl (Up z S ++ s.fs.l.map fun f => foE1 f (Up z S).length) = chkH s.bl (S ++ s.fs.l.map fun f => foE1 f S.length) := by
   have e1 : (Up z S ++ s.fs.l.map fun f => foE1 f (Up z S).length) = Up z (S ++ s.fs.l.map fun f => foE1 f S.length) := by
     show (z :: S.map up) ++ _ = z :: (S ++ _).map up
     rw [List.map_append, List.map_map, List.cons_append, Up_len]
     rfl
   rw [e1]
   refine chkH_up fun x hx => (ih x hx).2 (E ++ innF E s.fs.l) _ (ih x hx).1 ?_ (evPs_mem n6 hx)
   have h := q.foC hu s.fs.l E [] (fun f hf e => q.foundT hu (evTs_mem n4 hf) e) (by rw [List.append_nil]; exact q)
   rwa [List.append_nil] at h
 rw [e]
theorem alike_all {u : B} (hu : u ≠ []) {z : Ent} (hz : z.names = [u]) (p : Pr) : AlikeP u z p := by
 refine Pr.ind (q := AlikeP u z) (fun p ih E S hV q hn => ?_) p
 have hO := hV.own
 rw [evP_eq] at hn
 have n1 := hn.left
 have n2 := hn.right.left
 have n3 := hn.right.right.left
 have n4 := hn.right.right.right.left
 have n5 := hn.right.right.right.right.left
 have n6 := hn.right.right.right.right.right.left
 have n7 := hn.right.right.right.right.right.right.left
 have n8 := hn.right.right.right.right.right.right.right
 have hL : ∀ x ∈ p.ll, Vld x ∧ AlikeP u z x := fun x hx => ⟨hV.sub (.l hx), ih x (.l hx)⟩
 have hG : ∀ g ∈ p.gl, ∀ x ∈ g.bl, Vld x ∧ AlikeP u z x := fun g hg x hx => ⟨hV.sub (.g hg hx), ih x (.g hg hx)⟩
 have hB : ∀ x ∈ p.sp.bl, Vld x ∧ AlikeP u z x := fun x hx => ⟨hV.sub (.s hx), ih x (.s hx)⟩
 have gb : ∀ {E' : List Fe} {S' : List Ent}, Cx u E' S' → NF u (evGs p.gl E') → ∀ g ∈ p.gl, ∀ x ∈ g.bl, chkP x (Up z S') = chkP x S' := fun {E' S'} q' hn g hg x hx => by
   have h1 := evGs_mem hn hg
   rw [evG_eq] at h1
   exact (hG g hg x hx).2 E' S' (hG g hg x hx).1 q' (evPs_mem h1.right.right.right.right.right hx)
 have xs : p.k ≠ 5 → NF u (evXs E p.ex.l) := fun h5 => by
   have e : taggedF E p.k p.ch p.ex.l = false := by
     unfold taggedF
     have : (p.k == 5) = false := by simpa using h5
     rw [this]
     cases lk E p.ch.s <;> rfl
   rw [e] at n4
   exact n4
 rw [chkP_e, chkP_e]
 by_cases h3 : p.k = 3
 · rw [if_pos h3, if_pos h3]; exact q.asg hz n3 (xs (by omega))
 rw [if_neg h3, if_neg h3]
 by_cases h4 : p.k = 4
 · rw [if_pos h4, if_pos h4]; exact q.inp hz n2 n3
 rw [if_neg h4, if_neg h4]
 by_cases h5 : p.k = 5
 · rw [if_pos h5, if_pos h5]
   rw [h5] at n4
   have hc := hO.ch (by rw [h5]; rfl)
   exact q.out hz (elem_kind hc) n2 n4
 rw [if_neg h5, if_neg h5]
 have nx := xs h5
 by_cases h6 : p.k = 6
 · rw [if_pos h6, if_pos h6]; exact q.aft hz n2 (hd_nf nx)
 rw [if_neg h6, if_neg h6]
 have q' := q.repC hu p.rep
 have e18 : p.k ≠ 18 → NF u (evGs p.gl (repF E p.rep)) ∧ NF u (evPs p.ll (repF E p.rep)) := fun h => by rw [if_neg h] at n7 n8; exact ⟨n7, n8⟩
 have eR : (fieldsP p.k).1.rep = false → repF E p.rep = E := fun h => by unfold repF; rw [if_pos (no_rep hO h)]
 by_cases h7 : p.k = 7
 · rw [if_pos h7, if_pos h7, q.chan hz 4 n2]
   cases chanX S p.ch 4 with
   | error w => rfl
   | ok pz =>
     have g := (e18 (by omega)).1
     rw [eR (by rw [h7]; rfl)] at g
     exact q.gV hz g (gb q g)
 rw [if_neg h7, if_neg h7]
 by_cases h12 : p.k = 12 ∨ p.k = 13 ∨ p.k = 14
 · rw [if_pos h12, if_pos h12, q.rep hz n5, rep_up]
   have g := (e18 (by omega)).1
   rw [q'.gG hz g (gb q' g)]
 rw [if_neg h12, if_neg h12]
 by_cases h15 : p.k = 15
 · rw [if_pos h15, if_pos h15]
   have g := (e18 (by omega)).1
   rw [eR (by rw [h15]; rfl)] at g
   have r := q.typ hz (hdX p.ex.l) (hd_nf nx)
   revert r
   generalize typX S (hdX p.ex.l) = a
   generalize typX (Up z S) (hdX p.ex.l) = b
   intro r
   cases r with
   | er w => rfl
   | ok x => dsimp only; rw [x.t, q.gC hz g (gb q g)]
 rw [if_neg h15, if_neg h15]
 by_cases h16 : p.k = 16
 · rw [if_pos h16, if_pos h16, q.is hz _ (hd_nf nx)]
   have g := (e18 (by omega)).2
   rw [eR (by rw [h16]; rfl)] at g
   rw [chkH_up fun x hx => (hL x hx).2 E S (hL x hx).1 q (evPs_mem g hx)]
 rw [if_neg h16, if_neg h16]
 by_cases h17 : p.k = 17
 · rw [if_pos h17, if_pos h17]
   rw [if_pos h17] at n1
   exact q.call hz n1 nx
 rw [if_neg h17, if_neg h17]
 by_cases h18 : p.k = 18
 · rw [if_pos h18, if_pos h18]
   rw [if_pos h18, eR (by rw [h18]; rfl)] at n6 n8
   rw [q.spec hu hz hB n6]
   have n6' := n6
   rw [evS_eq] at n6'
   have qs := q.spC hu (s := p.sp) (fun h => sp_zero (hO.sp (by rw [h18]; rfl)) h) n6'.right.right.left n6'.right.right.right.left
   have e1 : Up z S ++ [shS p.sp (Up z S).length] = Up z (S ++ [shS p.sp S.length]) := (Up_app z S _ _ (by rw [Up_len]; rfl)).symm
   rw [e1, chkH_up fun x hx => (hL x hx).2 _ _ (hL x hx).1 qs (evPs_mem n8 hx)]
 rw [if_neg h18, if_neg h18, q.rep hz n5, rep_up]
 have g := (e18 h18).2
 rw [chkL_up fun x hx => (hL x hx).2 _ _ (hL x hx).1 q' (evPs_mem g hx)]
theorem Cx.start {u : B} {S : List Ent} (hA : ArOk S) (h : ∀ x ∈ S, x.ty.proto ≠ u ∧ ∀ f ∈ x.fs, f.ty.proto ≠ u) : Cx u [] S :=
 ⟨hA, fun i x hx => ⟨fun e => absurd e (h x (List.mem_of_getElem? hx)).1, fun f hf e => absurd e ((h x (List.mem_of_getElem? hx)).2 f hf)⟩, fun nm d h => by cases h⟩
theorem outside_plain {u : B} (hu : u ≠ []) {p : Pr} {S : List Ent} {z : Ent} (hz : z.names = [u]) (hA : ArOk S) (h : ∀ x ∈ S, x.ty.proto ≠ u ∧ ∀ f ∈ x.fs, f.ty.proto ≠ u) (hn : mayP p = true → NF u (evP p [])) :
   checkX (mayP p) (Up z S) p = checkX (mayP p) S p := by
 unfold checkX
 split
 · rename_i hm
   exact alike_all hu hz p [] S (mayP_vld hm).1 (Cx.start hA h) (hn hm)
 · rfl
end Go.Fr
end

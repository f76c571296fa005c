/- lex: reading back the text of tokens. -/
import Derived.Test.YtddnoaffkinkkaaDoorLexZ
namespace Go.Lx
open Go.Ty
set_option maxRecDepth 100000
/-- The tokens where their text has them. -/
def place : Option Tok → Nat → List Tok → List Tok
  | _, _, [] => []
  | p, q, t :: l => { t with at_ := (q + (sep (gapO p t)).length : Nat) } :: place (some t) (q + (sep (gapO p t)).length + (textP t).length) l
def TkN (l : List Tok) : Prop := ∀ x, x ∈ l → -2147483648 ≤ x.n ∧ x.n ≤ 2147483647
theorem lx_sep (b : Bool) (r : B) (p : Nat) : lx (sep b ++ r) p = lx r (p + (sep b).length) := by
  cases b with
  | false => rfl
  | true => exact lx_space r p
theorem lx_text : ∀ (l : List Tok) (p : Option Tok) (q : Nat), (∀ x, x ∈ l → mayK x = true) → TkN l → lx (textL p l) q = .ok (place p q l)
  | [], p, q, _, _ => rfl
  | t :: l, p, q, hk, hn => by
    have hkt := hk t List.mem_cons_self
    obtain ⟨ht, hne⟩ := text_tok hkt (hn t List.mem_cons_self)
    have ih := lx_text l (some t) (q + (sep (gapO p t)).length + (textP t).length) (fun x hx => hk x (List.mem_cons_of_mem _ hx)) (fun x hx => hn x (List.mem_cons_of_mem _ hx))
    have hlen : (textP t).length ≠ 0 := by simpa using hne
    have hdep : tok (textP t ++ textL (some t) l) = ({ t with at_ := 0 }, (textP t).length) := by
      refine tok_dep ht hlen (by rw [List.take_left, List.take_length]) (by rw [List.length_append]; omega) fun c hc => ?_
      rw [List.getElem?_append_right (Nat.le_refl _), Nat.sub_self] at hc
      show stopC t (textP t).length c = true
      cases l with
      | nil => cases hc
      | cons u l =>
        have hku := hk u (List.mem_cons_of_mem _ List.mem_cons_self)
        obtain ⟨_, hneu⟩ := text_tok hku (hn u (List.mem_cons_of_mem _ List.mem_cons_self))
        have hc : (sep (gap t u) ++ textP u ++ textL (some u) l)[0]? = some c := hc
        cases hg : gap t u with
        | true =>
          rw [hg] at hc
          cases hc
          exact stop_32 t _
        | false =>
          rw [hg] at hc
          refine gap_stop hkt hku hg (c := c) ?_
          cases hu : textP u with
          | nil => exact absurd hu hneu
          | cons a w => rw [hu] at hc; exact hc
    show lx (sep (gapO p t) ++ textP t ++ textL (some t) l) q = _
    rw [List.append_assoc, lx_sep]
    obtain ⟨c, w, hcw⟩ : ∃ c w, textP t ++ textL (some t) l = c :: w := by
      cases hx : textP t with
      | nil => exact absurd hx hne
      | cons c w => exact ⟨c, w ++ textL (some t) l, rfl⟩
    have hdrop : (textP t ++ textL (some t) l).drop (textP t).length = textL (some t) l := List.drop_left
    rw [hcw] at hdep hdrop ⊢
    have hc32 : c ≠ 32 := by
      rintro rfl
      have := tok_32 w
      rw [hdep] at this
      exact hlen this
    rw [lx_tok hc32 (by rw [hdep]; exact hlen), hdep, hdrop, ih]
    rfl
theorem place_len : ∀ (l : List Tok) (p : Option Tok) (q : Nat), (place p q l).length = l.length
  | [], _, _ => rfl
  | t :: l, p, q => by show (place _ _ l).length + 1 = _; rw [place_len l]; rfl
theorem amongT_at (t : Tok) (z : Int) (s : B) : amongT { t with at_ := z } s = amongT t s := rfl
theorem place_text : ∀ (l : List Tok) (p p' : Option Tok) (q : Nat), (∀ u, gapO p' u = gapO p u) → textL p' (place p q l) = textL p l
  | [], _, _, _, _ => rfl
  | t :: l, p, p', q, h => by
    show sep (gapO p' _) ++ textP _ ++ textL _ (place _ _ l) = sep (gapO p t) ++ textP t ++ textL (some t) l
    rw [place_text l (some t) (some { t with at_ := (q + (sep (gapO p t)).length : Nat) }) (q + (sep (gapO p t)).length + (textP t).length) (fun u => rfl), h]
    cases p <;> rfl
theorem place_mem : ∀ (l : List Tok) (p : Option Tok) (q : Nat), ∀ x, x ∈ place p q l → ∃ t, t ∈ l ∧ x = { t with at_ := x.at_ }
  | [], _, _, x, h => by cases h
  | t :: l, p, q, x, h => by
    rcases List.mem_cons.1 h with rfl | h
    · exact ⟨t, List.mem_cons_self, rfl⟩
    · obtain ⟨u, hu, e⟩ := place_mem l _ _ x h
      exact ⟨u, List.mem_cons_of_mem _ hu, e⟩
theorem may_at {t : Tok} (h : mayK t = true) {z : Int} (hz : 0 ≤ z ∧ z < 256) : mayK { t with at_ := z } = true := by
  unfold mayK at h ⊢
  split at h
  · cases h
  · rw [if_neg (by simp; omega)]
    exact h
/-- What is read back: the tokens, in their places. -/
theorem text_back {l : List Tok} (hk : ∀ x, x ∈ l → mayK x = true) (hn : TkN l) (hl : (textL none l).length ≤ 256) : lexO (textL none l) = (place none 0 l, 0, 0) ∧ textO (place none 0 l) = (textL none l, 0) ∧ ∀ x, x ∈ place none 0 l → mayK x = true := by
  have h1 := lx_text l none 0 hk hn
  have hall : ∀ x, x ∈ place none 0 l → mayK x = true := fun x hx => by
    obtain ⟨t, ht, e⟩ := place_mem _ _ _ x hx
    have := lx_at _ _ _ h1 x hx
    rw [e]
    exact may_at (hk t ht) (by omega)
  refine ⟨by rw [lexO_short (by simp; omega), h1]; rfl, ?_, hall⟩
  have e := place_text l none none 0 (fun _ => rfl)
  rw [← e] at hl
  have := textO_ok (l := place none 0 l) (List.any_eq_false.2 fun x hx => by rw [hall x hx]; simp) hl
  rw [this, e]
/-- One behind the other. -/
def inc : List Tok → Int → Prop
  | [], _ => True
  | t :: l, z => z ≤ t.at_ ∧ inc l (t.at_ + 1)
theorem inc_mono : ∀ {l : List Tok} {a b : Int}, inc l a → b ≤ a → inc l b
  | [], _, _, _, _ => trivial
  | _ :: _, _, _, h, hb => ⟨by have := h.1; omega, h.2⟩
theorem lx_inc : ∀ (r : B) (p : Nat) (l : List Tok), lx r p = .ok l → inc l p := by
  refine lx_cases ?_ ?_ ?_ ?_
  · intro p l h; cases h; trivial
  · intro r ih p l h
    rw [lx_space] at h
    exact inc_mono (ih _ _ h) (by omega)
  · intro c r hc hn p l h
    rw [lx_bad hc hn] at h
    cases h
  · intro c r hc hn ih p l h
    rw [lx_tok hc hn] at h
    obtain ⟨k, hk, rfl⟩ := prep_ok h
    exact ⟨Int.le_refl _, inc_mono (ih _ _ hk) (by show (p : Int) + 1 ≤ _; omega)⟩
/- which tokens are read -/
theorem valV_dec {l : B} {v : Int} (h : decV l 0 = some v) : 0 ≤ v := by
  rw [decV_val] at h
  exact (valV_bound (by decide) dval10_lt l 0 v (by decide) h).1
theorem wrap_range (v : Int) : -2147483648 ≤ IntKind.i32.wrap v ∧ IntKind.i32.wrap v ≤ 2147483647 := by
  unfold IntKind.wrap
  simp [IntKind.bits, IntKind.signed]
  omega
theorem esc_lt (c : UInt8) : chB standB (esc c).toNat < 256 ∧ 0 ≤ chB standB (esc c).toNat := by
  unfold chB
  have := (standB.getD (esc c).toNat 0).toNat_lt
  omega
theorem charP_val (s : B) : 0 ≤ (charP s).1 ∧ (charP s).1 < 256 := by
  unfold charP
  split
  · exact ⟨Int.le_refl 0, show (0 : Int) < 256 by decide⟩
  · split
    · have := (s.getD 0 0).toNat_lt
      show 0 ≤ chB s 0 ∧ chB s 0 < 256
      unfold chB
      omega
    · split
      · exact ⟨Int.le_refl 0, show (0 : Int) < 256 by decide⟩
      · split
        · have := esc_lt (s.getD 1 0)
          exact ⟨this.2, this.1⟩
        · split
          · exact ⟨Int.le_refl 0, show (0 : Int) < 256 by decide⟩
          · split
            · exact ⟨Int.le_refl 0, show (0 : Int) < 256 by decide⟩
            · show 0 ≤ (hexP _).1 ∧ (hexP _).1 < 256
              unfold hexP
              rw [hexV_val]
              cases hv : valV 16 ((s.drop 2).take 2) 0 with
              | none => exact ⟨Int.le_refl 0, show (0 : Int) < 256 by decide⟩
              | some v =>
                have hb := valV_bound (by decide) dval16_lt _ 0 v (by decide) hv
                have hl : ((s.drop 2).take 2).length ≤ 2 := by rw [List.length_take]; omega
                have hp : (16 : Int) ^ ((s.drop 2).take 2).length ≤ 16 ^ 2 := by exact_mod_cast Nat.pow_le_pow_right (by decide) hl
                simp only
                omega
theorem tok_may {c : UInt8} {r : B} {t : Tok} {n : Nat} (h : tok (c :: r) = (t, n)) (hn : n ≠ 0) {z : Int} (hz : 0 ≤ z ∧ z < 256) : mayK { t with at_ := z } = true ∧ (-2147483648 ≤ t.n ∧ t.n ≤ 2147483647) := by
  have h0 : (decide (z < 0) || decide (z ≥ 256)) = false := by simp; omega
  unfold tok at h
  rw [chB_zero] at h
  split at h
  · rename_i hl
    obtain ⟨hr, _⟩ := words_kind h hn
    unfold rWords at h
    split at h
    · rename_i hk
      cases h
      refine ⟨?_, by show (-2147483648 : Int) ≤ 0 ∧ (0 : Int) ≤ 2147483647; omega⟩
      unfold mayK
      simp only [h0, hk]
      rfl
    · rename_i hk
      split at h
      · cases h; exact absurd rfl hn
      · rename_i h32
        cases h
        refine ⟨?_, by show (-2147483648 : Int) ≤ 0 ∧ (0 : Int) ≤ 2147483647; omega⟩
        unfold mayK
        simp only [h0, name_word hl (by simpa using hk)]
        simpa using h32
  · split at h
    · obtain ⟨_, hk, htx, _⟩ := dec_kind h hn
      refine ⟨?_, ?_⟩
      · unfold mayK
        simp only [h0, hk, htx]
        rfl
      · unfold rDec at h
        split at h
        · cases h; exact absurd rfl hn
        · split at h
          · cases h; exact absurd rfl hn
          · split at h
            · cases h; exact absurd rfl hn
            · cases h; exact wrap_range _
    · split at h
      · obtain ⟨_, hk, htx, _⟩ := hex_kind h hn
        refine ⟨?_, ?_⟩
        · unfold mayK
          simp only [h0, hk, htx]
          rfl
        · unfold rHex at h
          split at h
          · cases h; exact absurd rfl hn
          · split at h
            · cases h; exact absurd rfl hn
            · cases h; exact wrap_range _
      · split at h
        · obtain ⟨_, htk, _⟩ := quot_kind h hn
          have hv := charP_val r
          subst htk
          refine ⟨?_, by show -2147483648 ≤ (charP r).1 ∧ (charP r).1 ≤ 2147483647; omega⟩
          unfold mayK
          simp only [h0]
          simp
          omega
        · obtain ⟨htk, hsy, _, _⟩ := syms_kind h hn
          subst htk
          refine ⟨?_, by show (-2147483648 : Int) ≤ 0 ∧ (0 : Int) ≤ 2147483647; omega⟩
          unfold mayK
          simp only [h0, hsy]
          rfl
theorem keys_le : ∀ s ∈ keysL, s.length ≤ 32 := by decide +kernel
theorem syms_le : ∀ s ∈ symsL, s.length ≤ 32 := by decide +kernel
theorem may_len {t : Tok} (h : mayK t = true) : t.text.length ≤ 32 := by
  rcases may_cases h with ⟨_, _, h3⟩ | ⟨_, _, h3⟩ | ⟨_, _, h3⟩ | ⟨_, h3, _⟩ | ⟨_, h3⟩
  · unfold name at h3
    simp only [Bool.and_eq_true, decide_eq_true_eq] at h3
    have := h3.1.1.1.2
    omega
  · exact keys_le _ ((among_iff _ _).1 (by rw [key_eq] at h3; exact h3))
  · exact syms_le _ ((among_iff _ _).1 (by rw [sym_eq] at h3; exact h3))
  · rw [h3]; exact Nat.zero_le _
  · rw [h3]; exact Nat.zero_le _
theorem lx_may : ∀ (r : B) (p : Nat) (l : List Tok), lx r p = .ok l → p + r.length ≤ 256 → ∀ x, x ∈ l → mayK x = true ∧ (-2147483648 ≤ x.n ∧ x.n ≤ 2147483647) := by
  refine lx_cases ?_ ?_ ?_ ?_
  · intro p l h _ x hx; cases h; cases hx
  · intro r ih p l h hp x hx
    rw [lx_space] at h
    exact ih _ _ h (by simp only [List.length_cons] at hp; omega) x hx
  · intro c r hc hn p l h
    rw [lx_bad hc hn] at h
    cases h
  · intro c r hc hn ih p l h hp x hx
    rw [lx_tok hc hn] at h
    obtain ⟨k, hk, rfl⟩ := prep_ok h
    have hle := tok_le (c :: r)
    rcases List.mem_append.1 hx with hx | hx
    · cases List.mem_singleton.1 hx
      exact tok_may (show tok (c :: r) = ((tok (c :: r)).1, (tok (c :: r)).2) from rfl) hn (z := (p : Int)) (by simp only [List.length_cons] at hp; omega)
    · exact ih _ _ hk (by rw [List.length_drop]; omega) x hx
end Go.Lx

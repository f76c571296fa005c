/- expr: what was read was read from its tokens, in plain Lean. -/
import Derived.Test.YtheejlbhmbbdjaaDoorExpV
namespace Go.Xp
open Go.Eng Go
open Go.Ty (Tok encK)
open Go.Lx (mayK)
set_option maxRecDepth 100000
/-- What a reader returns was read from the tokens in front of the rest, whatever stands there instead. -/
def From (rd : List Tok → PRes) (ok : List Tok → Prop) (sz : Ex → Nat) : Prop :=
  ∀ ts x r, rd ts = .ok (x, r) → ∃ p, (ts = p ++ r ∧ 1 ≤ p.length) ∧ sz x ≤ p.length ∧ ∀ r', ok r' → rd (p ++ r') = .ok (x, r')
abbrev wl (x : Ex) : Nat := (writeE x).length
abbrev ol (x : Ex) : Nat := (opndE x).length
abbrev InsF (ins : B → B → List Tok → PRes) : Prop := ∀ o s, s = [93] ∨ s = [41] → From (ins o s) (fun _ => True) (fun x => wl x + 2)
theorem ol_le (x : Ex) : ol x ≤ wl x + 2 := opnd_len (par x.k, writeE x)
theorem ol_lit {x : Ex} (h : par x.k = false) : ol x = wl x := by
  unfold ol wl opndE opndP
  rw [h]
  rfl
theorem wl_ol (x : Ex) : wl x ≤ ol x := by
  unfold wl ol opndE opndP
  split
  · simp only [List.length_cons, List.length_append]
    omega
  · exact Nat.le_refl _
theorem next_nil : nextT [] = zeroT := rfl
theorem zero_mark (s : B) : zeroT ≠ markT s := fun e => by
  have hk : (0 : Int) = (markT s).kind := congrArg Tok.kind e
  rcases mark_kind s with h | h
  · have := hk.trans h; omega
  · have := hk.trans h; omega
theorem opnd_nil {ins : B → B → List Tok → PRes} : opndQ ins [] = .error 100 := by
  rw [opndQ_at next_nil, if_neg (by decide), if_neg (by decide), if_neg (zero_mark _), if_neg (zero_mark _), if_neg (by decide), if_neg (by decide)]
theorem opnd_from {ins : B → B → List Tok → PRes} (hi : InsF ins) : From (opndQ ins) NoBr ol := by
  intro ts x r h
  cases ts with
  | nil => rw [opnd_nil] at h; cases h
  | cons t q =>
    obtain ⟨u, hu⟩ : ∃ u, ∀ q', nextT (t :: q') = u := ⟨_, fun _ => rfl⟩
    rw [opndQ_at (hu q), List.tail_cons] at h
    have one : ∀ {x : Ex}, wl x = 1 → par x.k = false → ol x ≤ [t].length := fun h1 h2 => by rw [ol_lit h2, h1]; exact Nat.le_refl 1
    by_cases k3 : u.kind = 3
    · rw [if_pos k3] at h
      cases h
      exact ⟨[t], ⟨rfl, Nat.le_refl 1⟩, one rfl rfl, fun r' _ => by rw [List.singleton_append, opndQ_at (hu r'), if_pos k3]; rfl⟩
    rw [if_neg k3] at h
    by_cases k4 : u.kind = 4
    · rw [if_pos k4] at h
      cases h
      exact ⟨[t], ⟨rfl, Nat.le_refl 1⟩, one rfl rfl, fun r' _ => by rw [List.singleton_append, opndQ_at (hu r'), if_neg k3, if_pos k4]; rfl⟩
    rw [if_neg k4] at h
    by_cases f : u = markT [70, 65, 76, 83, 69]
    · rw [if_pos f] at h
      cases h
      exact ⟨[t], ⟨rfl, Nat.le_refl 1⟩, one rfl rfl, fun r' _ => by rw [List.singleton_append, opndQ_at (hu r'), if_neg k3, if_neg k4, if_pos f]; rfl⟩
    rw [if_neg f] at h
    by_cases g : u = markT [84, 82, 85, 69]
    · rw [if_pos g] at h
      cases h
      exact ⟨[t], ⟨rfl, Nat.le_refl 1⟩, one rfl rfl, fun r' _ => by rw [List.singleton_append, opndQ_at (hu r'), if_neg k3, if_neg k4, if_neg f, if_pos g]; rfl⟩
    rw [if_neg g] at h
    by_cases k1 : u.kind = 1
    · rw [if_pos k1] at h
      by_cases b : nextT q = symT [91]
      · rw [if_pos b] at h
        cases hq : ins [91] [93] q with
        | error e => rw [hq] at h; cases h
        | ok w =>
          obtain ⟨y, r1⟩ := w
          rw [hq] at h
          cases h
          obtain ⟨p, ⟨hp, hp1⟩, hs, hf⟩ := hi [91] [93] (.inl rfl) q y _ hq
          refine ⟨t :: p, ⟨by rw [hp]; rfl, Nat.succ_le_succ (Nat.zero_le _)⟩, ?_, fun r' _ => ?_⟩
          · rw [ol_lit rfl]
            show (nameT u.text :: symT [91] :: (writeE y ++ [symT [93]])).length ≤ (t :: p).length
            simp only [List.length_cons, List.length_append, List.length_nil]
            simp only [wl] at hs
            omega
          · have hb : nextT (p ++ r') = symT [91] := by
              rw [hp] at b
              cases p with
              | nil => exact absurd hp1 (by decide)
              | cons v w => exact b
            rw [List.cons_append, opndQ_at (hu _), if_neg k3, if_neg k4, if_neg f, if_neg g, if_pos k1, List.tail_cons, if_pos hb, hf r' trivial]
      · rw [if_neg b] at h
        cases h
        exact ⟨[t], ⟨rfl, Nat.le_refl 1⟩, one rfl rfl, fun r' hr => by rw [List.singleton_append, opndQ_at (hu r'), if_neg k3, if_neg k4, if_neg f, if_neg g, if_pos k1, List.tail_cons, if_neg hr]⟩
    rw [if_neg k1] at h
    by_cases o : u = symT [40]
    · rw [if_pos o] at h
      obtain ⟨p, ⟨hp, hp1⟩, hs, hf⟩ := hi [40] [41] (.inr rfl) _ x r h
      refine ⟨p, ⟨hp, hp1⟩, Nat.le_trans (ol_le x) hs, fun r' _ => ?_⟩
      cases p with
      | nil => exact absurd hp1 (by decide)
      | cons v w =>
        have hv : v = t := (List.cons.inj hp).1.symm
        subst hv
        rw [List.cons_append, opndQ_at (hu _), if_neg k3, if_neg k4, if_neg f, if_neg g, if_neg k1, if_pos o]
        exact hf r' trivial
    · rw [if_neg o] at h
      cases h
theorem unQ_ok {mk : Ex → Ex} {p : PRes} {x : Ex} {r : List Tok} (h : unQ mk p = .ok (x, r)) : ∃ y, p = .ok (y, r) ∧ x = mk y := by
  cases p with
  | error e => cases h
  | ok q =>
    obtain ⟨y, z⟩ := q
    cases h
    exact ⟨y, rfl, rfl⟩
theorem opF_zero0 : ∀ n o : Nat, opF zeroT n o = 0
  | 0, _ => rfl
  | n + 1, o => by
    unfold opF
    rw [if_neg (show zeroT ≠ operT o from zero_mark _)]
    exact opF_zero0 n (o + 1)
theorem expr_nil {ins : B → B → List Tok → PRes} : exprQ ins [] = .error 100 := by
  rw [exprQ_at next_nil, if_neg (zero_mark _), if_neg (by unfold conv3; rw [if_neg (zero_mark _), if_neg (zero_mark _), if_neg (zero_mark _)]; decide), if_neg (by rw [opF_zero0]; decide), opnd_nil]
theorem next_app {p : List Tok} (hp : 1 ≤ p.length) (r r' : List Tok) : nextT (p ++ r) = nextT (p ++ r') := by
  cases p with
  | nil => exact absurd hp (by decide)
  | cons t q => rfl
theorem expr_from {ins : B → B → List Tok → PRes} (hi : InsF ins) : From (exprQ ins) (fun r => NoBr r ∧ NoOp r) wl := by
  have hO := opnd_from hi
  intro ts x r h
  cases ts with
  | nil => rw [expr_nil] at h; cases h
  | cons t q =>
    obtain ⟨u, hu⟩ : ∃ u, ∀ q', nextT (t :: q') = u := ⟨_, fun _ => rfl⟩
    rw [exprQ_at (hu q), List.tail_cons] at h
    by_cases k1 : u = markT [83, 73, 90, 69]
    · rw [if_pos k1] at h
      by_cases k2 : (nextT q).kind = 1
      · rw [if_pos k2] at h
        cases q with
        | nil => cases k2
        | cons v w =>
          cases h
          refine ⟨[t, v], ⟨rfl, Nat.succ_le_succ (Nat.zero_le _)⟩, Nat.le_refl 2, fun r' _ => ?_⟩
          rw [show [t, v] ++ r' = t :: v :: r' from rfl, exprQ_at (hu _), List.tail_cons, if_pos k1, if_pos (show (nextT (v :: r')).kind = 1 from k2)]
          rfl
      · rw [if_neg k2] at h
        cases h
    rw [if_neg k1] at h
    by_cases k2 : conv3 u ≠ 0
    · rw [if_pos k2] at h
      obtain ⟨y, hy, rfl⟩ := unQ_ok h
      obtain ⟨p, ⟨hp, hp1⟩, hs, hf⟩ := hO q y r hy
      refine ⟨t :: p, ⟨by rw [hp]; rfl, Nat.succ_le_succ (Nat.zero_le _)⟩, ?_, fun r' hr => ?_⟩
      · show (markT (primP (conv3 u)) :: opndE y).length ≤ (t :: p).length
        exact Nat.succ_le_succ hs
      · rw [List.cons_append, exprQ_at (hu _), List.tail_cons, if_neg k1, if_pos k2, hf r' hr.1]
        rfl
    rw [if_neg k2] at h
    by_cases k3 : opF u 4 23 ≠ 0
    · rw [if_pos k3] at h
      obtain ⟨y, hy, rfl⟩ := unQ_ok h
      obtain ⟨p, ⟨hp, hp1⟩, hs, hf⟩ := hO q y r hy
      refine ⟨t :: p, ⟨by rw [hp]; rfl, Nat.succ_le_succ (Nat.zero_le _)⟩, ?_, fun r' hr => ?_⟩
      · show (operT (opF u 4 23) :: opndE y).length ≤ (t :: p).length
        exact Nat.succ_le_succ hs
      · rw [List.cons_append, exprQ_at (hu _), List.tail_cons, if_neg k1, if_neg k2, if_pos k3, hf r' hr.1]
        rfl
    rw [if_neg k3] at h
    cases hq : opndQ ins (t :: q) with
    | error e => rw [hq] at h; cases h
    | ok w =>
      obtain ⟨a, r1⟩ := w
      rw [hq] at h
      obtain ⟨p, ⟨hp, hp1⟩, hs, hf⟩ := hO _ a r1 hq
      have hd : ∀ r', exprQ ins (p ++ r') = match opndQ ins (p ++ r') with
          | .error e => .error e
          | .ok (a, r) => if opF (nextT r) 22 1 ≠ 0 then unQ (fun b => sx 7 (opF (nextT r) 22 1) 0 0 [] [a, b]) (opndQ ins r.tail) else .ok (a, r) := fun r' => by
        have hn : nextT (p ++ r') = u := by rw [next_app hp1 r' r1, ← hp]; exact hu q
        rw [exprQ_at hn, if_neg k1, if_neg k2, if_neg k3]
        rfl
      by_cases k4 : opF (nextT r1) 22 1 ≠ 0
      · replace h := (if_pos k4).symm.trans h
        obtain ⟨y, hy, rfl⟩ := unQ_ok h
        cases r1 with
        | nil => exact absurd (opF_zero0 22 1) k4
        | cons v w =>
          obtain ⟨p2, ⟨hp2, hp21⟩, hs2, hf2⟩ := hO w y r hy
          have hv : ∀ w', nextT (v :: w') = nextT (v :: w) := fun _ => rfl
          have hb : ∀ w', NoBr (v :: w') := fun w' e => by
            rw [hv, ] at e
            rw [e] at k4
            exact k4 (by decide +kernel)
          refine ⟨p ++ v :: p2, ⟨by rw [hp, hp2]; simp, by rw [List.length_append]; omega⟩, ?_, fun r' hr => ?_⟩
          · show (opndE a ++ operT (opF (nextT (v :: w)) 22 1) :: opndE y).length ≤ _
            simp only [List.length_append, List.length_cons]
            simp only [ol] at hs hs2
            omega
          · rw [List.append_assoc, List.cons_append, hd, hf _ (hb _)]
            show (if opF (nextT (v :: (p2 ++ r'))) 22 1 ≠ 0 then unQ (fun b => sx 7 (opF (nextT (v :: (p2 ++ r'))) 22 1) 0 0 [] [a, b]) (opndQ ins (v :: (p2 ++ r')).tail) else .ok (a, v :: (p2 ++ r'))) = _
            rw [hv, if_pos k4, List.tail_cons, hf2 r' hr.1]
            rfl
      · replace h := (if_neg k4).symm.trans h
        cases h
        refine ⟨p, ⟨hp, hp1⟩, ?_, fun r' hr => ?_⟩
        · exact Nat.le_trans (wl_ol _) hs
        · rw [hd, hf r' hr.1]
          exact if_neg (fun k => k hr.2)
theorem ins_from : ∀ f, InsF (insQ f)
  | 0 => fun _ _ _ _ _ _ h => by cases h
  | f + 1 => fun o s ho ts x r h => by
    unfold insQ at h
    by_cases k1 : nextT ts = symT o
    · rw [if_pos k1] at h
      cases ts with
      | nil => cases congrArg Tok.kind k1
      | cons t q =>
        rw [List.tail_cons] at h
        cases hq : exprQ (insQ f) q with
        | error e => rw [hq] at h; cases h
        | ok w =>
          obtain ⟨y, r1⟩ := w
          rw [hq] at h
          by_cases k2 : nextT r1 = symT s
          · replace h := (if_pos k2).symm.trans h
            cases r1 with
            | nil => cases congrArg Tok.kind k2
            | cons v w =>
              cases h
              obtain ⟨p, ⟨hp, hp1⟩, hs, hf⟩ := expr_from (ins_from f) q _ _ hq
              have hv : ∀ w', nextT (v :: w') = symT s := fun _ => k2
              refine ⟨t :: (p ++ [v]), ⟨by rw [hp]; simp, Nat.succ_le_succ (Nat.zero_le _)⟩, ?_, fun r' _ => ?_⟩
              · simp only [List.length_cons, List.length_append, List.length_nil]
                simp only [wl] at hs ⊢
                omega
              · have hno : NoBr (v :: r') ∧ NoOp (v :: r') := by
                  unfold NoBr NoOp
                  rw [hv]
                  rcases ho with rfl | rfl <;> exact ⟨by decide +kernel, by decide +kernel⟩
                rw [show t :: (p ++ [v]) ++ r' = t :: (p ++ v :: r') by simp]
                unfold insQ
                rw [if_pos (show nextT (t :: (p ++ v :: r')) = symT o from k1), List.tail_cons, hf _ hno]
                exact if_pos k2
          · replace h := (if_neg k2).symm.trans h
            cases h
    · rw [if_neg k1] at h
      cases h
/-- How reading fails. -/
abbrev Er (rd : List Tok → PRes) : Prop := ∀ ts e, rd ts = .error e → e = 100 ∨ e = 3
abbrev InsE (ins : B → B → List Tok → PRes) : Prop := ∀ o s, Er (ins o s)
theorem opnd_er {ins : B → B → List Tok → PRes} (hi : InsE ins) : Er (opndQ ins) := by
  intro ts e h
  rw [opndQ_at rfl] at h
  repeat' split at h
  all_goals first | (cases h; done) | (cases h; rename_i h2; exact hi _ _ _ _ h2) | exact hi _ _ _ _ h | (cases h; exact .inl rfl)
theorem unQ_er {mk : Ex → Ex} {p : PRes} {e : Int} (h : unQ mk p = .error e) : p = .error e := by
  cases p with
  | error f => cases h; rfl
  | ok q => cases h
theorem expr_er {ins : B → B → List Tok → PRes} (hi : InsE ins) : Er (exprQ ins) := by
  intro ts e h
  have hO := opnd_er hi
  rw [exprQ_at rfl] at h
  repeat' split at h
  all_goals first | (cases h; done) | exact hO _ _ (unQ_er h) | (cases h; rename_i h2; exact hO _ _ h2) | (cases h; exact .inl rfl)
theorem ins_er : ∀ f, InsE (insQ f)
  | 0 => fun _ _ _ _ h => by cases h; exact .inr rfl
  | f + 1 => fun o s ts e h => by
    unfold insQ at h
    repeat' split at h
    all_goals first | (cases h; done) | (cases h; rename_i h2; exact expr_er (ins_er f) _ _ h2) | (cases h; exact .inl rfl)
theorem front_ok {ts : List Tok} {x : Ex} {k : Nat} (h : frontP ts = .ok (x, k)) : ((1 ≤ k ∧ k ≤ ts.length) ∧ mayE x = true) ∧ (writeE x).length ≤ k ∧ frontP (ts.take k) = .ok (x, k) := by
  unfold frontP at h
  cases hq : exprP ts with
  | error e => rw [hq] at h; cases h
  | ok w =>
    obtain ⟨y, r⟩ := w
    rw [hq] at h
    by_cases hm : mayE y = true
    · replace h := (if_pos hm).symm.trans h
      cases h
      obtain ⟨p, ⟨hp, hp1⟩, hs, hf⟩ := expr_from (ins_from 32) ts _ _ hq
      have hl : ts.length - r.length = p.length := by rw [hp, List.length_append]; omega
      have ht : ts.take (ts.length - r.length) = p := by rw [hl, hp, List.take_left]
      have he := hf [] ⟨by unfold NoBr; decide +kernel, by unfold NoOp; decide +kernel⟩
      rw [List.append_nil] at he
      refine ⟨⟨⟨by omega, by omega⟩, hm⟩, by rw [hl]; exact hs, ?_⟩
      rw [ht]
      unfold frontP exprP
      rw [he]
      show (if mayE _ then Except.ok (_, p.length - 0) else .error 3) = _
      rw [if_pos hm, hl, Nat.sub_zero]
    · replace h := (if_neg hm).symm.trans h
      cases h
theorem front_er {ts : List Tok} {e : Int} (h : frontP ts = .error e) : e = 100 ∨ e = 3 := by
  unfold frontP at h
  cases hq : exprP ts with
  | error f =>
    rw [hq] at h
    cases h
    exact expr_er (ins_er 32) ts _ hq
  | ok w =>
    obtain ⟨y, r⟩ := w
    rw [hq] at h
    by_cases hm : mayE y = true
    · replace h := (if_pos hm).symm.trans h
      cases h
    · replace h := (if_neg hm).symm.trans h
      cases h
      exact .inr rfl
theorem front_le {ts : List Tok} : frontN ts ≤ ts.length := by
  unfold frontN
  cases h : frontP ts with
  | error e => exact Nat.zero_le _
  | ok w => exact (front_ok h).1.1.2
end Go.Xp

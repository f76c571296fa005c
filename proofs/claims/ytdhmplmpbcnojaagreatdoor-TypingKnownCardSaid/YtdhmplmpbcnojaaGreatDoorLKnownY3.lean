/- Glob LexA LexB TyA TpA TpB TpC TpD TpE TpF TpG -/
import Derived.Test.YtdhmplmpbcnojaaGreatDoorLKnownY2
import Derived.Test.YtdhmplmpbcnojaaGreatDoorShelf
import Derived.Test.YtdhmplmpbcnojaaGreatDoorRows
/- Glob -/
section
namespace Go.Proofs.YtdhmplmpbcnojaaGreatDoor
open Go.Eng Go
theorem mixed : Tryz.prog.follows .mixedOrders = true := by kernel_rfl
set_option maxRecDepth 100000 in
theorem EL25 : EL Tryz.prog 25 27 6 48 := ⟨_, _, rfl, rfl, rfl, rfl, rfl, rfl, by decide⟩
set_option maxRecDepth 100000 in
theorem EL28 : EL Tryz.prog 28 54 16 200 := ⟨_, _, rfl, rfl, rfl, rfl, rfl, rfl, by decide⟩
set_option maxRecDepth 100000 in
theorem EL44 : EL Tryz.prog 44 70 23 240 := ⟨_, _, rfl, rfl, rfl, rfl, rfl, rfl, by decide⟩
set_option maxRecDepth 100000 in
theorem EL45 : EL Tryz.prog 45 56 42 504 := ⟨_, _, rfl, rfl, rfl, rfl, rfl, rfl, by decide⟩
set_option maxRecDepth 100000 in
theorem EL46 : EL Tryz.prog 46 3 1 8 := ⟨_, _, rfl, rfl, rfl, rfl, rfl, rfl, by decide⟩
set_option maxRecDepth 100000 in
theorem EL48 : EL Tryz.prog 48 9 1 16 := ⟨_, _, rfl, rfl, rfl, rfl, rfl, rfl, by decide⟩
set_option maxRecDepth 100000 in
theorem EL49 : EL Tryz.prog 49 102 2 40 := ⟨_, _, rfl, rfl, rfl, rfl, rfl, rfl, by decide⟩
set_option maxRecDepth 100000 in
theorem EL52 : EL Tryz.prog 52 60 6 64 := ⟨_, _, rfl, rfl, rfl, rfl, rfl, rfl, by decide⟩
set_option maxRecDepth 100000 in
theorem EL72 : EL Tryz.prog 72 67 43 512 := ⟨_, _, rfl, rfl, rfl, rfl, rfl, rfl, by decide⟩
set_option maxRecDepth 100000 in
theorem EL79 : EL Tryz.prog 79 104 17 208 := ⟨_, _, rfl, rfl, rfl, rfl, rfl, rfl, by decide⟩
set_option maxRecDepth 100000 in
theorem EL100 : EL Tryz.prog 100 24 1 1 := ⟨_, _, rfl, rfl, rfl, rfl, rfl, rfl, by decide⟩
set_option maxRecDepth 100000 in
theorem EL203 : EL Tryz.prog 203 68 1 1 := ⟨_, _, rfl, rfl, rfl, rfl, rfl, rfl, by decide⟩
def primC : List Value := [.int .u8 1, str [73, 78, 84], .int .i64 4, .int .u8 2, str [66, 89, 84, 69], .int .i64 1, .int .u8 3, str [66, 79, 79, 76], .int .i64 1]
def oneC : List Value := [.int .i64 1, .int .i64 1]
def someC : List Value := [.int .i64 1, .int .i64 8]
def allC : List Value := [.int .i64 0, .int .i64 2048]
structure Glob (m : View) : Prop where
  max : ∃ x, m.cell ⟨3, 0, none⟩ = some (.int .i64 x)
  prim : ∀ j v, primC[j]? = some v → m.cell ⟨4, j, none⟩ = some v
  sOne : ∀ j v, oneC[j]? = some v → m.cell ⟨1, j, none⟩ = some v
  sSome : ∀ j v, someC[j]? = some v → m.cell ⟨2, j, none⟩ = some v
  sAll : ∀ j v, allC[j]? = some v → m.cell ⟨0, j, none⟩ = some v
theorem contains_ct {m : View} (hg : Glob m) (a b : List UInt8) (ha : a.length < 4294967281) (h : List Res) : CT Tryz.prog 143 [str a, str b] h m (Pure1 h (.bool (Lib.contains a b))) := by
  obtain ⟨x, hx⟩ := hg.max
  exact CT.ofCalls Tryz.call143 fun w st => Tryz.strings_Contains ⟨a.toArray⟩ ⟨b.toArray⟩ x w ha (st.cell hx)
end Go.Proofs.YtdhmplmpbcnojaaGreatDoor
end
/- LexA -/
section
namespace Go.Proofs.YtdhmplmpbcnojaaGreatDoor
open Go.Eng Go.Lx

theorem letter_ct (z : Int) (h : List Res) (m : View) : CT Tryz.prog 101 [.int .u8 z] h m (Pure1 h (.bool (ltr z))) := by
  refine CT.body Tryz.call101 Tryz.func101 rfl Tryz.ntmps101 (leB rfl) rfl ?_
  repeat first | refine sk fun K hK => ?_ | refine bk ?_ | refine rn fun _ => ?_
  refine xC ?_
  refine wn [0] ?_
  repeat first | refine sk fun K hK => ?_ | refine bk ?_ | refine rg fun ops hG => ?_
  refine xM ?_
  refine xG (PO.bin Et Ev.const rfl) ?_
  refine xM ?_
  refine zM ?_
  refine zG (fun hc => PO.bin (Eg hc) Ev.const rfl) ?_
  refine xP ?_
  refine xM ?_
  refine zM ?_
  refine zG (fun hc => PO.bin (Eg hc) Ev.const rfl) ?_
  refine zV ?_
  refine zM ?_
  refine zG (fun hc => PO.bin (Eg hc) Ev.const rfl) ?_
  refine zG (fun hc => PO.pickAndN hc rfl rfl) ?_
  refine xQ ?_
  refine xA ?_
  refine wn [2] ?_
  try clear hG ops
  refine WC.ret (wR (h) ?_)
  exact ⟨rfl, rfl⟩
theorem digit_ct (z : Int) (h : List Res) (m : View) : CT Tryz.prog 142 [.int .u8 z] h m (Pure1 h (.bool (dig z))) := by
  refine CT.body Tryz.call142 Tryz.func142 rfl Tryz.ntmps142 (leB rfl) rfl ?_
  repeat first | refine sk fun K hK => ?_ | refine bk ?_ | refine rn fun _ => ?_
  refine xC ?_
  refine wn [0] ?_
  repeat first | refine sk fun K hK => ?_ | refine bk ?_ | refine rg fun ops hG => ?_
  refine xM ?_
  refine xG (PO.bin Et Ev.const rfl) ?_
  refine xM ?_
  refine zM ?_
  refine zG (fun hc => PO.bin (Eg hc) Ev.const rfl) ?_
  refine xP ?_
  refine xA ?_
  refine wn [2] ?_
  try clear hG ops
  refine WC.ret (wR (h) ?_)
  exact ⟨rfl, rfl⟩
theorem run_ct (s : B) (h : List Res) (m : View) (hs : s.length ≤ 9223372036854775807) : CT Tryz.prog 102 [str s] h m (Pure1 h (.int .i64 (run s))) := by
  refine CT.body Tryz.call102 Tryz.func102 rfl Tryz.ntmps102 (leB rfl) rfl ?_
  repeat first | refine sk fun K hK => ?_ | refine bk ?_ | refine rn fun _ => ?_
  refine xC ?_
  refine wn [0] ?_
  repeat first | refine sk fun K hK => ?_ | refine bk ?_ | refine rn fun _ => ?_
  refine xM ?_
  refine xG (PO.lenS Tryz.underlying9 Et) ?_
  refine xK ?_
  refine wn [0, 5, 6] ?_
  repeat first | refine sk fun K hK => ?_ | refine bk ?_
  refine WC.loopI [0, 5] rfl (fun μ F' h' => ∃ k : Nat, (k ≤ s.length ∧ run s = k + run (s.drop k)) ∧ s.length - k = μ ∧ F' = [(6, .int .i64 k)] ∧ h = h') (s.length - 0) [(6, .int .i64 0)] (h0 := h) ?_ Sb ⟨0, ⟨by omega, by simp⟩, rfl, rfl, rfl⟩ ?_
  (repeat (first | exact Sub.nil | refine Sub.cons rfl ?_ | refine Sub.consE rfl (by simp; done) ?_))
  rintro _ _ _ ⟨k, ⟨hk, hJ⟩, rfl, rfl, rfl⟩
  refine WC.frm rfl ?_
  repeat first | refine sk fun K hK => ?_ | refine bk ?_ | refine rn fun _ => ?_
  refine xG (PO.bin Et Et rfl) ?_
  refine wn [0, 5, 6, 7] ?_
  repeat first | refine sk fun K hK => ?_ | refine bk ?_
  refine wc (fun c7 => ?_) fun c7 => ?_
  replace c7 := of_decide_eq_true c7
  obtain ⟨c, hc⟩ := get_some (l := s) (k := k) (by omega)
  have hr := run_drop hc
  refine WC.skip (kp [0, 5, 6] ?_)
  repeat first | refine sk fun K hK => ?_ | refine bk ?_ | refine rn fun _ => ?_
  refine xM ?_
  refine xA ?_
  refine wn [0, 3, 5, 6] ?_
  repeat first | refine sk fun K hK => ?_ | refine bk ?_ | refine rg fun ops hG => ?_
  refine xM ?_
  refine xM ?_
  refine xG (PO.idxS Tryz.underlying9 Et Et rfl (by assumption)) ?_
  refine xf (E1 Et) (letter_ct _ _ _) ?_
  refine xG (PO.not Et) ?_
  refine xM ?_
  refine zM ?_
  refine zM ?_
  refine zG (fun hc => PO.idxS Tryz.underlying9 (Eg hc) (Eg hc) rfl (by assumption)) ?_
  refine WL.callG (GU.t (hG _ _ rfl) rfl) (fun hc => ⟨Ev.func, (Evs.cons (Eg hc) Evs.nil), digit_ct _ _ _⟩) (leB rfl) ?_
  refine zG (fun hc => PO.not (Eg hc)) ?_
  refine xP ?_
  refine xM ?_
  refine zM ?_
  refine zM ?_
  refine zG (fun hc => PO.idxS Tryz.underlying9 (Eg hc) (Eg hc) rfl (by assumption)) ?_
  refine zG (fun hc => PO.bin (Eg hc) Ev.const rfl) ?_
  refine xP ?_
  refine wn [0, 3, 5, 6, 26] ?_
  try clear hG ops
  repeat first | refine sk fun K hK => ?_ | refine bk ?_
  refine wc (fun c26 => ?_) fun c26 => ?_
  have w : wch c = false := by unfold wch; rw [c26]; rfl
  rw [w] at hr
  repeat first | refine sk fun K hK => ?_ | refine bk ?_ | refine rn fun _ => ?_
  refine xM ?_
  refine xA ?_
  refine wn [2] ?_
  refine WC.ret (wR (h) ?_)
  exact ⟨by simp at hr; rw [hJ, hr]; rfl, rfl⟩
  have w : wch c = true := by unfold wch; rw [c26]; rfl
  rw [w] at hr
  refine WC.skip (kp [0, 5, 6] ?_)
  repeat first | refine sk fun K hK => ?_ | refine bk ?_ | refine rn fun _ => ?_
  refine xG (PO.addI Et Ev.const (by omega)) ?_
  refine xM ?_
  refine WL.nil (loopBackI (s.length - (k + 1)) [(6, .int .i64 (k + 1))] (h'' := h) (by omega) ?_ (by (repeat (first | exact Sub.nil | refine Sub.cons rfl ?_ | refine Sub.consE rfl (by simp; done) ?_))) Sb ⟨k + 1, ⟨by omega, by simp at hr; omega⟩, rfl, rfl, rfl⟩)
  (repeat (first | exact Sub.nil | refine Sub.cons rfl ?_ | refine Sub.consE rfl (by simp; done) ?_))
  replace c7 := of_decide_eq_false c7
  have e : k = s.length := by omega
  subst e
  have hr : run s = s.length := by simpa [run] using hJ
  refine WC.exit (kp [0] ?_)
  repeat first | refine sk fun K hK => ?_ | refine bk ?_ | refine rn fun _ => ?_
  refine xM ?_
  refine xG (PO.lenS Tryz.underlying9 Et) ?_
  refine xA ?_
  refine wn [2] ?_
  refine WC.ret (wR (h) ?_)
  exact ⟨by rw [hr], rfl⟩
set_option maxRecDepth 100000 in
theorem key_ct (s : B) (h : List Res) (m : View) (hg : Glob m) (hs : s.length ≤ 140737488355328) : CT Tryz.prog 103 [str s] h m (Pure1 h (.bool (key s))) := by
  have hs' : s.length ≤ 9223372036854775807 := by omega
  refine CT.body Tryz.call103 Tryz.func103 rfl Tryz.ntmps103 (leB rfl) rfl ?_
  repeat first | refine sk fun K hK => ?_ | refine bk ?_ | refine rn fun _ => ?_
  refine xC ?_
  refine wn [0] ?_
  repeat first | refine sk fun K hK => ?_ | refine bk ?_ | refine rg fun ops hG => ?_
  refine xM ?_
  refine xG (PO.neqS Et Ev.const) ?_
  refine xM ?_
  refine zM ?_
  refine WL.callG (GU.t (hG _ _ rfl) rfl) (fun hc => ⟨Ev.func, (Evs.cons (Eg hc) Evs.nil), run_ct _ _ _ (by assumption)⟩) (leB rfl) ?_
  refine zM ?_
  refine zG (fun hc => PO.lenS Tryz.underlying9 (Eg hc)) ?_
  refine zG (fun hc => PO.bin (Eg hc) (Eg hc) rfl) ?_
  refine xP ?_
  refine xM ?_
  refine zM ?_
  refine WL.poG (GU.t (hG _ _ rfl) rfl) (fun hc => PO.catS Ev.const (Eg hc) (by simp; omega)) (leB rfl) ?_
  refine WL.poG (GU.t (hG _ _ rfl) rfl) (fun hc => PO.catS (Eg hc) Ev.const (by simp; omega)) (leB rfl) ?_
  refine WL.callG (GU.t (hG _ _ rfl) rfl) (fun hc => ⟨Ev.func, (Evs.cons Ev.const (Evs.cons (Eg hc) Evs.nil)), CT.argsE rfl (contains_ct hg keysB ([32] ++ s ++ [32]) (by decide) _)⟩) (leB rfl) ?_
  refine xP ?_
  refine xA ?_
  refine wn [2] ?_
  try clear hG ops
  refine WC.ret (wR (h) ?_)
  exact ⟨rfl, rfl⟩
theorem name_ct (s : B) (h : List Res) (m : View) (hg : Glob m) (hs : s.length ≤ 9223372036854775807) : CT Tryz.prog 65 [str s] h m (Pure1 h (.bool (name s))) := by
  have hs' : s.length ≤ 9223372036854775807 := by omega
  cases s with
  | nil =>
    refine CT.body Tryz.call65 Tryz.func65 rfl Tryz.ntmps65 (leB rfl) rfl ?_
    repeat first | refine sk fun K hK => ?_ | refine bk ?_ | refine rn fun _ => ?_
    refine xC ?_
    refine wn [0] ?_
    repeat first | refine sk fun K hK => ?_ | refine bk ?_ | refine rg fun ops hG => ?_
    refine xM ?_
    refine xG (PO.neqS Et Ev.const) ?_
    refine xM ?_
    refine zM ?_
    refine zG (fun hc => PO.lenS Tryz.underlying9 (Eg hc)) ?_
    refine zG (fun hc => PO.bin (Eg hc) Ev.const rfl) ?_
    refine xP ?_
    refine xM ?_
    refine zM ?_
    refine WL.poG (GU.t (hG _ _ rfl) rfl) (fun hc => PO.idxS Tryz.underlying9 (Eg hc) Ev.const (q := 0) rfl (c := 0) (by simp at hc)) (leB rfl) ?_
    refine WL.callG (GU.t (hG _ _ rfl) rfl) (fun hc => ⟨Ev.func, (Evs.cons (Eg hc) Evs.nil), letter_ct _ _ _⟩) (leB rfl) ?_
    refine xP ?_
    refine xM ?_
    refine zM ?_
    refine WL.callG (GU.t (hG _ _ rfl) rfl) (fun hc => ⟨Ev.func, (Evs.cons (Eg hc) Evs.nil), run_ct _ _ _ (by assumption)⟩) (leB rfl) ?_
    refine zM ?_
    refine zG (fun hc => PO.lenS Tryz.underlying9 (Eg hc)) ?_
    refine zG (fun hc => PO.bin (Eg hc) (Eg hc) rfl) ?_
    refine xP ?_
    refine xM ?_
    refine zM ?_
    refine WL.callG (GU.t (hG _ _ rfl) rfl) (fun hc => ⟨Ev.func, (Evs.cons (Eg hc) Evs.nil), key_ct _ _ _ hg (by decide)⟩) (leB rfl) ?_
    refine zG (fun hc => PO.not (Eg hc)) ?_
    refine xP ?_
    refine xA ?_
    refine wn [2] ?_
    try clear hG ops
    refine WC.ret (wR (h) ?_)
    exact ⟨rfl, rfl⟩
  | cons c s =>
    refine CT.body Tryz.call65 Tryz.func65 rfl Tryz.ntmps65 (leB rfl) rfl ?_
    repeat first | refine sk fun K hK => ?_ | refine bk ?_ | refine rn fun _ => ?_
    refine xC ?_
    refine wn [0] ?_
    repeat first | refine sk fun K hK => ?_ | refine bk ?_ | refine rg fun ops hG => ?_
    refine xM ?_
    refine xG (PO.neqS Et Ev.const) ?_
    refine xM ?_
    refine zM ?_
    refine zG (fun hc => PO.lenS Tryz.underlying9 (Eg hc)) ?_
    refine zG (fun hc => PO.bin (Eg hc) Ev.const rfl) ?_
    refine xP ?_
    refine xM ?_
    refine zM ?_
    refine zG (fun hc => PO.idxS Tryz.underlying9 (Eg hc) Ev.const (q := 0) rfl (c := c) rfl) ?_
    refine WL.callG (GU.t (hG _ _ rfl) rfl) (fun hc => ⟨Ev.func, (Evs.cons (Eg hc) Evs.nil), letter_ct _ _ _⟩) (leB rfl) ?_
    refine xP ?_
    refine xM ?_
    refine zM ?_
    refine WL.callG (GU.t (hG _ _ rfl) rfl) (fun hc => ⟨Ev.func, (Evs.cons (Eg hc) Evs.nil), run_ct _ _ _ (by assumption)⟩) (leB rfl) ?_
    refine zM ?_
    refine zG (fun hc => PO.lenS Tryz.underlying9 (Eg hc)) ?_
    refine zG (fun hc => PO.bin (Eg hc) (Eg hc) rfl) ?_
    refine xP ?_
    refine xM ?_
    refine zM ?_
    refine WL.callG (GU.t (hG _ _ rfl) rfl) (fun hc => ⟨Ev.func, (Evs.cons (Eg hc) Evs.nil), key_ct _ _ _ hg (by simp at hc; simp; omega)⟩) (leB rfl) ?_
    refine zG (fun hc => PO.not (Eg hc)) ?_
    refine xP ?_
    refine xA ?_
    refine wn [2] ?_
    try clear hG ops
    refine WC.ret (wR (h) ?_)
    exact ⟨rfl, rfl⟩
end Go.Proofs.YtdhmplmpbcnojaaGreatDoor
end
/- LexB -/
section
namespace Go.Proofs.YtdhmplmpbcnojaaGreatDoor
open Go.Eng Go.Lx
end Go.Proofs.YtdhmplmpbcnojaaGreatDoor
end
/- TyA -/
section
namespace Go.Proofs.YtdhmplmpbcnojaaGreatDoor.Ty9
open Go.Eng Go.Lx Go.Ty
set_option maxRecDepth 100000
def W3 (h : List Res) (k : Int) : Value → View → List Res → Prop := Pure1 h (.tuple #[str (wordS k).1, .int .i64 (wordS k).2.1, .bool (wordS k).2.2])
theorem prim_cut {i : Nat} {p : Pm} (hp : prims[i]? = some p) : ((fl encP prims).drop (i * 3)).take 3 = encP p := by
  match i, hp with
  | 0, hp => cases hp; rfl
  | 1, hp => cases hp; rfl
  | 2, hp => cases hp; rfl
theorem word_ct (k : Int) (h : List Res) (m : View) (hg : Glob m) : CT Tryz.prog 208 [.int .u8 k] h m (W3 h k) := by
  refine CT.body Tryz.call208 Tryz.func208 rfl Tryz.ntmps208 (leB rfl) rfl ?_
  repeat first | refine sk fun K hK => ?_ | refine bk ?_ | refine rn fun _ => ?_
  refine xC ?_
  refine xC ?_
  refine xC ?_
  refine wn [0] ?_
  repeat first | refine sk fun K hK => ?_ | refine bk ?_ | refine rn fun _ => ?_
  refine xG (PO.loadAV (vs := fl encP prims) Tryz.underlying241 rfl rfl Ev.global rfl (fun j v hj => by rw [Nat.zero_add]; exact hg.prim j v hj)) ?_
  refine xK ?_
  refine wn [0, 7, 8] ?_
  repeat first | refine sk fun K hK => ?_ | refine bk ?_
  refine WC.loopI [0, 7] rfl (fun μ F' h' => ∃ i : Nat, (i ≤ 3 ∧ wordS k = wordIn k (prims.drop i)) ∧ 3 - i = μ ∧ F' = [(8, .int .i64 i)] ∧ h = h') (3 - 0) [(8, .int .i64 0)] (h0 := h) ?_ Sb ⟨0, ⟨by omega, rfl⟩, rfl, rfl, rfl⟩ ?_
  (repeat (first | exact Sub.nil | refine Sub.cons rfl ?_ | refine Sub.consE rfl (by simp; done) ?_))
  rintro _ _ _ ⟨i, ⟨hk, hJ⟩, rfl, rfl, rfl⟩
  refine WC.frm rfl ?_
  repeat first | refine sk fun K hK => ?_ | refine bk ?_ | refine rn fun _ => ?_
  refine xG (PO.bin Et Ev.const rfl) ?_
  refine wn [0, 7, 8, 9] ?_
  repeat first | refine sk fun K hK => ?_ | refine bk ?_
  refine wc (fun c9 => ?_) fun c9 => ?_
  replace c9 := of_decide_eq_true c9
  obtain ⟨p, hp⟩ := get_some (l := prims) (k := i) (by show i < 3; omega)
  rw [wordIn_drop k hp] at hJ
  refine WC.skip (kp [0, 7, 8] ?_)
  repeat first | refine sk fun K hK => ?_ | refine bk ?_ | refine rn fun _ => ?_
  refine xG (PO.idxArr (sz := 3) (q := i) Tryz.underlying241 Tryz.underlying240 rfl rfl Et Et rfl (by omega) (prim_cut hp)) ?_
  refine xW fun b6 => ?_
  refine xS ?_
  refine wn [0, 6, 7, 8] ?_
  repeat first | refine sk fun K hK => ?_ | refine bk ?_ | refine rn fun _ => ?_
  refine xF Tryz.underlying240 ?_
  refine xG (pL Tryz.underlying24) ?_
  refine xM ?_
  refine xG (PO.bin Et Et rfl) ?_
  refine wn [0, 6, 7, 8, 14] ?_
  repeat first | refine sk fun K hK => ?_ | refine bk ?_
  refine wc (fun c14 => ?_) fun c14 => ?_
  rw [c14] at hJ
  repeat first | refine sk fun K hK => ?_ | refine bk ?_
  refine WC.drawS [] (.op 0 (.op 1 (.op 2 (.op 3 (.op 4 .nil))))) [5, 6] _ [] mixed (fun _ _ _ _ _ h => h) [] (by kernel_rfl) ?_
  refine yG rfl (pF Tryz.underlying240) ?_
  refine yG rfl (pL Tryz.underlying9) ?_
  refine yG rfl (pF Tryz.underlying240) ?_
  refine yG rfl (pL Tryz.underlying3) ?_
  refine yG rfl (PO.assign Et) ?_
  refine SR.nil rfl rfl ?_
  refine xA ?_
  refine xC ?_
  refine wn [2, 3, 4] ?_
  refine WC.ret (end3 (h' := h) (.inl rfl) rfl (RV.tmp rfl) (RV.tmp rfl) (RV.tmp rfl) (View.le.refl m) Sb ?_)
  exact ⟨by rw [hJ]; rfl, rfl⟩
  rw [c14] at hJ
  refine WC.skip (kp [0, 7, 8] ?_)
  repeat first | refine sk fun K hK => ?_ | refine bk ?_ | refine rn fun _ => ?_
  refine xG (PO.addI Et Ev.const (by omega)) ?_
  refine xM ?_
  refine WL.nil (loopBackI (3 - (i + 1)) [(8, .int .i64 (i + 1))] (h'' := h) (by omega) ?_ (by (repeat (first | exact Sub.nil | refine Sub.cons rfl ?_ | refine Sub.consE rfl (by simp; done) ?_))) Sb ⟨i + 1, ⟨by omega, by simpa using hJ⟩, rfl, rfl, rfl⟩)
  (repeat (first | exact Sub.nil | refine Sub.cons rfl ?_ | refine Sub.consE rfl (by simp; done) ?_))
  replace c9 := of_decide_eq_false c9
  rw [List.drop_eq_nil_of_le (by show 3 ≤ i; omega)] at hJ
  refine WC.exit (kp [] ?_)
  repeat first | refine sk fun K hK => ?_ | refine bk ?_ | refine rn fun _ => ?_
  refine xC ?_
  refine xC ?_
  refine xC ?_
  refine wn [2, 3, 4] ?_
  refine WC.ret (end3 (h' := h) (.inl rfl) rfl (RV.tmp rfl) (RV.tmp rfl) (RV.tmp rfl) (View.le.refl m) Sb ?_)
  exact ⟨by rw [hJ]; rfl, rfl⟩
theorem is_ct (k : Int) (h : List Res) (m : View) (hg : Glob m) : CT Tryz.prog 189 [.int .u8 k] h m (Pure1 h (.bool (is k))) := by
  refine CT.body Tryz.call189 Tryz.func189 rfl Tryz.ntmps189 (leB rfl) rfl ?_
  repeat first | refine sk fun K hK => ?_ | refine bk ?_ | refine rn fun _ => ?_
  refine xC ?_
  refine wn [0] ?_
  repeat first | refine sk fun K hK => ?_ | refine bk ?_ | refine rn fun _ => ?_
  refine xM ?_
  refine xf (E1 Et) (word_ct _ _ _ hg) ?_
  refine xM ?_
  refine xE ?_
  refine xE ?_
  refine xE ?_
  refine xA ?_
  refine xA ?_
  refine xA ?_
  refine wn [5] ?_
  repeat first | refine sk fun K hK => ?_ | refine bk ?_ | refine rn fun _ => ?_
  refine xM ?_
  refine xA ?_
  refine wn [2] ?_
  refine WC.ret (wR (h) ?_)
  exact ⟨rfl, rfl⟩
theorem prim_ct (k : Int) (h : List Res) (m : View) : CT Tryz.prog 181 [.int .u8 k] h m (Pure1 h (.bool (prim k))) := by
  refine CT.body Tryz.call181 Tryz.func181 rfl Tryz.ntmps181 (leB rfl) rfl ?_
  repeat first | refine sk fun K hK => ?_ | refine bk ?_ | refine rn fun _ => ?_
  refine xC ?_
  refine wn [0] ?_
  repeat first | refine sk fun K hK => ?_ | refine bk ?_ | refine rg fun ops hG => ?_
  refine xM ?_
  refine xG (PO.bin Et Ev.const rfl) ?_
  refine xM ?_
  refine zM ?_
  refine zG (fun hc => PO.bin (Eg hc) Ev.const rfl) ?_
  refine xQ ?_
  refine xM ?_
  refine zM ?_
  refine zG (fun hc => PO.bin (Eg hc) Ev.const rfl) ?_
  refine xQ ?_
  refine xA ?_
  refine wn [2] ?_
  try clear hG ops
  refine WC.ret (wR (h) ?_)
  exact ⟨rfl, rfl⟩
theorem may_ct (t : Ty) (h : List Res) (m : View) (hg : Glob m) (hs : t.proto.length ≤ 9223372036854775807) : CT Tryz.prog 170 [tyV t] h m (Pure1 h (.bool (may t))) := by
  refine CT.body Tryz.call170 Tryz.func170 rfl Tryz.ntmps170 (leB rfl) rfl ?_
  repeat first | refine sk fun K hK => ?_ | refine bk ?_ | refine rn fun _ => ?_
  refine xX fun b1 => ?_
  refine xC ?_
  refine wn [1] ?_
  repeat first | refine sk fun K hK => ?_ | refine bk ?_ | refine rg fun ops hG => ?_
  refine xF Tryz.underlying30 ?_
  refine xG (pL Tryz.underlying3) ?_
  refine xG (PO.bin Et Ev.const rfl) ?_
  refine xM ?_
  refine zG (fun _ => pF Tryz.underlying30) ?_
  refine zG (fun hc => PO.load1 Tryz.underlying3 rfl (Eg hc) Me rfl) ?_
  refine zG (fun hc => PO.bin (Eg hc) Ev.const rfl) ?_
  refine xQ ?_
  refine xA ?_
  refine wn [1, 3] ?_
  try clear hG ops
  repeat first | refine sk fun K hK => ?_ | refine bk ?_
  refine wc (fun c3 => ?_) fun c3 => ?_
  have d3 : far t = true := c3
  repeat first | refine sk fun K hK => ?_ | refine bk ?_ | refine rn fun _ => ?_
  refine xC ?_
  refine wn [2] ?_
  refine WC.ret (wR (h) ?_)
  exact ⟨by unfold may; rw [d3]; rfl, rfl⟩
  have d3 : far t = false := c3
  repeat first | refine sk fun K hK => ?_ | refine bk ?_ | refine rn fun _ => ?_
  refine xF Tryz.underlying30 ?_
  refine xG (pL Tryz.underlying24) ?_
  refine xf (E1 Et) (is_ct _ _ _ hg) ?_
  refine xA ?_
  refine wn [1, 12] ?_
  repeat first | refine sk fun K hK => ?_ | refine bk ?_
  refine wc (fun c12 => ?_) fun c12 => ?_
  repeat first | refine sk fun K hK => ?_ | refine bk ?_ | refine rg fun ops hG => ?_
  refine xF Tryz.underlying30 ?_
  refine xG (pL Tryz.underlying24) ?_
  refine xG (PO.bin Et Ev.const rfl) ?_
  refine xM ?_
  refine zG (fun _ => pF Tryz.underlying30) ?_
  refine zG (fun hc => PO.load1 Tryz.underlying9 rfl (Eg hc) Me rfl) ?_
  refine zG (fun hc => PO.eqlS (Eg hc) Ev.const) ?_
  refine xP ?_
  refine xA ?_
  refine wn [2] ?_
  try clear hG ops
  refine WC.ret (wR (h) ?_)
  exact ⟨by unfold may; rw [d3, c12]; rfl, rfl⟩
  repeat first | refine sk fun K hK => ?_ | refine bk ?_ | refine rn fun _ => ?_
  refine xF Tryz.underlying30 ?_
  refine xG (pL Tryz.underlying24) ?_
  refine xG (PO.bin Et Ev.const rfl) ?_
  refine xA ?_
  refine wn [1, 24] ?_
  repeat first | refine sk fun K hK => ?_ | refine bk ?_
  refine wc (fun c24 => ?_) fun c24 => ?_
  repeat first | refine sk fun K hK => ?_ | refine bk ?_ | refine rn fun _ => ?_
  refine xG (pA Tryz.underlying30) ?_
  refine xG (PO.build Tryz.underlying30 rfl rfl rfl (EvP.cons Ev.const EvP.nil) rfl) ?_
  refine xG (PO.eqlA Tryz.underlying30 (by kernel_rfl) (by kernel_rfl) Et Et rfl) ?_
  refine xA ?_
  refine wn [2] ?_
  refine WC.ret (wR (h) ?_)
  exact ⟨by unfold may; rw [d3, c12, c24]; rfl, rfl⟩
  repeat first | refine sk fun K hK => ?_ | refine bk ?_ | refine rn fun _ => ?_
  refine xF Tryz.underlying30 ?_
  refine xG (pL Tryz.underlying24) ?_
  refine xG (PO.bin Et Ev.const rfl) ?_
  refine xA ?_
  refine wn [1, 31] ?_
  repeat first | refine sk fun K hK => ?_ | refine bk ?_
  refine wc (fun c31 => ?_) fun c31 => ?_
  repeat first | refine sk fun K hK => ?_ | refine bk ?_ | refine rn fun _ => ?_
  refine xF Tryz.underlying30 ?_
  refine xG (pL Tryz.underlying9) ?_
  refine xf (E1 Et) (name_ct _ _ _ hg (by assumption)) ?_
  refine xA ?_
  refine wn [2] ?_
  refine WC.ret (wR (h) ?_)
  exact ⟨by unfold may; rw [d3, c12, c24, c31]; rfl, rfl⟩
  refine WC.skip (kp [1] ?_)
  repeat first | refine sk fun K hK => ?_ | refine bk ?_ | refine rg fun ops hG => ?_
  refine xF Tryz.underlying30 ?_
  refine xG (pL Tryz.underlying24) ?_
  refine xf (E1 Et) (is_ct _ _ _ hg) ?_
  refine xM ?_
  refine zG (fun _ => pF Tryz.underlying30) ?_
  refine zG (fun hc => PO.load1 Tryz.underlying9 rfl (Eg hc) Me rfl) ?_
  refine zG (fun hc => PO.eqlS (Eg hc) Ev.const) ?_
  refine xP ?_
  refine xA ?_
  refine wn [2] ?_
  try clear hG ops
  refine WC.ret (wR (h) ?_)
  exact ⟨by unfold may; rw [d3, c12, c24, c31]; rfl, rfl⟩
theorem items1_ct (k : Int) (h : List Res) (m : View) (hg : Glob m) : CT Tryz.prog 210 [.int .u8 k] h m (Pure1 h (.bool (!is k))) := by
  refine CT.body Tryz.call210 Tryz.func210 rfl Tryz.ntmps210 (leB rfl) rfl ?_
  repeat first | refine sk fun K hK => ?_ | refine bk ?_ | refine rn fun _ => ?_
  refine xC ?_
  refine wn [0] ?_
  repeat first | refine sk fun K hK => ?_ | refine bk ?_ | refine rn fun _ => ?_
  refine xM ?_
  refine xf (E1 Et) (is_ct _ _ _ hg) ?_
  refine xG (PO.not Et) ?_
  refine xA ?_
  refine wn [2] ?_
  refine WC.ret (wR (h) ?_)
  exact ⟨rfl, rfl⟩
theorem idxK_ct (q : FuncId) (pr : Int → Bool) (a : Option Addr) (k c : Nat) (l : List Int) (h : List Res) (m : View) (hq : ∀ x, CT Tryz.prog q [.int .u8 x] h m (Pure1 h (.bool (pr x)))) (hs : Rd m h a k c 1 (fl encI l)) :
    CT Tryz.prog 219 [.slice a k c, .func (.func q) #[] #[]] h m (Pure1 h (.int .i64 (idxF pr l 0))) := by
  have hl := hs.lenF encI_len (by decide)
  have hmx := hs.mx
  have hle := hs.le
  refine CT.body Tryz.call219 Tryz.func219 rfl Tryz.ntmps219 (leB rfl) rfl ?_
  repeat first | refine sk fun K hK => ?_ | refine bk ?_ | refine rn fun _ => ?_
  refine xC ?_
  refine wn [0, 1] ?_
  repeat first | refine sk fun K hK => ?_ | refine bk ?_ | refine rn fun _ => ?_
  refine xM ?_
  refine xG (PO.lenSl Tryz.underlying100 Et) ?_
  refine xK ?_
  refine wn [0, 1, 7, 8] ?_
  repeat first | refine sk fun K hK => ?_ | refine bk ?_
  refine WC.loopI [0, 1, 7] rfl (fun μ F' h' => ∃ j : Nat, (j ≤ k ∧ idxF pr l 0 = idxF pr (l.drop j) j) ∧ k - j = μ ∧ F' = [(8, .int .i64 j)] ∧ h = h') (k - 0) [(8, .int .i64 0)] (h0 := h) ?_ Sb ⟨0, ⟨by omega, rfl⟩, rfl, rfl, rfl⟩ ?_
  (repeat (first | exact Sub.nil | refine Sub.cons rfl ?_ | refine Sub.consE rfl (by simp; done) ?_))
  rintro _ _ _ ⟨j, ⟨hk, hJ⟩, rfl, rfl, rfl⟩
  refine WC.frm rfl ?_
  repeat first | refine sk fun K hK => ?_ | refine bk ?_ | refine rn fun _ => ?_
  refine xG (PO.bin Et Et rfl) ?_
  refine wn [0, 1, 7, 8, 9] ?_
  repeat first | refine sk fun K hK => ?_ | refine bk ?_
  refine wc (fun c9 => ?_) fun c9 => ?_
  replace c9 := of_decide_eq_true c9
  obtain ⟨x, hx⟩ := get_some (l := l) (k := j) (by omega)
  rw [idxF_drop pr hx] at hJ
  refine WC.skip (kp [0, 1, 7, 8] ?_)
  repeat first | refine sk fun K hK => ?_ | refine bk ?_ | refine rn fun _ => ?_
  refine xM ?_
  refine xA ?_
  refine wn [0, 1, 5, 7, 8] ?_
  repeat first | refine sk fun K hK => ?_ | refine bk ?_ | refine rn fun _ => ?_
  refine xM ?_
  refine xM ?_
  refine xM ?_
  refine xG (PO.idx EL100.und EL100.size EL100.posz (Ev.tmp rfl) (Ev.tmp rfl) Rr rfl (by omega)) ?_
  refine xG (PO.loadF1 Tryz.underlying24 rfl encI_len Rr (Ev.tmp rfl) (by assumption) rfl) ?_
  refine WL.callP (Ev.tmp rfl) (Evs.cons (Ev.tmp rfl) Evs.nil) (hq x) (leB rfl) ?_
  refine wn [0, 1, 5, 7, 8, 16] ?_
  repeat first | refine sk fun K hK => ?_ | refine bk ?_
  refine wc (fun c16 => ?_) fun c16 => ?_
  rw [c16] at hJ
  repeat first | refine sk fun K hK => ?_ | refine bk ?_ | refine rn fun _ => ?_
  refine xM ?_
  refine xA ?_
  refine wn [4] ?_
  refine WC.ret (wR (h) ?_)
  exact ⟨by rw [hJ]; rfl, rfl⟩
  rw [c16] at hJ
  refine WC.skip (kp [0, 1, 7, 8] ?_)
  repeat first | refine sk fun K hK => ?_ | refine bk ?_ | refine rn fun _ => ?_
  refine xG (PO.addI Et Ev.const (by omega)) ?_
  refine xM ?_
  refine WL.nil (loopBackI (k - (j + 1)) [(8, .int .i64 (j + 1))] (h'' := h) (by omega) ?_ (by (repeat (first | exact Sub.nil | refine Sub.cons rfl ?_ | refine Sub.consE rfl (by simp; done) ?_))) Sb ⟨j + 1, ⟨by omega, by simpa using hJ⟩, rfl, rfl, rfl⟩)
  (repeat (first | exact Sub.nil | refine Sub.cons rfl ?_ | refine Sub.consE rfl (by simp; done) ?_))
  replace c9 := of_decide_eq_false c9
  rw [List.drop_eq_nil_of_le (by omega)] at hJ
  refine WC.exit (kp [] ?_)
  repeat first | refine sk fun K hK => ?_ | refine bk ?_ | refine rn fun _ => ?_
  refine xC ?_
  refine wn [4] ?_
  refine WC.ret (wR (h) ?_)
  exact ⟨by rw [hJ]; rfl, rfl⟩
theorem anyK_ct (q : FuncId) (pr : Int → Bool) (a : Option Addr) (k c : Nat) (l : List Int) (h : List Res) (m : View) (hq : ∀ x, CT Tryz.prog q [.int .u8 x] h m (Pure1 h (.bool (pr x)))) (hs : Rd m h a k c 1 (fl encI l)) :
    CT Tryz.prog 209 [.slice a k c, .func (.func q) #[] #[]] h m (Pure1 h (.bool (l.any pr))) := by
  refine CT.body Tryz.call209 Tryz.func209 rfl Tryz.ntmps209 (leB rfl) rfl ?_
  repeat first | refine sk fun K hK => ?_ | refine bk ?_ | refine rn fun _ => ?_
  refine xC ?_
  refine wn [0, 1] ?_
  repeat first | refine sk fun K hK => ?_ | refine bk ?_ | refine rn fun _ => ?_
  refine xM ?_
  refine xM ?_
  refine xf (E2 Et Et) (idxK_ct q pr _ _ _ l _ _ hq hs) ?_
  refine xG (PO.bin Et Ev.const rfl) ?_
  refine xA ?_
  refine wn [4] ?_
  refine WC.ret (wR (h) ?_)
  exact ⟨congrArg Value.bool (idxF_any pr l 0 (by decide)), rfl⟩
theorem items_ct (least : Int) (a : Option Addr) (k c : Nat) (l : List Int) (h : List Res) (m : View) (hg : Glob m) (hs : Rd m h a k c 1 (fl encI l)) :
    CT Tryz.prog 190 [.slice a k c, .int .i64 least] h m (Pure1 h (.bool (itemsB l least))) := by
  have hl := hs.lenF encI_len (by decide)
  subst hl
  refine CT.body Tryz.call190 Tryz.func190 rfl Tryz.ntmps190 (leB rfl) rfl ?_
  repeat first | refine sk fun K hK => ?_ | refine bk ?_ | refine rn fun _ => ?_
  refine xC ?_
  refine wn [0, 1] ?_
  repeat first | refine sk fun K hK => ?_ | refine bk ?_ | refine rg fun ops hG => ?_
  refine xM ?_
  refine xG (PO.lenSl Tryz.underlying100 Et) ?_
  refine xM ?_
  refine xG (PO.bin Et Et rfl) ?_
  refine xM ?_
  refine zM ?_
  refine zG (fun hc => PO.lenSl Tryz.underlying100 (Eg hc)) ?_
  refine zG (fun hc => PO.bin (Eg hc) Ev.const rfl) ?_
  refine xP ?_
  refine xM ?_
  refine zM ?_
  refine WL.callG (GU.t (hG _ _ rfl) rfl) (fun hc => ⟨Ev.func, (Evs.cons (Eg hc) (Evs.cons Ev.func Evs.nil)), anyK_ct 210 (fun k => !is k) _ _ _ l _ _ (fun x => items1_ct x _ _ hg) hs⟩) (leB rfl) ?_
  refine zG (fun hc => PO.not (Eg hc)) ?_
  refine xP ?_
  refine xA ?_
  refine wn [4] ?_
  try clear hG ops
  refine WC.ret (wR (h) ?_)
  exact ⟨rfl, rfl⟩
theorem mayProto1_ct (w v : Vr) (b : Nat) (h : List Res) (m : View) (hb : Res.pt b (.cells (encV v).toArray 102 (0, 0)) ∈ h) :
    CT Tryz.prog 192 [.agg (encV w).toArray, .pointer (some ⟨b, 0, none⟩)] h m (Pure1 h (.bool (w.tag == v.tag))) := by
  refine CT.body Tryz.call192 Tryz.func192 rfl Tryz.ntmps192 (leB rfl) rfl ?_
  repeat first | refine sk fun K hK => ?_ | refine bk ?_ | refine rn fun _ => ?_
  refine xX fun b2 => ?_
  refine xC ?_
  refine wn [1, 2] ?_
  repeat first | refine sk fun K hK => ?_ | refine bk ?_ | refine rn fun _ => ?_
  refine xF Tryz.underlying102 ?_
  refine xG (pL Tryz.underlying9) ?_
  refine xF Tryz.underlying102 ?_
  refine xG (PO.load1 Tryz.underlying9 rfl Et (List.Mem.tail _ hb) rfl) ?_
  refine xG (PO.eqlS Et Et) ?_
  refine xA ?_
  refine wn [3] ?_
  refine WC.ret (wR (h) ?_)
  exact ⟨rfl, rfl⟩
theorem idxV_ct (q : FuncId) (pr : Vr → Bool) (cap : List Value) (a : Option Addr) (k c : Nat) (l : List Vr) (h : List Res) (m : View) (hq : ∀ x, x ∈ l → CT Tryz.prog q ([.agg (encV x).toArray] ++ cap) h m (Pure1 h (.bool (pr x)))) (hs : Rd m h a k c 2 (fl encV l)) :
    CT Tryz.prog 211 [.slice a k c, .func (.func q) #[] cap.toArray] h m (Pure1 h (.int .i64 (idxF pr l 0))) := by
  have hl := hs.lenF encV_len (by decide)
  have hmx := hs.mx
  have hle := hs.le
  refine CT.body Tryz.call211 Tryz.func211 rfl Tryz.ntmps211 (leB rfl) rfl ?_
  repeat first | refine sk fun K hK => ?_ | refine bk ?_ | refine rn fun _ => ?_
  refine xC ?_
  refine wn [0, 1] ?_
  repeat first | refine sk fun K hK => ?_ | refine bk ?_ | refine rn fun _ => ?_
  refine xM ?_
  refine xG (PO.lenSl Tryz.underlying49 Et) ?_
  refine xK ?_
  refine wn [0, 1, 7, 8] ?_
  repeat first | refine sk fun K hK => ?_ | refine bk ?_
  refine WC.loopI [0, 1, 7] rfl (fun μ F' h' => ∃ j : Nat, (j ≤ k ∧ idxF pr l 0 = idxF pr (l.drop j) j) ∧ k - j = μ ∧ F' = [(8, .int .i64 j)] ∧ h = h') (k - 0) [(8, .int .i64 0)] (h0 := h) ?_ Sb ⟨0, ⟨by omega, rfl⟩, rfl, rfl, rfl⟩ ?_
  (repeat (first | exact Sub.nil | refine Sub.cons rfl ?_ | refine Sub.consE rfl (by simp; done) ?_))
  rintro _ _ _ ⟨j, ⟨hk, hJ⟩, rfl, rfl, rfl⟩
  refine WC.frm rfl ?_
  repeat first | refine sk fun K hK => ?_ | refine bk ?_ | refine rn fun _ => ?_
  refine xG (PO.bin Et Et rfl) ?_
  refine wn [0, 1, 7, 8, 9] ?_
  repeat first | refine sk fun K hK => ?_ | refine bk ?_
  refine wc (fun c9 => ?_) fun c9 => ?_
  replace c9 := of_decide_eq_true c9
  obtain ⟨x, hx⟩ := get_some (l := l) (k := j) (by omega)
  rw [idxF_drop pr hx] at hJ
  refine WC.skip (kp [0, 1, 7, 8] ?_)
  repeat first | refine sk fun K hK => ?_ | refine bk ?_ | refine rn fun _ => ?_
  refine xM ?_
  refine xA ?_
  refine wn [0, 1, 5, 7, 8] ?_
  repeat first | refine sk fun K hK => ?_ | refine bk ?_ | refine rn fun _ => ?_
  refine xM ?_
  refine xM ?_
  refine xM ?_
  refine xG (PO.idx EL49.und EL49.size EL49.posz (Ev.tmp rfl) (Ev.tmp rfl) Rr rfl (by omega)) ?_
  refine xG (PO.loadFA Tryz.underlying102 rfl rfl encV_len Rr (Ev.tmp rfl) (by assumption) rfl rfl (Nat.succ_pos _)) ?_
  refine WL.callP (Ev.tmp rfl) (Evs.cons (Ev.tmp rfl) Evs.nil) (hq x (List.mem_of_getElem? hx)) (leB rfl) ?_
  refine wn [0, 1, 5, 7, 8, 16] ?_
  repeat first | refine sk fun K hK => ?_ | refine bk ?_
  refine wc (fun c16 => ?_) fun c16 => ?_
  rw [c16] at hJ
  repeat first | refine sk fun K hK => ?_ | refine bk ?_ | refine rn fun _ => ?_
  refine xM ?_
  refine xA ?_
  refine wn [4] ?_
  refine WC.ret (wR (h) ?_)
  exact ⟨by rw [hJ]; rfl, rfl⟩
  rw [c16] at hJ
  refine WC.skip (kp [0, 1, 7, 8] ?_)
  repeat first | refine sk fun K hK => ?_ | refine bk ?_ | refine rn fun _ => ?_
  refine xG (PO.addI Et Ev.const (by omega)) ?_
  refine xM ?_
  refine WL.nil (loopBackI (k - (j + 1)) [(8, .int .i64 (j + 1))] (h'' := h) (by omega) ?_ (by (repeat (first | exact Sub.nil | refine Sub.cons rfl ?_ | refine Sub.consE rfl (by simp; done) ?_))) Sb ⟨j + 1, ⟨by omega, by simpa using hJ⟩, rfl, rfl, rfl⟩)
  (repeat (first | exact Sub.nil | refine Sub.cons rfl ?_ | refine Sub.consE rfl (by simp; done) ?_))
  replace c9 := of_decide_eq_false c9
  rw [List.drop_eq_nil_of_le (by omega)] at hJ
  refine WC.exit (kp [] ?_)
  repeat first | refine sk fun K hK => ?_ | refine bk ?_ | refine rn fun _ => ?_
  refine xC ?_
  refine wn [4] ?_
  refine WC.ret (wR (h) ?_)
  exact ⟨by rw [hJ]; rfl, rfl⟩
theorem anyV_ct (q : FuncId) (pr : Vr → Bool) (cap : List Value) (a : Option Addr) (k c : Nat) (l : List Vr) (h : List Res) (m : View) (hq : ∀ x, x ∈ l → CT Tryz.prog q ([.agg (encV x).toArray] ++ cap) h m (Pure1 h (.bool (pr x)))) (hs : Rd m h a k c 2 (fl encV l)) :
    CT Tryz.prog 191 [.slice a k c, .func (.func q) #[] cap.toArray] h m (Pure1 h (.bool (l.any pr))) := by
  refine CT.body Tryz.call191 Tryz.func191 rfl Tryz.ntmps191 (leB rfl) rfl ?_
  repeat first | refine sk fun K hK => ?_ | refine bk ?_ | refine rn fun _ => ?_
  refine xC ?_
  refine wn [0, 1] ?_
  repeat first | refine sk fun K hK => ?_ | refine bk ?_ | refine rn fun _ => ?_
  refine xM ?_
  refine xM ?_
  refine xf (E2 Et Et) (idxV_ct q pr cap _ _ _ l _ _ hq hs) ?_
  refine xG (PO.bin Et Ev.const rfl) ?_
  refine xA ?_
  refine wn [4] ?_
  refine WC.ret (wR (h) ?_)
  exact ⟨congrArg Value.bool (idxF_any pr l 0 (by decide)), rfl⟩
theorem mayProto_ct (cs : Bool) (a : Option Addr) (k c : Nat) (l : List Vr) (h : List Res) (m : View) (hg : Glob m) (hp : PrOk m h a k c l) :
    CT Tryz.prog 172 [prV cs a k c] h m (Pure1 h (.bool (mayPr cs l))) := by
  obtain ⟨hs, hv, ht⟩ := hp
  have hl := hs.lenF encV_len (by decide)
  subst hl
  have hmx := hs.mx
  have hle := hs.le
  refine CT.body Tryz.call172 Tryz.func172 rfl Tryz.ntmps172 (leB rfl) rfl ?_
  repeat first | refine sk fun K hK => ?_ | refine bk ?_ | refine rn fun _ => ?_
  refine xX fun b1 => ?_
  refine xC ?_
  refine wn [1] ?_
  repeat first | refine sk fun K hK => ?_ | refine bk ?_ | refine rn fun _ => ?_
  refine xF Tryz.underlying51 ?_
  refine xG (pL Tryz.underlying4) ?_
  refine xG (PO.not Et) ?_
  refine wn [1, 7] ?_
  repeat first | refine sk fun K hK => ?_ | refine bk ?_
  refine wc (fun c7 => ?_) fun c7 => ?_
  have hd := hdV_get (l := l)
  repeat first | refine sk fun K hK => ?_ | refine bk ?_ | refine rg fun ops hG => ?_
  refine xF Tryz.underlying51 ?_
  refine xG (pL Tryz.underlying49) ?_
  refine xG (PO.lenSl Tryz.underlying49 Et) ?_
  refine xG (PO.bin Et Ev.const rfl) ?_
  refine xM ?_
  refine zG (fun _ => pF Tryz.underlying51) ?_
  refine zG (fun hc => PO.load1 Tryz.underlying49 rfl (Eg hc) Me rfl) ?_
  refine WL.poG (GU.t (hG _ _ rfl) rfl) (fun hc => PO.idx EL49.und EL49.size EL49.posz (Eg hc) Ev.const Rr rfl (q := 0) (by simp at hc; omega)) (leB rfl) ?_
  refine zG (fun hc => PO.fieldF Tryz.underlying102 rfl (Nat.ne_of_beq_eq_false rfl) encV_len (Nat.succ_pos _) Rr (hd hc) (Eg hc)) ?_
  refine zG (fun hc => PO.loadFf Tryz.underlying9 rfl encV_len Rr (Eg hc) (hd hc) rfl) ?_
  refine zG (fun hc => PO.eqlS (Eg hc) Ev.const) ?_
  refine xP ?_
  refine xM ?_
  refine zG (fun _ => pF Tryz.underlying51) ?_
  refine zG (fun hc => PO.load1 Tryz.underlying49 rfl (Eg hc) Me rfl) ?_
  refine WL.poG (GU.t (hG _ _ rfl) rfl) (fun hc => PO.idx EL49.und EL49.size EL49.posz (Eg hc) Ev.const Rr rfl (q := 0) (by simp at hc; omega)) (leB rfl) ?_
  refine zG (fun hc => PO.fieldF Tryz.underlying102 rfl (Nat.ne_of_beq_eq_false rfl) encV_len (Nat.succ_pos _) Rr (hd (and_l hc)) (Eg hc)) ?_
  refine zG (fun hc => PO.loadFf Tryz.underlying100 rfl encV_len Rr (Eg hc) (hd (and_l hc)) rfl) ?_
  refine WL.callG (GU.t (hG _ _ rfl) rfl) (fun hc => ⟨Ev.func, (Evs.cons (Eg hc) (Evs.cons Ev.const Evs.nil)), items_ct 1 _ _ _ (hdV l).items _ _ hg ((hv _ (List.mem_of_getElem? (hd (and_l hc)))).rd.mono (View.le.refl _) Sb)⟩) (leB rfl) ?_
  refine xP ?_
  refine xA ?_
  refine wn [2] ?_
  try clear hG ops
  refine WC.ret (wR (h) ?_)
  exact ⟨by unfold mayPr; rw [c7]; rfl, rfl⟩
  refine WC.skip (kp [1] ?_)
  repeat first | refine sk fun K hK => ?_ | refine bk ?_ | refine rg fun ops hG => ?_
  refine xF Tryz.underlying51 ?_
  refine xG (pL Tryz.underlying49) ?_
  refine xG (PO.lenSl Tryz.underlying49 Et) ?_
  refine xG (PO.bin Et Ev.const rfl) ?_
  refine xM ?_
  refine zG (fun _ => pF Tryz.underlying51) ?_
  refine zG (fun hc => PO.load1 Tryz.underlying49 rfl (Eg hc) Me rfl) ?_
  refine zG (fun hc => PO.lenSl Tryz.underlying49 (Eg hc)) ?_
  refine zG (fun hc => PO.bin (Eg hc) Ev.const rfl) ?_
  refine xQ ?_
  refine wn [1, 37] ?_
  try clear hG ops
  repeat first | refine sk fun K hK => ?_ | refine bk ?_
  refine wc (fun c37 => ?_) fun c37 => ?_
  repeat first | refine sk fun K hK => ?_ | refine bk ?_ | refine rn fun _ => ?_
  refine xC ?_
  refine wn [2] ?_
  refine WC.ret (wR (h) ?_)
  exact ⟨by unfold mayPr; rw [c7, c37]; rfl, rfl⟩
  refine WC.skip (kp [1] ?_)
  repeat first | refine sk fun K hK => ?_ | refine bk ?_ | refine rn fun _ => ?_
  refine xF Tryz.underlying51 ?_
  refine xG (pL Tryz.underlying49) ?_
  refine xG (PO.lenSl Tryz.underlying49 Et) ?_
  refine xK ?_
  refine wn [1, 39, 40, 41] ?_
  repeat first | refine sk fun K hK => ?_ | refine bk ?_
  refine WC.loopI [1, 39, 40] rfl (fun μ F' h' => ∃ j : Nat, (j ≤ l.length ∧ mayIn [] l = mayIn (l.take j) (l.drop j)) ∧ l.length - j = μ ∧ F' = [(41, .int .i64 j)] ∧ .pt b1 (.cells (prL cs a l.length c).toArray 51 (0, 0)) :: h = h') (l.length - 0) [(41, .int .i64 0)] (h0 := .pt b1 (.cells (prL cs a l.length c).toArray 51 (0, 0)) :: h) ?_ Sb ⟨0, ⟨by omega, rfl⟩, rfl, rfl, rfl⟩ ?_
  (repeat (first | exact Sub.nil | refine Sub.cons rfl ?_ | refine Sub.consE rfl (by simp; done) ?_))
  rintro _ _ _ ⟨j, ⟨hk, hJ⟩, rfl, rfl, rfl⟩
  refine WC.frm rfl ?_
  repeat first | refine sk fun K hK => ?_ | refine bk ?_ | refine rn fun _ => ?_
  refine xG (PO.bin Et Et rfl) ?_
  refine wn [1, 39, 40, 41, 42] ?_
  repeat first | refine sk fun K hK => ?_ | refine bk ?_
  refine wc (fun c42 => ?_) fun c42 => ?_
  replace c42 := of_decide_eq_true c42
  obtain ⟨v, hx⟩ := get_some (l := l) (k := j) (by omega)
  rw [mayIn_drop hx] at hJ
  have hvt := ht v (List.mem_of_getElem? hx)
  have hvr := (hv v (List.mem_of_getElem? hx)).rd
  refine WC.skip (kp [1, 39, 40, 41] ?_)
  repeat first | refine sk fun K hK => ?_ | refine bk ?_ | refine rn fun _ => ?_
  refine xM ?_
  refine xG (PO.idx EL49.und EL49.size EL49.posz (Ev.tmp rfl) (Ev.tmp rfl) Rr rfl (by omega)) ?_
  refine xG (PO.loadFA Tryz.underlying102 rfl rfl encV_len Rr (Ev.tmp rfl) (by assumption) rfl rfl (Nat.succ_pos _)) ?_
  refine xW fun b4 => ?_
  refine xA ?_
  refine xS ?_
  refine wn [1, 3, 4, 39, 40, 41] ?_
  repeat first | refine sk fun K hK => ?_ | refine bk ?_ | refine rg fun ops hG => ?_
  refine xF Tryz.underlying102 ?_
  refine xG (pL Tryz.underlying9) ?_
  refine xf (E1 Et) (name_ct _ _ _ hg (by assumption)) ?_
  refine xG (PO.not Et) ?_
  refine xM ?_
  refine zG (fun _ => pF Tryz.underlying102) ?_
  refine zG (fun hc => PO.load1 Tryz.underlying100 rfl (Eg hc) Me rfl) ?_
  refine WL.callG (GU.f (hG _ _ rfl) rfl) (fun hc => ⟨Ev.func, (Evs.cons (Eg hc) (Evs.cons Ev.const Evs.nil)), items_ct 0 _ _ _ v.items _ _ hg Rr⟩) (leB rfl) ?_
  refine zG (fun hc => PO.not (Eg hc)) ?_
  refine xQ ?_
  refine xM ?_
  refine zG (fun _ => pF Tryz.underlying51) ?_
  refine zG (fun hc => PO.load1 Tryz.underlying49 rfl (Eg hc) Me rfl) ?_
  refine zM ?_
  refine WL.poG (GU.f (hG _ _ rfl) rfl) (fun hc => PO.sliceH EL49.und EL49.size (Eg hc) (Eg hc) rfl (by omega)) (leB rfl) ?_
  refine zG (fun _ => PO.makeFunc Evs.nil (Evs.cons Et Evs.nil)) ?_
  refine WL.callG (GU.f (hG _ _ rfl) rfl) (fun hc => ⟨Ev.func, (Evs.cons (Eg hc) (Evs.cons (Eg hc) Evs.nil)), anyV_ct 192 (fun w => w.tag == v.tag) [.pointer (some ⟨b4, 0, none⟩)] _ _ _ (l.take j) _ _ (fun x _ => mayProto1_ct x v b4 _ _ Me) (Rd.takeF encV_len (hs.mono (View.le.refl _) Sb) (by omega))⟩) (leB rfl) ?_
  refine xQ ?_
  refine wn [1, 39, 40, 41, 63] ?_
  try clear hG ops
  repeat first | refine sk fun K hK => ?_ | refine bk ?_
  refine wc (fun c63 => ?_) fun c63 => ?_
  have d63 : badV (l.take j) v = true := c63
  rw [d63] at hJ
  repeat first | refine sk fun K hK => ?_ | refine bk ?_ | refine rn fun _ => ?_
  refine xC ?_
  refine wn [2] ?_
  refine WC.ret (wR (h) ?_)
  exact ⟨by unfold mayPr; rw [c7, c37, hJ]; rfl, rfl⟩
  have d63 : badV (l.take j) v = false := c63
  rw [d63] at hJ
  refine WC.skip (kp [1, 39, 40, 41] ?_)
  repeat first | refine sk fun K hK => ?_ | refine bk ?_ | refine rn fun _ => ?_
  refine xG (PO.addI Et Ev.const (by omega)) ?_
  refine xM ?_
  refine WL.nil (loopBackI (l.length - (j + 1)) [(41, .int .i64 (j + 1))] (h'' := .pt b1 (.cells (prL cs a l.length c).toArray 51 (0, 0)) :: h) (by omega) ?_ (by (repeat (first | exact Sub.nil | refine Sub.cons rfl ?_ | refine Sub.consE rfl (by simp; done) ?_))) Sb ⟨j + 1, ⟨by omega, by simpa using hJ⟩, rfl, rfl, rfl⟩)
  (repeat (first | exact Sub.nil | refine Sub.cons rfl ?_ | refine Sub.consE rfl (by simp; done) ?_))
  replace c42 := of_decide_eq_false c42
  rw [List.drop_eq_nil_of_le (by omega)] at hJ
  refine WC.exit (kp [] ?_)
  repeat first | refine sk fun K hK => ?_ | refine bk ?_ | refine rn fun _ => ?_
  refine xC ?_
  refine wn [2] ?_
  refine WC.ret (wR (h) ?_)
  exact ⟨by unfold mayPr; rw [c7, c37, hJ]; rfl, rfl⟩
end Go.Proofs.YtdhmplmpbcnojaaGreatDoor.Ty9
end
/- TpA -/
section
namespace Go.Proofs.YtdhmplmpbcnojaaGreatDoor
open Go.Eng Go.Pc Go.Tg Go
open Go.Xp hiding B nameT
open Go.Ty (Ty eqT idxF idxF_drop idxF_any)
open Go.Lx (encB encB_len)
set_option maxRecDepth 100000
theorem idxS_ct (v : B) (a : Option Addr) (k c : Nat) (l : List B) (h : List Res) (m : View) (hs : Rd m h a k c 1 (fl encB l)) :
    CT Tryz.prog 145 [.slice a k c, str v] h m (Pure1 h (.int .i64 (idxF (v == ·) l 0))) := by
  have hl := hs.lenF encB_len (by decide)
  have hmx := hs.mx
  have hle := hs.le
  refine CT.body Tryz.call145 Tryz.func145 rfl Tryz.ntmps145 (leB rfl) rfl ?_
  repeat first | refine sk fun K hK => ?_ | refine bk ?_ | refine rn fun _ => ?_
  refine xC ?_
  refine wn [0, 1] ?_
  repeat first | refine sk fun K hK => ?_ | refine bk ?_ | refine rn fun _ => ?_
  refine xM ?_
  refine xG (PO.lenSl Tryz.underlying48 Et) ?_
  refine xK ?_
  refine wn [0, 1, 7, 8] ?_
  repeat first | refine sk fun K hK => ?_ | refine bk ?_
  refine WC.loopI [0, 1, 7] rfl (fun μ F' h' => ∃ j : Nat, (j ≤ k ∧ idxF (v == ·) l 0 = idxF (v == ·) (l.drop j) j) ∧ k - j = μ ∧ F' = [(8, .int .i64 j)] ∧ h = h') (k - 0) [(8, .int .i64 0)] (h0 := h) ?_ Sb ⟨0, ⟨by omega, rfl⟩, rfl, rfl, rfl⟩ ?_
  (repeat (first | exact Sub.nil | refine Sub.cons rfl ?_ | refine Sub.consE rfl (by simp; done) ?_))
  rintro _ _ _ ⟨j, ⟨hk, hJ⟩, rfl, rfl, rfl⟩
  refine WC.frm rfl ?_
  repeat first | refine sk fun K hK => ?_ | refine bk ?_ | refine rn fun _ => ?_
  refine xG (PO.bin Et Et rfl) ?_
  refine wn [0, 1, 7, 8, 9] ?_
  repeat first | refine sk fun K hK => ?_ | refine bk ?_
  refine wc (fun c9 => ?_) fun c9 => ?_
  replace c9 := of_decide_eq_true c9
  obtain ⟨x, hx⟩ := get_some (l := l) (k := j) (by omega)
  rw [idxF_drop _ hx] at hJ
  refine WC.skip (kp [0, 1, 7, 8] ?_)
  repeat first | refine sk fun K hK => ?_ | refine bk ?_ | refine rn fun _ => ?_
  refine xM ?_
  refine xA ?_
  refine wn [0, 1, 5, 7, 8] ?_
  repeat first | refine sk fun K hK => ?_ | refine bk ?_ | refine rn fun _ => ?_
  refine xM ?_
  refine xM ?_
  refine xM ?_
  refine xG (PO.idx EL48.und EL48.size EL48.posz (Ev.tmp rfl) (Ev.tmp rfl) Rr rfl (by omega)) ?_
  refine xG (PO.loadF1 Tryz.underlying9 rfl encB_len Rr (Ev.tmp rfl) (by assumption) rfl) ?_
  refine xG (PO.eqlS Et Et) ?_
  refine wn [0, 1, 5, 7, 8, 16] ?_
  repeat first | refine sk fun K hK => ?_ | refine bk ?_
  refine wc (fun c16 => ?_) fun c16 => ?_
  rw [c16] at hJ
  repeat first | refine sk fun K hK => ?_ | refine bk ?_ | refine rn fun _ => ?_
  refine xM ?_
  refine xA ?_
  refine wn [4] ?_
  refine WC.ret (wR (h) ?_)
  exact ⟨by rw [hJ]; rfl, rfl⟩
  rw [c16] at hJ
  refine WC.skip (kp [0, 1, 7, 8] ?_)
  repeat first | refine sk fun K hK => ?_ | refine bk ?_ | refine rn fun _ => ?_
  refine xG (PO.addI Et Ev.const (by omega)) ?_
  refine xM ?_
  refine WL.nil (loopBackI (k - (j + 1)) [(8, .int .i64 (j + 1))] (h'' := h) (by omega) ?_ (by (repeat (first | exact Sub.nil | refine Sub.cons rfl ?_ | refine Sub.consE rfl (by simp; done) ?_))) Sb ⟨j + 1, ⟨by omega, by simpa using hJ⟩, rfl, rfl, rfl⟩)
  (repeat (first | exact Sub.nil | refine Sub.cons rfl ?_ | refine Sub.consE rfl (by simp; done) ?_))
  replace c9 := of_decide_eq_false c9
  rw [List.drop_eq_nil_of_le (by omega)] at hJ
  refine WC.exit (kp [] ?_)
  repeat first | refine sk fun K hK => ?_ | refine bk ?_ | refine rn fun _ => ?_
  refine xC ?_
  refine wn [4] ?_
  refine WC.ret (wR (h) ?_)
  exact ⟨by rw [hJ]; rfl, rfl⟩
theorem hasS_ct (v : B) (a : Option Addr) (k c : Nat) (l : List B) (h : List Res) (m : View) (hs : Rd m h a k c 1 (fl encB l)) :
    CT Tryz.prog 105 [.slice a k c, str v] h m (Pure1 h (.bool (l.contains v))) := by
  refine CT.body Tryz.call105 Tryz.func105 rfl Tryz.ntmps105 (leB rfl) rfl ?_
  repeat first | refine sk fun K hK => ?_ | refine bk ?_ | refine rn fun _ => ?_
  refine xC ?_
  refine wn [0, 1] ?_
  repeat first | refine sk fun K hK => ?_ | refine bk ?_ | refine rn fun _ => ?_
  refine xM ?_
  refine xM ?_
  refine xf (E2 Et Et) (idxS_ct v _ _ _ l _ _ hs) ?_
  refine xG (PO.bin Et Ev.const rfl) ?_
  refine xA ?_
  refine wn [4] ?_
  refine WC.ret (wR (h) ?_)
  exact ⟨congrArg Value.bool (by rw [List.contains_eq_any_beq]; exact idxF_any _ l 0 (by decide)), rfl⟩
/-- The specifications from a place inwards to the first. -/
def down (s : List En) : Nat → List (Nat × En)
  | 0 => []
  | n + 1 => match s[n]? with
    | some x => (n, x) :: down s n
    | none => down s n
def findL (nm : B) : List (Nat × En) → Int
  | [] => -1
  | p :: r => if p.2.sp.names.l.contains nm then (p.1 : Int) else findL nm r
theorem findL_down (s : List En) (nm : B) : ∀ n, findL nm (down s n) = findN s nm n
  | 0 => rfl
  | n + 1 => by
    unfold down findN
    cases hs : s[n]? with
    | none => exact findL_down s nm n
    | some x =>
      show (if x.sp.names.l.contains nm then (n : Int) else findL nm (down s n)) = _
      rw [findL_down s nm n]
theorem down_mem {s : List En} {p : Nat × En} : ∀ {n}, p ∈ down s n → s[p.1]? = some p.2
  | 0, h => by cases h
  | n + 1, h => by
    unfold down at h
    split at h
    · rename_i x hx
      rcases List.mem_cons.1 h with rfl | h
      · exact hx
      · exact down_mem h
    · exact down_mem h
def plV (p : Nat × En) : Value := .int .i64 p.1
def plE (p : Nat × En) : Value := enV p.2
/-- A scope that is read: its names lie in memory. -/
structure ScOk (m : View) (a : Option Addr) (k c : Nat) (s : List En) : Prop where
  rd : Rd m [] a k c 17 (fl enE s)
  nm : ∀ x ∈ s, Rd m [] x.sp.names.a x.sp.names.l.length x.sp.names.c 1 (fl encB x.sp.names.l)
theorem inw_ct (a : Option Addr) (k c : Nat) (n : Int) (h : List Res) (m : View) : CT Tryz.prog 104 [.slice a k c, .int .i64 n] h m (fun r _ h' => ∃ b2 b3, r = .func (.func 144) #[] #[.pointer (some ⟨b3, 0, none⟩), .pointer (some ⟨b2, 0, none⟩)] ∧ h' = .pt b3 (.cells [.int .i64 n].toArray 3 (0, 0)) :: .pt b2 (.cells [.slice a k c].toArray 79 (0, 0)) :: h) := by
  refine CT.body Tryz.call104 Tryz.func104 rfl Tryz.ntmps104 (leB rfl) rfl ?_
  repeat first | refine sk fun K hK => ?_ | refine bk ?_ | refine rn fun _ => ?_
  refine xX fun b2 => ?_
  refine xX fun b3 => ?_
  refine xC ?_
  refine wn [2, 3] ?_
  repeat first | refine sk fun K hK => ?_ | refine bk ?_ | refine rn fun _ => ?_
  refine xG (PO.makeFunc Evs.nil (Evs.cons Et (Evs.cons Et Evs.nil))) ?_
  refine xA ?_
  refine wn [4] ?_
  refine WC.ret (wR (.pt b3 (.cells [.int .i64 n].toArray 3 (0, 0)) :: .pt b2 (.cells [.slice a k c].toArray 79 (0, 0)) :: h) ?_)
  exact ⟨b2, b3, rfl, rfl⟩
theorem inwI_ct {m : View} (s : List En) (a : Option Addr) (k c n : Nat) (hn : n ≤ s.length) (ho : ScOk m a k c s) (b3 b2 l : Nat) (J : List (Nat × En) → List Res → Prop) (Jx : List Res → Prop) (h0 : List Res) (hY : YieldK2 Tryz.prog m l plV plE (down s n) J Jx) (hJ0 : J [] h0) :
    CT Tryz.prog 144 [.func (.yield l) #[] #[], .pointer (some ⟨b3, 0, none⟩), .pointer (some ⟨b2, 0, none⟩)] (.pt b3 (.cells [.int .i64 n].toArray 3 (0, 0)) :: .pt b2 (.cells [.slice a k c].toArray 79 (0, 0)) :: h0) m (fun _ _ h' => J (down s n) h' ∨ Jx h') := by
  have hl := ho.rd.lenF enE_len (by decide)
  have hmx := ho.rd.mx
  have hle := ho.rd.le
  refine CT.body Tryz.call144 Tryz.func144 rfl Tryz.ntmps144 (leB rfl) rfl ?_
  repeat first | refine sk fun K hK => ?_ | refine bk ?_ | refine rn fun _ => ?_
  refine xG (pL Tryz.underlying3) ?_
  refine xG (PO.subI Et Ev.const (by omega)) ?_
  refine xA ?_
  refine wn [0, 2, 4] ?_
  repeat first | refine sk fun K hK => ?_ | refine bk ?_
  refine WC.loopI [0, 2] rfl (fun μ F' h' => ∃ i : Nat, ∃ pre : List (Nat × En), ∃ hj : List Res, ((i ≤ n ∧ J pre hj) ∧ down s n = pre ++ down s i) ∧ i = μ ∧ F' = [(4, .int .i64 ((i : Int) - 1))] ∧ .pt b3 (.cells [.int .i64 n].toArray 3 (0, 0)) :: .pt b2 (.cells [.slice a k c].toArray 79 (0, 0)) :: hj = h') (n) [(4, .int .i64 ((n : Int) - 1))] (h0 := .pt b3 (.cells [.int .i64 n].toArray 3 (0, 0)) :: .pt b2 (.cells [.slice a k c].toArray 79 (0, 0)) :: h0) ?_ Sb ⟨n, [], h0, ⟨⟨by omega, hJ0⟩, rfl⟩, rfl, rfl, rfl⟩ ?_
  (repeat (first | exact Sub.nil | refine Sub.cons rfl ?_ | refine Sub.consE rfl (by simp; done) ?_))
  rintro _ _ _ ⟨i, pre, hj, ⟨⟨hk, hJp⟩, hx⟩, rfl, rfl, rfl⟩
  refine WC.frm rfl ?_
  repeat first | refine sk fun K hK => ?_ | refine bk ?_ | refine rn fun _ => ?_
  refine xM ?_
  refine xG (PO.bin Et Ev.const rfl) ?_
  refine wn [0, 2, 4, 8] ?_
  repeat first | refine sk fun K hK => ?_ | refine bk ?_
  refine wc (fun c8 => ?_) fun c8 => ?_
  replace c8 := of_decide_eq_true c8
  obtain ⟨q, rfl⟩ : ∃ q, i = q + 1 := ⟨i - 1, by omega⟩
  obtain ⟨x, hc⟩ := get_some (l := s) (k := q) (by omega)
  have hd : down s (q + 1) = (q, x) :: down s q := by
    show (match s[q]? with | some x => (q, x) :: down s q | none => down s q) = _
    rw [hc]
  rw [hd] at hx
  rw [show ((q + 1 : Nat) : Int) - 1 = (q : Int) by omega]
  have hrd : Rd m (.pt b3 (.cells [.int .i64 n].toArray 3 (0, 0)) :: .pt b2 (.cells [.slice a k c].toArray 79 (0, 0)) :: hj) a k c 17 (fl enE s) := ho.rd.mono (View.le.refl _) (List.nil_sublist _)
  refine WC.skip (kp [0, 2, 4] ?_)
  (repeat (first | refine WC.seqK fun K hK => ?_ | refine WC.block ?_))
  refine WC.regionY rfl fun ops hG => ?_
  refine WY.po rfl (PO.move Et) (leB rfl) ?_
  refine WY.po rfl (PO.move Et) (leB rfl) ?_
  refine WY.po rfl (PO.load1 Tryz.underlying79 rfl Et Me rfl) (leB rfl) ?_
  refine WY.po rfl (PO.move Et) (leB rfl) ?_
  refine WY.po rfl (PO.idx EL79.und EL79.size EL79.posz (Ev.tmp rfl) (Ev.tmp rfl) Rr rfl (by omega)) (leB rfl) ?_
  refine WY.po rfl (PO.loadFA Tryz.underlying104 rfl rfl enE_len Rr (Ev.tmp rfl) (by assumption) rfl rfl (Nat.succ_pos _)) (leB rfl) ?_
  refine WY.yield2 (R := fun b h2 => ∃ h3, h2 = .pt b3 (.cells [.int .i64 n].toArray 3 (0, 0)) :: .pt b2 (.cells [.slice a k c].toArray 79 (0, 0)) :: h3 ∧ ((b = true ∧ J (pre ++ [(q, x)]) h3) ∨ (b = false ∧ Jx h3))) rfl Et Et Et (fun w st => ?_) (leB rfl) fun b17 h2 hb => ?_
  · refine (hY pre _ _ hj [_, _] w hx hJp st).mono ?_
    rintro b w' ⟨h3, st3, hR⟩
    exact ⟨_, st3, h3, rfl, hR⟩
  obtain ⟨h3, rfl, hR⟩ := hb
  refine WY.ofWL rfl ?_
  refine xG (PO.not Et) ?_
  refine wn [0, 2, 4, 18] ?_
  repeat first | refine sk fun K hK => ?_ | refine bk ?_
  refine wc (fun c18 => ?_) fun c18 => ?_
  have hb : b17 = false := by simpa using c18
  rcases hR with ⟨hbt, _⟩ | ⟨_, hJx⟩
  · rw [hb] at hbt
    cases hbt
  refine WC.ret (end0 (h' := h3) (.inl rfl) rfl  (View.le.refl m) Sb ?_)
  exact .inr hJx
  have hb : b17 = true := by simpa using c18
  rcases hR with ⟨_, hJ3⟩ | ⟨hbf, _⟩
  case inr => rw [hb] at hbf; cases hbf
  refine WC.skip (kp [0, 2, 4] ?_)
  repeat first | refine sk fun K hK => ?_ | refine bk ?_ | refine rn fun _ => ?_
  refine xM ?_
  refine xG (PO.subI Et Ev.const (by omega)) ?_
  refine xA ?_
  refine WL.nil (loopBackI (q) [(4, .int .i64 ((q : Int) - 1))] (h'' := .pt b3 (.cells [.int .i64 n].toArray 3 (0, 0)) :: .pt b2 (.cells [.slice a k c].toArray 79 (0, 0)) :: h3) (by omega) ?_ (by (repeat (first | exact Sub.nil | refine Sub.cons rfl ?_ | refine Sub.consE rfl (by simp; done) ?_))) Sb ⟨q, pre ++ [(q, x)], h3, ⟨⟨by omega, hJ3⟩, by rw [hx]; simp⟩, rfl, rfl, rfl⟩)
  (repeat (first | exact Sub.nil | refine Sub.cons rfl ?_ | refine Sub.consE rfl (by simp; done) ?_))
  replace c8 := of_decide_eq_false c8
  obtain rfl : i = 0 := by omega
  simp only [down, List.append_nil] at hx
  refine WC.exit (end0 (h' := hj) (.inr rfl) rfl  (View.le.refl m) Sb ?_)
  exact .inl (by rw [hx]; exact hJp)
end Go.Proofs.YtdhmplmpbcnojaaGreatDoor
end
/- TpB -/
section
namespace Go.Proofs.YtdhmplmpbcnojaaGreatDoor
open Go.Eng Go.Pc Go.Tg Go
open Go.Xp hiding B nameT
open Go.Ty (Ty eqT)
open Go.Lx (encB encB_len)
set_option maxRecDepth 100000
theorem find_ct {m : View} (s : List En) (a : Option Addr) (k c : Nat) (ho : ScOk m a k c s) (nm : B) (n : Nat) (hn : n ≤ s.length) (h : List Res) :
    CT Tryz.prog 67 [.slice a k c, .int .i64 n, str nm] h m (Pure1 h (.int .i64 (findN s nm n))) := by
  refine CT.bodyM Tryz.call67 Tryz.func67 rfl Tryz.ntmps67 (leB rfl) rfl ?_
  repeat first | refine sk fun K hK => ?_ | refine bk ?_ | refine rn fun _ => ?_
  refine xX fun b5 => ?_
  refine xC ?_
  refine wn [0, 1, 5] ?_
  (repeat (first | refine WC.seqK fun K hK => ?_ | refine WC.block ?_))
  refine WC.scope rfl ?_
  repeat first | refine sk fun K hK => ?_ | refine bk ?_ | refine rn fun _ => ?_
  refine xW fun b7 => ?_
  refine xS ?_
  refine wn [0, 1, 5, 7] ?_
  repeat first | refine sk fun K hK => ?_ | refine bk ?_
  refine WC.label (kp [0, 1, 5, 7] ?_)
  repeat first | refine sk fun K hK => ?_ | refine bk ?_ | refine rn fun _ => ?_
  refine xM ?_
  refine xM ?_
  refine xg (E2 Et Et) (inw_ct _ _ _ _ _ _) ?_
  rintro _ _ ⟨b12, c12, rfl, rfl⟩
  refine wn [5, 7, 12] ?_
  (repeat (first | refine WC.seqK fun K hK => ?_ | refine WC.block ?_))
  refine WC.rangeFunc2 plV plE 0 (down s n) ([.pt c12 (.cells [.int .i64 n].toArray 3 (0, 0)), .pt b12 (.cells [.slice a k c].toArray 79 (0, 0))]) (.pt b7 (.cells [.int .i64 (-1)].toArray 3 (0, 0)) :: .pt b5 (.cells [str nm].toArray 9 (0, 0)) :: h) (fun pre hc => (∀ post, findL nm (pre ++ post) = findL nm post) ∧ hc = .pt b7 (.cells [.int .i64 (-1)].toArray 3 (0, 0)) :: .pt b5 (.cells [str nm].toArray 9 (0, 0)) :: h) (fun hc => hc = .pt b7 (.cells [.int .i64 (findL nm (down s n))].toArray 3 (0, 0)) :: .pt b5 (.cells [str nm].toArray 9 (0, 0)) :: h) (leB rfl) (leB rfl) Et Tryz.call144 ((fun l J Jx h0 hY hJ => inwI_ct s a k c n hn ho _ _ l J Jx h0 hY hJ)) (⟨fun _ => rfl, rfl⟩) rfl (fun l pre x post hc hx hI fr KA hKA => ?_) (fun D hc hI => ?_) (fun D hc hX => ?_)
  obtain ⟨hrun, rfl⟩ := hI
  have hx1 : s[x.1]? = some x.2 := down_mem (n := n) (by rw [hx]; simp)
  have hnr := ho.nm x.2 (List.mem_of_getElem? hx1)
  repeat first | refine sk fun K hK => ?_ | refine bk ?_ | refine rg fun ops hG => ?_
  refine xA ?_
  refine wn [5, 7, 8, 14] ?_
  (try clear hG ops)
  repeat first | refine sk fun K hK => ?_ | refine bk ?_ | refine rn fun _ => ?_
  refine xW fun b9 => ?_
  refine xS ?_
  refine WL.nil (keepF (ts := [5, 7, 8, 9]) rfl (hKA _ (.pt b9 (.cells (enE x.2).toArray 104 (0, 0)) :: .pt b7 (.cells [.int .i64 (-1)].toArray 3 (0, 0)) :: .pt b5 (.cells [str nm].toArray 9 (0, 0)) :: h) fun fr2 => ?_))
  (try clear hG ops)
  try clear hKA KA
  refine WC.resE (h' := .pt b9 (.cells (enE x.2).toArray 104 (0, 0)) :: .pt b7 (.cells [.int .i64 (-1)].toArray 3 (0, 0)) :: .pt b5 (.cells [str nm].toArray 9 (0, 0)) :: (h ++ fr2)) rfl ?_
  refine WC.block ?_
  repeat first | refine sk fun K hK => ?_ | refine bk ?_ | refine rn fun _ => ?_
  refine xF Tryz.underlying104 ?_
  refine xF Tryz.underlying54 ?_
  refine xG (pL Tryz.underlying48) ?_
  refine xG (pL Tryz.underlying9) ?_
  refine xf (E2 Et Et) (hasS_ct nm _ _ _ x.2.sp.names.l _ _ (hnr.mono (View.le.refl _) (List.nil_sublist _))) ?_
  refine wn [7, 8, 19] ?_
  repeat first | refine sk fun K hK => ?_ | refine bk ?_
  refine wc (fun c19 => ?_) fun c19 => ?_
  repeat first | refine sk fun K hK => ?_ | refine bk ?_ | refine rn fun _ => ?_
  refine xM ?_
  refine xS ?_
  refine wn [] ?_
  refine WC.exit (roundStop (.pt b7 (.cells [.int .i64 x.1].toArray 3 (0, 0)) :: .pt b5 (.cells [str nm].toArray 9 (0, 0)) :: h) Sb ?_)
  rw [hx, hrun]; unfold findL; rw [if_pos c19]
  refine WC.skip (roundNext (.pt b7 (.cells [.int .i64 (-1)].toArray 3 (0, 0)) :: .pt b5 (.cells [str nm].toArray 9 (0, 0)) :: h) Sb ?_)
  exact ⟨fun post => by rw [List.append_assoc, hrun]; show findL nm (x :: post) = _; unfold findL; rw [if_neg (by rw [c19]; decide)]; cases post <;> rfl, rfl⟩
  obtain ⟨hrun, hh⟩ := hI
  have he : (-1 : Int) = findL nm (down s n) := by have := hrun []; rw [List.append_nil] at this; exact this.symm
  rw [he] at hh
  subst hh
  refine kp [7] ?_
  repeat first | refine sk fun K hK => ?_ | refine bk ?_ | refine rn fun _ => ?_
  refine xG (pL Tryz.underlying3) ?_
  refine xA ?_
  refine wn [6] ?_
  refine WC.ret (endM1 (h' := h) (.inl rfl) (.inr ⟨_, _, rfl, rfl, rfl⟩) rfl (RV.tmp rfl) (View.le.refl m) Sb ?_)
  exact ⟨congrArg (Value.int .i64) (findL_down s nm n), rfl⟩
  subst hX
  refine kp [7] ?_
  repeat first | refine sk fun K hK => ?_ | refine bk ?_ | refine rn fun _ => ?_
  refine xG (pL Tryz.underlying3) ?_
  refine xA ?_
  refine wn [6] ?_
  refine WC.ret (endM1 (h' := h) (.inl rfl) (.inr ⟨_, _, rfl, rfl, rfl⟩) rfl (RV.tmp rfl) (View.le.refl m) Sb ?_)
  exact ⟨congrArg (Value.int .i64) (findL_down s nm n), rfl⟩
end Go.Proofs.YtdhmplmpbcnojaaGreatDoor
end
/- TpC -/
section
namespace Go.Proofs.YtdhmplmpbcnojaaGreatDoor
open Go.Eng Go.Pc Go.Tg Go
open Go.Xp hiding B nameT
open Go.Ty (Ty eqT tyV zeroT)
open Go.Lx (encB encB_len)
set_option maxRecDepth 100000
theorem tof_ct (k : Int) (h : List Res) (m : View) : CT Tryz.prog 38 [.int .u8 k] h m (Pure1 h (tyV (tyK k))) := by
  refine CT.body Tryz.call38 Tryz.func38 rfl Tryz.ntmps38 (leB rfl) rfl ?_
  repeat first | refine sk fun K hK => ?_ | refine bk ?_ | refine rn fun _ => ?_
  refine xW fun b2 => ?_
  refine wn [0, 2] ?_
  repeat first | refine sk fun K hK => ?_ | refine bk ?_ | refine rn fun _ => ?_
  refine xM ?_
  refine xG (PO.build Tryz.underlying30 rfl rfl rfl (EvP.cons Et EvP.nil) rfl) ?_
  refine xS ?_
  refine wn [2] ?_
  refine WC.ret (end1 (h' := h) (.inl rfl) rfl (RV.cellA Tryz.underlying30 rfl rfl rfl Me rfl) (View.le.refl m) Sb ?_)
  exact ⟨rfl, rfl⟩
theorem tsim_ct (t : Ty) (h : List Res) (m : View) : CT Tryz.prog 43 [tyV t] h m (Pure1 h (.bool (simT t))) := by
  refine CT.body Tryz.call43 Tryz.func43 rfl Tryz.ntmps43 (leB rfl) rfl ?_
  repeat first | refine sk fun K hK => ?_ | refine bk ?_ | refine rn fun _ => ?_
  refine xX fun b1 => ?_
  refine xC ?_
  refine wn [1] ?_
  repeat first | refine sk fun K hK => ?_ | refine bk ?_
  refine WC.drawS [3] (.op 0 (.op 1 (.op 2 (.op 3 .nil)))) [4, 5, 6, 7, 8, 9, 10, 11, 12, 13, 14, 15] _ [] mixed (fun _ _ _ _ _ h => h) [] (by kernel_rfl) ?_
  refine yG rfl (pA Tryz.underlying30) ?_
  refine yG rfl (pF Tryz.underlying30) ?_
  refine yG rfl (pL Tryz.underlying24) ?_
  refine yf rfl (E1 Et) (fun fr => tof_ct _ _ _) ?_
  refine SR.nil rfl rfl ?_
  refine xG (PO.eqlA Tryz.underlying30 (by kernel_rfl) (by kernel_rfl) Et Et rfl) ?_
  refine xM ?_
  refine zG (fun _ => pF Tryz.underlying30) ?_
  refine zG (fun hc => PO.load1 Tryz.underlying24 rfl (Eg hc) Me rfl) ?_
  refine zG (fun hc => PO.bin (Eg hc) Ev.const rfl) ?_
  refine xP ?_
  refine xM ?_
  refine zG (fun _ => pF Tryz.underlying30) ?_
  refine zG (fun hc => PO.load1 Tryz.underlying24 rfl (Eg hc) Me rfl) ?_
  refine zG (fun hc => PO.bin (Eg hc) Ev.const rfl) ?_
  refine xP ?_
  refine xA ?_
  refine wn [2] ?_
  try clear hG ops
  refine WC.ret (wR (h) ?_)
  exact ⟨rfl, rfl⟩
def heldV (h : Hd) (e : Int) : Value := .tuple #[hdV h, .int .i64 e]
theorem tname_ct {m : View} (s : List En) (a : Option Addr) (k c : Nat) (ho : ScOk m a k c s) (nm : B) (h : List Res) :
    CT Tryz.prog 39 [.slice a k c, str nm] h m (Pure1 h (heldV (okT (nameT s nm)) (errT (nameT s nm)))) := by
  have hl := ho.rd.lenF enE_len (by decide)
  have hmx := ho.rd.mx
  have hle := ho.rd.le
  subst hl
  have hf := findN_lt s nm s.length
  refine CT.body Tryz.call39 Tryz.func39 rfl Tryz.ntmps39 (leB rfl) rfl ?_
  repeat first | refine sk fun K hK => ?_ | refine bk ?_ | refine rn fun _ => ?_
  refine xW fun b4 => ?_
  refine xC ?_
  refine wn [0, 1, 4] ?_
  repeat first | refine sk fun K hK => ?_ | refine bk ?_ | refine rn fun _ => ?_
  refine xM ?_
  refine xM ?_
  refine xG (PO.lenSl Tryz.underlying79 Et) ?_
  refine xM ?_
  refine xf (E3 Et Et Et) (find_ct s _ _ _ ho nm s.length (by omega) _) ?_
  refine xA ?_
  refine wn [0, 4, 6] ?_
  repeat first | refine sk fun K hK => ?_ | refine bk ?_ | refine rn fun _ => ?_
  refine xM ?_
  refine xG (PO.bin Et Ev.const rfl) ?_
  refine wn [0, 4, 6, 14] ?_
  repeat first | refine sk fun K hK => ?_ | refine bk ?_
  refine wc (fun c14 => ?_) fun c14 => ?_
  replace c14 := of_decide_eq_true c14
  have hN : nameT s nm = .error 120 := by
    unfold nameT fnd
    rw [if_pos (by first | exact c14 | simpa using c14)]
  repeat first | refine sk fun K hK => ?_ | refine bk ?_ | refine rn fun _ => ?_
  refine xG (PO.build Tryz.underlying76 rfl rfl rfl EvP.nil rfl) ?_
  refine xS ?_
  refine xC ?_
  refine wn [4, 5] ?_
  refine WC.ret (end2 (h' := h) (.inl rfl) rfl (RV.cellA Tryz.underlying76 rfl rfl rfl Me rfl) (RV.tmp rfl) (View.le.refl m) Sb ?_)
  exact ⟨by rw [hN]; rfl, rfl⟩
  replace c14 := of_decide_eq_false c14
  obtain ⟨q, hq⟩ : ∃ q : Nat, findN s nm s.length = q := ⟨(findN s nm s.length).toNat, by omega⟩
  obtain ⟨x, hx⟩ := get_some (l := s) (k := q) (by omega)
  have hN : nameT s nm = if x.sp.k = 1 ∨ x.sp.k = 2 ∨ x.sp.k = 3 then .ok ⟨x.sp.ty, x.ar⟩ else .error 130 := by
    unfold nameT fnd
    rw [if_neg (by omega), hq, Int.toNat_natCast, hx]
  have hrd : Rd m h a s.length c 17 (fl enE s) := ho.rd.mono (View.le.refl _) (List.nil_sublist _)
  rw [hq]
  refine WC.skip (kp [0, 4, 6] ?_)
  repeat first | refine sk fun K hK => ?_ | refine bk ?_ | refine rn fun _ => ?_
  refine xM ?_
  refine xM ?_
  refine xG (PO.idx EL79.und EL79.size EL79.posz (Ev.tmp rfl) (Ev.tmp rfl) Rr rfl (by omega)) ?_
  refine xG (PO.loadFA Tryz.underlying104 rfl rfl enE_len Rr (Ev.tmp rfl) (by assumption) rfl rfl (Nat.succ_pos _)) ?_
  refine xW fun b7 => ?_
  refine xS ?_
  refine wn [4, 7] ?_
  repeat first | refine sk fun K hK => ?_ | refine bk ?_ | refine rn fun _ => ?_
  refine xF Tryz.underlying104 ?_
  refine xF Tryz.underlying54 ?_
  refine xG (pL Tryz.underlying47) ?_
  refine wn [4, 7, 22] ?_
  repeat first | refine sk fun K hK => ?_ | refine bk ?_ | refine rn fun _ => ?_
  refine xG (PO.bin Et Ev.const rfl) ?_
  refine xA ?_
  refine wn [4, 7, 22, 23] ?_
  repeat first | refine sk fun K hK => ?_ | refine bk ?_
  refine wc (fun c23 => ?_) fun c23 => ?_
  replace c23 := t_eq c23
  refine WC.skip (kp [4, 7, 23] ?_)
  repeat first | refine sk fun K hK => ?_ | refine bk ?_
  refine wc (fun c23 => ?_) fun c23 => ?_
  replace c23 := t_eq c23
  repeat first | refine sk fun K hK => ?_ | refine bk ?_ | refine rn fun _ => ?_
  refine xF Tryz.underlying104 ?_
  refine xF Tryz.underlying54 ?_
  refine xG (pA Tryz.underlying30) ?_
  refine xF Tryz.underlying104 ?_
  refine xG (pL Tryz.underlying3) ?_
  refine xG (PO.build Tryz.underlying76 rfl rfl rfl (EvP.cons Et (EvP.cons Et EvP.nil)) rfl) ?_
  refine xS ?_
  refine xC ?_
  refine wn [4, 5] ?_
  refine WC.ret (end2 (h' := h) (.inl rfl) rfl (RV.cellA Tryz.underlying76 rfl rfl rfl Me rfl) (RV.tmp rfl) (View.le.refl m) Sb ?_)
  exact ⟨by rw [hN, if_pos (by omega)]; rfl, rfl⟩
  replace c23 := f_eq c23
  refine WC.skip (kp [4] ?_)
  repeat first | refine sk fun K hK => ?_ | refine bk ?_ | refine rn fun _ => ?_
  refine xG (PO.build Tryz.underlying76 rfl rfl rfl EvP.nil rfl) ?_
  refine xS ?_
  refine xC ?_
  refine wn [4, 5] ?_
  refine WC.ret (end2 (h' := h) (.inl rfl) rfl (RV.cellA Tryz.underlying76 rfl rfl rfl Me rfl) (RV.tmp rfl) (View.le.refl m) Sb ?_)
  exact ⟨by rw [hN, if_neg (by omega)]; rfl, rfl⟩
  replace c23 := f_eq c23
  repeat first | refine sk fun K hK => ?_ | refine bk ?_ | refine rn fun _ => ?_
  refine xG (PO.bin Et Ev.const rfl) ?_
  refine xA ?_
  refine wn [4, 7, 22, 23] ?_
  repeat first | refine sk fun K hK => ?_ | refine bk ?_
  refine wc (fun c23 => ?_) fun c23 => ?_
  replace c23 := t_eq c23
  refine WC.skip (kp [4, 7, 23] ?_)
  repeat first | refine sk fun K hK => ?_ | refine bk ?_
  refine wc (fun c23 => ?_) fun c23 => ?_
  replace c23 := t_eq c23
  repeat first | refine sk fun K hK => ?_ | refine bk ?_ | refine rn fun _ => ?_
  refine xF Tryz.underlying104 ?_
  refine xF Tryz.underlying54 ?_
  refine xG (pA Tryz.underlying30) ?_
  refine xF Tryz.underlying104 ?_
  refine xG (pL Tryz.underlying3) ?_
  refine xG (PO.build Tryz.underlying76 rfl rfl rfl (EvP.cons Et (EvP.cons Et EvP.nil)) rfl) ?_
  refine xS ?_
  refine xC ?_
  refine wn [4, 5] ?_
  refine WC.ret (end2 (h' := h) (.inl rfl) rfl (RV.cellA Tryz.underlying76 rfl rfl rfl Me rfl) (RV.tmp rfl) (View.le.refl m) Sb ?_)
  exact ⟨by rw [hN, if_pos (by omega)]; rfl, rfl⟩
  replace c23 := f_eq c23
  refine WC.skip (kp [4] ?_)
  repeat first | refine sk fun K hK => ?_ | refine bk ?_ | refine rn fun _ => ?_
  refine xG (PO.build Tryz.underlying76 rfl rfl rfl EvP.nil rfl) ?_
  refine xS ?_
  refine xC ?_
  refine wn [4, 5] ?_
  refine WC.ret (end2 (h' := h) (.inl rfl) rfl (RV.cellA Tryz.underlying76 rfl rfl rfl Me rfl) (RV.tmp rfl) (View.le.refl m) Sb ?_)
  exact ⟨by rw [hN, if_neg (by omega)]; rfl, rfl⟩
  replace c23 := f_eq c23
  repeat first | refine sk fun K hK => ?_ | refine bk ?_ | refine rn fun _ => ?_
  refine xG (PO.bin Et Ev.const rfl) ?_
  refine xA ?_
  refine wn [4, 7, 23] ?_
  repeat first | refine sk fun K hK => ?_ | refine bk ?_
  refine wc (fun c23 => ?_) fun c23 => ?_
  replace c23 := t_eq c23
  repeat first | refine sk fun K hK => ?_ | refine bk ?_ | refine rn fun _ => ?_
  refine xF Tryz.underlying104 ?_
  refine xF Tryz.underlying54 ?_
  refine xG (pA Tryz.underlying30) ?_
  refine xF Tryz.underlying104 ?_
  refine xG (pL Tryz.underlying3) ?_
  refine xG (PO.build Tryz.underlying76 rfl rfl rfl (EvP.cons Et (EvP.cons Et EvP.nil)) rfl) ?_
  refine xS ?_
  refine xC ?_
  refine wn [4, 5] ?_
  refine WC.ret (end2 (h' := h) (.inl rfl) rfl (RV.cellA Tryz.underlying76 rfl rfl rfl Me rfl) (RV.tmp rfl) (View.le.refl m) Sb ?_)
  exact ⟨by rw [hN, if_pos (by omega)]; rfl, rfl⟩
  replace c23 := f_eq c23
  refine WC.skip (kp [4] ?_)
  repeat first | refine sk fun K hK => ?_ | refine bk ?_ | refine rn fun _ => ?_
  refine xG (PO.build Tryz.underlying76 rfl rfl rfl EvP.nil rfl) ?_
  refine xS ?_
  refine xC ?_
  refine wn [4, 5] ?_
  refine WC.ret (end2 (h' := h) (.inl rfl) rfl (RV.cellA Tryz.underlying76 rfl rfl rfl Me rfl) (RV.tmp rfl) (View.le.refl m) Sb ?_)
  exact ⟨by rw [hN, if_neg (by omega)]; rfl, rfl⟩
theorem tarr_ct {m : View} (s : List En) (a : Option Addr) (k c : Nat) (ho : ScOk m a k c s) (nm : B) (h : List Res) :
    CT Tryz.prog 40 [.slice a k c, str nm] h m (Pure1 h (heldV (okT (nameT s nm)) (errT (arrT s nm)))) := by
  obtain ⟨hd, hhd⟩ : ∃ hd, hd = okT (nameT s nm) := ⟨_, rfl⟩
  obtain ⟨er, her⟩ : ∃ er, er = errT (nameT s nm) := ⟨_, rfl⟩
  have hA : errT (arrT s nm) = if er = 0 ∧ hd.t.dim < 1 then 130 else er := by
    subst hhd her
    unfold arrT
    cases hN : nameT s nm with
    | error e =>
      have he : e ≠ 0 := by
        unfold nameT at hN
        split at hN
        · cases hN; decide
        · split at hN
          · cases hN
          · cases hN; decide
      rw [if_neg (by intro hc; exact he hc.1)]
    | ok x =>
      show errT (if x.t.dim < 1 then Except.error 130 else Except.ok x) = if (0 : Int) = 0 ∧ x.t.dim < 1 then 130 else 0
      split
      · rw [if_pos ⟨rfl, by assumption⟩]; rfl
      · rw [if_neg (by intro hc; exact absurd hc.2 (by assumption))]; rfl
  refine CT.body Tryz.call40 Tryz.func40 rfl Tryz.ntmps40 (leB rfl) rfl ?_
  repeat first | refine sk fun K hK => ?_ | refine bk ?_ | refine rn fun _ => ?_
  refine xW fun b4 => ?_
  refine xC ?_
  refine wn [0, 1, 4] ?_
  repeat first | refine sk fun K hK => ?_ | refine bk ?_ | refine rn fun _ => ?_
  refine xM ?_
  refine xM ?_
  refine xf (E2 Et Et) (hhd ▸ her ▸ tname_ct s _ _ _ ho nm _) ?_
  refine xM ?_
  refine xE ?_
  refine xE ?_
  refine xW fun b6 => ?_
  refine xS ?_
  refine xA ?_
  refine wn [4, 6, 7] ?_
  repeat first | refine sk fun K hK => ?_ | refine bk ?_ | refine rg fun ops hG => ?_
  refine xM ?_
  refine xG (PO.bin Et Ev.const rfl) ?_
  refine xM ?_
  refine zG (fun _ => pF Tryz.underlying76) ?_
  refine zG (fun hc => PO.fieldAddr Tryz.underlying30 rfl (Nat.ne_of_beq_eq_false rfl) (Eg hc)) ?_
  refine zG (fun hc => PO.load1 Tryz.underlying3 rfl (Eg hc) Me rfl) ?_
  refine zG (fun hc => PO.bin (Eg hc) Ev.const rfl) ?_
  refine xP ?_
  refine wn [4, 6, 7, 21] ?_
  try clear hG ops
  repeat first | refine sk fun K hK => ?_ | refine bk ?_
  refine wc (fun c21 => ?_) fun c21 => ?_
  have hc : er = 0 ∧ hd.t.dim < 1 := by simpa using c21
  repeat first | refine sk fun K hK => ?_ | refine bk ?_ | refine rn fun _ => ?_
  refine xC ?_
  refine wn [4, 6, 7] ?_
  repeat first | refine sk fun K hK => ?_ | refine bk ?_ | refine rn fun _ => ?_
  refine xG (pA Tryz.underlying76) ?_
  refine xM ?_
  refine xS ?_
  refine xA ?_
  refine wn [4, 5] ?_
  refine WC.ret (end2 (h' := h) (.inl rfl) rfl (RV.cellA Tryz.underlying76 rfl rfl rfl Me rfl) (RV.tmp rfl) (View.le.refl m) Sb ?_)
  exact ⟨by rw [hA, ← hhd]; first | (rw [if_pos hc]; rfl) | (rw [if_neg hc]; rfl), rfl⟩
  have hc : ¬ (er = 0 ∧ hd.t.dim < 1) := by simpa using c21
  refine WC.skip (kp [4, 6, 7] ?_)
  repeat first | refine sk fun K hK => ?_ | refine bk ?_ | refine rn fun _ => ?_
  refine xG (pA Tryz.underlying76) ?_
  refine xM ?_
  refine xS ?_
  refine xA ?_
  refine wn [4, 5] ?_
  refine WC.ret (end2 (h' := h) (.inl rfl) rfl (RV.cellA Tryz.underlying76 rfl rfl rfl Me rfl) (RV.tmp rfl) (View.le.refl m) Sb ?_)
  exact ⟨by rw [hA, ← hhd]; first | (rw [if_pos hc]; rfl) | (rw [if_neg hc]; rfl), rfl⟩
end Go.Proofs.YtdhmplmpbcnojaaGreatDoor
end
/- TpD -/
section
namespace Go.Proofs.YtdhmplmpbcnojaaGreatDoor
open Go.Eng Go.Pc Go.Tg Go
open Go.Xp hiding B nameT
open Go.Ty (Ty eqT tyV cellT zeroT)
open Go.Lx (encB encB_len)
set_option maxRecDepth 100000
def okY (r : Except Int Ty) : Ty := match r with | .error _ => zeroT | .ok t => t
def resV (r : Except Int Ty) : Value := .tuple #[tyV (okY r), .int .i64 (errT r)]
theorem tres_ct (o : Int) (t : Ty) (h : List Res) (m : View) :
    CT Tryz.prog 42 [.int .u8 o, tyV t] h m (Pure1 h (resV (resT o t))) := by
  refine CT.body Tryz.call42 Tryz.func42 rfl Tryz.ntmps42 (leB rfl) rfl ?_
  repeat first | refine sk fun K hK => ?_ | refine bk ?_ | refine rn fun _ => ?_
  refine xX fun b3 => ?_
  refine xW fun b4 => ?_
  refine xC ?_
  refine wn [0, 3, 4] ?_
  repeat first | refine sk fun K hK => ?_ | refine bk ?_ | refine rn fun _ => ?_
  refine xC ?_
  refine xC ?_
  refine wn [0, 3, 4, 6] ?_
  repeat first | refine sk fun K hK => ?_ | refine bk ?_ | refine rn fun _ => ?_
  refine xM ?_
  refine wn [3, 4, 6, 8] ?_
  (repeat refine WC.seqK fun K hK => ?_)
  refine WC.cutK (by assumption) [4] rfl (fun F' h' => ∃ kk : Int, ∃ bb : Bool, (resT o t = if bb then .ok (tyK kk) else .error 130) ∧ F' = [(6, .int .u8 kk), (7, .bool bb)] ∧ .pt b4 (.cells (cellT zeroT).toArray 30 (0, 0)) :: .pt b3 (.cells (cellT t).toArray 30 (0, 0)) :: h = h') ?_ ?_
  repeat first | refine sk fun K hK => ?_ | refine bk ?_ | refine rn fun _ => ?_
  refine xG (PO.bin Et Ev.const rfl) ?_
  refine xA ?_
  refine wn [3, 4, 6, 8, 12] ?_
  repeat first | refine sk fun K hK => ?_ | refine bk ?_
  refine wc (fun c12 => ?_) fun c12 => ?_
  replace c12 := t_eq c12
  refine WC.skip (kp [3, 4, 6, 8, 12] ?_)
  repeat first | refine sk fun K hK => ?_ | refine bk ?_
  refine wc (fun c12 => ?_) fun c12 => ?_
  replace c12 := t_eq c12
  repeat first | refine sk fun K hK => ?_ | refine bk ?_ | refine rn fun _ => ?_
  refine xG (pA Tryz.underlying30) ?_
  refine xf (E1 Et) (tsim_ct _ _ _) ?_
  refine xA ?_
  refine WL.nil (meetI [(6, .int .u8 3), (7, .bool (simT t))] (h'' := .pt b4 (.cells (cellT zeroT).toArray 30 (0, 0)) :: .pt b3 (.cells (cellT t).toArray 30 (0, 0)) :: h) ?_ (by (repeat (first | exact Sub.nil | refine Sub.cons rfl ?_ | refine Sub.consE rfl (by simp; done) ?_))) Sb ⟨3, simT t, by unfold resT; rw [if_pos (by omega)], rfl, rfl⟩)
  (repeat (first | exact Sub.nil | refine Sub.cons rfl ?_ | refine Sub.consE rfl (by simp; done) ?_))
  replace c12 := f_eq c12
  repeat first | refine sk fun K hK => ?_ | refine bk ?_ | refine rn fun _ => ?_
  refine xG (PO.bin Et Ev.const rfl) ?_
  refine xA ?_
  refine wn [3, 4, 6, 8, 17] ?_
  repeat first | refine sk fun K hK => ?_ | refine bk ?_
  refine wc (fun c17 => ?_) fun c17 => ?_
  replace c17 := t_eq c17
  refine WC.skip (kp [3, 4, 6, 8, 17] ?_)
  repeat first | refine sk fun K hK => ?_ | refine bk ?_
  refine wc (fun c17 => ?_) fun c17 => ?_
  replace c17 := t_eq c17
  repeat first | refine sk fun K hK => ?_ | refine bk ?_
  refine WC.drawS [1, 5] (.op 0 (.op 1 (.op 2 (.op 3 (.op 4 (.op 5 .nil)))))) [6, 7, 8] _ [] mixed (fun _ _ _ _ _ h => h) [] (by kernel_rfl) ?_
  refine yG rfl (pA Tryz.underlying30) ?_
  refine yf rfl (E1 Ev.const) (fun fr => tof_ct _ _ _) ?_
  refine yG rfl (PO.eqlA Tryz.underlying30 (by kernel_rfl) (by kernel_rfl) Et Et rfl) ?_
  refine yG rfl (PO.move Et) ?_
  refine SR.poG rfl rfl (GU.f rfl rfl) (fun hc => PO.loadA Tryz.underlying30 rfl rfl Et Me rfl) (leB rfl) ?_
  refine SR.callG rfl rfl (GU.f rfl rfl) (fun hc => ⟨Ev.func, (Evs.cons Ev.const Evs.nil), fun fr => tof_ct _ _ _⟩) (leB rfl) ?_
  refine SR.nil rfl rfl ?_
  refine WL.poG (GU.f rfl rfl) (fun hc => PO.eqlA Tryz.underlying30 (by kernel_rfl) (by kernel_rfl) (Eg hc) (Eg hc) rfl) (leB rfl) ?_
  refine xQ ?_
  refine xA ?_
  refine WL.nil (meetI [(6, .int .u8 3), (7, .bool (eqT t (tyK 1) || eqT t (tyK 2)))] (h'' := .pt b4 (.cells (cellT zeroT).toArray 30 (0, 0)) :: .pt b3 (.cells (cellT t).toArray 30 (0, 0)) :: h) ?_ (by (repeat (first | exact Sub.nil | refine Sub.cons rfl ?_ | refine Sub.consE rfl (by simp; done) ?_))) Sb ⟨3, eqT t (tyK 1) || eqT t (tyK 2), by unfold resT; rw [if_neg (by omega), if_pos (by omega)], rfl, rfl⟩)
  (repeat (first | exact Sub.nil | refine Sub.cons rfl ?_ | refine Sub.consE rfl (by simp; done) ?_))
  replace c17 := f_eq c17
  repeat first | refine sk fun K hK => ?_ | refine bk ?_ | refine rn fun _ => ?_
  refine xG (PO.bin Et Ev.const rfl) ?_
  refine xA ?_
  refine wn [3, 4, 6, 8, 30] ?_
  repeat first | refine sk fun K hK => ?_ | refine bk ?_
  refine wc (fun c30 => ?_) fun c30 => ?_
  replace c30 := t_eq c30
  refine WC.skip (kp [3, 4, 6, 8, 30] ?_)
  repeat first | refine sk fun K hK => ?_ | refine bk ?_
  refine wc (fun c30 => ?_) fun c30 => ?_
  replace c30 := t_eq c30
  repeat first | refine sk fun K hK => ?_ | refine bk ?_
  refine WC.drawS [1] (.op 0 (.op 1 .nil)) [2, 3] _ [] mixed (fun _ _ _ _ _ h => h) [] (by kernel_rfl) ?_
  refine yG rfl (pA Tryz.underlying30) ?_
  refine yf rfl (E1 Ev.const) (fun fr => tof_ct _ _ _) ?_
  refine SR.nil rfl rfl ?_
  refine xG (PO.eqlA Tryz.underlying30 (by kernel_rfl) (by kernel_rfl) Et Et rfl) ?_
  refine xA ?_
  refine WL.nil (meetI [(6, .int .u8 3), (7, .bool (eqT t (tyK 3)))] (h'' := .pt b4 (.cells (cellT zeroT).toArray 30 (0, 0)) :: .pt b3 (.cells (cellT t).toArray 30 (0, 0)) :: h) ?_ (by (repeat (first | exact Sub.nil | refine Sub.cons rfl ?_ | refine Sub.consE rfl (by simp; done) ?_))) Sb ⟨3, eqT t (tyK 3), by unfold resT; rw [if_neg (by omega), if_neg (by omega), if_pos (by omega)], rfl, rfl⟩)
  (repeat (first | exact Sub.nil | refine Sub.cons rfl ?_ | refine Sub.consE rfl (by simp; done) ?_))
  replace c30 := f_eq c30
  repeat first | refine sk fun K hK => ?_ | refine bk ?_ | refine rn fun _ => ?_
  refine xG (PO.bin Et Ev.const rfl) ?_
  refine xA ?_
  refine wn [3, 4, 6, 37] ?_
  repeat first | refine sk fun K hK => ?_ | refine bk ?_
  refine wc (fun c37 => ?_) fun c37 => ?_
  replace c37 := t_eq c37
  repeat first | refine sk fun K hK => ?_ | refine bk ?_
  refine WC.drawS [1] (.op 0 (.op 1 .nil)) [2, 3] _ [] mixed (fun _ _ _ _ _ h => h) [] (by kernel_rfl) ?_
  refine yG rfl (pA Tryz.underlying30) ?_
  refine yf rfl (E1 Ev.const) (fun fr => tof_ct _ _ _) ?_
  refine SR.nil rfl rfl ?_
  refine xG (PO.eqlA Tryz.underlying30 (by kernel_rfl) (by kernel_rfl) Et Et rfl) ?_
  refine xA ?_
  refine WL.nil (meetI [(6, .int .u8 3), (7, .bool (eqT t (tyK 1)))] (h'' := .pt b4 (.cells (cellT zeroT).toArray 30 (0, 0)) :: .pt b3 (.cells (cellT t).toArray 30 (0, 0)) :: h) ?_ (by (repeat (first | exact Sub.nil | refine Sub.cons rfl ?_ | refine Sub.consE rfl (by simp; done) ?_))) Sb ⟨3, eqT t (tyK 1), by unfold resT; rw [if_neg (by omega), if_neg (by omega), if_neg (by omega), if_pos (by omega)], rfl, rfl⟩)
  (repeat (first | exact Sub.nil | refine Sub.cons rfl ?_ | refine Sub.consE rfl (by simp; done) ?_))
  replace c37 := f_eq c37
  repeat first | refine sk fun K hK => ?_ | refine bk ?_
  refine WC.drawS [1] (.op 0 (.op 1 (.op 2 (.op 3 .nil)))) [4] _ [] mixed (fun _ _ _ _ _ h => h) [] (by kernel_rfl) ?_
  refine yG rfl (pA Tryz.underlying30) ?_
  refine yf rfl (E1 Ev.const) (fun fr => tof_ct _ _ _) ?_
  refine yG rfl (PO.eqlA Tryz.underlying30 (by kernel_rfl) (by kernel_rfl) Et Et rfl) ?_
  refine yG rfl (PO.assign Ev.const) ?_
  refine SR.nil rfl rfl ?_
  refine xA ?_
  refine WL.nil (meetI [(6, .int .u8 1), (7, .bool (eqT t (tyK 1)))] (h'' := .pt b4 (.cells (cellT zeroT).toArray 30 (0, 0)) :: .pt b3 (.cells (cellT t).toArray 30 (0, 0)) :: h) ?_ (by (repeat (first | exact Sub.nil | refine Sub.cons rfl ?_ | refine Sub.consE rfl (by simp; done) ?_))) Sb ⟨1, eqT t (tyK 1), by unfold resT; rw [if_neg (by omega), if_neg (by omega), if_neg (by omega), if_neg (by omega)], rfl, rfl⟩)
  (repeat (first | exact Sub.nil | refine Sub.cons rfl ?_ | refine Sub.consE rfl (by simp; done) ?_))
  replace c30 := f_eq c30
  repeat first | refine sk fun K hK => ?_ | refine bk ?_ | refine rn fun _ => ?_
  refine xG (PO.bin Et Ev.const rfl) ?_
  refine xA ?_
  refine wn [3, 4, 6, 8, 30] ?_
  repeat first | refine sk fun K hK => ?_ | refine bk ?_
  refine wc (fun c30 => ?_) fun c30 => ?_
  replace c30 := t_eq c30
  refine WC.skip (kp [3, 4, 6, 8, 30] ?_)
  repeat first | refine sk fun K hK => ?_ | refine bk ?_
  refine wc (fun c30 => ?_) fun c30 => ?_
  replace c30 := t_eq c30
  repeat first | refine sk fun K hK => ?_ | refine bk ?_
  refine WC.drawS [1] (.op 0 (.op 1 .nil)) [2, 3] _ [] mixed (fun _ _ _ _ _ h => h) [] (by kernel_rfl) ?_
  refine yG rfl (pA Tryz.underlying30) ?_
  refine yf rfl (E1 Ev.const) (fun fr => tof_ct _ _ _) ?_
  refine SR.nil rfl rfl ?_
  refine xG (PO.eqlA Tryz.underlying30 (by kernel_rfl) (by kernel_rfl) Et Et rfl) ?_
  refine xA ?_
  refine WL.nil (meetI [(6, .int .u8 3), (7, .bool (eqT t (tyK 3)))] (h'' := .pt b4 (.cells (cellT zeroT).toArray 30 (0, 0)) :: .pt b3 (.cells (cellT t).toArray 30 (0, 0)) :: h) ?_ (by (repeat (first | exact Sub.nil | refine Sub.cons rfl ?_ | refine Sub.consE rfl (by simp; done) ?_))) Sb ⟨3, eqT t (tyK 3), by unfold resT; rw [if_neg (by omega), if_neg (by omega), if_pos (by omega)], rfl, rfl⟩)
  (repeat (first | exact Sub.nil | refine Sub.cons rfl ?_ | refine Sub.consE rfl (by simp; done) ?_))
  replace c30 := f_eq c30
  repeat first | refine sk fun K hK => ?_ | refine bk ?_ | refine rn fun _ => ?_
  refine xG (PO.bin Et Ev.const rfl) ?_
  refine xA ?_
  refine wn [3, 4, 6, 37] ?_
  repeat first | refine sk fun K hK => ?_ | refine bk ?_
  refine wc (fun c37 => ?_) fun c37 => ?_
  replace c37 := t_eq c37
  repeat first | refine sk fun K hK => ?_ | refine bk ?_
  refine WC.drawS [1] (.op 0 (.op 1 .nil)) [2, 3] _ [] mixed (fun _ _ _ _ _ h => h) [] (by kernel_rfl) ?_
  refine yG rfl (pA Tryz.underlying30) ?_
  refine yf rfl (E1 Ev.const) (fun fr => tof_ct _ _ _) ?_
  refine SR.nil rfl rfl ?_
  refine xG (PO.eqlA Tryz.underlying30 (by kernel_rfl) (by kernel_rfl) Et Et rfl) ?_
  refine xA ?_
  refine WL.nil (meetI [(6, .int .u8 3), (7, .bool (eqT t (tyK 1)))] (h'' := .pt b4 (.cells (cellT zeroT).toArray 30 (0, 0)) :: .pt b3 (.cells (cellT t).toArray 30 (0, 0)) :: h) ?_ (by (repeat (first | exact Sub.nil | refine Sub.cons rfl ?_ | refine Sub.consE rfl (by simp; done) ?_))) Sb ⟨3, eqT t (tyK 1), by unfold resT; rw [if_neg (by omega), if_neg (by omega), if_neg (by omega), if_pos (by omega)], rfl, rfl⟩)
  (repeat (first | exact Sub.nil | refine Sub.cons rfl ?_ | refine Sub.consE rfl (by simp; done) ?_))
  replace c37 := f_eq c37
  repeat first | refine sk fun K hK => ?_ | refine bk ?_
  refine WC.drawS [1] (.op 0 (.op 1 (.op 2 (.op 3 .nil)))) [4] _ [] mixed (fun _ _ _ _ _ h => h) [] (by kernel_rfl) ?_
  refine yG rfl (pA Tryz.underlying30) ?_
  refine yf rfl (E1 Ev.const) (fun fr => tof_ct _ _ _) ?_
  refine yG rfl (PO.eqlA Tryz.underlying30 (by kernel_rfl) (by kernel_rfl) Et Et rfl) ?_
  refine yG rfl (PO.assign Ev.const) ?_
  refine SR.nil rfl rfl ?_
  refine xA ?_
  refine WL.nil (meetI [(6, .int .u8 1), (7, .bool (eqT t (tyK 1)))] (h'' := .pt b4 (.cells (cellT zeroT).toArray 30 (0, 0)) :: .pt b3 (.cells (cellT t).toArray 30 (0, 0)) :: h) ?_ (by (repeat (first | exact Sub.nil | refine Sub.cons rfl ?_ | refine Sub.consE rfl (by simp; done) ?_))) Sb ⟨1, eqT t (tyK 1), by unfold resT; rw [if_neg (by omega), if_neg (by omega), if_neg (by omega), if_neg (by omega)], rfl, rfl⟩)
  (repeat (first | exact Sub.nil | refine Sub.cons rfl ?_ | refine Sub.consE rfl (by simp; done) ?_))
  replace c30 := f_eq c30
  repeat first | refine sk fun K hK => ?_ | refine bk ?_ | refine rn fun _ => ?_
  refine xG (PO.bin Et Ev.const rfl) ?_
  refine xA ?_
  refine wn [3, 4, 6, 8, 30] ?_
  repeat first | refine sk fun K hK => ?_ | refine bk ?_
  refine wc (fun c30 => ?_) fun c30 => ?_
  replace c30 := t_eq c30
  repeat first | refine sk fun K hK => ?_ | refine bk ?_
  refine WC.drawS [1] (.op 0 (.op 1 .nil)) [2, 3] _ [] mixed (fun _ _ _ _ _ h => h) [] (by kernel_rfl) ?_
  refine yG rfl (pA Tryz.underlying30) ?_
  refine yf rfl (E1 Ev.const) (fun fr => tof_ct _ _ _) ?_
  refine SR.nil rfl rfl ?_
  refine xG (PO.eqlA Tryz.underlying30 (by kernel_rfl) (by kernel_rfl) Et Et rfl) ?_
  refine xA ?_
  refine WL.nil (meetI [(6, .int .u8 3), (7, .bool (eqT t (tyK 3)))] (h'' := .pt b4 (.cells (cellT zeroT).toArray 30 (0, 0)) :: .pt b3 (.cells (cellT t).toArray 30 (0, 0)) :: h) ?_ (by (repeat (first | exact Sub.nil | refine Sub.cons rfl ?_ | refine Sub.consE rfl (by simp; done) ?_))) Sb ⟨3, eqT t (tyK 3), by unfold resT; rw [if_neg (by omega), if_neg (by omega), if_pos (by omega)], rfl, rfl⟩)
  (repeat (first | exact Sub.nil | refine Sub.cons rfl ?_ | refine Sub.consE rfl (by simp; done) ?_))
  replace c30 := f_eq c30
  repeat first | refine sk fun K hK => ?_ | refine bk ?_ | refine rn fun _ => ?_
  refine xG (PO.bin Et Ev.const rfl) ?_
  refine xA ?_
  refine wn [3, 4, 6, 37] ?_
  repeat first | refine sk fun K hK => ?_ | refine bk ?_
  refine wc (fun c37 => ?_) fun c37 => ?_
  replace c37 := t_eq c37
  repeat first | refine sk fun K hK => ?_ | refine bk ?_
  refine WC.drawS [1] (.op 0 (.op 1 .nil)) [2, 3] _ [] mixed (fun _ _ _ _ _ h => h) [] (by kernel_rfl) ?_
  refine yG rfl (pA Tryz.underlying30) ?_
  refine yf rfl (E1 Ev.const) (fun fr => tof_ct _ _ _) ?_
  refine SR.nil rfl rfl ?_
  refine xG (PO.eqlA Tryz.underlying30 (by kernel_rfl) (by kernel_rfl) Et Et rfl) ?_
  refine xA ?_
  refine WL.nil (meetI [(6, .int .u8 3), (7, .bool (eqT t (tyK 1)))] (h'' := .pt b4 (.cells (cellT zeroT).toArray 30 (0, 0)) :: .pt b3 (.cells (cellT t).toArray 30 (0, 0)) :: h) ?_ (by (repeat (first | exact Sub.nil | refine Sub.cons rfl ?_ | refine Sub.consE rfl (by simp; done) ?_))) Sb ⟨3, eqT t (tyK 1), by unfold resT; rw [if_neg (by omega), if_neg (by omega), if_neg (by omega), if_pos (by omega)], rfl, rfl⟩)
  (repeat (first | exact Sub.nil | refine Sub.cons rfl ?_ | refine Sub.consE rfl (by simp; done) ?_))
  replace c37 := f_eq c37
  repeat first | refine sk fun K hK => ?_ | refine bk ?_
  refine WC.drawS [1] (.op 0 (.op 1 (.op 2 (.op 3 .nil)))) [4] _ [] mixed (fun _ _ _ _ _ h => h) [] (by kernel_rfl) ?_
  refine yG rfl (pA Tryz.underlying30) ?_
  refine yf rfl (E1 Ev.const) (fun fr => tof_ct _ _ _) ?_
  refine yG rfl (PO.eqlA Tryz.underlying30 (by kernel_rfl) (by kernel_rfl) Et Et rfl) ?_
  refine yG rfl (PO.assign Ev.const) ?_
  refine SR.nil rfl rfl ?_
  refine xA ?_
  refine WL.nil (meetI [(6, .int .u8 1), (7, .bool (eqT t (tyK 1)))] (h'' := .pt b4 (.cells (cellT zeroT).toArray 30 (0, 0)) :: .pt b3 (.cells (cellT t).toArray 30 (0, 0)) :: h) ?_ (by (repeat (first | exact Sub.nil | refine Sub.cons rfl ?_ | refine Sub.consE rfl (by simp; done) ?_))) Sb ⟨1, eqT t (tyK 1), by unfold resT; rw [if_neg (by omega), if_neg (by omega), if_neg (by omega), if_neg (by omega)], rfl, rfl⟩)
  (repeat (first | exact Sub.nil | refine Sub.cons rfl ?_ | refine Sub.consE rfl (by simp; done) ?_))
  replace c17 := f_eq c17
  repeat first | refine sk fun K hK => ?_ | refine bk ?_ | refine rn fun _ => ?_
  refine xG (PO.bin Et Ev.const rfl) ?_
  refine xA ?_
  refine wn [3, 4, 6, 8, 17] ?_
  repeat first | refine sk fun K hK => ?_ | refine bk ?_
  refine wc (fun c17 => ?_) fun c17 => ?_
  replace c17 := t_eq c17
  refine WC.skip (kp [3, 4, 6, 8, 17] ?_)
  repeat first | refine sk fun K hK => ?_ | refine bk ?_
  refine wc (fun c17 => ?_) fun c17 => ?_
  replace c17 := t_eq c17
  repeat first | refine sk fun K hK => ?_ | refine bk ?_
  refine WC.drawS [1, 5] (.op 0 (.op 1 (.op 2 (.op 3 (.op 4 (.op 5 .nil)))))) [6, 7, 8] _ [] mixed (fun _ _ _ _ _ h => h) [] (by kernel_rfl) ?_
  refine yG rfl (pA Tryz.underlying30) ?_
  refine yf rfl (E1 Ev.const) (fun fr => tof_ct _ _ _) ?_
  refine yG rfl (PO.eqlA Tryz.underlying30 (by kernel_rfl) (by kernel_rfl) Et Et rfl) ?_
  refine yG rfl (PO.move Et) ?_
  refine SR.poG rfl rfl (GU.f rfl rfl) (fun hc => PO.loadA Tryz.underlying30 rfl rfl Et Me rfl) (leB rfl) ?_
  refine SR.callG rfl rfl (GU.f rfl rfl) (fun hc => ⟨Ev.func, (Evs.cons Ev.const Evs.nil), fun fr => tof_ct _ _ _⟩) (leB rfl) ?_
  refine SR.nil rfl rfl ?_
  refine WL.poG (GU.f rfl rfl) (fun hc => PO.eqlA Tryz.underlying30 (by kernel_rfl) (by kernel_rfl) (Eg hc) (Eg hc) rfl) (leB rfl) ?_
  refine xQ ?_
  refine xA ?_
  refine WL.nil (meetI [(6, .int .u8 3), (7, .bool (eqT t (tyK 1) || eqT t (tyK 2)))] (h'' := .pt b4 (.cells (cellT zeroT).toArray 30 (0, 0)) :: .pt b3 (.cells (cellT t).toArray 30 (0, 0)) :: h) ?_ (by (repeat (first | exact Sub.nil | refine Sub.cons rfl ?_ | refine Sub.consE rfl (by simp; done) ?_))) Sb ⟨3, eqT t (tyK 1) || eqT t (tyK 2), by unfold resT; rw [if_neg (by omega), if_pos (by omega)], rfl, rfl⟩)
  (repeat (first | exact Sub.nil | refine Sub.cons rfl ?_ | refine Sub.consE rfl (by simp; done) ?_))
  replace c17 := f_eq c17
  repeat first | refine sk fun K hK => ?_ | refine bk ?_ | refine rn fun _ => ?_
  refine xG (PO.bin Et Ev.const rfl) ?_
  refine xA ?_
  refine wn [3, 4, 6, 8, 30] ?_
  repeat first | refine sk fun K hK => ?_ | refine bk ?_
  refine wc (fun c30 => ?_) fun c30 => ?_
  replace c30 := t_eq c30
  refine WC.skip (kp [3, 4, 6, 8, 30] ?_)
  repeat first | refine sk fun K hK => ?_ | refine bk ?_
  refine wc (fun c30 => ?_) fun c30 => ?_
  replace c30 := t_eq c30
  repeat first | refine sk fun K hK => ?_ | refine bk ?_
  refine WC.drawS [1] (.op 0 (.op 1 .nil)) [2, 3] _ [] mixed (fun _ _ _ _ _ h => h) [] (by kernel_rfl) ?_
  refine yG rfl (pA Tryz.underlying30) ?_
  refine yf rfl (E1 Ev.const) (fun fr => tof_ct _ _ _) ?_
  refine SR.nil rfl rfl ?_
  refine xG (PO.eqlA Tryz.underlying30 (by kernel_rfl) (by kernel_rfl) Et Et rfl) ?_
  refine xA ?_
  refine WL.nil (meetI [(6, .int .u8 3), (7, .bool (eqT t (tyK 3)))] (h'' := .pt b4 (.cells (cellT zeroT).toArray 30 (0, 0)) :: .pt b3 (.cells (cellT t).toArray 30 (0, 0)) :: h) ?_ (by (repeat (first | exact Sub.nil | refine Sub.cons rfl ?_ | refine Sub.consE rfl (by simp; done) ?_))) Sb ⟨3, eqT t (tyK 3), by unfold resT; rw [if_neg (by omega), if_neg (by omega), if_pos (by omega)], rfl, rfl⟩)
  (repeat (first | exact Sub.nil | refine Sub.cons rfl ?_ | refine Sub.consE rfl (by simp; done) ?_))
  replace c30 := f_eq c30
  repeat first | refine sk fun K hK => ?_ | refine bk ?_ | refine rn fun _ => ?_
  refine xG (PO.bin Et Ev.const rfl) ?_
  refine xA ?_
  refine wn [3, 4, 6, 37] ?_
  repeat first | refine sk fun K hK => ?_ | refine bk ?_
  refine wc (fun c37 => ?_) fun c37 => ?_
  replace c37 := t_eq c37
  repeat first | refine sk fun K hK => ?_ | refine bk ?_
  refine WC.drawS [1] (.op 0 (.op 1 .nil)) [2, 3] _ [] mixed (fun _ _ _ _ _ h => h) [] (by kernel_rfl) ?_
  refine yG rfl (pA Tryz.underlying30) ?_
  refine yf rfl (E1 Ev.const) (fun fr => tof_ct _ _ _) ?_
  refine SR.nil rfl rfl ?_
  refine xG (PO.eqlA Tryz.underlying30 (by kernel_rfl) (by kernel_rfl) Et Et rfl) ?_
  refine xA ?_
  refine WL.nil (meetI [(6, .int .u8 3), (7, .bool (eqT t (tyK 1)))] (h'' := .pt b4 (.cells (cellT zeroT).toArray 30 (0, 0)) :: .pt b3 (.cells (cellT t).toArray 30 (0, 0)) :: h) ?_ (by (repeat (first | exact Sub.nil | refine Sub.cons rfl ?_ | refine Sub.consE rfl (by simp; done) ?_))) Sb ⟨3, eqT t (tyK 1), by unfold resT; rw [if_neg (by omega), if_neg (by omega), if_neg (by omega), if_pos (by omega)], rfl, rfl⟩)
  (repeat (first | exact Sub.nil | refine Sub.cons rfl ?_ | refine Sub.consE rfl (by simp; done) ?_))
  replace c37 := f_eq c37
  repeat first | refine sk fun K hK => ?_ | refine bk ?_
  refine WC.drawS [1] (.op 0 (.op 1 (.op 2 (.op 3 .nil)))) [4] _ [] mixed (fun _ _ _ _ _ h => h) [] (by kernel_rfl) ?_
  refine yG rfl (pA Tryz.underlying30) ?_
  refine yf rfl (E1 Ev.const) (fun fr => tof_ct _ _ _) ?_
  refine yG rfl (PO.eqlA Tryz.underlying30 (by kernel_rfl) (by kernel_rfl) Et Et rfl) ?_
  refine yG rfl (PO.assign Ev.const) ?_
  refine SR.nil rfl rfl ?_
  refine xA ?_
  refine WL.nil (meetI [(6, .int .u8 1), (7, .bool (eqT t (tyK 1)))] (h'' := .pt b4 (.cells (cellT zeroT).toArray 30 (0, 0)) :: .pt b3 (.cells (cellT t).toArray 30 (0, 0)) :: h) ?_ (by (repeat (first | exact Sub.nil | refine Sub.cons rfl ?_ | refine Sub.consE rfl (by simp; done) ?_))) Sb ⟨1, eqT t (tyK 1), by unfold resT; rw [if_neg (by omega), if_neg (by omega), if_neg (by omega), if_neg (by omega)], rfl, rfl⟩)
  (repeat (first | exact Sub.nil | refine Sub.cons rfl ?_ | refine Sub.consE rfl (by simp; done) ?_))
  replace c30 := f_eq c30
  repeat first | refine sk fun K hK => ?_ | refine bk ?_ | refine rn fun _ => ?_
  refine xG (PO.bin Et Ev.const rfl) ?_
  refine xA ?_
  refine wn [3, 4, 6, 8, 30] ?_
  repeat first | refine sk fun K hK => ?_ | refine bk ?_
  refine wc (fun c30 => ?_) fun c30 => ?_
  replace c30 := t_eq c30
  refine WC.skip (kp [3, 4, 6, 8, 30] ?_)
  repeat first | refine sk fun K hK => ?_ | refine bk ?_
  refine wc (fun c30 => ?_) fun c30 => ?_
  replace c30 := t_eq c30
  repeat first | refine sk fun K hK => ?_ | refine bk ?_
  refine WC.drawS [1] (.op 0 (.op 1 .nil)) [2, 3] _ [] mixed (fun _ _ _ _ _ h => h) [] (by kernel_rfl) ?_
  refine yG rfl (pA Tryz.underlying30) ?_
  refine yf rfl (E1 Ev.const) (fun fr => tof_ct _ _ _) ?_
  refine SR.nil rfl rfl ?_
  refine xG (PO.eqlA Tryz.underlying30 (by kernel_rfl) (by kernel_rfl) Et Et rfl) ?_
  refine xA ?_
  refine WL.nil (meetI [(6, .int .u8 3), (7, .bool (eqT t (tyK 3)))] (h'' := .pt b4 (.cells (cellT zeroT).toArray 30 (0, 0)) :: .pt b3 (.cells (cellT t).toArray 30 (0, 0)) :: h) ?_ (by (repeat (first | exact Sub.nil | refine Sub.cons rfl ?_ | refine Sub.consE rfl (by simp; done) ?_))) Sb ⟨3, eqT t (tyK 3), by unfold resT; rw [if_neg (by omega), if_neg (by omega), if_pos (by omega)], rfl, rfl⟩)
  (repeat (first | exact Sub.nil | refine Sub.cons rfl ?_ | refine Sub.consE rfl (by simp; done) ?_))
  replace c30 := f_eq c30
  repeat first | refine sk fun K hK => ?_ | refine bk ?_ | refine rn fun _ => ?_
  refine xG (PO.bin Et Ev.const rfl) ?_
  refine xA ?_
  refine wn [3, 4, 6, 37] ?_
  repeat first | refine sk fun K hK => ?_ | refine bk ?_
  refine wc (fun c37 => ?_) fun c37 => ?_
  replace c37 := t_eq c37
  repeat first | refine sk fun K hK => ?_ | refine bk ?_
  refine WC.drawS [1] (.op 0 (.op 1 .nil)) [2, 3] _ [] mixed (fun _ _ _ _ _ h => h) [] (by kernel_rfl) ?_
  refine yG rfl (pA Tryz.underlying30) ?_
  refine yf rfl (E1 Ev.const) (fun fr => tof_ct _ _ _) ?_
  refine SR.nil rfl rfl ?_
  refine xG (PO.eqlA Tryz.underlying30 (by kernel_rfl) (by kernel_rfl) Et Et rfl) ?_
  refine xA ?_
  refine WL.nil (meetI [(6, .int .u8 3), (7, .bool (eqT t (tyK 1)))] (h'' := .pt b4 (.cells (cellT zeroT).toArray 30 (0, 0)) :: .pt b3 (.cells (cellT t).toArray 30 (0, 0)) :: h) ?_ (by (repeat (first | exact Sub.nil | refine Sub.cons rfl ?_ | refine Sub.consE rfl (by simp; done) ?_))) Sb ⟨3, eqT t (tyK 1), by unfold resT; rw [if_neg (by omega), if_neg (by omega), if_neg (by omega), if_pos (by omega)], rfl, rfl⟩)
  (repeat (first | exact Sub.nil | refine Sub.cons rfl ?_ | refine Sub.consE rfl (by simp; done) ?_))
  replace c37 := f_eq c37
  repeat first | refine sk fun K hK => ?_ | refine bk ?_
  refine WC.drawS [1] (.op 0 (.op 1 (.op 2 (.op 3 .nil)))) [4] _ [] mixed (fun _ _ _ _ _ h => h) [] (by kernel_rfl) ?_
  refine yG rfl (pA Tryz.underlying30) ?_
  refine yf rfl (E1 Ev.const) (fun fr => tof_ct _ _ _) ?_
  refine yG rfl (PO.eqlA Tryz.underlying30 (by kernel_rfl) (by kernel_rfl) Et Et rfl) ?_
  refine yG rfl (PO.assign Ev.const) ?_
  refine SR.nil rfl rfl ?_
  refine xA ?_
  refine WL.nil (meetI [(6, .int .u8 1), (7, .bool (eqT t (tyK 1)))] (h'' := .pt b4 (.cells (cellT zeroT).toArray 30 (0, 0)) :: .pt b3 (.cells (cellT t).toArray 30 (0, 0)) :: h) ?_ (by (repeat (first | exact Sub.nil | refine Sub.cons rfl ?_ | refine Sub.consE rfl (by simp; done) ?_))) Sb ⟨1, eqT t (tyK 1), by unfold resT; rw [if_neg (by omega), if_neg (by omega), if_neg (by omega), if_neg (by omega)], rfl, rfl⟩)
  (repeat (first | exact Sub.nil | refine Sub.cons rfl ?_ | refine Sub.consE rfl (by simp; done) ?_))
  replace c30 := f_eq c30
  repeat first | refine sk fun K hK => ?_ | refine bk ?_ | refine rn fun _ => ?_
  refine xG (PO.bin Et Ev.const rfl) ?_
  refine xA ?_
  refine wn [3, 4, 6, 8, 30] ?_
  repeat first | refine sk fun K hK => ?_ | refine bk ?_
  refine wc (fun c30 => ?_) fun c30 => ?_
  replace c30 := t_eq c30
  repeat first | refine sk fun K hK => ?_ | refine bk ?_
  refine WC.drawS [1] (.op 0 (.op 1 .nil)) [2, 3] _ [] mixed (fun _ _ _ _ _ h => h) [] (by kernel_rfl) ?_
  refine yG rfl (pA Tryz.underlying30) ?_
  refine yf rfl (E1 Ev.const) (fun fr => tof_ct _ _ _) ?_
  refine SR.nil rfl rfl ?_
  refine xG (PO.eqlA Tryz.underlying30 (by kernel_rfl) (by kernel_rfl) Et Et rfl) ?_
  refine xA ?_
  refine WL.nil (meetI [(6, .int .u8 3), (7, .bool (eqT t (tyK 3)))] (h'' := .pt b4 (.cells (cellT zeroT).toArray 30 (0, 0)) :: .pt b3 (.cells (cellT t).toArray 30 (0, 0)) :: h) ?_ (by (repeat (first | exact Sub.nil | refine Sub.cons rfl ?_ | refine Sub.consE rfl (by simp; done) ?_))) Sb ⟨3, eqT t (tyK 3), by unfold resT; rw [if_neg (by omega), if_neg (by omega), if_pos (by omega)], rfl, rfl⟩)
  (repeat (first | exact Sub.nil | refine Sub.cons rfl ?_ | refine Sub.consE rfl (by simp; done) ?_))
  replace c30 := f_eq c30
  repeat first | refine sk fun K hK => ?_ | refine bk ?_ | refine rn fun _ => ?_
  refine xG (PO.bin Et Ev.const rfl) ?_
  refine xA ?_
  refine wn [3, 4, 6, 37] ?_
  repeat first | refine sk fun K hK => ?_ | refine bk ?_
  refine wc (fun c37 => ?_) fun c37 => ?_
  replace c37 := t_eq c37
  repeat first | refine sk fun K hK => ?_ | refine bk ?_
  refine WC.drawS [1] (.op 0 (.op 1 .nil)) [2, 3] _ [] mixed (fun _ _ _ _ _ h => h) [] (by kernel_rfl) ?_
  refine yG rfl (pA Tryz.underlying30) ?_
  refine yf rfl (E1 Ev.const) (fun fr => tof_ct _ _ _) ?_
  refine SR.nil rfl rfl ?_
  refine xG (PO.eqlA Tryz.underlying30 (by kernel_rfl) (by kernel_rfl) Et Et rfl) ?_
  refine xA ?_
  refine WL.nil (meetI [(6, .int .u8 3), (7, .bool (eqT t (tyK 1)))] (h'' := .pt b4 (.cells (cellT zeroT).toArray 30 (0, 0)) :: .pt b3 (.cells (cellT t).toArray 30 (0, 0)) :: h) ?_ (by (repeat (first | exact Sub.nil | refine Sub.cons rfl ?_ | refine Sub.consE rfl (by simp; done) ?_))) Sb ⟨3, eqT t (tyK 1), by unfold resT; rw [if_neg (by omega), if_neg (by omega), if_neg (by omega), if_pos (by omega)], rfl, rfl⟩)
  (repeat (first | exact Sub.nil | refine Sub.cons rfl ?_ | refine Sub.consE rfl (by simp; done) ?_))
  replace c37 := f_eq c37
  repeat first | refine sk fun K hK => ?_ | refine bk ?_
  refine WC.drawS [1] (.op 0 (.op 1 (.op 2 (.op 3 .nil)))) [4] _ [] mixed (fun _ _ _ _ _ h => h) [] (by kernel_rfl) ?_
  refine yG rfl (pA Tryz.underlying30) ?_
  refine yf rfl (E1 Ev.const) (fun fr => tof_ct _ _ _) ?_
  refine yG rfl (PO.eqlA Tryz.underlying30 (by kernel_rfl) (by kernel_rfl) Et Et rfl) ?_
  refine yG rfl (PO.assign Ev.const) ?_
  refine SR.nil rfl rfl ?_
  refine xA ?_
  refine WL.nil (meetI [(6, .int .u8 1), (7, .bool (eqT t (tyK 1)))] (h'' := .pt b4 (.cells (cellT zeroT).toArray 30 (0, 0)) :: .pt b3 (.cells (cellT t).toArray 30 (0, 0)) :: h) ?_ (by (repeat (first | exact Sub.nil | refine Sub.cons rfl ?_ | refine Sub.consE rfl (by simp; done) ?_))) Sb ⟨1, eqT t (tyK 1), by unfold resT; rw [if_neg (by omega), if_neg (by omega), if_neg (by omega), if_neg (by omega)], rfl, rfl⟩)
  (repeat (first | exact Sub.nil | refine Sub.cons rfl ?_ | refine Sub.consE rfl (by simp; done) ?_))
  replace c17 := f_eq c17
  repeat first | refine sk fun K hK => ?_ | refine bk ?_ | refine rn fun _ => ?_
  refine xG (PO.bin Et Ev.const rfl) ?_
  refine xA ?_
  refine wn [3, 4, 6, 8, 17] ?_
  repeat first | refine sk fun K hK => ?_ | refine bk ?_
  refine wc (fun c17 => ?_) fun c17 => ?_
  replace c17 := t_eq c17
  refine WC.skip (kp [3, 4, 6, 8, 17] ?_)
  repeat first | refine sk fun K hK => ?_ | refine bk ?_
  refine wc (fun c17 => ?_) fun c17 => ?_
  replace c17 := t_eq c17
  repeat first | refine sk fun K hK => ?_ | refine bk ?_
  refine WC.drawS [1, 5] (.op 0 (.op 1 (.op 2 (.op 3 (.op 4 (.op 5 .nil)))))) [6, 7, 8] _ [] mixed (fun _ _ _ _ _ h => h) [] (by kernel_rfl) ?_
  refine yG rfl (pA Tryz.underlying30) ?_
  refine yf rfl (E1 Ev.const) (fun fr => tof_ct _ _ _) ?_
  refine yG rfl (PO.eqlA Tryz.underlying30 (by kernel_rfl) (by kernel_rfl) Et Et rfl) ?_
  refine yG rfl (PO.move Et) ?_
  refine SR.poG rfl rfl (GU.f rfl rfl) (fun hc => PO.loadA Tryz.underlying30 rfl rfl Et Me rfl) (leB rfl) ?_
  refine SR.callG rfl rfl (GU.f rfl rfl) (fun hc => ⟨Ev.func, (Evs.cons Ev.const Evs.nil), fun fr => tof_ct _ _ _⟩) (leB rfl) ?_
  refine SR.nil rfl rfl ?_
  refine WL.poG (GU.f rfl rfl) (fun hc => PO.eqlA Tryz.underlying30 (by kernel_rfl) (by kernel_rfl) (Eg hc) (Eg hc) rfl) (leB rfl) ?_
  refine xQ ?_
  refine xA ?_
  refine WL.nil (meetI [(6, .int .u8 3), (7, .bool (eqT t (tyK 1) || eqT t (tyK 2)))] (h'' := .pt b4 (.cells (cellT zeroT).toArray 30 (0, 0)) :: .pt b3 (.cells (cellT t).toArray 30 (0, 0)) :: h) ?_ (by (repeat (first | exact Sub.nil | refine Sub.cons rfl ?_ | refine Sub.consE rfl (by simp; done) ?_))) Sb ⟨3, eqT t (tyK 1) || eqT t (tyK 2), by unfold resT; rw [if_neg (by omega), if_pos (by omega)], rfl, rfl⟩)
  (repeat (first | exact Sub.nil | refine Sub.cons rfl ?_ | refine Sub.consE rfl (by simp; done) ?_))
  replace c17 := f_eq c17
  repeat first | refine sk fun K hK => ?_ | refine bk ?_ | refine rn fun _ => ?_
  refine xG (PO.bin Et Ev.const rfl) ?_
  refine xA ?_
  refine wn [3, 4, 6, 8, 30] ?_
  repeat first | refine sk fun K hK => ?_ | refine bk ?_
  refine wc (fun c30 => ?_) fun c30 => ?_
  replace c30 := t_eq c30
  refine WC.skip (kp [3, 4, 6, 8, 30] ?_)
  repeat first | refine sk fun K hK => ?_ | refine bk ?_
  refine wc (fun c30 => ?_) fun c30 => ?_
  replace c30 := t_eq c30
  repeat first | refine sk fun K hK => ?_ | refine bk ?_
  refine WC.drawS [1] (.op 0 (.op 1 .nil)) [2, 3] _ [] mixed (fun _ _ _ _ _ h => h) [] (by kernel_rfl) ?_
  refine yG rfl (pA Tryz.underlying30) ?_
  refine yf rfl (E1 Ev.const) (fun fr => tof_ct _ _ _) ?_
  refine SR.nil rfl rfl ?_
  refine xG (PO.eqlA Tryz.underlying30 (by kernel_rfl) (by kernel_rfl) Et Et rfl) ?_
  refine xA ?_
  refine WL.nil (meetI [(6, .int .u8 3), (7, .bool (eqT t (tyK 3)))] (h'' := .pt b4 (.cells (cellT zeroT).toArray 30 (0, 0)) :: .pt b3 (.cells (cellT t).toArray 30 (0, 0)) :: h) ?_ (by (repeat (first | exact Sub.nil | refine Sub.cons rfl ?_ | refine Sub.consE rfl (by simp; done) ?_))) Sb ⟨3, eqT t (tyK 3), by unfold resT; rw [if_neg (by omega), if_neg (by omega), if_pos (by omega)], rfl, rfl⟩)
  (repeat (first | exact Sub.nil | refine Sub.cons rfl ?_ | refine Sub.consE rfl (by simp; done) ?_))
  replace c30 := f_eq c30
  repeat first | refine sk fun K hK => ?_ | refine bk ?_ | refine rn fun _ => ?_
  refine xG (PO.bin Et Ev.const rfl) ?_
  refine xA ?_
  refine wn [3, 4, 6, 37] ?_
  repeat first | refine sk fun K hK => ?_ | refine bk ?_
  refine wc (fun c37 => ?_) fun c37 => ?_
  replace c37 := t_eq c37
  repeat first | refine sk fun K hK => ?_ | refine bk ?_
  refine WC.drawS [1] (.op 0 (.op 1 .nil)) [2, 3] _ [] mixed (fun _ _ _ _ _ h => h) [] (by kernel_rfl) ?_
  refine yG rfl (pA Tryz.underlying30) ?_
  refine yf rfl (E1 Ev.const) (fun fr => tof_ct _ _ _) ?_
  refine SR.nil rfl rfl ?_
  refine xG (PO.eqlA Tryz.underlying30 (by kernel_rfl) (by kernel_rfl) Et Et rfl) ?_
  refine xA ?_
  refine WL.nil (meetI [(6, .int .u8 3), (7, .bool (eqT t (tyK 1)))] (h'' := .pt b4 (.cells (cellT zeroT).toArray 30 (0, 0)) :: .pt b3 (.cells (cellT t).toArray 30 (0, 0)) :: h) ?_ (by (repeat (first | exact Sub.nil | refine Sub.cons rfl ?_ | refine Sub.consE rfl (by simp; done) ?_))) Sb ⟨3, eqT t (tyK 1), by unfold resT; rw [if_neg (by omega), if_neg (by omega), if_neg (by omega), if_pos (by omega)], rfl, rfl⟩)
  (repeat (first | exact Sub.nil | refine Sub.cons rfl ?_ | refine Sub.consE rfl (by simp; done) ?_))
  replace c37 := f_eq c37
  repeat first | refine sk fun K hK => ?_ | refine bk ?_
  refine WC.drawS [1] (.op 0 (.op 1 (.op 2 (.op 3 .nil)))) [4] _ [] mixed (fun _ _ _ _ _ h => h) [] (by kernel_rfl) ?_
  refine yG rfl (pA Tryz.underlying30) ?_
  refine yf rfl (E1 Ev.const) (fun fr => tof_ct _ _ _) ?_
  refine yG rfl (PO.eqlA Tryz.underlying30 (by kernel_rfl) (by kernel_rfl) Et Et rfl) ?_
  refine yG rfl (PO.assign Ev.const) ?_
  refine SR.nil rfl rfl ?_
  refine xA ?_
  refine WL.nil (meetI [(6, .int .u8 1), (7, .bool (eqT t (tyK 1)))] (h'' := .pt b4 (.cells (cellT zeroT).toArray 30 (0, 0)) :: .pt b3 (.cells (cellT t).toArray 30 (0, 0)) :: h) ?_ (by (repeat (first | exact Sub.nil | refine Sub.cons rfl ?_ | refine Sub.consE rfl (by simp; done) ?_))) Sb ⟨1, eqT t (tyK 1), by unfold resT; rw [if_neg (by omega), if_neg (by omega), if_neg (by omega), if_neg (by omega)], rfl, rfl⟩)
  (repeat (first | exact Sub.nil | refine Sub.cons rfl ?_ | refine Sub.consE rfl (by simp; done) ?_))
  replace c30 := f_eq c30
  repeat first | refine sk fun K hK => ?_ | refine bk ?_ | refine rn fun _ => ?_
  refine xG (PO.bin Et Ev.const rfl) ?_
  refine xA ?_
  refine wn [3, 4, 6, 8, 30] ?_
  repeat first | refine sk fun K hK => ?_ | refine bk ?_
  refine wc (fun c30 => ?_) fun c30 => ?_
  replace c30 := t_eq c30
  refine WC.skip (kp [3, 4, 6, 8, 30] ?_)
  repeat first | refine sk fun K hK => ?_ | refine bk ?_
  refine wc (fun c30 => ?_) fun c30 => ?_
  replace c30 := t_eq c30
  repeat first | refine sk fun K hK => ?_ | refine bk ?_
  refine WC.drawS [1] (.op 0 (.op 1 .nil)) [2, 3] _ [] mixed (fun _ _ _ _ _ h => h) [] (by kernel_rfl) ?_
  refine yG rfl (pA Tryz.underlying30) ?_
  refine yf rfl (E1 Ev.const) (fun fr => tof_ct _ _ _) ?_
  refine SR.nil rfl rfl ?_
  refine xG (PO.eqlA Tryz.underlying30 (by kernel_rfl) (by kernel_rfl) Et Et rfl) ?_
  refine xA ?_
  refine WL.nil (meetI [(6, .int .u8 3), (7, .bool (eqT t (tyK 3)))] (h'' := .pt b4 (.cells (cellT zeroT).toArray 30 (0, 0)) :: .pt b3 (.cells (cellT t).toArray 30 (0, 0)) :: h) ?_ (by (repeat (first | exact Sub.nil | refine Sub.cons rfl ?_ | refine Sub.consE rfl (by simp; done) ?_))) Sb ⟨3, eqT t (tyK 3), by unfold resT; rw [if_neg (by omega), if_neg (by omega), if_pos (by omega)], rfl, rfl⟩)
  (repeat (first | exact Sub.nil | refine Sub.cons rfl ?_ | refine Sub.consE rfl (by simp; done) ?_))
  replace c30 := f_eq c30
  repeat first | refine sk fun K hK => ?_ | refine bk ?_ | refine rn fun _ => ?_
  refine xG (PO.bin Et Ev.const rfl) ?_
  refine xA ?_
  refine wn [3, 4, 6, 37] ?_
  repeat first | refine sk fun K hK => ?_ | refine bk ?_
  refine wc (fun c37 => ?_) fun c37 => ?_
  replace c37 := t_eq c37
  repeat first | refine sk fun K hK => ?_ | refine bk ?_
  refine WC.drawS [1] (.op 0 (.op 1 .nil)) [2, 3] _ [] mixed (fun _ _ _ _ _ h => h) [] (by kernel_rfl) ?_
  refine yG rfl (pA Tryz.underlying30) ?_
  refine yf rfl (E1 Ev.const) (fun fr => tof_ct _ _ _) ?_
  refine SR.nil rfl rfl ?_
  refine xG (PO.eqlA Tryz.underlying30 (by kernel_rfl) (by kernel_rfl) Et Et rfl) ?_
  refine xA ?_
  refine WL.nil (meetI [(6, .int .u8 3), (7, .bool (eqT t (tyK 1)))] (h'' := .pt b4 (.cells (cellT zeroT).toArray 30 (0, 0)) :: .pt b3 (.cells (cellT t).toArray 30 (0, 0)) :: h) ?_ (by (repeat (first | exact Sub.nil | refine Sub.cons rfl ?_ | refine Sub.consE rfl (by simp; done) ?_))) Sb ⟨3, eqT t (tyK 1), by unfold resT; rw [if_neg (by omega), if_neg (by omega), if_neg (by omega), if_pos (by omega)], rfl, rfl⟩)
  (repeat (first | exact Sub.nil | refine Sub.cons rfl ?_ | refine Sub.consE rfl (by simp; done) ?_))
  replace c37 := f_eq c37
  repeat first | refine sk fun K hK => ?_ | refine bk ?_
  refine WC.drawS [1] (.op 0 (.op 1 (.op 2 (.op 3 .nil)))) [4] _ [] mixed (fun _ _ _ _ _ h => h) [] (by kernel_rfl) ?_
  refine yG rfl (pA Tryz.underlying30) ?_
  refine yf rfl (E1 Ev.const) (fun fr => tof_ct _ _ _) ?_
  refine yG rfl (PO.eqlA Tryz.underlying30 (by kernel_rfl) (by kernel_rfl) Et Et rfl) ?_
  refine yG rfl (PO.assign Ev.const) ?_
  refine SR.nil rfl rfl ?_
  refine xA ?_
  refine WL.nil (meetI [(6, .int .u8 1), (7, .bool (eqT t (tyK 1)))] (h'' := .pt b4 (.cells (cellT zeroT).toArray 30 (0, 0)) :: .pt b3 (.cells (cellT t).toArray 30 (0, 0)) :: h) ?_ (by (repeat (first | exact Sub.nil | refine Sub.cons rfl ?_ | refine Sub.consE rfl (by simp; done) ?_))) Sb ⟨1, eqT t (tyK 1), by unfold resT; rw [if_neg (by omega), if_neg (by omega), if_neg (by omega), if_neg (by omega)], rfl, rfl⟩)
  (repeat (first | exact Sub.nil | refine Sub.cons rfl ?_ | refine Sub.consE rfl (by simp; done) ?_))
  replace c30 := f_eq c30
  repeat first | refine sk fun K hK => ?_ | refine bk ?_ | refine rn fun _ => ?_
  refine xG (PO.bin Et Ev.const rfl) ?_
  refine xA ?_
  refine wn [3, 4, 6, 8, 30] ?_
  repeat first | refine sk fun K hK => ?_ | refine bk ?_
  refine wc (fun c30 => ?_) fun c30 => ?_
  replace c30 := t_eq c30
  repeat first | refine sk fun K hK => ?_ | refine bk ?_
  refine WC.drawS [1] (.op 0 (.op 1 .nil)) [2, 3] _ [] mixed (fun _ _ _ _ _ h => h) [] (by kernel_rfl) ?_
  refine yG rfl (pA Tryz.underlying30) ?_
  refine yf rfl (E1 Ev.const) (fun fr => tof_ct _ _ _) ?_
  refine SR.nil rfl rfl ?_
  refine xG (PO.eqlA Tryz.underlying30 (by kernel_rfl) (by kernel_rfl) Et Et rfl) ?_
  refine xA ?_
  refine WL.nil (meetI [(6, .int .u8 3), (7, .bool (eqT t (tyK 3)))] (h'' := .pt b4 (.cells (cellT zeroT).toArray 30 (0, 0)) :: .pt b3 (.cells (cellT t).toArray 30 (0, 0)) :: h) ?_ (by (repeat (first | exact Sub.nil | refine Sub.cons rfl ?_ | refine Sub.consE rfl (by simp; done) ?_))) Sb ⟨3, eqT t (tyK 3), by unfold resT; rw [if_neg (by omega), if_neg (by omega), if_pos (by omega)], rfl, rfl⟩)
  (repeat (first | exact Sub.nil | refine Sub.cons rfl ?_ | refine Sub.consE rfl (by simp; done) ?_))
  replace c30 := f_eq c30
  repeat first | refine sk fun K hK => ?_ | refine bk ?_ | refine rn fun _ => ?_
  refine xG (PO.bin Et Ev.const rfl) ?_
  refine xA ?_
  refine wn [3, 4, 6, 37] ?_
  repeat first | refine sk fun K hK => ?_ | refine bk ?_
  refine wc (fun c37 => ?_) fun c37 => ?_
  replace c37 := t_eq c37
  repeat first | refine sk fun K hK => ?_ | refine bk ?_
  refine WC.drawS [1] (.op 0 (.op 1 .nil)) [2, 3] _ [] mixed (fun _ _ _ _ _ h => h) [] (by kernel_rfl) ?_
  refine yG rfl (pA Tryz.underlying30) ?_
  refine yf rfl (E1 Ev.const) (fun fr => tof_ct _ _ _) ?_
  refine SR.nil rfl rfl ?_
  refine xG (PO.eqlA Tryz.underlying30 (by kernel_rfl) (by kernel_rfl) Et Et rfl) ?_
  refine xA ?_
  refine WL.nil (meetI [(6, .int .u8 3), (7, .bool (eqT t (tyK 1)))] (h'' := .pt b4 (.cells (cellT zeroT).toArray 30 (0, 0)) :: .pt b3 (.cells (cellT t).toArray 30 (0, 0)) :: h) ?_ (by (repeat (first | exact Sub.nil | refine Sub.cons rfl ?_ | refine Sub.consE rfl (by simp; done) ?_))) Sb ⟨3, eqT t (tyK 1), by unfold resT; rw [if_neg (by omega), if_neg (by omega), if_neg (by omega), if_pos (by omega)], rfl, rfl⟩)
  (repeat (first | exact Sub.nil | refine Sub.cons rfl ?_ | refine Sub.consE rfl (by simp; done) ?_))
  replace c37 := f_eq c37
  repeat first | refine sk fun K hK => ?_ | refine bk ?_
  refine WC.drawS [1] (.op 0 (.op 1 (.op 2 (.op 3 .nil)))) [4] _ [] mixed (fun _ _ _ _ _ h => h) [] (by kernel_rfl) ?_
  refine yG rfl (pA Tryz.underlying30) ?_
  refine yf rfl (E1 Ev.const) (fun fr => tof_ct _ _ _) ?_
  refine yG rfl (PO.eqlA Tryz.underlying30 (by kernel_rfl) (by kernel_rfl) Et Et rfl) ?_
  refine yG rfl (PO.assign Ev.const) ?_
  refine SR.nil rfl rfl ?_
  refine xA ?_
  refine WL.nil (meetI [(6, .int .u8 1), (7, .bool (eqT t (tyK 1)))] (h'' := .pt b4 (.cells (cellT zeroT).toArray 30 (0, 0)) :: .pt b3 (.cells (cellT t).toArray 30 (0, 0)) :: h) ?_ (by (repeat (first | exact Sub.nil | refine Sub.cons rfl ?_ | refine Sub.consE rfl (by simp; done) ?_))) Sb ⟨1, eqT t (tyK 1), by unfold resT; rw [if_neg (by omega), if_neg (by omega), if_neg (by omega), if_neg (by omega)], rfl, rfl⟩)
  (repeat (first | exact Sub.nil | refine Sub.cons rfl ?_ | refine Sub.consE rfl (by simp; done) ?_))
  replace c17 := f_eq c17
  repeat first | refine sk fun K hK => ?_ | refine bk ?_ | refine rn fun _ => ?_
  refine xG (PO.bin Et Ev.const rfl) ?_
  refine xA ?_
  refine wn [3, 4, 6, 8, 17] ?_
  repeat first | refine sk fun K hK => ?_ | refine bk ?_
  refine wc (fun c17 => ?_) fun c17 => ?_
  replace c17 := t_eq c17
  repeat first | refine sk fun K hK => ?_ | refine bk ?_
  refine WC.drawS [1, 5] (.op 0 (.op 1 (.op 2 (.op 3 (.op 4 (.op 5 .nil)))))) [6, 7, 8] _ [] mixed (fun _ _ _ _ _ h => h) [] (by kernel_rfl) ?_
  refine yG rfl (pA Tryz.underlying30) ?_
  refine yf rfl (E1 Ev.const) (fun fr => tof_ct _ _ _) ?_
  refine yG rfl (PO.eqlA Tryz.underlying30 (by kernel_rfl) (by kernel_rfl) Et Et rfl) ?_
  refine yG rfl (PO.move Et) ?_
  refine SR.poG rfl rfl (GU.f rfl rfl) (fun hc => PO.loadA Tryz.underlying30 rfl rfl Et Me rfl) (leB rfl) ?_
  refine SR.callG rfl rfl (GU.f rfl rfl) (fun hc => ⟨Ev.func, (Evs.cons Ev.const Evs.nil), fun fr => tof_ct _ _ _⟩) (leB rfl) ?_
  refine SR.nil rfl rfl ?_
  refine WL.poG (GU.f rfl rfl) (fun hc => PO.eqlA Tryz.underlying30 (by kernel_rfl) (by kernel_rfl) (Eg hc) (Eg hc) rfl) (leB rfl) ?_
  refine xQ ?_
  refine xA ?_
  refine WL.nil (meetI [(6, .int .u8 3), (7, .bool (eqT t (tyK 1) || eqT t (tyK 2)))] (h'' := .pt b4 (.cells (cellT zeroT).toArray 30 (0, 0)) :: .pt b3 (.cells (cellT t).toArray 30 (0, 0)) :: h) ?_ (by (repeat (first | exact Sub.nil | refine Sub.cons rfl ?_ | refine Sub.consE rfl (by simp; done) ?_))) Sb ⟨3, eqT t (tyK 1) || eqT t (tyK 2), by unfold resT; rw [if_neg (by omega), if_pos (by omega)], rfl, rfl⟩)
  (repeat (first | exact Sub.nil | refine Sub.cons rfl ?_ | refine Sub.consE rfl (by simp; done) ?_))
  replace c17 := f_eq c17
  repeat first | refine sk fun K hK => ?_ | refine bk ?_ | refine rn fun _ => ?_
  refine xG (PO.bin Et Ev.const rfl) ?_
  refine xA ?_
  refine wn [3, 4, 6, 8, 30] ?_
  repeat first | refine sk fun K hK => ?_ | refine bk ?_
  refine wc (fun c30 => ?_) fun c30 => ?_
  replace c30 := t_eq c30
  refine WC.skip (kp [3, 4, 6, 8, 30] ?_)
  repeat first | refine sk fun K hK => ?_ | refine bk ?_
  refine wc (fun c30 => ?_) fun c30 => ?_
  replace c30 := t_eq c30
  repeat first | refine sk fun K hK => ?_ | refine bk ?_
  refine WC.drawS [1] (.op 0 (.op 1 .nil)) [2, 3] _ [] mixed (fun _ _ _ _ _ h => h) [] (by kernel_rfl) ?_
  refine yG rfl (pA Tryz.underlying30) ?_
  refine yf rfl (E1 Ev.const) (fun fr => tof_ct _ _ _) ?_
  refine SR.nil rfl rfl ?_
  refine xG (PO.eqlA Tryz.underlying30 (by kernel_rfl) (by kernel_rfl) Et Et rfl) ?_
  refine xA ?_
  refine WL.nil (meetI [(6, .int .u8 3), (7, .bool (eqT t (tyK 3)))] (h'' := .pt b4 (.cells (cellT zeroT).toArray 30 (0, 0)) :: .pt b3 (.cells (cellT t).toArray 30 (0, 0)) :: h) ?_ (by (repeat (first | exact Sub.nil | refine Sub.cons rfl ?_ | refine Sub.consE rfl (by simp; done) ?_))) Sb ⟨3, eqT t (tyK 3), by unfold resT; rw [if_neg (by omega), if_neg (by omega), if_pos (by omega)], rfl, rfl⟩)
  (repeat (first | exact Sub.nil | refine Sub.cons rfl ?_ | refine Sub.consE rfl (by simp; done) ?_))
  replace c30 := f_eq c30
  repeat first | refine sk fun K hK => ?_ | refine bk ?_ | refine rn fun _ => ?_
  refine xG (PO.bin Et Ev.const rfl) ?_
  refine xA ?_
  refine wn [3, 4, 6, 37] ?_
  repeat first | refine sk fun K hK => ?_ | refine bk ?_
  refine wc (fun c37 => ?_) fun c37 => ?_
  replace c37 := t_eq c37
  repeat first | refine sk fun K hK => ?_ | refine bk ?_
  refine WC.drawS [1] (.op 0 (.op 1 .nil)) [2, 3] _ [] mixed (fun _ _ _ _ _ h => h) [] (by kernel_rfl) ?_
  refine yG rfl (pA Tryz.underlying30) ?_
  refine yf rfl (E1 Ev.const) (fun fr => tof_ct _ _ _) ?_
  refine SR.nil rfl rfl ?_
  refine xG (PO.eqlA Tryz.underlying30 (by kernel_rfl) (by kernel_rfl) Et Et rfl) ?_
  refine xA ?_
  refine WL.nil (meetI [(6, .int .u8 3), (7, .bool (eqT t (tyK 1)))] (h'' := .pt b4 (.cells (cellT zeroT).toArray 30 (0, 0)) :: .pt b3 (.cells (cellT t).toArray 30 (0, 0)) :: h) ?_ (by (repeat (first | exact Sub.nil | refine Sub.cons rfl ?_ | refine Sub.consE rfl (by simp; done) ?_))) Sb ⟨3, eqT t (tyK 1), by unfold resT; rw [if_neg (by omega), if_neg (by omega), if_neg (by omega), if_pos (by omega)], rfl, rfl⟩)
  (repeat (first | exact Sub.nil | refine Sub.cons rfl ?_ | refine Sub.consE rfl (by simp; done) ?_))
  replace c37 := f_eq c37
  repeat first | refine sk fun K hK => ?_ | refine bk ?_
  refine WC.drawS [1] (.op 0 (.op 1 (.op 2 (.op 3 .nil)))) [4] _ [] mixed (fun _ _ _ _ _ h => h) [] (by kernel_rfl) ?_
  refine yG rfl (pA Tryz.underlying30) ?_
  refine yf rfl (E1 Ev.const) (fun fr => tof_ct _ _ _) ?_
  refine yG rfl (PO.eqlA Tryz.underlying30 (by kernel_rfl) (by kernel_rfl) Et Et rfl) ?_
  refine yG rfl (PO.assign Ev.const) ?_
  refine SR.nil rfl rfl ?_
  refine xA ?_
  refine WL.nil (meetI [(6, .int .u8 1), (7, .bool (eqT t (tyK 1)))] (h'' := .pt b4 (.cells (cellT zeroT).toArray 30 (0, 0)) :: .pt b3 (.cells (cellT t).toArray 30 (0, 0)) :: h) ?_ (by (repeat (first | exact Sub.nil | refine Sub.cons rfl ?_ | refine Sub.consE rfl (by simp; done) ?_))) Sb ⟨1, eqT t (tyK 1), by unfold resT; rw [if_neg (by omega), if_neg (by omega), if_neg (by omega), if_neg (by omega)], rfl, rfl⟩)
  (repeat (first | exact Sub.nil | refine Sub.cons rfl ?_ | refine Sub.consE rfl (by simp; done) ?_))
  replace c30 := f_eq c30
  repeat first | refine sk fun K hK => ?_ | refine bk ?_ | refine rn fun _ => ?_
  refine xG (PO.bin Et Ev.const rfl) ?_
  refine xA ?_
  refine wn [3, 4, 6, 8, 30] ?_
  repeat first | refine sk fun K hK => ?_ | refine bk ?_
  refine wc (fun c30 => ?_) fun c30 => ?_
  replace c30 := t_eq c30
  refine WC.skip (kp [3, 4, 6, 8, 30] ?_)
  repeat first | refine sk fun K hK => ?_ | refine bk ?_
  refine wc (fun c30 => ?_) fun c30 => ?_
  replace c30 := t_eq c30
  repeat first | refine sk fun K hK => ?_ | refine bk ?_
  refine WC.drawS [1] (.op 0 (.op 1 .nil)) [2, 3] _ [] mixed (fun _ _ _ _ _ h => h) [] (by kernel_rfl) ?_
  refine yG rfl (pA Tryz.underlying30) ?_
  refine yf rfl (E1 Ev.const) (fun fr => tof_ct _ _ _) ?_
  refine SR.nil rfl rfl ?_
  refine xG (PO.eqlA Tryz.underlying30 (by kernel_rfl) (by kernel_rfl) Et Et rfl) ?_
  refine xA ?_
  refine WL.nil (meetI [(6, .int .u8 3), (7, .bool (eqT t (tyK 3)))] (h'' := .pt b4 (.cells (cellT zeroT).toArray 30 (0, 0)) :: .pt b3 (.cells (cellT t).toArray 30 (0, 0)) :: h) ?_ (by (repeat (first | exact Sub.nil | refine Sub.cons rfl ?_ | refine Sub.consE rfl (by simp; done) ?_))) Sb ⟨3, eqT t (tyK 3), by unfold resT; rw [if_neg (by omega), if_neg (by omega), if_pos (by omega)], rfl, rfl⟩)
  (repeat (first | exact Sub.nil | refine Sub.cons rfl ?_ | refine Sub.consE rfl (by simp; done) ?_))
  replace c30 := f_eq c30
  repeat first | refine sk fun K hK => ?_ | refine bk ?_ | refine rn fun _ => ?_
  refine xG (PO.bin Et Ev.const rfl) ?_
  refine xA ?_
  refine wn [3, 4, 6, 37] ?_
  repeat first | refine sk fun K hK => ?_ | refine bk ?_
  refine wc (fun c37 => ?_) fun c37 => ?_
  replace c37 := t_eq c37
  repeat first | refine sk fun K hK => ?_ | refine bk ?_
  refine WC.drawS [1] (.op 0 (.op 1 .nil)) [2, 3] _ [] mixed (fun _ _ _ _ _ h => h) [] (by kernel_rfl) ?_
  refine yG rfl (pA Tryz.underlying30) ?_
  refine yf rfl (E1 Ev.const) (fun fr => tof_ct _ _ _) ?_
  refine SR.nil rfl rfl ?_
  refine xG (PO.eqlA Tryz.underlying30 (by kernel_rfl) (by kernel_rfl) Et Et rfl) ?_
  refine xA ?_
  refine WL.nil (meetI [(6, .int .u8 3), (7, .bool (eqT t (tyK 1)))] (h'' := .pt b4 (.cells (cellT zeroT).toArray 30 (0, 0)) :: .pt b3 (.cells (cellT t).toArray 30 (0, 0)) :: h) ?_ (by (repeat (first | exact Sub.nil | refine Sub.cons rfl ?_ | refine Sub.consE rfl (by simp; done) ?_))) Sb ⟨3, eqT t (tyK 1), by unfold resT; rw [if_neg (by omega), if_neg (by omega), if_neg (by omega), if_pos (by omega)], rfl, rfl⟩)
  (repeat (first | exact Sub.nil | refine Sub.cons rfl ?_ | refine Sub.consE rfl (by simp; done) ?_))
  replace c37 := f_eq c37
  repeat first | refine sk fun K hK => ?_ | refine bk ?_
  refine WC.drawS [1] (.op 0 (.op 1 (.op 2 (.op 3 .nil)))) [4] _ [] mixed (fun _ _ _ _ _ h => h) [] (by kernel_rfl) ?_
  refine yG rfl (pA Tryz.underlying30) ?_
  refine yf rfl (E1 Ev.const) (fun fr => tof_ct _ _ _) ?_
  refine yG rfl (PO.eqlA Tryz.underlying30 (by kernel_rfl) (by kernel_rfl) Et Et rfl) ?_
  refine yG rfl (PO.assign Ev.const) ?_
  refine SR.nil rfl rfl ?_
  refine xA ?_
  refine WL.nil (meetI [(6, .int .u8 1), (7, .bool (eqT t (tyK 1)))] (h'' := .pt b4 (.cells (cellT zeroT).toArray 30 (0, 0)) :: .pt b3 (.cells (cellT t).toArray 30 (0, 0)) :: h) ?_ (by (repeat (first | exact Sub.nil | refine Sub.cons rfl ?_ | refine Sub.consE rfl (by simp; done) ?_))) Sb ⟨1, eqT t (tyK 1), by unfold resT; rw [if_neg (by omega), if_neg (by omega), if_neg (by omega), if_neg (by omega)], rfl, rfl⟩)
  (repeat (first | exact Sub.nil | refine Sub.cons rfl ?_ | refine Sub.consE rfl (by simp; done) ?_))
  replace c30 := f_eq c30
  repeat first | refine sk fun K hK => ?_ | refine bk ?_ | refine rn fun _ => ?_
  refine xG (PO.bin Et Ev.const rfl) ?_
  refine xA ?_
  refine wn [3, 4, 6, 8, 30] ?_
  repeat first | refine sk fun K hK => ?_ | refine bk ?_
  refine wc (fun c30 => ?_) fun c30 => ?_
  replace c30 := t_eq c30
  repeat first | refine sk fun K hK => ?_ | refine bk ?_
  refine WC.drawS [1] (.op 0 (.op 1 .nil)) [2, 3] _ [] mixed (fun _ _ _ _ _ h => h) [] (by kernel_rfl) ?_
  refine yG rfl (pA Tryz.underlying30) ?_
  refine yf rfl (E1 Ev.const) (fun fr => tof_ct _ _ _) ?_
  refine SR.nil rfl rfl ?_
  refine xG (PO.eqlA Tryz.underlying30 (by kernel_rfl) (by kernel_rfl) Et Et rfl) ?_
  refine xA ?_
  refine WL.nil (meetI [(6, .int .u8 3), (7, .bool (eqT t (tyK 3)))] (h'' := .pt b4 (.cells (cellT zeroT).toArray 30 (0, 0)) :: .pt b3 (.cells (cellT t).toArray 30 (0, 0)) :: h) ?_ (by (repeat (first | exact Sub.nil | refine Sub.cons rfl ?_ | refine Sub.consE rfl (by simp; done) ?_))) Sb ⟨3, eqT t (tyK 3), by unfold resT; rw [if_neg (by omega), if_neg (by omega), if_pos (by omega)], rfl, rfl⟩)
  (repeat (first | exact Sub.nil | refine Sub.cons rfl ?_ | refine Sub.consE rfl (by simp; done) ?_))
  replace c30 := f_eq c30
  repeat first | refine sk fun K hK => ?_ | refine bk ?_ | refine rn fun _ => ?_
  refine xG (PO.bin Et Ev.const rfl) ?_
  refine xA ?_
  refine wn [3, 4, 6, 37] ?_
  repeat first | refine sk fun K hK => ?_ | refine bk ?_
  refine wc (fun c37 => ?_) fun c37 => ?_
  replace c37 := t_eq c37
  repeat first | refine sk fun K hK => ?_ | refine bk ?_
  refine WC.drawS [1] (.op 0 (.op 1 .nil)) [2, 3] _ [] mixed (fun _ _ _ _ _ h => h) [] (by kernel_rfl) ?_
  refine yG rfl (pA Tryz.underlying30) ?_
  refine yf rfl (E1 Ev.const) (fun fr => tof_ct _ _ _) ?_
  refine SR.nil rfl rfl ?_
  refine xG (PO.eqlA Tryz.underlying30 (by kernel_rfl) (by kernel_rfl) Et Et rfl) ?_
  refine xA ?_
  refine WL.nil (meetI [(6, .int .u8 3), (7, .bool (eqT t (tyK 1)))] (h'' := .pt b4 (.cells (cellT zeroT).toArray 30 (0, 0)) :: .pt b3 (.cells (cellT t).toArray 30 (0, 0)) :: h) ?_ (by (repeat (first | exact Sub.nil | refine Sub.cons rfl ?_ | refine Sub.consE rfl (by simp; done) ?_))) Sb ⟨3, eqT t (tyK 1), by unfold resT; rw [if_neg (by omega), if_neg (by omega), if_neg (by omega), if_pos (by omega)], rfl, rfl⟩)
  (repeat (first | exact Sub.nil | refine Sub.cons rfl ?_ | refine Sub.consE rfl (by simp; done) ?_))
  replace c37 := f_eq c37
  repeat first | refine sk fun K hK => ?_ | refine bk ?_
  refine WC.drawS [1] (.op 0 (.op 1 (.op 2 (.op 3 .nil)))) [4] _ [] mixed (fun _ _ _ _ _ h => h) [] (by kernel_rfl) ?_
  refine yG rfl (pA Tryz.underlying30) ?_
  refine yf rfl (E1 Ev.const) (fun fr => tof_ct _ _ _) ?_
  refine yG rfl (PO.eqlA Tryz.underlying30 (by kernel_rfl) (by kernel_rfl) Et Et rfl) ?_
  refine yG rfl (PO.assign Ev.const) ?_
  refine SR.nil rfl rfl ?_
  refine xA ?_
  refine WL.nil (meetI [(6, .int .u8 1), (7, .bool (eqT t (tyK 1)))] (h'' := .pt b4 (.cells (cellT zeroT).toArray 30 (0, 0)) :: .pt b3 (.cells (cellT t).toArray 30 (0, 0)) :: h) ?_ (by (repeat (first | exact Sub.nil | refine Sub.cons rfl ?_ | refine Sub.consE rfl (by simp; done) ?_))) Sb ⟨1, eqT t (tyK 1), by unfold resT; rw [if_neg (by omega), if_neg (by omega), if_neg (by omega), if_neg (by omega)], rfl, rfl⟩)
  (repeat (first | exact Sub.nil | refine Sub.cons rfl ?_ | refine Sub.consE rfl (by simp; done) ?_))
  replace c12 := f_eq c12
  repeat first | refine sk fun K hK => ?_ | refine bk ?_ | refine rn fun _ => ?_
  refine xG (PO.bin Et Ev.const rfl) ?_
  refine xA ?_
  refine wn [3, 4, 6, 8, 12] ?_
  repeat first | refine sk fun K hK => ?_ | refine bk ?_
  refine wc (fun c12 => ?_) fun c12 => ?_
  replace c12 := t_eq c12
  repeat first | refine sk fun K hK => ?_ | refine bk ?_ | refine rn fun _ => ?_
  refine xG (pA Tryz.underlying30) ?_
  refine xf (E1 Et) (tsim_ct _ _ _) ?_
  refine xA ?_
  refine WL.nil (meetI [(6, .int .u8 3), (7, .bool (simT t))] (h'' := .pt b4 (.cells (cellT zeroT).toArray 30 (0, 0)) :: .pt b3 (.cells (cellT t).toArray 30 (0, 0)) :: h) ?_ (by (repeat (first | exact Sub.nil | refine Sub.cons rfl ?_ | refine Sub.consE rfl (by simp; done) ?_))) Sb ⟨3, simT t, by unfold resT; rw [if_pos (by omega)], rfl, rfl⟩)
  (repeat (first | exact Sub.nil | refine Sub.cons rfl ?_ | refine Sub.consE rfl (by simp; done) ?_))
  replace c12 := f_eq c12
  repeat first | refine sk fun K hK => ?_ | refine bk ?_ | refine rn fun _ => ?_
  refine xG (PO.bin Et Ev.const rfl) ?_
  refine xA ?_
  refine wn [3, 4, 6, 8, 17] ?_
  repeat first | refine sk fun K hK => ?_ | refine bk ?_
  refine wc (fun c17 => ?_) fun c17 => ?_
  replace c17 := t_eq c17
  refine WC.skip (kp [3, 4, 6, 8, 17] ?_)
  repeat first | refine sk fun K hK => ?_ | refine bk ?_
  refine wc (fun c17 => ?_) fun c17 => ?_
  replace c17 := t_eq c17
  repeat first | refine sk fun K hK => ?_ | refine bk ?_
  refine WC.drawS [1, 5] (.op 0 (.op 1 (.op 2 (.op 3 (.op 4 (.op 5 .nil)))))) [6, 7, 8] _ [] mixed (fun _ _ _ _ _ h => h) [] (by kernel_rfl) ?_
  refine yG rfl (pA Tryz.underlying30) ?_
  refine yf rfl (E1 Ev.const) (fun fr => tof_ct _ _ _) ?_
  refine yG rfl (PO.eqlA Tryz.underlying30 (by kernel_rfl) (by kernel_rfl) Et Et rfl) ?_
  refine yG rfl (PO.move Et) ?_
  refine SR.poG rfl rfl (GU.f rfl rfl) (fun hc => PO.loadA Tryz.underlying30 rfl rfl Et Me rfl) (leB rfl) ?_
  refine SR.callG rfl rfl (GU.f rfl rfl) (fun hc => ⟨Ev.func, (Evs.cons Ev.const Evs.nil), fun fr => tof_ct _ _ _⟩) (leB rfl) ?_
  refine SR.nil rfl rfl ?_
  refine WL.poG (GU.f rfl rfl) (fun hc => PO.eqlA Tryz.underlying30 (by kernel_rfl) (by kernel_rfl) (Eg hc) (Eg hc) rfl) (leB rfl) ?_
  refine xQ ?_
  refine xA ?_
  refine WL.nil (meetI [(6, .int .u8 3), (7, .bool (eqT t (tyK 1) || eqT t (tyK 2)))] (h'' := .pt b4 (.cells (cellT zeroT).toArray 30 (0, 0)) :: .pt b3 (.cells (cellT t).toArray 30 (0, 0)) :: h) ?_ (by (repeat (first | exact Sub.nil | refine Sub.cons rfl ?_ | refine Sub.consE rfl (by simp; done) ?_))) Sb ⟨3, eqT t (tyK 1) || eqT t (tyK 2), by unfold resT; rw [if_neg (by omega), if_pos (by omega)], rfl, rfl⟩)
  (repeat (first | exact Sub.nil | refine Sub.cons rfl ?_ | refine Sub.consE rfl (by simp; done) ?_))
  replace c17 := f_eq c17
  repeat first | refine sk fun K hK => ?_ | refine bk ?_ | refine rn fun _ => ?_
  refine xG (PO.bin Et Ev.const rfl) ?_
  refine xA ?_
  refine wn [3, 4, 6, 8, 30] ?_
  repeat first | refine sk fun K hK => ?_ | refine bk ?_
  refine wc (fun c30 => ?_) fun c30 => ?_
  replace c30 := t_eq c30
  refine WC.skip (kp [3, 4, 6, 8, 30] ?_)
  repeat first | refine sk fun K hK => ?_ | refine bk ?_
  refine wc (fun c30 => ?_) fun c30 => ?_
  replace c30 := t_eq c30
  repeat first | refine sk fun K hK => ?_ | refine bk ?_
  refine WC.drawS [1] (.op 0 (.op 1 .nil)) [2, 3] _ [] mixed (fun _ _ _ _ _ h => h) [] (by kernel_rfl) ?_
  refine yG rfl (pA Tryz.underlying30) ?_
  refine yf rfl (E1 Ev.const) (fun fr => tof_ct _ _ _) ?_
  refine SR.nil rfl rfl ?_
  refine xG (PO.eqlA Tryz.underlying30 (by kernel_rfl) (by kernel_rfl) Et Et rfl) ?_
  refine xA ?_
  refine WL.nil (meetI [(6, .int .u8 3), (7, .bool (eqT t (tyK 3)))] (h'' := .pt b4 (.cells (cellT zeroT).toArray 30 (0, 0)) :: .pt b3 (.cells (cellT t).toArray 30 (0, 0)) :: h) ?_ (by (repeat (first | exact Sub.nil | refine Sub.cons rfl ?_ | refine Sub.consE rfl (by simp; done) ?_))) Sb ⟨3, eqT t (tyK 3), by unfold resT; rw [if_neg (by omega), if_neg (by omega), if_pos (by omega)], rfl, rfl⟩)
  (repeat (first | exact Sub.nil | refine Sub.cons rfl ?_ | refine Sub.consE rfl (by simp; done) ?_))
  replace c30 := f_eq c30
  repeat first | refine sk fun K hK => ?_ | refine bk ?_ | refine rn fun _ => ?_
  refine xG (PO.bin Et Ev.const rfl) ?_
  refine xA ?_
  refine wn [3, 4, 6, 37] ?_
  repeat first | refine sk fun K hK => ?_ | refine bk ?_
  refine wc (fun c37 => ?_) fun c37 => ?_
  replace c37 := t_eq c37
  repeat first | refine sk fun K hK => ?_ | refine bk ?_
  refine WC.drawS [1] (.op 0 (.op 1 .nil)) [2, 3] _ [] mixed (fun _ _ _ _ _ h => h) [] (by kernel_rfl) ?_
  refine yG rfl (pA Tryz.underlying30) ?_
  refine yf rfl (E1 Ev.const) (fun fr => tof_ct _ _ _) ?_
  refine SR.nil rfl rfl ?_
  refine xG (PO.eqlA Tryz.underlying30 (by kernel_rfl) (by kernel_rfl) Et Et rfl) ?_
  refine xA ?_
  refine WL.nil (meetI [(6, .int .u8 3), (7, .bool (eqT t (tyK 1)))] (h'' := .pt b4 (.cells (cellT zeroT).toArray 30 (0, 0)) :: .pt b3 (.cells (cellT t).toArray 30 (0, 0)) :: h) ?_ (by (repeat (first | exact Sub.nil | refine Sub.cons rfl ?_ | refine Sub.consE rfl (by simp; done) ?_))) Sb ⟨3, eqT t (tyK 1), by unfold resT; rw [if_neg (by omega), if_neg (by omega), if_neg (by omega), if_pos (by omega)], rfl, rfl⟩)
  (repeat (first | exact Sub.nil | refine Sub.cons rfl ?_ | refine Sub.consE rfl (by simp; done) ?_))
  replace c37 := f_eq c37
  repeat first | refine sk fun K hK => ?_ | refine bk ?_
  refine WC.drawS [1] (.op 0 (.op 1 (.op 2 (.op 3 .nil)))) [4] _ [] mixed (fun _ _ _ _ _ h => h) [] (by kernel_rfl) ?_
  refine yG rfl (pA Tryz.underlying30) ?_
  refine yf rfl (E1 Ev.const) (fun fr => tof_ct _ _ _) ?_
  refine yG rfl (PO.eqlA Tryz.underlying30 (by kernel_rfl) (by kernel_rfl) Et Et rfl) ?_
  refine yG rfl (PO.assign Ev.const) ?_
  refine SR.nil rfl rfl ?_
  refine xA ?_
  refine WL.nil (meetI [(6, .int .u8 1), (7, .bool (eqT t (tyK 1)))] (h'' := .pt b4 (.cells (cellT zeroT).toArray 30 (0, 0)) :: .pt b3 (.cells (cellT t).toArray 30 (0, 0)) :: h) ?_ (by (repeat (first | exact Sub.nil | refine Sub.cons rfl ?_ | refine Sub.consE rfl (by simp; done) ?_))) Sb ⟨1, eqT t (tyK 1), by unfold resT; rw [if_neg (by omega), if_neg (by omega), if_neg (by omega), if_neg (by omega)], rfl, rfl⟩)
  (repeat (first | exact Sub.nil | refine Sub.cons rfl ?_ | refine Sub.consE rfl (by simp; done) ?_))
  replace c30 := f_eq c30
  repeat first | refine sk fun K hK => ?_ | refine bk ?_ | refine rn fun _ => ?_
  refine xG (PO.bin Et Ev.const rfl) ?_
  refine xA ?_
  refine wn [3, 4, 6, 8, 30] ?_
  repeat first | refine sk fun K hK => ?_ | refine bk ?_
  refine wc (fun c30 => ?_) fun c30 => ?_
  replace c30 := t_eq c30
  refine WC.skip (kp [3, 4, 6, 8, 30] ?_)
  repeat first | refine sk fun K hK => ?_ | refine bk ?_
  refine wc (fun c30 => ?_) fun c30 => ?_
  replace c30 := t_eq c30
  repeat first | refine sk fun K hK => ?_ | refine bk ?_
  refine WC.drawS [1] (.op 0 (.op 1 .nil)) [2, 3] _ [] mixed (fun _ _ _ _ _ h => h) [] (by kernel_rfl) ?_
  refine yG rfl (pA Tryz.underlying30) ?_
  refine yf rfl (E1 Ev.const) (fun fr => tof_ct _ _ _) ?_
  refine SR.nil rfl rfl ?_
  refine xG (PO.eqlA Tryz.underlying30 (by kernel_rfl) (by kernel_rfl) Et Et rfl) ?_
  refine xA ?_
  refine WL.nil (meetI [(6, .int .u8 3), (7, .bool (eqT t (tyK 3)))] (h'' := .pt b4 (.cells (cellT zeroT).toArray 30 (0, 0)) :: .pt b3 (.cells (cellT t).toArray 30 (0, 0)) :: h) ?_ (by (repeat (first | exact Sub.nil | refine Sub.cons rfl ?_ | refine Sub.consE rfl (by simp; done) ?_))) Sb ⟨3, eqT t (tyK 3), by unfold resT; rw [if_neg (by omega), if_neg (by omega), if_pos (by omega)], rfl, rfl⟩)
  (repeat (first | exact Sub.nil | refine Sub.cons rfl ?_ | refine Sub.consE rfl (by simp; done) ?_))
  replace c30 := f_eq c30
  repeat first | refine sk fun K hK => ?_ | refine bk ?_ | refine rn fun _ => ?_
  refine xG (PO.bin Et Ev.const rfl) ?_
  refine xA ?_
  refine wn [3, 4, 6, 37] ?_
  repeat first | refine sk fun K hK => ?_ | refine bk ?_
  refine wc (fun c37 => ?_) fun c37 => ?_
  replace c37 := t_eq c37
  repeat first | refine sk fun K hK => ?_ | refine bk ?_
  refine WC.drawS [1] (.op 0 (.op 1 .nil)) [2, 3] _ [] mixed (fun _ _ _ _ _ h => h) [] (by kernel_rfl) ?_
  refine yG rfl (pA Tryz.underlying30) ?_
  refine yf rfl (E1 Ev.const) (fun fr => tof_ct _ _ _) ?_
  refine SR.nil rfl rfl ?_
  refine xG (PO.eqlA Tryz.underlying30 (by kernel_rfl) (by kernel_rfl) Et Et rfl) ?_
  refine xA ?_
  refine WL.nil (meetI [(6, .int .u8 3), (7, .bool (eqT t (tyK 1)))] (h'' := .pt b4 (.cells (cellT zeroT).toArray 30 (0, 0)) :: .pt b3 (.cells (cellT t).toArray 30 (0, 0)) :: h) ?_ (by (repeat (first | exact Sub.nil | refine Sub.cons rfl ?_ | refine Sub.consE rfl (by simp; done) ?_))) Sb ⟨3, eqT t (tyK 1), by unfold resT; rw [if_neg (by omega), if_neg (by omega), if_neg (by omega), if_pos (by omega)], rfl, rfl⟩)
  (repeat (first | exact Sub.nil | refine Sub.cons rfl ?_ | refine Sub.consE rfl (by simp; done) ?_))
  replace c37 := f_eq c37
  repeat first | refine sk fun K hK => ?_ | refine bk ?_
  refine WC.drawS [1] (.op 0 (.op 1 (.op 2 (.op 3 .nil)))) [4] _ [] mixed (fun _ _ _ _ _ h => h) [] (by kernel_rfl) ?_
  refine yG rfl (pA Tryz.underlying30) ?_
  refine yf rfl (E1 Ev.const) (fun fr => tof_ct _ _ _) ?_
  refine yG rfl (PO.eqlA Tryz.underlying30 (by kernel_rfl) (by kernel_rfl) Et Et rfl) ?_
  refine yG rfl (PO.assign Ev.const) ?_
  refine SR.nil rfl rfl ?_
  refine xA ?_
  refine WL.nil (meetI [(6, .int .u8 1), (7, .bool (eqT t (tyK 1)))] (h'' := .pt b4 (.cells (cellT zeroT).toArray 30 (0, 0)) :: .pt b3 (.cells (cellT t).toArray 30 (0, 0)) :: h) ?_ (by (repeat (first | exact Sub.nil | refine Sub.cons rfl ?_ | refine Sub.consE rfl (by simp; done) ?_))) Sb ⟨1, eqT t (tyK 1), by unfold resT; rw [if_neg (by omega), if_neg (by omega), if_neg (by omega), if_neg (by omega)], rfl, rfl⟩)
  (repeat (first | exact Sub.nil | refine Sub.cons rfl ?_ | refine Sub.consE rfl (by simp; done) ?_))
  replace c30 := f_eq c30
  repeat first | refine sk fun K hK => ?_ | refine bk ?_ | refine rn fun _ => ?_
  refine xG (PO.bin Et Ev.const rfl) ?_
  refine xA ?_
  refine wn [3, 4, 6, 8, 30] ?_
  repeat first | refine sk fun K hK => ?_ | refine bk ?_
  refine wc (fun c30 => ?_) fun c30 => ?_
  replace c30 := t_eq c30
  repeat first | refine sk fun K hK => ?_ | refine bk ?_
  refine WC.drawS [1] (.op 0 (.op 1 .nil)) [2, 3] _ [] mixed (fun _ _ _ _ _ h => h) [] (by kernel_rfl) ?_
  refine yG rfl (pA Tryz.underlying30) ?_
  refine yf rfl (E1 Ev.const) (fun fr => tof_ct _ _ _) ?_
  refine SR.nil rfl rfl ?_
  refine xG (PO.eqlA Tryz.underlying30 (by kernel_rfl) (by kernel_rfl) Et Et rfl) ?_
  refine xA ?_
  refine WL.nil (meetI [(6, .int .u8 3), (7, .bool (eqT t (tyK 3)))] (h'' := .pt b4 (.cells (cellT zeroT).toArray 30 (0, 0)) :: .pt b3 (.cells (cellT t).toArray 30 (0, 0)) :: h) ?_ (by (repeat (first | exact Sub.nil | refine Sub.cons rfl ?_ | refine Sub.consE rfl (by simp; done) ?_))) Sb ⟨3, eqT t (tyK 3), by unfold resT; rw [if_neg (by omega), if_neg (by omega), if_pos (by omega)], rfl, rfl⟩)
  (repeat (first | exact Sub.nil | refine Sub.cons rfl ?_ | refine Sub.consE rfl (by simp; done) ?_))
  replace c30 := f_eq c30
  repeat first | refine sk fun K hK => ?_ | refine bk ?_ | refine rn fun _ => ?_
  refine xG (PO.bin Et Ev.const rfl) ?_
  refine xA ?_
  refine wn [3, 4, 6, 37] ?_
  repeat first | refine sk fun K hK => ?_ | refine bk ?_
  refine wc (fun c37 => ?_) fun c37 => ?_
  replace c37 := t_eq c37
  repeat first | refine sk fun K hK => ?_ | refine bk ?_
  refine WC.drawS [1] (.op 0 (.op 1 .nil)) [2, 3] _ [] mixed (fun _ _ _ _ _ h => h) [] (by kernel_rfl) ?_
  refine yG rfl (pA Tryz.underlying30) ?_
  refine yf rfl (E1 Ev.const) (fun fr => tof_ct _ _ _) ?_
  refine SR.nil rfl rfl ?_
  refine xG (PO.eqlA Tryz.underlying30 (by kernel_rfl) (by kernel_rfl) Et Et rfl) ?_
  refine xA ?_
  refine WL.nil (meetI [(6, .int .u8 3), (7, .bool (eqT t (tyK 1)))] (h'' := .pt b4 (.cells (cellT zeroT).toArray 30 (0, 0)) :: .pt b3 (.cells (cellT t).toArray 30 (0, 0)) :: h) ?_ (by (repeat (first | exact Sub.nil | refine Sub.cons rfl ?_ | refine Sub.consE rfl (by simp; done) ?_))) Sb ⟨3, eqT t (tyK 1), by unfold resT; rw [if_neg (by omega), if_neg (by omega), if_neg (by omega), if_pos (by omega)], rfl, rfl⟩)
  (repeat (first | exact Sub.nil | refine Sub.cons rfl ?_ | refine Sub.consE rfl (by simp; done) ?_))
  replace c37 := f_eq c37
  repeat first | refine sk fun K hK => ?_ | refine bk ?_
  refine WC.drawS [1] (.op 0 (.op 1 (.op 2 (.op 3 .nil)))) [4] _ [] mixed (fun _ _ _ _ _ h => h) [] (by kernel_rfl) ?_
  refine yG rfl (pA Tryz.underlying30) ?_
  refine yf rfl (E1 Ev.const) (fun fr => tof_ct _ _ _) ?_
  refine yG rfl (PO.eqlA Tryz.underlying30 (by kernel_rfl) (by kernel_rfl) Et Et rfl) ?_
  refine yG rfl (PO.assign Ev.const) ?_
  refine SR.nil rfl rfl ?_
  refine xA ?_
  refine WL.nil (meetI [(6, .int .u8 1), (7, .bool (eqT t (tyK 1)))] (h'' := .pt b4 (.cells (cellT zeroT).toArray 30 (0, 0)) :: .pt b3 (.cells (cellT t).toArray 30 (0, 0)) :: h) ?_ (by (repeat (first | exact Sub.nil | refine Sub.cons rfl ?_ | refine Sub.consE rfl (by simp; done) ?_))) Sb ⟨1, eqT t (tyK 1), by unfold resT; rw [if_neg (by omega), if_neg (by omega), if_neg (by omega), if_neg (by omega)], rfl, rfl⟩)
  (repeat (first | exact Sub.nil | refine Sub.cons rfl ?_ | refine Sub.consE rfl (by simp; done) ?_))
  replace c17 := f_eq c17
  repeat first | refine sk fun K hK => ?_ | refine bk ?_ | refine rn fun _ => ?_
  refine xG (PO.bin Et Ev.const rfl) ?_
  refine xA ?_
  refine wn [3, 4, 6, 8, 17] ?_
  repeat first | refine sk fun K hK => ?_ | refine bk ?_
  refine wc (fun c17 => ?_) fun c17 => ?_
  replace c17 := t_eq c17
  refine WC.skip (kp [3, 4, 6, 8, 17] ?_)
  repeat first | refine sk fun K hK => ?_ | refine bk ?_
  refine wc (fun c17 => ?_) fun c17 => ?_
  replace c17 := t_eq c17
  repeat first | refine sk fun K hK => ?_ | refine bk ?_
  refine WC.drawS [1, 5] (.op 0 (.op 1 (.op 2 (.op 3 (.op 4 (.op 5 .nil)))))) [6, 7, 8] _ [] mixed (fun _ _ _ _ _ h => h) [] (by kernel_rfl) ?_
  refine yG rfl (pA Tryz.underlying30) ?_
  refine yf rfl (E1 Ev.const) (fun fr => tof_ct _ _ _) ?_
  refine yG rfl (PO.eqlA Tryz.underlying30 (by kernel_rfl) (by kernel_rfl) Et Et rfl) ?_
  refine yG rfl (PO.move Et) ?_
  refine SR.poG rfl rfl (GU.f rfl rfl) (fun hc => PO.loadA Tryz.underlying30 rfl rfl Et Me rfl) (leB rfl) ?_
  refine SR.callG rfl rfl (GU.f rfl rfl) (fun hc => ⟨Ev.func, (Evs.cons Ev.const Evs.nil), fun fr => tof_ct _ _ _⟩) (leB rfl) ?_
  refine SR.nil rfl rfl ?_
  refine WL.poG (GU.f rfl rfl) (fun hc => PO.eqlA Tryz.underlying30 (by kernel_rfl) (by kernel_rfl) (Eg hc) (Eg hc) rfl) (leB rfl) ?_
  refine xQ ?_
  refine xA ?_
  refine WL.nil (meetI [(6, .int .u8 3), (7, .bool (eqT t (tyK 1) || eqT t (tyK 2)))] (h'' := .pt b4 (.cells (cellT zeroT).toArray 30 (0, 0)) :: .pt b3 (.cells (cellT t).toArray 30 (0, 0)) :: h) ?_ (by (repeat (first | exact Sub.nil | refine Sub.cons rfl ?_ | refine Sub.consE rfl (by simp; done) ?_))) Sb ⟨3, eqT t (tyK 1) || eqT t (tyK 2), by unfold resT; rw [if_neg (by omega), if_pos (by omega)], rfl, rfl⟩)
  (repeat (first | exact Sub.nil | refine Sub.cons rfl ?_ | refine Sub.consE rfl (by simp; done) ?_))
  replace c17 := f_eq c17
  repeat first | refine sk fun K hK => ?_ | refine bk ?_ | refine rn fun _ => ?_
  refine xG (PO.bin Et Ev.const rfl) ?_
  refine xA ?_
  refine wn [3, 4, 6, 8, 30] ?_
  repeat first | refine sk fun K hK => ?_ | refine bk ?_
  refine wc (fun c30 => ?_) fun c30 => ?_
  replace c30 := t_eq c30
  refine WC.skip (kp [3, 4, 6, 8, 30] ?_)
  repeat first | refine sk fun K hK => ?_ | refine bk ?_
  refine wc (fun c30 => ?_) fun c30 => ?_
  replace c30 := t_eq c30
  repeat first | refine sk fun K hK => ?_ | refine bk ?_
  refine WC.drawS [1] (.op 0 (.op 1 .nil)) [2, 3] _ [] mixed (fun _ _ _ _ _ h => h) [] (by kernel_rfl) ?_
  refine yG rfl (pA Tryz.underlying30) ?_
  refine yf rfl (E1 Ev.const) (fun fr => tof_ct _ _ _) ?_
  refine SR.nil rfl rfl ?_
  refine xG (PO.eqlA Tryz.underlying30 (by kernel_rfl) (by kernel_rfl) Et Et rfl) ?_
  refine xA ?_
  refine WL.nil (meetI [(6, .int .u8 3), (7, .bool (eqT t (tyK 3)))] (h'' := .pt b4 (.cells (cellT zeroT).toArray 30 (0, 0)) :: .pt b3 (.cells (cellT t).toArray 30 (0, 0)) :: h) ?_ (by (repeat (first | exact Sub.nil | refine Sub.cons rfl ?_ | refine Sub.consE rfl (by simp; done) ?_))) Sb ⟨3, eqT t (tyK 3), by unfold resT; rw [if_neg (by omega), if_neg (by omega), if_pos (by omega)], rfl, rfl⟩)
  (repeat (first | exact Sub.nil | refine Sub.cons rfl ?_ | refine Sub.consE rfl (by simp; done) ?_))
  replace c30 := f_eq c30
  repeat first | refine sk fun K hK => ?_ | refine bk ?_ | refine rn fun _ => ?_
  refine xG (PO.bin Et Ev.const rfl) ?_
  refine xA ?_
  refine wn [3, 4, 6, 37] ?_
  repeat first | refine sk fun K hK => ?_ | refine bk ?_
  refine wc (fun c37 => ?_) fun c37 => ?_
  replace c37 := t_eq c37
  repeat first | refine sk fun K hK => ?_ | refine bk ?_
  refine WC.drawS [1] (.op 0 (.op 1 .nil)) [2, 3] _ [] mixed (fun _ _ _ _ _ h => h) [] (by kernel_rfl) ?_
  refine yG rfl (pA Tryz.underlying30) ?_
  refine yf rfl (E1 Ev.const) (fun fr => tof_ct _ _ _) ?_
  refine SR.nil rfl rfl ?_
  refine xG (PO.eqlA Tryz.underlying30 (by kernel_rfl) (by kernel_rfl) Et Et rfl) ?_
  refine xA ?_
  refine WL.nil (meetI [(6, .int .u8 3), (7, .bool (eqT t (tyK 1)))] (h'' := .pt b4 (.cells (cellT zeroT).toArray 30 (0, 0)) :: .pt b3 (.cells (cellT t).toArray 30 (0, 0)) :: h) ?_ (by (repeat (first | exact Sub.nil | refine Sub.cons rfl ?_ | refine Sub.consE rfl (by simp; done) ?_))) Sb ⟨3, eqT t (tyK 1), by unfold resT; rw [if_neg (by omega), if_neg (by omega), if_neg (by omega), if_pos (by omega)], rfl, rfl⟩)
  (repeat (first | exact Sub.nil | refine Sub.cons rfl ?_ | refine Sub.consE rfl (by simp; done) ?_))
  replace c37 := f_eq c37
  repeat first | refine sk fun K hK => ?_ | refine bk ?_
  refine WC.drawS [1] (.op 0 (.op 1 (.op 2 (.op 3 .nil)))) [4] _ [] mixed (fun _ _ _ _ _ h => h) [] (by kernel_rfl) ?_
  refine yG rfl (pA Tryz.underlying30) ?_
  refine yf rfl (E1 Ev.const) (fun fr => tof_ct _ _ _) ?_
  refine yG rfl (PO.eqlA Tryz.underlying30 (by kernel_rfl) (by kernel_rfl) Et Et rfl) ?_
  refine yG rfl (PO.assign Ev.const) ?_
  refine SR.nil rfl rfl ?_
  refine xA ?_
  refine WL.nil (meetI [(6, .int .u8 1), (7, .bool (eqT t (tyK 1)))] (h'' := .pt b4 (.cells (cellT zeroT).toArray 30 (0, 0)) :: .pt b3 (.cells (cellT t).toArray 30 (0, 0)) :: h) ?_ (by (repeat (first | exact Sub.nil | refine Sub.cons rfl ?_ | refine Sub.consE rfl (by simp; done) ?_))) Sb ⟨1, eqT t (tyK 1), by unfold resT; rw [if_neg (by omega), if_neg (by omega), if_neg (by omega), if_neg (by omega)], rfl, rfl⟩)
  (repeat (first | exact Sub.nil | refine Sub.cons rfl ?_ | refine Sub.consE rfl (by simp; done) ?_))
  replace c30 := f_eq c30
  repeat first | refine sk fun K hK => ?_ | refine bk ?_ | refine rn fun _ => ?_
  refine xG (PO.bin Et Ev.const rfl) ?_
  refine xA ?_
  refine wn [3, 4, 6, 8, 30] ?_
  repeat first | refine sk fun K hK => ?_ | refine bk ?_
  refine wc (fun c30 => ?_) fun c30 => ?_
  replace c30 := t_eq c30
  refine WC.skip (kp [3, 4, 6, 8, 30] ?_)
  repeat first | refine sk fun K hK => ?_ | refine bk ?_
  refine wc (fun c30 => ?_) fun c30 => ?_
  replace c30 := t_eq c30
  repeat first | refine sk fun K hK => ?_ | refine bk ?_
  refine WC.drawS [1] (.op 0 (.op 1 .nil)) [2, 3] _ [] mixed (fun _ _ _ _ _ h => h) [] (by kernel_rfl) ?_
  refine yG rfl (pA Tryz.underlying30) ?_
  refine yf rfl (E1 Ev.const) (fun fr => tof_ct _ _ _) ?_
  refine SR.nil rfl rfl ?_
  refine xG (PO.eqlA Tryz.underlying30 (by kernel_rfl) (by kernel_rfl) Et Et rfl) ?_
  refine xA ?_
  refine WL.nil (meetI [(6, .int .u8 3), (7, .bool (eqT t (tyK 3)))] (h'' := .pt b4 (.cells (cellT zeroT).toArray 30 (0, 0)) :: .pt b3 (.cells (cellT t).toArray 30 (0, 0)) :: h) ?_ (by (repeat (first | exact Sub.nil | refine Sub.cons rfl ?_ | refine Sub.consE rfl (by simp; done) ?_))) Sb ⟨3, eqT t (tyK 3), by unfold resT; rw [if_neg (by omega), if_neg (by omega), if_pos (by omega)], rfl, rfl⟩)
  (repeat (first | exact Sub.nil | refine Sub.cons rfl ?_ | refine Sub.consE rfl (by simp; done) ?_))
  replace c30 := f_eq c30
  repeat first | refine sk fun K hK => ?_ | refine bk ?_ | refine rn fun _ => ?_
  refine xG (PO.bin Et Ev.const rfl) ?_
  refine xA ?_
  refine wn [3, 4, 6, 37] ?_
  repeat first | refine sk fun K hK => ?_ | refine bk ?_
  refine wc (fun c37 => ?_) fun c37 => ?_
  replace c37 := t_eq c37
  repeat first | refine sk fun K hK => ?_ | refine bk ?_
  refine WC.drawS [1] (.op 0 (.op 1 .nil)) [2, 3] _ [] mixed (fun _ _ _ _ _ h => h) [] (by kernel_rfl) ?_
  refine yG rfl (pA Tryz.underlying30) ?_
  refine yf rfl (E1 Ev.const) (fun fr => tof_ct _ _ _) ?_
  refine SR.nil rfl rfl ?_
  refine xG (PO.eqlA Tryz.underlying30 (by kernel_rfl) (by kernel_rfl) Et Et rfl) ?_
  refine xA ?_
  refine WL.nil (meetI [(6, .int .u8 3), (7, .bool (eqT t (tyK 1)))] (h'' := .pt b4 (.cells (cellT zeroT).toArray 30 (0, 0)) :: .pt b3 (.cells (cellT t).toArray 30 (0, 0)) :: h) ?_ (by (repeat (first | exact Sub.nil | refine Sub.cons rfl ?_ | refine Sub.consE rfl (by simp; done) ?_))) Sb ⟨3, eqT t (tyK 1), by unfold resT; rw [if_neg (by omega), if_neg (by omega), if_neg (by omega), if_pos (by omega)], rfl, rfl⟩)
  (repeat (first | exact Sub.nil | refine Sub.cons rfl ?_ | refine Sub.consE rfl (by simp; done) ?_))
  replace c37 := f_eq c37
  repeat first | refine sk fun K hK => ?_ | refine bk ?_
  refine WC.drawS [1] (.op 0 (.op 1 (.op 2 (.op 3 .nil)))) [4] _ [] mixed (fun _ _ _ _ _ h => h) [] (by kernel_rfl) ?_
  refine yG rfl (pA Tryz.underlying30) ?_
  refine yf rfl (E1 Ev.const) (fun fr => tof_ct _ _ _) ?_
  refine yG rfl (PO.eqlA Tryz.underlying30 (by kernel_rfl) (by kernel_rfl) Et Et rfl) ?_
  refine yG rfl (PO.assign Ev.const) ?_
  refine SR.nil rfl rfl ?_
  refine xA ?_
  refine WL.nil (meetI [(6, .int .u8 1), (7, .bool (eqT t (tyK 1)))] (h'' := .pt b4 (.cells (cellT zeroT).toArray 30 (0, 0)) :: .pt b3 (.cells (cellT t).toArray 30 (0, 0)) :: h) ?_ (by (repeat (first | exact Sub.nil | refine Sub.cons rfl ?_ | refine Sub.consE rfl (by simp; done) ?_))) Sb ⟨1, eqT t (tyK 1), by unfold resT; rw [if_neg (by omega), if_neg (by omega), if_neg (by omega), if_neg (by omega)], rfl, rfl⟩)
  (repeat (first | exact Sub.nil | refine Sub.cons rfl ?_ | refine Sub.consE rfl (by simp; done) ?_))
  replace c30 := f_eq c30
  repeat first | refine sk fun K hK => ?_ | refine bk ?_ | refine rn fun _ => ?_
  refine xG (PO.bin Et Ev.const rfl) ?_
  refine xA ?_
  refine wn [3, 4, 6, 8, 30] ?_
  repeat first | refine sk fun K hK => ?_ | refine bk ?_
  refine wc (fun c30 => ?_) fun c30 => ?_
  replace c30 := t_eq c30
  repeat first | refine sk fun K hK => ?_ | refine bk ?_
  refine WC.drawS [1] (.op 0 (.op 1 .nil)) [2, 3] _ [] mixed (fun _ _ _ _ _ h => h) [] (by kernel_rfl) ?_
  refine yG rfl (pA Tryz.underlying30) ?_
  refine yf rfl (E1 Ev.const) (fun fr => tof_ct _ _ _) ?_
  refine SR.nil rfl rfl ?_
  refine xG (PO.eqlA Tryz.underlying30 (by kernel_rfl) (by kernel_rfl) Et Et rfl) ?_
  refine xA ?_
  refine WL.nil (meetI [(6, .int .u8 3), (7, .bool (eqT t (tyK 3)))] (h'' := .pt b4 (.cells (cellT zeroT).toArray 30 (0, 0)) :: .pt b3 (.cells (cellT t).toArray 30 (0, 0)) :: h) ?_ (by (repeat (first | exact Sub.nil | refine Sub.cons rfl ?_ | refine Sub.consE rfl (by simp; done) ?_))) Sb ⟨3, eqT t (tyK 3), by unfold resT; rw [if_neg (by omega), if_neg (by omega), if_pos (by omega)], rfl, rfl⟩)
  (repeat (first | exact Sub.nil | refine Sub.cons rfl ?_ | refine Sub.consE rfl (by simp; done) ?_))
  replace c30 := f_eq c30
  repeat first | refine sk fun K hK => ?_ | refine bk ?_ | refine rn fun _ => ?_
  refine xG (PO.bin Et Ev.const rfl) ?_
  refine xA ?_
  refine wn [3, 4, 6, 37] ?_
  repeat first | refine sk fun K hK => ?_ | refine bk ?_
  refine wc (fun c37 => ?_) fun c37 => ?_
  replace c37 := t_eq c37
  repeat first | refine sk fun K hK => ?_ | refine bk ?_
  refine WC.drawS [1] (.op 0 (.op 1 .nil)) [2, 3] _ [] mixed (fun _ _ _ _ _ h => h) [] (by kernel_rfl) ?_
  refine yG rfl (pA Tryz.underlying30) ?_
  refine yf rfl (E1 Ev.const) (fun fr => tof_ct _ _ _) ?_
  refine SR.nil rfl rfl ?_
  refine xG (PO.eqlA Tryz.underlying30 (by kernel_rfl) (by kernel_rfl) Et Et rfl) ?_
  refine xA ?_
  refine WL.nil (meetI [(6, .int .u8 3), (7, .bool (eqT t (tyK 1)))] (h'' := .pt b4 (.cells (cellT zeroT).toArray 30 (0, 0)) :: .pt b3 (.cells (cellT t).toArray 30 (0, 0)) :: h) ?_ (by (repeat (first | exact Sub.nil | refine Sub.cons rfl ?_ | refine Sub.consE rfl (by simp; done) ?_))) Sb ⟨3, eqT t (tyK 1), by unfold resT; rw [if_neg (by omega), if_neg (by omega), if_neg (by omega), if_pos (by omega)], rfl, rfl⟩)
  (repeat (first | exact Sub.nil | refine Sub.cons rfl ?_ | refine Sub.consE rfl (by simp; done) ?_))
  replace c37 := f_eq c37
  repeat first | refine sk fun K hK => ?_ | refine bk ?_
  refine WC.drawS [1] (.op 0 (.op 1 (.op 2 (.op 3 .nil)))) [4] _ [] mixed (fun _ _ _ _ _ h => h) [] (by kernel_rfl) ?_
  refine yG rfl (pA Tryz.underlying30) ?_
  refine yf rfl (E1 Ev.const) (fun fr => tof_ct _ _ _) ?_
  refine yG rfl (PO.eqlA Tryz.underlying30 (by kernel_rfl) (by kernel_rfl) Et Et rfl) ?_
  refine yG rfl (PO.assign Ev.const) ?_
  refine SR.nil rfl rfl ?_
  refine xA ?_
  refine WL.nil (meetI [(6, .int .u8 1), (7, .bool (eqT t (tyK 1)))] (h'' := .pt b4 (.cells (cellT zeroT).toArray 30 (0, 0)) :: .pt b3 (.cells (cellT t).toArray 30 (0, 0)) :: h) ?_ (by (repeat (first | exact Sub.nil | refine Sub.cons rfl ?_ | refine Sub.consE rfl (by simp; done) ?_))) Sb ⟨1, eqT t (tyK 1), by unfold resT; rw [if_neg (by omega), if_neg (by omega), if_neg (by omega), if_neg (by omega)], rfl, rfl⟩)
  (repeat (first | exact Sub.nil | refine Sub.cons rfl ?_ | refine Sub.consE rfl (by simp; done) ?_))
  replace c17 := f_eq c17
  repeat first | refine sk fun K hK => ?_ | refine bk ?_ | refine rn fun _ => ?_
  refine xG (PO.bin Et Ev.const rfl) ?_
  refine xA ?_
  refine wn [3, 4, 6, 8, 17] ?_
  repeat first | refine sk fun K hK => ?_ | refine bk ?_
  refine wc (fun c17 => ?_) fun c17 => ?_
  replace c17 := t_eq c17
  refine WC.skip (kp [3, 4, 6, 8, 17] ?_)
  repeat first | refine sk fun K hK => ?_ | refine bk ?_
  refine wc (fun c17 => ?_) fun c17 => ?_
  replace c17 := t_eq c17
  repeat first | refine sk fun K hK => ?_ | refine bk ?_
  refine WC.drawS [1, 5] (.op 0 (.op 1 (.op 2 (.op 3 (.op 4 (.op 5 .nil)))))) [6, 7, 8] _ [] mixed (fun _ _ _ _ _ h => h) [] (by kernel_rfl) ?_
  refine yG rfl (pA Tryz.underlying30) ?_
  refine yf rfl (E1 Ev.const) (fun fr => tof_ct _ _ _) ?_
  refine yG rfl (PO.eqlA Tryz.underlying30 (by kernel_rfl) (by kernel_rfl) Et Et rfl) ?_
  refine yG rfl (PO.move Et) ?_
  refine SR.poG rfl rfl (GU.f rfl rfl) (fun hc => PO.loadA Tryz.underlying30 rfl rfl Et Me rfl) (leB rfl) ?_
  refine SR.callG rfl rfl (GU.f rfl rfl) (fun hc => ⟨Ev.func, (Evs.cons Ev.const Evs.nil), fun fr => tof_ct _ _ _⟩) (leB rfl) ?_
  refine SR.nil rfl rfl ?_
  refine WL.poG (GU.f rfl rfl) (fun hc => PO.eqlA Tryz.underlying30 (by kernel_rfl) (by kernel_rfl) (Eg hc) (Eg hc) rfl) (leB rfl) ?_
  refine xQ ?_
  refine xA ?_
  refine WL.nil (meetI [(6, .int .u8 3), (7, .bool (eqT t (tyK 1) || eqT t (tyK 2)))] (h'' := .pt b4 (.cells (cellT zeroT).toArray 30 (0, 0)) :: .pt b3 (.cells (cellT t).toArray 30 (0, 0)) :: h) ?_ (by (repeat (first | exact Sub.nil | refine Sub.cons rfl ?_ | refine Sub.consE rfl (by simp; done) ?_))) Sb ⟨3, eqT t (tyK 1) || eqT t (tyK 2), by unfold resT; rw [if_neg (by omega), if_pos (by omega)], rfl, rfl⟩)
  (repeat (first | exact Sub.nil | refine Sub.cons rfl ?_ | refine Sub.consE rfl (by simp; done) ?_))
  replace c17 := f_eq c17
  repeat first | refine sk fun K hK => ?_ | refine bk ?_ | refine rn fun _ => ?_
  refine xG (PO.bin Et Ev.const rfl) ?_
  refine xA ?_
  refine wn [3, 4, 6, 8, 30] ?_
  repeat first | refine sk fun K hK => ?_ | refine bk ?_
  refine wc (fun c30 => ?_) fun c30 => ?_
  replace c30 := t_eq c30
  refine WC.skip (kp [3, 4, 6, 8, 30] ?_)
  repeat first | refine sk fun K hK => ?_ | refine bk ?_
  refine wc (fun c30 => ?_) fun c30 => ?_
  replace c30 := t_eq c30
  repeat first | refine sk fun K hK => ?_ | refine bk ?_
  refine WC.drawS [1] (.op 0 (.op 1 .nil)) [2, 3] _ [] mixed (fun _ _ _ _ _ h => h) [] (by kernel_rfl) ?_
  refine yG rfl (pA Tryz.underlying30) ?_
  refine yf rfl (E1 Ev.const) (fun fr => tof_ct _ _ _) ?_
  refine SR.nil rfl rfl ?_
  refine xG (PO.eqlA Tryz.underlying30 (by kernel_rfl) (by kernel_rfl) Et Et rfl) ?_
  refine xA ?_
  refine WL.nil (meetI [(6, .int .u8 3), (7, .bool (eqT t (tyK 3)))] (h'' := .pt b4 (.cells (cellT zeroT).toArray 30 (0, 0)) :: .pt b3 (.cells (cellT t).toArray 30 (0, 0)) :: h) ?_ (by (repeat (first | exact Sub.nil | refine Sub.cons rfl ?_ | refine Sub.consE rfl (by simp; done) ?_))) Sb ⟨3, eqT t (tyK 3), by unfold resT; rw [if_neg (by omega), if_neg (by omega), if_pos (by omega)], rfl, rfl⟩)
  (repeat (first | exact Sub.nil | refine Sub.cons rfl ?_ | refine Sub.consE rfl (by simp; done) ?_))
  replace c30 := f_eq c30
  repeat first | refine sk fun K hK => ?_ | refine bk ?_ | refine rn fun _ => ?_
  refine xG (PO.bin Et Ev.const rfl) ?_
  refine xA ?_
  refine wn [3, 4, 6, 37] ?_
  repeat first | refine sk fun K hK => ?_ | refine bk ?_
  refine wc (fun c37 => ?_) fun c37 => ?_
  replace c37 := t_eq c37
  repeat first | refine sk fun K hK => ?_ | refine bk ?_
  refine WC.drawS [1] (.op 0 (.op 1 .nil)) [2, 3] _ [] mixed (fun _ _ _ _ _ h => h) [] (by kernel_rfl) ?_
  refine yG rfl (pA Tryz.underlying30) ?_
  refine yf rfl (E1 Ev.const) (fun fr => tof_ct _ _ _) ?_
  refine SR.nil rfl rfl ?_
  refine xG (PO.eqlA Tryz.underlying30 (by kernel_rfl) (by kernel_rfl) Et Et rfl) ?_
  refine xA ?_
  refine WL.nil (meetI [(6, .int .u8 3), (7, .bool (eqT t (tyK 1)))] (h'' := .pt b4 (.cells (cellT zeroT).toArray 30 (0, 0)) :: .pt b3 (.cells (cellT t).toArray 30 (0, 0)) :: h) ?_ (by (repeat (first | exact Sub.nil | refine Sub.cons rfl ?_ | refine Sub.consE rfl (by simp; done) ?_))) Sb ⟨3, eqT t (tyK 1), by unfold resT; rw [if_neg (by omega), if_neg (by omega), if_neg (by omega), if_pos (by omega)], rfl, rfl⟩)
  (repeat (first | exact Sub.nil | refine Sub.cons rfl ?_ | refine Sub.consE rfl (by simp; done) ?_))
  replace c37 := f_eq c37
  repeat first | refine sk fun K hK => ?_ | refine bk ?_
  refine WC.drawS [1] (.op 0 (.op 1 (.op 2 (.op 3 .nil)))) [4] _ [] mixed (fun _ _ _ _ _ h => h) [] (by kernel_rfl) ?_
  refine yG rfl (pA Tryz.underlying30) ?_
  refine yf rfl (E1 Ev.const) (fun fr => tof_ct _ _ _) ?_
  refine yG rfl (PO.eqlA Tryz.underlying30 (by kernel_rfl) (by kernel_rfl) Et Et rfl) ?_
  refine yG rfl (PO.assign Ev.const) ?_
  refine SR.nil rfl rfl ?_
  refine xA ?_
  refine WL.nil (meetI [(6, .int .u8 1), (7, .bool (eqT t (tyK 1)))] (h'' := .pt b4 (.cells (cellT zeroT).toArray 30 (0, 0)) :: .pt b3 (.cells (cellT t).toArray 30 (0, 0)) :: h) ?_ (by (repeat (first | exact Sub.nil | refine Sub.cons rfl ?_ | refine Sub.consE rfl (by simp; done) ?_))) Sb ⟨1, eqT t (tyK 1), by unfold resT; rw [if_neg (by omega), if_neg (by omega), if_neg (by omega), if_neg (by omega)], rfl, rfl⟩)
  (repeat (first | exact Sub.nil | refine Sub.cons rfl ?_ | refine Sub.consE rfl (by simp; done) ?_))
  replace c30 := f_eq c30
  repeat first | refine sk fun K hK => ?_ | refine bk ?_ | refine rn fun _ => ?_
  refine xG (PO.bin Et Ev.const rfl) ?_
  refine xA ?_
  refine wn [3, 4, 6, 8, 30] ?_
  repeat first | refine sk fun K hK => ?_ | refine bk ?_
  refine wc (fun c30 => ?_) fun c30 => ?_
  replace c30 := t_eq c30
  refine WC.skip (kp [3, 4, 6, 8, 30] ?_)
  repeat first | refine sk fun K hK => ?_ | refine bk ?_
  refine wc (fun c30 => ?_) fun c30 => ?_
  replace c30 := t_eq c30
  repeat first | refine sk fun K hK => ?_ | refine bk ?_
  refine WC.drawS [1] (.op 0 (.op 1 .nil)) [2, 3] _ [] mixed (fun _ _ _ _ _ h => h) [] (by kernel_rfl) ?_
  refine yG rfl (pA Tryz.underlying30) ?_
  refine yf rfl (E1 Ev.const) (fun fr => tof_ct _ _ _) ?_
  refine SR.nil rfl rfl ?_
  refine xG (PO.eqlA Tryz.underlying30 (by kernel_rfl) (by kernel_rfl) Et Et rfl) ?_
  refine xA ?_
  refine WL.nil (meetI [(6, .int .u8 3), (7, .bool (eqT t (tyK 3)))] (h'' := .pt b4 (.cells (cellT zeroT).toArray 30 (0, 0)) :: .pt b3 (.cells (cellT t).toArray 30 (0, 0)) :: h) ?_ (by (repeat (first | exact Sub.nil | refine Sub.cons rfl ?_ | refine Sub.consE rfl (by simp; done) ?_))) Sb ⟨3, eqT t (tyK 3), by unfold resT; rw [if_neg (by omega), if_neg (by omega), if_pos (by omega)], rfl, rfl⟩)
  (repeat (first | exact Sub.nil | refine Sub.cons rfl ?_ | refine Sub.consE rfl (by simp; done) ?_))
  replace c30 := f_eq c30
  repeat first | refine sk fun K hK => ?_ | refine bk ?_ | refine rn fun _ => ?_
  refine xG (PO.bin Et Ev.const rfl) ?_
  refine xA ?_
  refine wn [3, 4, 6, 37] ?_
  repeat first | refine sk fun K hK => ?_ | refine bk ?_
  refine wc (fun c37 => ?_) fun c37 => ?_
  replace c37 := t_eq c37
  repeat first | refine sk fun K hK => ?_ | refine bk ?_
  refine WC.drawS [1] (.op 0 (.op 1 .nil)) [2, 3] _ [] mixed (fun _ _ _ _ _ h => h) [] (by kernel_rfl) ?_
  refine yG rfl (pA Tryz.underlying30) ?_
  refine yf rfl (E1 Ev.const) (fun fr => tof_ct _ _ _) ?_
  refine SR.nil rfl rfl ?_
  refine xG (PO.eqlA Tryz.underlying30 (by kernel_rfl) (by kernel_rfl) Et Et rfl) ?_
  refine xA ?_
  refine WL.nil (meetI [(6, .int .u8 3), (7, .bool (eqT t (tyK 1)))] (h'' := .pt b4 (.cells (cellT zeroT).toArray 30 (0, 0)) :: .pt b3 (.cells (cellT t).toArray 30 (0, 0)) :: h) ?_ (by (repeat (first | exact Sub.nil | refine Sub.cons rfl ?_ | refine Sub.consE rfl (by simp; done) ?_))) Sb ⟨3, eqT t (tyK 1), by unfold resT; rw [if_neg (by omega), if_neg (by omega), if_neg (by omega), if_pos (by omega)], rfl, rfl⟩)
  (repeat (first | exact Sub.nil | refine Sub.cons rfl ?_ | refine Sub.consE rfl (by simp; done) ?_))
  replace c37 := f_eq c37
  repeat first | refine sk fun K hK => ?_ | refine bk ?_
  refine WC.drawS [1] (.op 0 (.op 1 (.op 2 (.op 3 .nil)))) [4] _ [] mixed (fun _ _ _ _ _ h => h) [] (by kernel_rfl) ?_
  refine yG rfl (pA Tryz.underlying30) ?_
  refine yf rfl (E1 Ev.const) (fun fr => tof_ct _ _ _) ?_
  refine yG rfl (PO.eqlA Tryz.underlying30 (by kernel_rfl) (by kernel_rfl) Et Et rfl) ?_
  refine yG rfl (PO.assign Ev.const) ?_
  refine SR.nil rfl rfl ?_
  refine xA ?_
  refine WL.nil (meetI [(6, .int .u8 1), (7, .bool (eqT t (tyK 1)))] (h'' := .pt b4 (.cells (cellT zeroT).toArray 30 (0, 0)) :: .pt b3 (.cells (cellT t).toArray 30 (0, 0)) :: h) ?_ (by (repeat (first | exact Sub.nil | refine Sub.cons rfl ?_ | refine Sub.consE rfl (by simp; done) ?_))) Sb ⟨1, eqT t (tyK 1), by unfold resT; rw [if_neg (by omega), if_neg (by omega), if_neg (by omega), if_neg (by omega)], rfl, rfl⟩)
  (repeat (first | exact Sub.nil | refine Sub.cons rfl ?_ | refine Sub.consE rfl (by simp; done) ?_))
  replace c30 := f_eq c30
  repeat first | refine sk fun K hK => ?_ | refine bk ?_ | refine rn fun _ => ?_
  refine xG (PO.bin Et Ev.const rfl) ?_
  refine xA ?_
  refine wn [3, 4, 6, 8, 30] ?_
  repeat first | refine sk fun K hK => ?_ | refine bk ?_
  refine wc (fun c30 => ?_) fun c30 => ?_
  replace c30 := t_eq c30
  repeat first | refine sk fun K hK => ?_ | refine bk ?_
  refine WC.drawS [1] (.op 0 (.op 1 .nil)) [2, 3] _ [] mixed (fun _ _ _ _ _ h => h) [] (by kernel_rfl) ?_
  refine yG rfl (pA Tryz.underlying30) ?_
  refine yf rfl (E1 Ev.const) (fun fr => tof_ct _ _ _) ?_
  refine SR.nil rfl rfl ?_
  refine xG (PO.eqlA Tryz.underlying30 (by kernel_rfl) (by kernel_rfl) Et Et rfl) ?_
  refine xA ?_
  refine WL.nil (meetI [(6, .int .u8 3), (7, .bool (eqT t (tyK 3)))] (h'' := .pt b4 (.cells (cellT zeroT).toArray 30 (0, 0)) :: .pt b3 (.cells (cellT t).toArray 30 (0, 0)) :: h) ?_ (by (repeat (first | exact Sub.nil | refine Sub.cons rfl ?_ | refine Sub.consE rfl (by simp; done) ?_))) Sb ⟨3, eqT t (tyK 3), by unfold resT; rw [if_neg (by omega), if_neg (by omega), if_pos (by omega)], rfl, rfl⟩)
  (repeat (first | exact Sub.nil | refine Sub.cons rfl ?_ | refine Sub.consE rfl (by simp; done) ?_))
  replace c30 := f_eq c30
  repeat first | refine sk fun K hK => ?_ | refine bk ?_ | refine rn fun _ => ?_
  refine xG (PO.bin Et Ev.const rfl) ?_
  refine xA ?_
  refine wn [3, 4, 6, 37] ?_
  repeat first | refine sk fun K hK => ?_ | refine bk ?_
  refine wc (fun c37 => ?_) fun c37 => ?_
  replace c37 := t_eq c37
  repeat first | refine sk fun K hK => ?_ | refine bk ?_
  refine WC.drawS [1] (.op 0 (.op 1 .nil)) [2, 3] _ [] mixed (fun _ _ _ _ _ h => h) [] (by kernel_rfl) ?_
  refine yG rfl (pA Tryz.underlying30) ?_
  refine yf rfl (E1 Ev.const) (fun fr => tof_ct _ _ _) ?_
  refine SR.nil rfl rfl ?_
  refine xG (PO.eqlA Tryz.underlying30 (by kernel_rfl) (by kernel_rfl) Et Et rfl) ?_
  refine xA ?_
  refine WL.nil (meetI [(6, .int .u8 3), (7, .bool (eqT t (tyK 1)))] (h'' := .pt b4 (.cells (cellT zeroT).toArray 30 (0, 0)) :: .pt b3 (.cells (cellT t).toArray 30 (0, 0)) :: h) ?_ (by (repeat (first | exact Sub.nil | refine Sub.cons rfl ?_ | refine Sub.consE rfl (by simp; done) ?_))) Sb ⟨3, eqT t (tyK 1), by unfold resT; rw [if_neg (by omega), if_neg (by omega), if_neg (by omega), if_pos (by omega)], rfl, rfl⟩)
  (repeat (first | exact Sub.nil | refine Sub.cons rfl ?_ | refine Sub.consE rfl (by simp; done) ?_))
  replace c37 := f_eq c37
  repeat first | refine sk fun K hK => ?_ | refine bk ?_
  refine WC.drawS [1] (.op 0 (.op 1 (.op 2 (.op 3 .nil)))) [4] _ [] mixed (fun _ _ _ _ _ h => h) [] (by kernel_rfl) ?_
  refine yG rfl (pA Tryz.underlying30) ?_
  refine yf rfl (E1 Ev.const) (fun fr => tof_ct _ _ _) ?_
  refine yG rfl (PO.eqlA Tryz.underlying30 (by kernel_rfl) (by kernel_rfl) Et Et rfl) ?_
  refine yG rfl (PO.assign Ev.const) ?_
  refine SR.nil rfl rfl ?_
  refine xA ?_
  refine WL.nil (meetI [(6, .int .u8 1), (7, .bool (eqT t (tyK 1)))] (h'' := .pt b4 (.cells (cellT zeroT).toArray 30 (0, 0)) :: .pt b3 (.cells (cellT t).toArray 30 (0, 0)) :: h) ?_ (by (repeat (first | exact Sub.nil | refine Sub.cons rfl ?_ | refine Sub.consE rfl (by simp; done) ?_))) Sb ⟨1, eqT t (tyK 1), by unfold resT; rw [if_neg (by omega), if_neg (by omega), if_neg (by omega), if_neg (by omega)], rfl, rfl⟩)
  (repeat (first | exact Sub.nil | refine Sub.cons rfl ?_ | refine Sub.consE rfl (by simp; done) ?_))
  replace c17 := f_eq c17
  repeat first | refine sk fun K hK => ?_ | refine bk ?_ | refine rn fun _ => ?_
  refine xG (PO.bin Et Ev.const rfl) ?_
  refine xA ?_
  refine wn [3, 4, 6, 8, 17] ?_
  repeat first | refine sk fun K hK => ?_ | refine bk ?_
  refine wc (fun c17 => ?_) fun c17 => ?_
  replace c17 := t_eq c17
  repeat first | refine sk fun K hK => ?_ | refine bk ?_
  refine WC.drawS [1, 5] (.op 0 (.op 1 (.op 2 (.op 3 (.op 4 (.op 5 .nil)))))) [6, 7, 8] _ [] mixed (fun _ _ _ _ _ h => h) [] (by kernel_rfl) ?_
  refine yG rfl (pA Tryz.underlying30) ?_
  refine yf rfl (E1 Ev.const) (fun fr => tof_ct _ _ _) ?_
  refine yG rfl (PO.eqlA Tryz.underlying30 (by kernel_rfl) (by kernel_rfl) Et Et rfl) ?_
  refine yG rfl (PO.move Et) ?_
  refine SR.poG rfl rfl (GU.f rfl rfl) (fun hc => PO.loadA Tryz.underlying30 rfl rfl Et Me rfl) (leB rfl) ?_
  refine SR.callG rfl rfl (GU.f rfl rfl) (fun hc => ⟨Ev.func, (Evs.cons Ev.const Evs.nil), fun fr => tof_ct _ _ _⟩) (leB rfl) ?_
  refine SR.nil rfl rfl ?_
  refine WL.poG (GU.f rfl rfl) (fun hc => PO.eqlA Tryz.underlying30 (by kernel_rfl) (by kernel_rfl) (Eg hc) (Eg hc) rfl) (leB rfl) ?_
  refine xQ ?_
  refine xA ?_
  refine WL.nil (meetI [(6, .int .u8 3), (7, .bool (eqT t (tyK 1) || eqT t (tyK 2)))] (h'' := .pt b4 (.cells (cellT zeroT).toArray 30 (0, 0)) :: .pt b3 (.cells (cellT t).toArray 30 (0, 0)) :: h) ?_ (by (repeat (first | exact Sub.nil | refine Sub.cons rfl ?_ | refine Sub.consE rfl (by simp; done) ?_))) Sb ⟨3, eqT t (tyK 1) || eqT t (tyK 2), by unfold resT; rw [if_neg (by omega), if_pos (by omega)], rfl, rfl⟩)
  (repeat (first | exact Sub.nil | refine Sub.cons rfl ?_ | refine Sub.consE rfl (by simp; done) ?_))
  replace c17 := f_eq c17
  repeat first | refine sk fun K hK => ?_ | refine bk ?_ | refine rn fun _ => ?_
  refine xG (PO.bin Et Ev.const rfl) ?_
  refine xA ?_
  refine wn [3, 4, 6, 8, 30] ?_
  repeat first | refine sk fun K hK => ?_ | refine bk ?_
  refine wc (fun c30 => ?_) fun c30 => ?_
  replace c30 := t_eq c30
  refine WC.skip (kp [3, 4, 6, 8, 30] ?_)
  repeat first | refine sk fun K hK => ?_ | refine bk ?_
  refine wc (fun c30 => ?_) fun c30 => ?_
  replace c30 := t_eq c30
  repeat first | refine sk fun K hK => ?_ | refine bk ?_
  refine WC.drawS [1] (.op 0 (.op 1 .nil)) [2, 3] _ [] mixed (fun _ _ _ _ _ h => h) [] (by kernel_rfl) ?_
  refine yG rfl (pA Tryz.underlying30) ?_
  refine yf rfl (E1 Ev.const) (fun fr => tof_ct _ _ _) ?_
  refine SR.nil rfl rfl ?_
  refine xG (PO.eqlA Tryz.underlying30 (by kernel_rfl) (by kernel_rfl) Et Et rfl) ?_
  refine xA ?_
  refine WL.nil (meetI [(6, .int .u8 3), (7, .bool (eqT t (tyK 3)))] (h'' := .pt b4 (.cells (cellT zeroT).toArray 30 (0, 0)) :: .pt b3 (.cells (cellT t).toArray 30 (0, 0)) :: h) ?_ (by (repeat (first | exact Sub.nil | refine Sub.cons rfl ?_ | refine Sub.consE rfl (by simp; done) ?_))) Sb ⟨3, eqT t (tyK 3), by unfold resT; rw [if_neg (by omega), if_neg (by omega), if_pos (by omega)], rfl, rfl⟩)
  (repeat (first | exact Sub.nil | refine Sub.cons rfl ?_ | refine Sub.consE rfl (by simp; done) ?_))
  replace c30 := f_eq c30
  repeat first | refine sk fun K hK => ?_ | refine bk ?_ | refine rn fun _ => ?_
  refine xG (PO.bin Et Ev.const rfl) ?_
  refine xA ?_
  refine wn [3, 4, 6, 37] ?_
  repeat first | refine sk fun K hK => ?_ | refine bk ?_
  refine wc (fun c37 => ?_) fun c37 => ?_
  replace c37 := t_eq c37
  repeat first | refine sk fun K hK => ?_ | refine bk ?_
  refine WC.drawS [1] (.op 0 (.op 1 .nil)) [2, 3] _ [] mixed (fun _ _ _ _ _ h => h) [] (by kernel_rfl) ?_
  refine yG rfl (pA Tryz.underlying30) ?_
  refine yf rfl (E1 Ev.const) (fun fr => tof_ct _ _ _) ?_
  refine SR.nil rfl rfl ?_
  refine xG (PO.eqlA Tryz.underlying30 (by kernel_rfl) (by kernel_rfl) Et Et rfl) ?_
  refine xA ?_
  refine WL.nil (meetI [(6, .int .u8 3), (7, .bool (eqT t (tyK 1)))] (h'' := .pt b4 (.cells (cellT zeroT).toArray 30 (0, 0)) :: .pt b3 (.cells (cellT t).toArray 30 (0, 0)) :: h) ?_ (by (repeat (first | exact Sub.nil | refine Sub.cons rfl ?_ | refine Sub.consE rfl (by simp; done) ?_))) Sb ⟨3, eqT t (tyK 1), by unfold resT; rw [if_neg (by omega), if_neg (by omega), if_neg (by omega), if_pos (by omega)], rfl, rfl⟩)
  (repeat (first | exact Sub.nil | refine Sub.cons rfl ?_ | refine Sub.consE rfl (by simp; done) ?_))
  replace c37 := f_eq c37
  repeat first | refine sk fun K hK => ?_ | refine bk ?_
  refine WC.drawS [1] (.op 0 (.op 1 (.op 2 (.op 3 .nil)))) [4] _ [] mixed (fun _ _ _ _ _ h => h) [] (by kernel_rfl) ?_
  refine yG rfl (pA Tryz.underlying30) ?_
  refine yf rfl (E1 Ev.const) (fun fr => tof_ct _ _ _) ?_
  refine yG rfl (PO.eqlA Tryz.underlying30 (by kernel_rfl) (by kernel_rfl) Et Et rfl) ?_
  refine yG rfl (PO.assign Ev.const) ?_
  refine SR.nil rfl rfl ?_
  refine xA ?_
  refine WL.nil (meetI [(6, .int .u8 1), (7, .bool (eqT t (tyK 1)))] (h'' := .pt b4 (.cells (cellT zeroT).toArray 30 (0, 0)) :: .pt b3 (.cells (cellT t).toArray 30 (0, 0)) :: h) ?_ (by (repeat (first | exact Sub.nil | refine Sub.cons rfl ?_ | refine Sub.consE rfl (by simp; done) ?_))) Sb ⟨1, eqT t (tyK 1), by unfold resT; rw [if_neg (by omega), if_neg (by omega), if_neg (by omega), if_neg (by omega)], rfl, rfl⟩)
  (repeat (first | exact Sub.nil | refine Sub.cons rfl ?_ | refine Sub.consE rfl (by simp; done) ?_))
  replace c30 := f_eq c30
  repeat first | refine sk fun K hK => ?_ | refine bk ?_ | refine rn fun _ => ?_
  refine xG (PO.bin Et Ev.const rfl) ?_
  refine xA ?_
  refine wn [3, 4, 6, 8, 30] ?_
  repeat first | refine sk fun K hK => ?_ | refine bk ?_
  refine wc (fun c30 => ?_) fun c30 => ?_
  replace c30 := t_eq c30
  refine WC.skip (kp [3, 4, 6, 8, 30] ?_)
  repeat first | refine sk fun K hK => ?_ | refine bk ?_
  refine wc (fun c30 => ?_) fun c30 => ?_
  replace c30 := t_eq c30
  repeat first | refine sk fun K hK => ?_ | refine bk ?_
  refine WC.drawS [1] (.op 0 (.op 1 .nil)) [2, 3] _ [] mixed (fun _ _ _ _ _ h => h) [] (by kernel_rfl) ?_
  refine yG rfl (pA Tryz.underlying30) ?_
  refine yf rfl (E1 Ev.const) (fun fr => tof_ct _ _ _) ?_
  refine SR.nil rfl rfl ?_
  refine xG (PO.eqlA Tryz.underlying30 (by kernel_rfl) (by kernel_rfl) Et Et rfl) ?_
  refine xA ?_
  refine WL.nil (meetI [(6, .int .u8 3), (7, .bool (eqT t (tyK 3)))] (h'' := .pt b4 (.cells (cellT zeroT).toArray 30 (0, 0)) :: .pt b3 (.cells (cellT t).toArray 30 (0, 0)) :: h) ?_ (by (repeat (first | exact Sub.nil | refine Sub.cons rfl ?_ | refine Sub.consE rfl (by simp; done) ?_))) Sb ⟨3, eqT t (tyK 3), by unfold resT; rw [if_neg (by omega), if_neg (by omega), if_pos (by omega)], rfl, rfl⟩)
  (repeat (first | exact Sub.nil | refine Sub.cons rfl ?_ | refine Sub.consE rfl (by simp; done) ?_))
  replace c30 := f_eq c30
  repeat first | refine sk fun K hK => ?_ | refine bk ?_ | refine rn fun _ => ?_
  refine xG (PO.bin Et Ev.const rfl) ?_
  refine xA ?_
  refine wn [3, 4, 6, 37] ?_
  repeat first | refine sk fun K hK => ?_ | refine bk ?_
  refine wc (fun c37 => ?_) fun c37 => ?_
  replace c37 := t_eq c37
  repeat first | refine sk fun K hK => ?_ | refine bk ?_
  refine WC.drawS [1] (.op 0 (.op 1 .nil)) [2, 3] _ [] mixed (fun _ _ _ _ _ h => h) [] (by kernel_rfl) ?_
  refine yG rfl (pA Tryz.underlying30) ?_
  refine yf rfl (E1 Ev.const) (fun fr => tof_ct _ _ _) ?_
  refine SR.nil rfl rfl ?_
  refine xG (PO.eqlA Tryz.underlying30 (by kernel_rfl) (by kernel_rfl) Et Et rfl) ?_
  refine xA ?_
  refine WL.nil (meetI [(6, .int .u8 3), (7, .bool (eqT t (tyK 1)))] (h'' := .pt b4 (.cells (cellT zeroT).toArray 30 (0, 0)) :: .pt b3 (.cells (cellT t).toArray 30 (0, 0)) :: h) ?_ (by (repeat (first | exact Sub.nil | refine Sub.cons rfl ?_ | refine Sub.consE rfl (by simp; done) ?_))) Sb ⟨3, eqT t (tyK 1), by unfold resT; rw [if_neg (by omega), if_neg (by omega), if_neg (by omega), if_pos (by omega)], rfl, rfl⟩)
  (repeat (first | exact Sub.nil | refine Sub.cons rfl ?_ | refine Sub.consE rfl (by simp; done) ?_))
  replace c37 := f_eq c37
  repeat first | refine sk fun K hK => ?_ | refine bk ?_
  refine WC.drawS [1] (.op 0 (.op 1 (.op 2 (.op 3 .nil)))) [4] _ [] mixed (fun _ _ _ _ _ h => h) [] (by kernel_rfl) ?_
  refine yG rfl (pA Tryz.underlying30) ?_
  refine yf rfl (E1 Ev.const) (fun fr => tof_ct _ _ _) ?_
  refine yG rfl (PO.eqlA Tryz.underlying30 (by kernel_rfl) (by kernel_rfl) Et Et rfl) ?_
  refine yG rfl (PO.assign Ev.const) ?_
  refine SR.nil rfl rfl ?_
  refine xA ?_
  refine WL.nil (meetI [(6, .int .u8 1), (7, .bool (eqT t (tyK 1)))] (h'' := .pt b4 (.cells (cellT zeroT).toArray 30 (0, 0)) :: .pt b3 (.cells (cellT t).toArray 30 (0, 0)) :: h) ?_ (by (repeat (first | exact Sub.nil | refine Sub.cons rfl ?_ | refine Sub.consE rfl (by simp; done) ?_))) Sb ⟨1, eqT t (tyK 1), by unfold resT; rw [if_neg (by omega), if_neg (by omega), if_neg (by omega), if_neg (by omega)], rfl, rfl⟩)
  (repeat (first | exact Sub.nil | refine Sub.cons rfl ?_ | refine Sub.consE rfl (by simp; done) ?_))
  replace c30 := f_eq c30
  repeat first | refine sk fun K hK => ?_ | refine bk ?_ | refine rn fun _ => ?_
  refine xG (PO.bin Et Ev.const rfl) ?_
  refine xA ?_
  refine wn [3, 4, 6, 8, 30] ?_
  repeat first | refine sk fun K hK => ?_ | refine bk ?_
  refine wc (fun c30 => ?_) fun c30 => ?_
  replace c30 := t_eq c30
  repeat first | refine sk fun K hK => ?_ | refine bk ?_
  refine WC.drawS [1] (.op 0 (.op 1 .nil)) [2, 3] _ [] mixed (fun _ _ _ _ _ h => h) [] (by kernel_rfl) ?_
  refine yG rfl (pA Tryz.underlying30) ?_
  refine yf rfl (E1 Ev.const) (fun fr => tof_ct _ _ _) ?_
  refine SR.nil rfl rfl ?_
  refine xG (PO.eqlA Tryz.underlying30 (by kernel_rfl) (by kernel_rfl) Et Et rfl) ?_
  refine xA ?_
  refine WL.nil (meetI [(6, .int .u8 3), (7, .bool (eqT t (tyK 3)))] (h'' := .pt b4 (.cells (cellT zeroT).toArray 30 (0, 0)) :: .pt b3 (.cells (cellT t).toArray 30 (0, 0)) :: h) ?_ (by (repeat (first | exact Sub.nil | refine Sub.cons rfl ?_ | refine Sub.consE rfl (by simp; done) ?_))) Sb ⟨3, eqT t (tyK 3), by unfold resT; rw [if_neg (by omega), if_neg (by omega), if_pos (by omega)], rfl, rfl⟩)
  (repeat (first | exact Sub.nil | refine Sub.cons rfl ?_ | refine Sub.consE rfl (by simp; done) ?_))
  replace c30 := f_eq c30
  repeat first | refine sk fun K hK => ?_ | refine bk ?_ | refine rn fun _ => ?_
  refine xG (PO.bin Et Ev.const rfl) ?_
  refine xA ?_
  refine wn [3, 4, 6, 37] ?_
  repeat first | refine sk fun K hK => ?_ | refine bk ?_
  refine wc (fun c37 => ?_) fun c37 => ?_
  replace c37 := t_eq c37
  repeat first | refine sk fun K hK => ?_ | refine bk ?_
  refine WC.drawS [1] (.op 0 (.op 1 .nil)) [2, 3] _ [] mixed (fun _ _ _ _ _ h => h) [] (by kernel_rfl) ?_
  refine yG rfl (pA Tryz.underlying30) ?_
  refine yf rfl (E1 Ev.const) (fun fr => tof_ct _ _ _) ?_
  refine SR.nil rfl rfl ?_
  refine xG (PO.eqlA Tryz.underlying30 (by kernel_rfl) (by kernel_rfl) Et Et rfl) ?_
  refine xA ?_
  refine WL.nil (meetI [(6, .int .u8 3), (7, .bool (eqT t (tyK 1)))] (h'' := .pt b4 (.cells (cellT zeroT).toArray 30 (0, 0)) :: .pt b3 (.cells (cellT t).toArray 30 (0, 0)) :: h) ?_ (by (repeat (first | exact Sub.nil | refine Sub.cons rfl ?_ | refine Sub.consE rfl (by simp; done) ?_))) Sb ⟨3, eqT t (tyK 1), by unfold resT; rw [if_neg (by omega), if_neg (by omega), if_neg (by omega), if_pos (by omega)], rfl, rfl⟩)
  (repeat (first | exact Sub.nil | refine Sub.cons rfl ?_ | refine Sub.consE rfl (by simp; done) ?_))
  replace c37 := f_eq c37
  repeat first | refine sk fun K hK => ?_ | refine bk ?_
  refine WC.drawS [1] (.op 0 (.op 1 (.op 2 (.op 3 .nil)))) [4] _ [] mixed (fun _ _ _ _ _ h => h) [] (by kernel_rfl) ?_
  refine yG rfl (pA Tryz.underlying30) ?_
  refine yf rfl (E1 Ev.const) (fun fr => tof_ct _ _ _) ?_
  refine yG rfl (PO.eqlA Tryz.underlying30 (by kernel_rfl) (by kernel_rfl) Et Et rfl) ?_
  refine yG rfl (PO.assign Ev.const) ?_
  refine SR.nil rfl rfl ?_
  refine xA ?_
  refine WL.nil (meetI [(6, .int .u8 1), (7, .bool (eqT t (tyK 1)))] (h'' := .pt b4 (.cells (cellT zeroT).toArray 30 (0, 0)) :: .pt b3 (.cells (cellT t).toArray 30 (0, 0)) :: h) ?_ (by (repeat (first | exact Sub.nil | refine Sub.cons rfl ?_ | refine Sub.consE rfl (by simp; done) ?_))) Sb ⟨1, eqT t (tyK 1), by unfold resT; rw [if_neg (by omega), if_neg (by omega), if_neg (by omega), if_neg (by omega)], rfl, rfl⟩)
  (repeat (first | exact Sub.nil | refine Sub.cons rfl ?_ | refine Sub.consE rfl (by simp; done) ?_))
  rintro _ _ ⟨kk, bb, hr, rfl, rfl⟩
  refine WC.frm rfl ?_
  repeat first | refine sk fun K hK => ?_ | refine bk ?_ | refine rn fun _ => ?_
  refine xM ?_
  refine xG (PO.not Et) ?_
  refine wn [4, 6, 43] ?_
  repeat first | refine sk fun K hK => ?_ | refine bk ?_
  refine wc (fun c43 => ?_) fun c43 => ?_
  have hb : bb = false := by simpa using c43
  rw [hb] at hr
  repeat first | refine sk fun K hK => ?_ | refine bk ?_ | refine rn fun _ => ?_
  refine xG (PO.build Tryz.underlying30 rfl rfl rfl EvP.nil rfl) ?_
  refine xS ?_
  refine xC ?_
  refine wn [4, 5] ?_
  refine WC.ret (end2 (h' := h) (.inl rfl) rfl (RV.cellA Tryz.underlying30 rfl rfl rfl Me rfl) (RV.tmp rfl) (View.le.refl m) Sb ?_)
  exact ⟨by rw [hr]; rfl, rfl⟩
  have hb : bb = true := by simpa using c43
  rw [hb] at hr
  refine WC.skip (kp [4, 6] ?_)
  repeat first | refine sk fun K hK => ?_ | refine bk ?_ | refine rn fun _ => ?_
  refine xM ?_
  refine xf (E1 Et) (tof_ct _ _ _) ?_
  refine xS ?_
  refine xC ?_
  refine wn [4, 5] ?_
  refine WC.ret (end2 (h' := h) (.inl rfl) rfl (RV.cellA Tryz.underlying30 rfl rfl rfl Me rfl) (RV.tmp rfl) (View.le.refl m) Sb ?_)
  exact ⟨by rw [hr]; rfl, rfl⟩
end Go.Proofs.YtdhmplmpbcnojaaGreatDoor
end
/- TpE -/
section
namespace Go.Proofs.YtdhmplmpbcnojaaGreatDoor
open Go.Eng Go.Pc Go.Tg Go
open Go.Xp hiding B nameT
open Go.Ty (Ty eqT tyV cellT zeroT)
open Go.Lx (encB encB_len)
set_option maxRecDepth 100000
/-- What typeOf gives: what is held counts only where there is no error. -/
def TyR (h : List Res) (r : Except Int Hd) : Value → View → List Res → Prop := fun v _ h' => ∃ hd, v = heldV hd (errT r) ∧ (∀ x, r = .ok x → hd = x) ∧ h' = h
theorem tis_ct {m : View} (v : Value) (e : Ex) (t : Ty) (r : Except Int Hd) (hr0 : ∀ w, r = .error w → w ≠ 0) (h : List Res) (hq : ∀ h', h.Sublist h' → CT Tryz.prog 26 [v, exV e] h' m (TyR h' r)) :
    CT Tryz.prog 41 [v, exV e, tyV t] h m (Pure1 h (.int .i64 (isT r t))) := by
  refine CT.body Tryz.call41 Tryz.func41 rfl Tryz.ntmps41 (leB rfl) rfl ?_
  repeat first | refine sk fun K hK => ?_ | refine bk ?_ | refine rn fun _ => ?_
  refine xX fun b4 => ?_
  refine xX fun b5 => ?_
  refine xC ?_
  refine wn [0, 4, 5] ?_
  repeat first | refine sk fun K hK => ?_ | refine bk ?_ | refine rn fun _ => ?_
  refine xM ?_
  refine xG (pA Tryz.underlying27) ?_
  refine xg (E2 Et Et) (hq _ Sb) ?_
  rintro _ _ ⟨hd, rfl, hhd, rfl⟩
  refine xM ?_
  refine xE ?_
  refine xE ?_
  refine xW fun b7 => ?_
  refine xS ?_
  refine xA ?_
  refine wn [5, 7, 8] ?_
  repeat first | refine sk fun K hK => ?_ | refine bk ?_ | refine rg fun ops hG => ?_
  refine xM ?_
  refine xG (PO.bin Et Ev.const rfl) ?_
  refine xM ?_
  refine zG (fun _ => pF Tryz.underlying76) ?_
  refine zG (fun hc => PO.loadA Tryz.underlying30 rfl rfl (Eg hc) Me rfl) ?_
  refine zG (fun _ => pA Tryz.underlying30) ?_
  refine WL.poG (GU.t (hG _ _ rfl) rfl) (fun hc => PO.neqA Tryz.underlying30 (by kernel_rfl) (by kernel_rfl) (Eg hc) (Eg hc) rfl) (leB rfl) ?_
  refine xP ?_
  refine wn [8, 22] ?_
  try clear hG ops
  repeat first | refine sk fun K hK => ?_ | refine bk ?_
  refine wc (fun c22 => ?_) fun c22 => ?_
  have hc : errT r = 0 ∧ eqT hd.t t = false := by
    simp only [Bool.and_eq_true, beq_iff_eq] at c22
    refine ⟨c22.1, ?_⟩
    cases heq : eqT hd.t t with
    | false => rfl
    | true =>
      simp [eqT] at heq
      simp at c22
      simp_all
  have hi : isT r t = 130 := by
    cases hr : r with
    | error w => rw [hr] at hc; exact absurd hc.1 (hr0 w hr)
    | ok x =>
      rw [hhd x hr] at hc
      show (if eqT x.t t then (0 : Int) else 130) = 130
      rw [if_neg (by rw [hc.2]; decide)]
  repeat first | refine sk fun K hK => ?_ | refine bk ?_ | refine rn fun _ => ?_
  refine xC ?_
  refine wn [6] ?_
  refine WC.ret (wR (h) ?_)
  exact ⟨by rw [hi], rfl⟩
  have hi : isT r t = errT r := by
    cases hr : r with
    | error w => rfl
    | ok x =>
      rw [hr, hhd x hr] at c22
      show (if eqT x.t t then (0 : Int) else 130) = 0
      rw [if_pos (by simpa [bne, errT, eqT] using c22)]
  refine WC.skip (kp [8] ?_)
  repeat first | refine sk fun K hK => ?_ | refine bk ?_ | refine rn fun _ => ?_
  refine xM ?_
  refine xA ?_
  refine wn [6] ?_
  refine WC.ret (wR (h) ?_)
  exact ⟨by rw [hi]; rfl, rfl⟩
end Go.Proofs.YtdhmplmpbcnojaaGreatDoor
end
/- TpF -/
section
namespace Go.Proofs.YtdhmplmpbcnojaaGreatDoor
open Go.Eng Go.Pc Go.Tg Go
open Go.Xp hiding B nameT
open Go.Ty (Ty eqT tyV cellT zeroT)
open Go.Lx (encB encB_len)
set_option maxRecDepth 100000
def tailT (k o t : Int) (hd : Hd) : Except Int Hd :=
  if k ≠ 8 then (match resT o hd.t with | .error w => .error w | .ok r => .ok ⟨r, 0⟩) else if simT hd.t then .ok (simpleH t) else .error 130
theorem okE {r : Except Int Hd} {hd : Hd} (hr : ∀ w, r = .error w → w ≠ 0) (h0 : errT r = 0) (hh : ∀ x, r = .ok x → hd = x) : r = .ok hd := by
  cases r with
  | error w => exact absurd h0 (hr w rfl)
  | ok x => rw [hh x rfl]
theorem arr_ok {s : List En} {nm : B} (h : errT (arrT s nm) = 0) : ∃ q, arrT s nm = .ok q ∧ nameT s nm = .ok q := by
  cases hA : arrT s nm with
  | error w => rw [hA] at h; exact absurd h (arrT_err s nm w hA)
  | ok q =>
    refine ⟨q, rfl, ?_⟩
    unfold arrT at hA
    split at hA
    · cases hA
    · rename_i x hx
      split at hA
      · cases hA
      · cases hA; exact hx
theorem typL_0 (s : List En) {l : List Ex} {x : Ex} (h : l[0]? = some x) : (typL s l).getD 0 (.error 130) = typE s x := by
  cases l with
  | nil => cases h
  | cons y r => cases h; rfl
theorem typeOf_ct {m : View} (s : List En) (a : Option Addr) (k c : Nat) (ho : ScOk m a k c s) (e : Ex) : ∀ h, TOk m h e → Wf e → Fine e →
    CT Tryz.prog 26 [.slice a k c, exV e] h m (TyR h (typE s e)) := by
  refine Ex.ind (p := fun e => ∀ h, TOk m h e → Wf e → Fine e → CT Tryz.prog 26 [.slice a k c, exV e] h m (TyR h (typE s e))) (fun e ih h hT hW hF => ?_) e
  have hr := hT.rd
  have hmx := hr.mx
  have hkx := hr.le
  have he := typE_eq s e
  refine CT.body Tryz.call26 Tryz.func26 rfl Tryz.ntmps26 (leB rfl) rfl ?_
  repeat first | refine sk fun K hK => ?_ | refine bk ?_ | refine rn fun _ => ?_
  refine xX fun b3 => ?_
  refine xW fun b4 => ?_
  refine xC ?_
  refine wn [0, 3, 4] ?_
  repeat first | refine sk fun K hK => ?_ | refine bk ?_ | refine rn fun _ => ?_
  refine xF Tryz.underlying27 ?_
  refine xG (pL Tryz.underlying22) ?_
  refine wn [0, 3, 4, 15] ?_
  repeat first | refine sk fun K hK => ?_ | refine bk ?_ | refine rn fun _ => ?_
  refine xG (PO.bin Et Ev.const rfl) ?_
  refine xA ?_
  refine wn [0, 3, 4, 15, 16] ?_
  repeat first | refine sk fun K hK => ?_ | refine bk ?_
  refine wc (fun c16 => ?_) fun c16 => ?_
  replace c16 := t_eq c16
  unfold tyC at he
  rw [if_pos c16] at he
  repeat first | refine sk fun K hK => ?_ | refine bk ?_ | refine rn fun _ => ?_
  refine xf (E1 Ev.const) (tof_ct _ _ _) ?_
  refine xG (PO.build Tryz.underlying76 rfl rfl rfl (EvP.cons Et EvP.nil) rfl) ?_
  refine xS ?_
  refine xC ?_
  refine wn [4, 5] ?_
  refine WC.ret (end2 (h' := h) (.inl rfl) rfl (RV.cellA Tryz.underlying76 rfl rfl rfl Me rfl) (RV.tmp rfl) (View.le.refl m) Sb ?_)
  exact ⟨simpleH 1, by rw [he]; rfl, fun x hx => by rw [he] at hx; cases hx; rfl, rfl⟩
  replace c16 := f_eq c16
  repeat first | refine sk fun K hK => ?_ | refine bk ?_ | refine rn fun _ => ?_
  refine xG (PO.bin Et Ev.const rfl) ?_
  refine xA ?_
  refine wn [0, 3, 4, 15, 20] ?_
  repeat first | refine sk fun K hK => ?_ | refine bk ?_
  refine wc (fun c20 => ?_) fun c20 => ?_
  replace c20 := t_eq c20
  unfold tyC at he
  rw [if_neg c16, if_pos c20] at he
  repeat first | refine sk fun K hK => ?_ | refine bk ?_ | refine rn fun _ => ?_
  refine xf (E1 Ev.const) (tof_ct _ _ _) ?_
  refine xG (PO.build Tryz.underlying76 rfl rfl rfl (EvP.cons Et EvP.nil) rfl) ?_
  refine xS ?_
  refine xC ?_
  refine wn [4, 5] ?_
  refine WC.ret (end2 (h' := h) (.inl rfl) rfl (RV.cellA Tryz.underlying76 rfl rfl rfl Me rfl) (RV.tmp rfl) (View.le.refl m) Sb ?_)
  exact ⟨simpleH 2, by rw [he]; rfl, fun x hx => by rw [he] at hx; cases hx; rfl, rfl⟩
  replace c20 := f_eq c20
  repeat first | refine sk fun K hK => ?_ | refine bk ?_ | refine rn fun _ => ?_
  refine xG (PO.bin Et Ev.const rfl) ?_
  refine xA ?_
  refine wn [0, 3, 4, 15, 24] ?_
  repeat first | refine sk fun K hK => ?_ | refine bk ?_
  refine wc (fun c24 => ?_) fun c24 => ?_
  replace c24 := t_eq c24
  unfold tyC at he
  rw [if_neg c16, if_neg c20, if_pos c24] at he
  repeat first | refine sk fun K hK => ?_ | refine bk ?_ | refine rn fun _ => ?_
  refine xf (E1 Ev.const) (tof_ct _ _ _) ?_
  refine xG (PO.build Tryz.underlying76 rfl rfl rfl (EvP.cons Et EvP.nil) rfl) ?_
  refine xS ?_
  refine xC ?_
  refine wn [4, 5] ?_
  refine WC.ret (end2 (h' := h) (.inl rfl) rfl (RV.cellA Tryz.underlying76 rfl rfl rfl Me rfl) (RV.tmp rfl) (View.le.refl m) Sb ?_)
  exact ⟨simpleH 3, by rw [he]; rfl, fun x hx => by rw [he] at hx; cases hx; rfl, rfl⟩
  replace c24 := f_eq c24
  repeat first | refine sk fun K hK => ?_ | refine bk ?_ | refine rn fun _ => ?_
  refine xG (PO.bin Et Ev.const rfl) ?_
  refine xA ?_
  refine wn [0, 3, 4, 15, 28] ?_
  repeat first | refine sk fun K hK => ?_ | refine bk ?_
  refine wc (fun c28 => ?_) fun c28 => ?_
  replace c28 := t_eq c28
  unfold tyC at he
  rw [if_neg c16, if_neg c20, if_neg c24, if_pos c28] at he
  repeat first | refine sk fun K hK => ?_ | refine bk ?_ | refine rn fun _ => ?_
  refine xM ?_
  refine xF Tryz.underlying27 ?_
  refine xG (pL Tryz.underlying9) ?_
  refine xf (E2 Et Et) (tname_ct s _ _ _ ho e.s _) ?_
  refine xE ?_
  refine xE ?_
  refine xS ?_
  refine xA ?_
  refine wn [4, 5] ?_
  refine WC.ret (end2 (h' := h) (.inl rfl) rfl (RV.cellA Tryz.underlying76 rfl rfl rfl Me rfl) (RV.tmp rfl) (View.le.refl m) Sb ?_)
  exact ⟨okT (nameT s e.s), by rw [he]; rfl, fun x hx => by rw [he] at hx; rw [hx]; rfl, rfl⟩
  replace c28 := f_eq c28
  repeat first | refine sk fun K hK => ?_ | refine bk ?_ | refine rn fun _ => ?_
  refine xG (PO.bin Et Ev.const rfl) ?_
  refine xA ?_
  refine wn [0, 3, 4, 15, 36] ?_
  repeat first | refine sk fun K hK => ?_ | refine bk ?_
  refine wc (fun c36 => ?_) fun c36 => ?_
  replace c36 := t_eq c36
  unfold tyC at he
  rw [if_neg c16, if_neg c20, if_neg c24, if_neg c28, if_pos c36] at he
  repeat first | refine sk fun K hK => ?_ | refine bk ?_ | refine rn fun _ => ?_
  refine xM ?_
  refine xF Tryz.underlying27 ?_
  refine xG (pL Tryz.underlying9) ?_
  refine xf (E2 Et Et) (tarr_ct s _ _ _ ho e.s _) ?_
  refine xM ?_
  refine xE ?_
  refine xE ?_
  refine xW fun b6 => ?_
  refine xS ?_
  refine xA ?_
  refine wn [4, 7] ?_
  repeat first | refine sk fun K hK => ?_ | refine bk ?_ | refine rn fun _ => ?_
  refine xf (E1 Ev.const) (tof_ct _ _ _) ?_
  refine xG (PO.build Tryz.underlying76 rfl rfl rfl (EvP.cons Et EvP.nil) rfl) ?_
  refine xM ?_
  refine xS ?_
  refine xA ?_
  refine wn [4, 5] ?_
  refine WC.ret (end2 (h' := h) (.inl rfl) rfl (RV.cellA Tryz.underlying76 rfl rfl rfl Me rfl) (RV.tmp rfl) (View.le.refl m) Sb ?_)
  exact ⟨simpleH 1, by rw [he]; cases arrT s e.s <;> rfl, fun x hx => by rw [he] at hx; cases hA : arrT s e.s <;> rw [hA] at hx <;> cases hx <;> rfl, rfl⟩
  replace c36 := f_eq c36
  repeat first | refine sk fun K hK => ?_ | refine bk ?_ | refine rn fun _ => ?_
  refine xG (PO.bin Et Ev.const rfl) ?_
  refine xA ?_
  refine wn [0, 3, 4, 48] ?_
  repeat first | refine sk fun K hK => ?_ | refine bk ?_
  refine wc (fun c48 => ?_) fun c48 => ?_
  replace c48 := t_eq c48
  unfold tyC at he
  rw [if_neg c16, if_neg c20, if_neg c24, if_neg c28, if_neg c36, if_pos c48] at he
  obtain ⟨x0, hl⟩ := one_part hF (.inl c48)
  have hx0 : e.l[0]? = some x0 := by rw [hl]; rfl
  have hln : e.l.length = 1 := by rw [hl]; rfl
  have hxm : x0 ∈ e.l := by rw [hl]; exact List.Mem.head _
  have h0 : (typL s e.l).getD 0 (.error 130) = typE s x0 := by rw [hl]; rfl
  rw [h0] at he
  repeat first | refine sk fun K hK => ?_ | refine bk ?_ | refine rn fun _ => ?_
  refine xM ?_
  refine xF Tryz.underlying27 ?_
  refine xG (pL Tryz.underlying9) ?_
  refine xf (E2 Et Et) (tarr_ct s _ _ _ ho e.s _) ?_
  refine xM ?_
  refine xE ?_
  refine xE ?_
  refine xW fun b8 => ?_
  refine xS ?_
  refine xA ?_
  refine wn [0, 3, 4, 8, 9] ?_
  repeat first | refine sk fun K hK => ?_ | refine bk ?_ | refine rn fun _ => ?_
  refine xM ?_
  refine xG (PO.bin Et Ev.const rfl) ?_
  refine wn [0, 3, 4, 8, 9, 58] ?_
  repeat first | refine sk fun K hK => ?_ | refine bk ?_
  refine wc (fun c58 => ?_) fun c58 => ?_
  replace c58 := t_eq c58
  obtain ⟨q, h1, h2⟩ := arr_ok c58
  rw [h1] at he
  dsimp only at he
  repeat first | refine sk fun K hK => ?_ | refine bk ?_
  refine WC.drawS [5] (.op 0 (.op 1 (.op 2 (.op 3 (.op 4 (.op 5 .nil)))))) [6, 7] _ [] mixed (fun _ _ _ _ _ h => h) [] (by kernel_rfl) ?_
  refine yG rfl (PO.move Et) ?_
  refine yG rfl (pF Tryz.underlying27) ?_
  refine yG rfl (pL Tryz.underlying25) ?_
  refine yG rfl (PO.idx EL25.und EL25.size EL25.posz (Ev.tmp rfl) Ev.const Rr rfl (q := 0) (by omega)) ?_
  refine yG rfl (PO.loadFA Tryz.underlying27 rfl rfl exE_len Rr (Ev.tmp rfl) (by assumption) rfl rfl (Nat.succ_pos _)) ?_
  refine yf rfl (E1 Ev.const) (fun fr => tof_ct _ _ _) ?_
  refine SR.nil rfl rfl ?_
  refine xf (E3 Et Et Et) (tis_ct _ x0 (tyK 1) (typE s x0) (typE_err s x0) _ (fun h' hs => ih x0 hxm h' ((hT.part hxm).mono (List.Sublist.trans Sb hs)) (hW.part hxm) (hF.part hxm))) ?_
  refine xA ?_
  refine wn [4, 8, 9] ?_
  repeat first | refine sk fun K hK => ?_ | refine bk ?_ | refine rn fun _ => ?_
  refine xF Tryz.underlying76 ?_
  refine xF Tryz.underlying30 ?_
  refine xS ?_
  refine wn [4, 8, 9] ?_
  repeat first | refine sk fun K hK => ?_ | refine bk ?_ | refine rn fun _ => ?_
  refine xG (pA Tryz.underlying76) ?_
  refine xM ?_
  refine xS ?_
  refine xA ?_
  refine wn [4, 5] ?_
  refine WC.ret (end2 (h' := h) (.inl rfl) rfl (RV.cellA Tryz.underlying76 rfl rfl rfl Me rfl) (RV.tmp rfl) (View.le.refl m) Sb ?_)
  by_cases hi : isT (typE s x0) (tyK 1) = 0
  · rw [if_pos hi] at he
    exact ⟨⟨{ q.t with dim := 0 }, q.ar⟩, by rw [he, h2, hi]; rfl, fun x hx => (by rw [he] at hx; cases hx; rfl), rfl⟩
  · rw [if_neg hi] at he
    exact ⟨⟨{ q.t with dim := 0 }, q.ar⟩, by rw [he, h2]; rfl, fun x hx => (by rw [he] at hx; cases hx), rfl⟩
  replace c58 := f_eq c58
  obtain ⟨q, h1⟩ : ∃ w, arrT s e.s = .error w := by
    cases hA : arrT s e.s with
    | error w => exact ⟨w, rfl⟩
    | ok q => rw [hA] at c58; exact absurd rfl c58
  rw [h1] at he
  dsimp only at he
  refine WC.skip (kp [4, 8, 9] ?_)
  repeat first | refine sk fun K hK => ?_ | refine bk ?_ | refine rn fun _ => ?_
  refine xF Tryz.underlying76 ?_
  refine xF Tryz.underlying30 ?_
  refine xS ?_
  refine wn [4, 8, 9] ?_
  repeat first | refine sk fun K hK => ?_ | refine bk ?_ | refine rn fun _ => ?_
  refine xG (pA Tryz.underlying76) ?_
  refine xM ?_
  refine xS ?_
  refine xA ?_
  refine wn [4, 5] ?_
  refine WC.ret (end2 (h' := h) (.inl rfl) rfl (RV.cellA Tryz.underlying76 rfl rfl rfl Me rfl) (RV.tmp rfl) (View.le.refl m) Sb ?_)
  exact ⟨⟨{ (okT (nameT s e.s)).t with dim := 0 }, (okT (nameT s e.s)).ar⟩, by rw [he, h1]; rfl, fun x hx => (by rw [he] at hx; cases hx), rfl⟩
  replace c48 := f_eq c48
  unfold tyC at he
  rw [if_neg c16, if_neg c20, if_neg c24, if_neg c28, if_neg c36, if_neg c48] at he
  have hkd := good_kind hF
  have hk3 : e.k = 6 ∨ e.k = 7 ∨ e.k = 8 := by omega
  have hl1 : 1 ≤ e.l.length := by
    rcases hk3 with h6 | h7 | h8
    · obtain ⟨x, hl⟩ := one_part hF (.inr (.inl h6)); rw [hl]; exact Nat.le_refl _
    · obtain ⟨x, y, hl⟩ := two_parts hF h7; rw [hl]; exact Nat.le_succ _
    · obtain ⟨x, hl⟩ := one_part hF (.inr (.inr h8)); rw [hl]; exact Nat.le_refl _
  obtain ⟨x0, hx0⟩ := get_some (l := e.l) (k := 0) (by omega)
  have hxm := List.mem_of_getElem? hx0
  have g0 := typL_0 s hx0
  refine WC.skip (kp [0, 3, 4] ?_)
  repeat first | refine sk fun K hK => ?_ | refine bk ?_ | refine rn fun _ => ?_
  refine xM ?_
  refine xF Tryz.underlying27 ?_
  refine xG (pL Tryz.underlying25) ?_
  refine xG (PO.idx EL25.und EL25.size EL25.posz (Ev.tmp rfl) Ev.const Rr rfl (q := 0) (by omega)) ?_
  refine xG (PO.loadFA Tryz.underlying27 rfl rfl exE_len Rr (Ev.tmp rfl) (by assumption) rfl rfl (Nat.succ_pos _)) ?_
  refine xg (E2 Et Et) (ih x0 hxm _ ((hT.part hxm).mono Sb) (hW.part hxm) (hF.part hxm)) ?_
  rintro _ _ ⟨hd, rfl, hhd, rfl⟩
  refine xM ?_
  refine xE ?_
  refine xE ?_
  refine xW fun b10 => ?_
  refine xS ?_
  refine xA ?_
  refine wn [0, 3, 4, 10, 11] ?_
  repeat first | refine sk fun K hK => ?_ | refine bk ?_ | refine rg fun ops hG => ?_
  refine xM ?_
  refine xG (PO.bin Et Ev.const rfl) ?_
  refine xM ?_
  refine zG (fun _ => pF Tryz.underlying27) ?_
  refine zG (fun hc => PO.load1 Tryz.underlying22 rfl (Eg hc) Me rfl) ?_
  refine zG (fun hc => PO.bin (Eg hc) Ev.const rfl) ?_
  refine xP ?_
  refine wn [0, 3, 4, 10, 11, 85] ?_
  try clear hG ops
  (repeat refine WC.seqK fun K hK => ?_)
  refine WC.cutK (by assumption) [3, 4, 10] rfl (fun F' h' => ∃ er : Int, ((er ≠ 0 → typE s e = .error er) ∧ (er = 0 → typE s e = tailT e.k e.o e.t hd)) ∧ F' = [(11, .int .i64 er)] ∧ .pt b10 (.cells (hdE hd).toArray 76 (0, 0)) :: .pt b4 (.cells (hdE zeroH).toArray 76 (0, 0)) :: .pt b3 (.cells (exE e).toArray 27 (0, 0)) :: h = h') ?_ ?_
  repeat first | refine sk fun K hK => ?_ | refine bk ?_
  refine wc (fun c85 => ?_) fun c85 => ?_
  have hk7 : e.k = 7 := by simp at c85; exact c85.2
  obtain ⟨xx, y0, hl⟩ := two_parts hF hk7
  have hy0 : e.l[1]? = some y0 := by rw [hl]; rfl
  have hln2 : e.l.length = 2 := by rw [hl]; rfl
  have hym := List.mem_of_getElem? hy0
  have hE : typE s x0 = .ok hd := okE (typE_err s x0) (by simp at c85; exact c85.1) hhd
  have g1 : (typL s e.l).getD 1 (.error 130) = typE s y0 := by rw [hl]; rfl
  rw [g0, g1, hE] at he
  dsimp only at he
  repeat first | refine sk fun K hK => ?_ | refine bk ?_
  refine WC.drawS [] (.op 0 (.op 1 (.op 2 (.op 3 (.op 4 (.op 5 (.op 6 .nil))))))) [7, 8] _ [] mixed (fun _ _ _ _ _ h => h) [] (by kernel_rfl) ?_
  refine yG rfl (PO.move Et) ?_
  refine yG rfl (pF Tryz.underlying27) ?_
  refine yG rfl (pL Tryz.underlying25) ?_
  refine yG rfl (PO.idx EL25.und EL25.size EL25.posz (Ev.tmp rfl) Ev.const Rr rfl (q := 1) (by omega)) ?_
  refine yG rfl (PO.loadFA Tryz.underlying27 rfl rfl exE_len Rr (Ev.tmp rfl) (by assumption) rfl rfl (Nat.succ_pos _)) ?_
  refine yG rfl (pF Tryz.underlying76) ?_
  refine yG rfl (pA Tryz.underlying30) ?_
  refine SR.nil rfl rfl ?_
  refine xf (E3 Et Et Et) (tis_ct _ y0 hd.t (typE s y0) (typE_err s y0) _ (fun h' hs => ih y0 hym h' ((hT.part hym).mono (List.Sublist.trans Sb hs)) (hW.part hym) (hF.part hym))) ?_
  refine xA ?_
  refine WL.nil (meetI [(11, .int .i64 (isT (typE s y0) hd.t))] (h'' := .pt b10 (.cells (hdE hd).toArray 76 (0, 0)) :: .pt b4 (.cells (hdE zeroH).toArray 76 (0, 0)) :: .pt b3 (.cells (exE e).toArray 27 (0, 0)) :: h) ?_ (by (repeat (first | exact Sub.nil | refine Sub.cons rfl ?_ | refine Sub.consE rfl (by simp; done) ?_))) Sb ⟨isT (typE s y0) hd.t, ⟨fun h => by rw [he, if_pos ⟨hk7, h⟩], fun h => (by rw [he, if_neg (fun q => q.2 h)]; rfl)⟩, rfl, rfl⟩)
  (repeat (first | exact Sub.nil | refine Sub.cons rfl ?_ | refine Sub.consE rfl (by simp; done) ?_))
  have hj : (errT (typE s x0) ≠ 0 → typE s e = .error (errT (typE s x0))) ∧ (errT (typE s x0) = 0 → typE s e = tailT e.k e.o e.t hd) := by
    refine ⟨fun h => ?_, fun h => ?_⟩
    · cases hx : typE s x0 with
      | error w => rw [he, g0, hx]; rfl
      | ok q => rw [hx] at h; exact absurd rfl h
    · have hE := okE (typE_err s x0) h hhd
      have hk : e.k ≠ 7 := by simp [h] at c85; exact c85
      rw [he, g0, hE]
      dsimp only
      rw [if_neg (fun q => hk q.1)]
      rfl
  refine WC.skip (meetI [(11, .int .i64 (errT (typE s x0)))] (h'' := .pt b10 (.cells (hdE hd).toArray 76 (0, 0)) :: .pt b4 (.cells (hdE zeroH).toArray 76 (0, 0)) :: .pt b3 (.cells (exE e).toArray 27 (0, 0)) :: h) ?_ (by (repeat (first | exact Sub.nil | refine Sub.cons rfl ?_ | refine Sub.consE rfl (by simp; done) ?_))) Sb ⟨errT (typE s x0), hj, rfl, rfl⟩)
  (repeat (first | exact Sub.nil | refine Sub.cons rfl ?_ | refine Sub.consE rfl (by simp; done) ?_))
  rintro _ _ ⟨er, ⟨hj1, hj2⟩, rfl, rfl⟩
  refine WC.frm rfl ?_
  repeat first | refine sk fun K hK => ?_ | refine bk ?_ | refine rn fun _ => ?_
  refine xM ?_
  refine xG (PO.bin Et Ev.const rfl) ?_
  refine xA ?_
  refine wn [3, 4, 10, 11, 94] ?_
  repeat first | refine sk fun K hK => ?_ | refine bk ?_
  refine wc (fun c94 => ?_) fun c94 => ?_
  replace c94 := t_ne c94
  have hq := hj1 c94
  repeat first | refine sk fun K hK => ?_ | refine bk ?_ | refine rn fun _ => ?_
  refine xG (PO.build Tryz.underlying76 rfl rfl rfl EvP.nil rfl) ?_
  refine xM ?_
  refine xS ?_
  refine xA ?_
  refine wn [4, 5] ?_
  refine WC.ret (end2 (h' := h) (.inl rfl) rfl (RV.cellA Tryz.underlying76 rfl rfl rfl Me rfl) (RV.tmp rfl) (View.le.refl m) Sb ?_)
  exact ⟨zeroH, by rw [hq]; rfl, fun x hx => (by rw [hq] at hx; cases hx), rfl⟩
  replace c94 := f_ne c94
  have hq := hj2 c94
  repeat first | refine sk fun K hK => ?_ | refine bk ?_ | refine rn fun _ => ?_
  refine xF Tryz.underlying27 ?_
  refine xG (pL Tryz.underlying22) ?_
  refine xG (PO.bin Et Ev.const rfl) ?_
  refine xA ?_
  refine wn [3, 4, 10, 99] ?_
  repeat first | refine sk fun K hK => ?_ | refine bk ?_
  refine wc (fun c99 => ?_) fun c99 => ?_
  replace c99 := t_ne c99
  have hk8 : e.k ≠ 8 := by simpa [bne] using c99
  unfold tailT at hq
  rw [if_pos hk8] at hq
  repeat first | refine sk fun K hK => ?_ | refine bk ?_ | refine rn fun _ => ?_
  refine xF Tryz.underlying27 ?_
  refine xG (pL Tryz.underlying23) ?_
  refine xF Tryz.underlying76 ?_
  refine xG (pA Tryz.underlying30) ?_
  refine xf (E2 Et Et) (tres_ct e.o hd.t _ _) ?_
  refine xM ?_
  refine xE ?_
  refine xE ?_
  refine xW fun b12 => ?_
  refine xS ?_
  refine xA ?_
  refine wn [4, 12, 13] ?_
  repeat first | refine sk fun K hK => ?_ | refine bk ?_ | refine rn fun _ => ?_
  refine xG (pA Tryz.underlying30) ?_
  refine xG (PO.build Tryz.underlying76 rfl rfl rfl (EvP.cons Et EvP.nil) rfl) ?_
  refine xM ?_
  refine xS ?_
  refine xA ?_
  refine wn [4, 5] ?_
  refine WC.ret (end2 (h' := h) (.inl rfl) rfl (RV.cellA Tryz.underlying76 rfl rfl rfl Me rfl) (RV.tmp rfl) (View.le.refl m) Sb ?_)
  exact ⟨⟨okY (resT e.o hd.t), 0⟩, by rw [hq]; cases resT e.o hd.t <;> rfl, fun x hx => (by rw [hq] at hx; cases hy : resT e.o hd.t <;> rw [hy] at hx <;> cases hx <;> rfl), rfl⟩
  replace c99 := f_ne c99
  have hk8 : ¬ e.k ≠ 8 := by simpa [bne] using c99
  unfold tailT at hq
  rw [if_neg hk8] at hq
  repeat first | refine sk fun K hK => ?_ | refine bk ?_ | refine rn fun _ => ?_
  refine xF Tryz.underlying76 ?_
  refine xG (pA Tryz.underlying30) ?_
  refine xf (E1 Et) (tsim_ct _ _ _) ?_
  refine xG (PO.not Et) ?_
  refine xA ?_
  refine wn [3, 4, 114] ?_
  repeat first | refine sk fun K hK => ?_ | refine bk ?_
  refine wc (fun c114 => ?_) fun c114 => ?_
  repeat first | refine sk fun K hK => ?_ | refine bk ?_ | refine rn fun _ => ?_
  refine xG (PO.build Tryz.underlying76 rfl rfl rfl EvP.nil rfl) ?_
  refine xS ?_
  refine xC ?_
  refine wn [4, 5] ?_
  refine WC.ret (end2 (h' := h) (.inl rfl) rfl (RV.cellA Tryz.underlying76 rfl rfl rfl Me rfl) (RV.tmp rfl) (View.le.refl m) Sb ?_)
  exact ⟨zeroH, by rw [hq, if_neg (by simpa using c114)]; rfl, fun x hx => (by rw [hq, if_neg (by simpa using c114)] at hx; cases hx), rfl⟩
  refine WC.skip (kp [3, 4] ?_)
  repeat first | refine sk fun K hK => ?_ | refine bk ?_ | refine rn fun _ => ?_
  refine xF Tryz.underlying27 ?_
  refine xG (pL Tryz.underlying24) ?_
  refine xf (E1 Et) (tof_ct _ _ _) ?_
  refine xG (PO.build Tryz.underlying76 rfl rfl rfl (EvP.cons Et EvP.nil) rfl) ?_
  refine xS ?_
  refine xC ?_
  refine wn [4, 5] ?_
  refine WC.ret (end2 (h' := h) (.inl rfl) rfl (RV.cellA Tryz.underlying76 rfl rfl rfl Me rfl) (RV.tmp rfl) (View.le.refl m) Sb ?_)
  exact ⟨simpleH e.t, by rw [hq, if_pos (by simpa using c114)]; rfl, fun x hx => (by rw [hq, if_pos (by simpa using c114)] at hx; cases hx; rfl), rfl⟩
end Go.Proofs.YtdhmplmpbcnojaaGreatDoor
end
/- TpG -/
section
namespace Go.Proofs.YtdhmplmpbcnojaaGreatDoor
open Go.Eng Go.Pc Go.Tg Go
open Go.Xp hiding B nameT
open Go.Ty (Ty eqT tyV cellT zeroT PrOk)
open Go.Lx (encB encB_len)
set_option maxRecDepth 100000
theorem tok_lend {m m' : View} {h : List Res} (L : Lend m h m') {e : Ex} (q : TOk m h e) : TOk m' [] e := by
  induction q with
  | mk hr _ ih => exact .mk (L _ _ _ _ _ hr) ih
/-- A scope that is read: its entries, their names, formals and protocols. -/
structure ScR (m : View) (h : List Res) (a : Option Addr) (k c : Nat) (s : List En) : Prop where
  rd : Rd m h a k c 17 (fl enE s)
  nm : ∀ x ∈ s, Rd m h x.sp.names.a x.sp.names.l.length x.sp.names.c 1 (fl encB x.sp.names.l)
  fr : ∀ x ∈ s, Rd m h x.sp.fs.a x.sp.fs.l.length x.sp.fs.c 6 (fl foE x.sp.fs.l)
  pr : ∀ x ∈ s, PrOk m h x.sp.vs.a x.sp.vs.l.length x.sp.vs.c x.sp.vs.l
  ar : ∀ (i : Nat) x, s[i]? = some x → 0 ≤ x.ar ∧ x.ar ≤ i
theorem ScR.mono {m : View} {h h' : List Res} {a : Option Addr} {k c : Nat} {s : List En} (q : ScR m h a k c s) (r : h.Sublist h') : ScR m h' a k c s :=
  ⟨q.rd.mono (View.le.refl m) r, fun x hx => (q.nm x hx).mono (View.le.refl m) r, fun x hx => (q.fr x hx).mono (View.le.refl m) r, fun x hx => (q.pr x hx).mono (View.le.refl m) r, q.ar⟩
theorem ScR.lend {m m' : View} {h : List Res} {a : Option Addr} {k c : Nat} {s : List En} (q : ScR m h a k c s) (L : Lend m h m') : ScOk m' a k c s :=
  ⟨L _ _ _ _ _ q.rd, fun x hx => L _ _ _ _ _ (q.nm x hx)⟩
def shL (s : List En) : List Ent := s.map shE
theorem shL_len (s : List En) : (shL s).length = s.length := List.length_map _
theorem shL_get {s : List En} {q : Nat} {x : En} (h : s[q]? = some x) : (shL s)[q]? = some (shE x) := by
  unfold shL
  rw [List.getElem?_map, h]
  rfl
structure XOk (m : View) (h : List Res) (e : Ex) : Prop where
  t : TOk m h e
  w : Wf e
  f : Fine e
theorem XOk.mono {m : View} {h h' : List Res} {e : Ex} (q : XOk m h e) (r : h.Sublist h') : XOk m h' e := ⟨q.t.mono r, q.w, q.f⟩
theorem typX_err (s : List En) (e : Ex) : ∀ w, typX (shL s) e = .error w → w ≠ 0 := fun w hw => typE_err s e w ((typX_eq s e).trans hw)
section
variable {m : View} {h : List Res} {s : List En} {a : Option Addr} {k c : Nat}
theorem findR_ct (hs : ScR m h a k c s) (nm : B) (n : Nat) (hn : n ≤ s.length) : CT Tryz.prog 67 [.slice a k c, .int .i64 n, str nm] h m (Pure1 h (.int .i64 (findE (shL s) nm n))) :=
  (CT.lendP Tryz.call67 fun _ _ L => find_ct s a k c (hs.lend L) nm n hn []).val (congrArg (Value.int .i64) (findE_eq s nm n))
theorem typeOfR_ct (hs : ScR m h a k c s) (e : Ex) (hx : XOk m h e) : CT Tryz.prog 26 [.slice a k c, exV e] h m (TyR h (typX (shL s) e)) := by
  have h1 : typX (shL s) e = typE s e := (typX_eq s e).symm
  rw [h1]
  exact (CT.lendV (R := fun v => ∃ hd, v = heldV hd (errT (typE s e)) ∧ ∀ x, typE s e = .ok x → hd = x) Tryz.call26 fun _ _ L =>
    (typeOf_ct s a k c (hs.lend L) e [] (tok_lend L hx.t) hx.w hx.f).mono (by rintro v _ _ _ ⟨hd, h1, h2, h3⟩; exact ⟨⟨hd, h1, h2⟩, h3⟩)).mono (by rintro v _ _ _ ⟨⟨hd, h1, h2⟩, h3⟩; exact ⟨hd, h1, h2, h3⟩)
theorem isR_ct (hs : ScR m h a k c s) (e : Ex) (t : Ty) (hx : XOk m h e) : CT Tryz.prog 41 [.slice a k c, exV e, tyV t] h m (Pure1 h (.int .i64 (isX (shL s) e t))) :=
  tis_ct _ e t (typX (shL s) e) (typX_err s e) h fun _ hh => typeOfR_ct (hs.mono hh) e (hx.mono hh)
end
theorem ne_eqT {x t : Ty} (h : ¬x.kind = t.kind ∨ ¬x.dim = t.dim ∨ ¬x.item = t.item ∨ ¬x.proto = t.proto) : eqT x t = false := by
  cases hq : eqT x t with
  | false => rfl
  | true =>
    simp [eqT] at hq
    rcases h with h | h | h | h <;> exact absurd (by first | exact hq.1 | exact hq.2.1 | exact hq.2.2.1 | exact hq.2.2.2) h
def tgtV (r : Except Int Ty) : Value := .tuple #[tyV (okY r), .int .i64 (errT r)]
theorem nameE_found {S : List Ent} {nm : B} {hd : Hd} (h : nameE S nm = .ok hd) : ∃ (q : Nat) (x : Ent), findE S nm S.length = (q : Int) ∧ S[q]? = some x ∧ q < S.length := by
  unfold nameE at h
  have hb := findE_lt S nm S.length
  by_cases hn : findE S nm S.length < 0
  · rw [if_pos hn] at h; cases h
  · rw [if_neg hn] at h
    obtain ⟨q, hq⟩ : ∃ q : Nat, findE S nm S.length = q := ⟨(findE S nm S.length).toNat, by omega⟩
    obtain ⟨x, hx⟩ := get_some (l := S) (k := q) (by omega)
    exact ⟨q, x, hq, hx, by omega⟩
theorem typX_found {S : List Ent} {e : Ex} {hd : Hd} (h : typX S e = .ok hd) (hk : e.k = 4 ∨ e.k = 5) : ∃ (q : Nat) (x : Ent), findE S e.s S.length = (q : Int) ∧ S[q]? = some x ∧ q < S.length := by
  unfold typX at h
  rw [typF_eq] at h
  unfold tyF at h
  have hn : ∀ w, nameE S e.s ≠ .error w := by
    intro w hw
    rw [hw] at h
    rcases hk with hk | hk
    · rw [if_neg (by omega), if_neg (by omega), if_neg (by omega), if_pos hk] at h
      cases h
    · rw [if_neg (by omega), if_neg (by omega), if_neg (by omega), if_neg (by omega), if_neg (by omega), if_pos hk] at h
      cases h
  cases hN : nameE S e.s with
  | error w => exact absurd hN (hn w)
  | ok q => exact nameE_found hN
theorem target_ct {m : View} {h : List Res} {s : List En} {a : Option Addr} {k c : Nat} (hs : ScR m h a k c s) (e : Ex) (hx : XOk m h e) :
    CT Tryz.prog 83 [.slice a k c, exV e] h m (Pure1 h (tgtV (tgtX (shL s) e))) := by
  have hl := hs.rd.lenF enE_len (by decide)
  have hmx := hs.rd.mx
  have hle := hs.rd.le
  subst hl
  refine CT.body Tryz.call83 Tryz.func83 rfl Tryz.ntmps83 (leB rfl) rfl ?_
  repeat first | refine sk fun K hK => ?_ | refine bk ?_ | refine rn fun _ => ?_
  refine xX fun b3 => ?_
  refine xW fun b4 => ?_
  refine xC ?_
  refine wn [0, 3, 4] ?_
  repeat first | refine sk fun K hK => ?_ | refine bk ?_ | refine rn fun _ => ?_
  refine xM ?_
  refine xG (pA Tryz.underlying27) ?_
  refine xg (E2 Et Et) (typeOfR_ct (hs.mono Sb) e (hx.mono Sb)) ?_
  rintro _ _ ⟨hd, rfl, hhd, rfl⟩
  refine xM ?_
  refine xE ?_
  refine xE ?_
  refine xW fun b6 => ?_
  refine xS ?_
  refine xA ?_
  refine wn [0, 3, 4, 6, 7] ?_
  repeat first | refine sk fun K hK => ?_ | refine bk ?_ | refine rn fun _ => ?_
  refine xM ?_
  refine xG (PO.bin Et Ev.const rfl) ?_
  refine xA ?_
  refine wn [0, 3, 4, 6, 7, 14] ?_
  repeat first | refine sk fun K hK => ?_ | refine bk ?_
  refine wc (fun c14 => ?_) fun c14 => ?_
  replace c14 := t_ne c14
  obtain ⟨w, hw⟩ : ∃ w, typX (shL s) e = .error w := by
    cases hw : typX (shL s) e with
    | error w => exact ⟨w, rfl⟩
    | ok q => rw [hw] at c14; exact absurd rfl c14
  have hg : tgtX (shL s) e = .error w := by unfold tgtX; rw [hw]
  repeat first | refine sk fun K hK => ?_ | refine bk ?_ | refine rn fun _ => ?_
  refine xG (PO.build Tryz.underlying30 rfl rfl rfl EvP.nil rfl) ?_
  refine xM ?_
  refine xS ?_
  refine xA ?_
  refine wn [4, 5] ?_
  refine WC.ret (end2 (h' := h) (.inl rfl) rfl (RV.cellA Tryz.underlying30 rfl rfl rfl Me rfl) (RV.tmp rfl) (View.le.refl m) Sb ?_)
  exact ⟨by rw [hg, hw]; rfl, rfl⟩
  replace c14 := f_ne c14
  have hE := okE (typX_err s e) c14 hhd
  have hg : tgtX (shL s) e = if (e.k ≠ 4 ∧ e.k ≠ 5) ∨ simT hd.t = false ∨ kindX (shL s) e.s = 2 then .error 130 else .ok hd.t := by unfold tgtX; rw [hE]
  repeat first | refine sk fun K hK => ?_ | refine bk ?_ | refine rg fun ops hG => ?_
  refine xF Tryz.underlying27 ?_
  refine xG (pL Tryz.underlying22) ?_
  refine xG (PO.bin Et Ev.const rfl) ?_
  refine xM ?_
  refine zG (fun _ => pF Tryz.underlying27) ?_
  refine zG (fun hc => PO.load1 Tryz.underlying22 rfl (Eg hc) Me rfl) ?_
  refine zG (fun hc => PO.bin (Eg hc) Ev.const rfl) ?_
  refine xP ?_
  refine xA ?_
  refine wn [0, 3, 4, 6, 19] ?_
  try clear hG ops
  (repeat refine WC.seqK fun K hK => ?_)
  refine WC.cutK (by assumption) [4, 6] rfl (fun F' h' => ∃ bb : Bool, (bb = true ↔ ((e.k ≠ 4 ∧ e.k ≠ 5) ∨ simT hd.t = false ∨ kindX (shL s) e.s = 2)) ∧ F' = [(19, .bool bb)] ∧ .pt b6 (.cells (hdE hd).toArray 76 (0, 0)) :: .pt b4 (.cells (cellT zeroT).toArray 30 (0, 0)) :: .pt b3 (.cells (exE e).toArray 27 (0, 0)) :: h = h') ?_ ?_
  repeat first | refine sk fun K hK => ?_ | refine bk ?_
  refine wc (fun c19 => ?_) fun c19 => ?_
  have ca : (e.k != 4 && e.k != 5) = true := c19
  refine WC.skip (meetI [(19, .bool ((e.k != 4 && e.k != 5)))] (h'' := .pt b6 (.cells (hdE hd).toArray 76 (0, 0)) :: .pt b4 (.cells (cellT zeroT).toArray 30 (0, 0)) :: .pt b3 (.cells (exE e).toArray 27 (0, 0)) :: h) ?_ (by (repeat (first | exact Sub.nil | refine Sub.cons rfl ?_ | refine Sub.consE rfl (by simp; done) ?_))) Sb ⟨(e.k != 4 && e.k != 5), ⟨fun _ => .inl (by simpa using ca), fun _ => ca⟩, rfl, rfl⟩)
  (repeat (first | exact Sub.nil | refine Sub.cons rfl ?_ | refine Sub.consE rfl (by simp; done) ?_))
  have ca : (e.k != 4 && e.k != 5) = false := c19
  have hk45 : e.k = 4 ∨ e.k = 5 := by
    by_cases h4 : e.k = 4
    · exact .inl h4
    · by_cases h5 : e.k = 5
      · exact .inr h5
      · simp [h4, h5] at ca
  repeat first | refine sk fun K hK => ?_ | refine bk ?_ | refine rn fun _ => ?_
  refine xF Tryz.underlying76 ?_
  refine xG (pA Tryz.underlying30) ?_
  refine xf (E1 Et) (tsim_ct _ _ _) ?_
  refine xG (PO.not Et) ?_
  refine xA ?_
  refine wn [0, 3, 4, 6, 19] ?_
  repeat first | refine sk fun K hK => ?_ | refine bk ?_
  refine wc (fun c19 => ?_) fun c19 => ?_
  have cb : (!simT hd.t) = true := c19
  refine WC.skip (meetI [(19, .bool ((!simT hd.t)))] (h'' := .pt b6 (.cells (hdE hd).toArray 76 (0, 0)) :: .pt b4 (.cells (cellT zeroT).toArray 30 (0, 0)) :: .pt b3 (.cells (exE e).toArray 27 (0, 0)) :: h) ?_ (by (repeat (first | exact Sub.nil | refine Sub.cons rfl ?_ | refine Sub.consE rfl (by simp; done) ?_))) Sb ⟨(!simT hd.t), ⟨fun _ => .inr (.inl (by simpa using cb)), fun _ => cb⟩, rfl, rfl⟩)
  (repeat (first | exact Sub.nil | refine Sub.cons rfl ?_ | refine Sub.consE rfl (by simp; done) ?_))
  have cb : (!simT hd.t) = false := c19
  obtain ⟨q, y, hq, hy, hql⟩ := typX_found hE hk45
  rw [shL_len] at hq hql
  obtain ⟨x, hxs⟩ := get_some (l := s) (k := q) hql
  have hyx := shL_get hxs
  rw [hy] at hyx
  have hkX : kindX (shL s) e.s = x.sp.k := by
    unfold kindX
    rw [shL_len, hq, Int.toNat_natCast, hy]
    cases hyx
    rfl
  have hM : (x.sp.k == 2) = true ↔ ((e.k ≠ 4 ∧ e.k ≠ 5) ∨ simT hd.t = false ∨ kindX (shL s) e.s = 2) := by
    rw [hkX]
    constructor
    · intro hk
      exact .inr (.inr (by simpa using hk))
    · rintro (h1 | h1 | h1)
      · exact absurd h1 (by omega)
      · rw [h1] at cb
        cases cb
      · simpa using h1
  have hrd : Rd m (.pt b6 (.cells (hdE hd).toArray 76 (0, 0)) :: .pt b4 (.cells (cellT zeroT).toArray 30 (0, 0)) :: .pt b3 (.cells (exE e).toArray 27 (0, 0)) :: h) a s.length c 17 (fl enE s) := hs.rd.mono (View.le.refl _) Sb
  repeat first | refine sk fun K hK => ?_ | refine bk ?_ | refine rn fun _ => ?_
  refine xM ?_
  refine xM ?_
  refine xM ?_
  refine xG (PO.lenSl Tryz.underlying79 Et) ?_
  refine xF Tryz.underlying27 ?_
  refine xG (pL Tryz.underlying9) ?_
  refine xf (E3 Et Et Et) (findR_ct (hs.mono Sb) e.s s.length (Nat.le_refl _)) ?_
  rw [hq]
  refine xG (PO.idx EL79.und EL79.size EL79.posz (Ev.tmp rfl) (Ev.tmp rfl) Rr rfl (by omega)) ?_
  refine xG (PO.fieldF Tryz.underlying104 rfl (Nat.ne_of_beq_eq_false rfl) enE_len (Nat.succ_pos _) Rr (by assumption) (Ev.tmp rfl)) ?_
  refine xG (PO.fieldF Tryz.underlying54 rfl (Nat.ne_of_beq_eq_false rfl) enE_len (Nat.succ_pos _) Rr (by assumption) (Ev.tmp rfl)) ?_
  refine xG (PO.loadFf Tryz.underlying47 rfl enE_len Rr (Ev.tmp rfl) (by assumption) rfl) ?_
  refine xG (PO.bin Et Ev.const rfl) ?_
  refine xA ?_
  refine WL.nil (meetI [(19, .bool ((x.sp.k == 2)))] (h'' := .pt b6 (.cells (hdE hd).toArray 76 (0, 0)) :: .pt b4 (.cells (cellT zeroT).toArray 30 (0, 0)) :: .pt b3 (.cells (exE e).toArray 27 (0, 0)) :: h) ?_ (by (repeat (first | exact Sub.nil | refine Sub.cons rfl ?_ | refine Sub.consE rfl (by simp; done) ?_))) Sb ⟨(x.sp.k == 2), hM, rfl, rfl⟩)
  (repeat (first | exact Sub.nil | refine Sub.cons rfl ?_ | refine Sub.consE rfl (by simp; done) ?_))
  rintro _ _ ⟨bb, hb, rfl, rfl⟩
  refine WC.frm rfl ?_
  repeat first | refine sk fun K hK => ?_ | refine bk ?_
  refine wc (fun c19 => ?_) fun c19 => ?_
  have ht := hb.1 c19
  repeat first | refine sk fun K hK => ?_ | refine bk ?_ | refine rn fun _ => ?_
  refine xG (PO.build Tryz.underlying30 rfl rfl rfl EvP.nil rfl) ?_
  refine xS ?_
  refine xC ?_
  refine wn [4, 5] ?_
  refine WC.ret (end2 (h' := h) (.inl rfl) rfl (RV.cellA Tryz.underlying30 rfl rfl rfl Me rfl) (RV.tmp rfl) (View.le.refl m) Sb ?_)
  exact ⟨by rw [hg, if_pos ht]; rfl, rfl⟩
  have ht : ¬ ((e.k ≠ 4 ∧ e.k ≠ 5) ∨ simT hd.t = false ∨ kindX (shL s) e.s = 2) := fun q => by rw [hb.2 q] at c19; cases c19
  refine WC.skip (kp [4, 6] ?_)
  repeat first | refine sk fun K hK => ?_ | refine bk ?_ | refine rn fun _ => ?_
  refine xF Tryz.underlying76 ?_
  refine xG (pA Tryz.underlying30) ?_
  refine xS ?_
  refine xC ?_
  refine wn [4, 5] ?_
  refine WC.ret (end2 (h' := h) (.inl rfl) rfl (RV.cellA Tryz.underlying30 rfl rfl rfl Me rfl) (RV.tmp rfl) (View.le.refl m) Sb ?_)
  exact ⟨by rw [hg, if_neg ht]; rfl, rfl⟩
theorem tgtX_err (s : List En) (e : Ex) : ∀ w, tgtX (shL s) e = .error w → w ≠ 0 := by
  intro w hw
  unfold tgtX at hw
  split at hw
  · rename_i x hx
    cases hw
    exact typX_err s e _ hx
  · split at hw
    · cases hw; decide
    · cases hw
theorem takes_ct {m : View} {h : List Res} {s : List En} {a : Option Addr} {k c : Nat} (hs : ScR m h a k c s) (e : Ex) (t : Ty) (hx : XOk m h e) :
    CT Tryz.prog 85 [.slice a k c, exV e, tyV t] h m (Pure1 h (.int .i64 (takesX (shL s) e t))) := by
  obtain ⟨r, hr⟩ : ∃ r, r = tgtX (shL s) e := ⟨_, rfl⟩
  have h0 : ∀ w, r = .error w → w ≠ 0 := by subst hr; exact tgtX_err s e
  have hT : takesX (shL s) e t = isY r t := by unfold takesX; rw [hr]
  refine CT.body Tryz.call85 Tryz.func85 rfl Tryz.ntmps85 (leB rfl) rfl ?_
  repeat first | refine sk fun K hK => ?_ | refine bk ?_ | refine rn fun _ => ?_
  refine xX fun b4 => ?_
  refine xX fun b5 => ?_
  refine xC ?_
  refine wn [0, 4, 5] ?_
  repeat first | refine sk fun K hK => ?_ | refine bk ?_ | refine rn fun _ => ?_
  refine xM ?_
  refine xG (pA Tryz.underlying27) ?_
  refine xf (E2 Et Et) (hr ▸ target_ct (hs.mono Sb) e (hx.mono Sb)) ?_
  refine xM ?_
  refine xE ?_
  refine xE ?_
  refine xW fun b7 => ?_
  refine xS ?_
  refine xA ?_
  refine wn [5, 7, 8] ?_
  repeat first | refine sk fun K hK => ?_ | refine bk ?_ | refine rg fun ops hG => ?_
  refine xM ?_
  refine xG (PO.bin Et Ev.const rfl) ?_
  refine xM ?_
  refine zG (fun _ => pA Tryz.underlying30) ?_
  refine zG (fun _ => pA Tryz.underlying30) ?_
  refine WL.poG (GU.t (hG _ _ rfl) rfl) (fun hc => PO.neqA Tryz.underlying30 (by kernel_rfl) (by kernel_rfl) (Eg hc) (Eg hc) rfl) (leB rfl) ?_
  refine xP ?_
  refine wn [8, 21] ?_
  try clear hG ops
  repeat first | refine sk fun K hK => ?_ | refine bk ?_
  refine wc (fun c21 => ?_) fun c21 => ?_
  have hi : isY r t = 130 := by
    cases hq : r with
    | error w => rw [hq] at c21; simp [errT] at c21; exact absurd c21.1 (h0 w hq)
    | ok x =>
      rw [hq] at c21
      show (if eqT x t then (0 : Int) else 130) = 130
      rw [if_neg (by rw [ne_eqT (by simpa [errT, okY, eqT, bne] using c21)]; decide)]
  repeat first | refine sk fun K hK => ?_ | refine bk ?_ | refine rn fun _ => ?_
  refine xC ?_
  refine wn [6] ?_
  refine WC.ret (wR (h) ?_)
  exact ⟨by rw [hT, hi], rfl⟩
  have hi : isY r t = errT r := by
    cases hq : r with
    | error w => rfl
    | ok x =>
      rw [hq] at c21
      show (if eqT x t then (0 : Int) else 130) = 0
      rw [if_pos (by simpa [errT, okY, eqT, bne] using c21)]
  refine WC.skip (kp [8] ?_)
  repeat first | refine sk fun K hK => ?_ | refine bk ?_ | refine rn fun _ => ?_
  refine xM ?_
  refine xA ?_
  refine wn [6] ?_
  refine WC.ret (wR (h) ?_)
  exact ⟨by rw [hT, hi]; rfl, rfl⟩
end Go.Proofs.YtdhmplmpbcnojaaGreatDoor
end

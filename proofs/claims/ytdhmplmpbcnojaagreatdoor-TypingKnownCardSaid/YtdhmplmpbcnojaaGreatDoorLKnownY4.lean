/- TpH TpI TpJ TpK TpL TpN TpO ExpA ExpB ExpD -/
import Derived.Test.YtdhmplmpbcnojaaGreatDoorLKnownY3
/- TpH -/
section
namespace Go.Proofs.YtdhmplmpbcnojaaGreatDoor
open Go.Eng Go.Pc Go.Tg Go
open Go.Xp hiding B nameT
open Go.Ty (Ty Vr eqT tyV cellT zeroT PrOk VOk prL encV encV_len encI encI_len)
open Go.Lx (encB encB_len)
set_option maxRecDepth 100000
set_option maxRecDepth 100000 in
theorem EL189 : EL Tryz.prog 189 154 1 8 := ⟨_, _, rfl, rfl, rfl, rfl, rfl, rfl, by decide⟩
def fnV (p : FuncId × List Value) : Value := .func (.func p.1) #[] p.2.toArray
def encFn (p : FuncId × List Value) : List Value := [fnV p]
theorem encFn_len (p : FuncId × List Value) : (encFn p).length = 1 := rfl
def firstX : List Int → Int
  | [] => 0
  | e :: r => if e ≠ 0 then e else firstX r
theorem first_ct {m : View} {h : List Res} (a : Option Addr) (c : Nat) (fs : List (FuncId × List Value)) (es : List Int) (hln : fs.length = es.length) (hr : Rd m h a fs.length c 1 (fl encFn fs))
    (hq : ∀ (i : Nat) p e, fs[i]? = some p → es[i]? = some e → CT Tryz.prog p.1 ([] ++ [] ++ p.2) h m (Pure1 h (.int .i64 e))) : CT Tryz.prog 90 [.slice a fs.length c] h m (Pure1 h (.int .i64 (firstX es))) := by
  have hmx := hr.mx
  have hle := hr.le
  refine CT.body Tryz.call90 Tryz.func90 rfl Tryz.ntmps90 (leB rfl) rfl ?_
  repeat first | refine sk fun K hK => ?_ | refine bk ?_ | refine rn fun _ => ?_
  refine xC ?_
  refine wn [0] ?_
  repeat first | refine sk fun K hK => ?_ | refine bk ?_ | refine rn fun _ => ?_
  refine xM ?_
  refine xG (PO.lenSl Tryz.underlying189 Et) ?_
  refine xK ?_
  refine wn [6, 7, 8] ?_
  repeat first | refine sk fun K hK => ?_ | refine bk ?_
  refine WC.loopI [6, 7] rfl (fun μ F' h' => ∃ i : Nat, (i ≤ fs.length ∧ firstX es = firstX (es.drop i)) ∧ fs.length - i = μ ∧ F' = [(8, .int .i64 i)] ∧ h = h') (fs.length - 0) [(8, .int .i64 0)] (h0 := h) ?_ Sb ⟨0, ⟨by omega, rfl⟩, rfl, rfl, rfl⟩ ?_
  (repeat (first | exact Sub.nil | refine Sub.cons rfl ?_ | refine Sub.consE rfl (by simp; done) ?_))
  rintro _ _ _ ⟨i, ⟨hk, hJ⟩, rfl, rfl, rfl⟩
  refine WC.frm rfl ?_
  repeat first | refine sk fun K hK => ?_ | refine bk ?_ | refine rn fun _ => ?_
  refine xG (PO.bin Et Et rfl) ?_
  refine wn [6, 7, 8, 9] ?_
  repeat first | refine sk fun K hK => ?_ | refine bk ?_
  refine wc (fun c9 => ?_) fun c9 => ?_
  replace c9 := of_decide_eq_true c9
  obtain ⟨p, hp⟩ := get_some (l := fs) (k := i) (by omega)
  obtain ⟨e, he⟩ := get_some (l := es) (k := i) (by omega)
  rw [drop_at he] at hJ
  refine WC.skip (kp [6, 7, 8] ?_)
  repeat first | refine sk fun K hK => ?_ | refine bk ?_ | refine rn fun _ => ?_
  refine xG (PO.idx EL189.und EL189.size EL189.posz (Ev.tmp rfl) (Ev.tmp rfl) Rr rfl (by omega)) ?_
  refine xG (PO.loadF1 Tryz.underlying154 rfl encFn_len Rr (Ev.tmp rfl) (by assumption) rfl) ?_
  refine xA ?_
  refine wn [4, 6, 7, 8] ?_
  repeat first | refine sk fun K hK => ?_ | refine bk ?_ | refine rn fun _ => ?_
  refine xM ?_
  refine WL.callP (Ev.tmp rfl) Evs.nil (hq i p e hp he) (leB rfl) ?_
  refine xA ?_
  refine wn [5, 6, 7, 8] ?_
  repeat first | refine sk fun K hK => ?_ | refine bk ?_ | refine rn fun _ => ?_
  refine xM ?_
  refine xG (PO.bin Et Ev.const rfl) ?_
  refine wn [5, 6, 7, 8, 15] ?_
  repeat first | refine sk fun K hK => ?_ | refine bk ?_
  refine wc (fun c15 => ?_) fun c15 => ?_
  replace c15 := t_ne c15
  have hJ : firstX es = e := by rw [hJ]; unfold firstX; rw [if_pos c15]
  repeat first | refine sk fun K hK => ?_ | refine bk ?_ | refine rn fun _ => ?_
  refine xM ?_
  refine xA ?_
  refine wn [2] ?_
  refine WC.ret (wR (h) ?_)
  exact ⟨by rw [hJ], rfl⟩
  replace c15 := f_ne c15
  have hJ : firstX es = firstX (es.drop (i + 1)) := by rw [hJ, c15]; rfl
  refine WC.skip (kp [6, 7, 8] ?_)
  repeat first | refine sk fun K hK => ?_ | refine bk ?_ | refine rn fun _ => ?_
  refine xG (PO.addI Et Ev.const (by omega)) ?_
  refine xM ?_
  refine WL.nil (loopBackI (fs.length - (i + 1)) [(8, .int .i64 (i + 1))] (h'' := h) (by omega) ?_ (by (repeat (first | exact Sub.nil | refine Sub.cons rfl ?_ | refine Sub.consE rfl (by simp; done) ?_))) Sb ⟨i + 1, ⟨by omega, hJ⟩, rfl, rfl, rfl⟩)
  (repeat (first | exact Sub.nil | refine Sub.cons rfl ?_ | refine Sub.consE rfl (by simp; done) ?_))
  replace c9 := of_decide_eq_false c9
  rw [List.drop_eq_nil_of_le (by omega)] at hJ
  refine WC.exit (kp [] ?_)
  repeat first | refine sk fun K hK => ?_ | refine bk ?_ | refine rn fun _ => ?_
  refine xC ?_
  refine wn [2] ?_
  refine WC.ret (wR (h) ?_)
  exact ⟨by rw [hJ]; rfl, rfl⟩
theorem match_ct {m : View} {h : List Res} (q : FuncId) (fst : List Value) (f : Ex → Int → Int) (ka : Option Addr) (kn kc : Nat) (ks : List Int) (la : Option Addr) (ln lc : Nat) (l : List Ex) (hk : Rd m h ka kn kc 1 (fl encI ks)) (hl : Rd m h la ln lc 6 (fl exE l))
    (hq : ∀ x ∈ l, ∀ kd h', h.Sublist h' → CT Tryz.prog q (fst ++ [exV x, tyV (tyK kd)] ++ []) h' m (Pure1 h' (.int .i64 (f x kd)))) :
    CT Tryz.prog 84 [.slice ka kn kc, .slice la ln lc, .func (.func q) fst.toArray #[]] h m (Pure1 h (.int .i64 (matchX f ks l))) := by
  have e1 := hk.lenF encI_len (by decide)
  have e2 := hl.lenF exE_len (by decide)
  subst e1 e2
  have hmx := hl.mx
  have hle := hl.le
  have kmx := hk.mx
  have kle := hk.le
  refine CT.body Tryz.call84 Tryz.func84 rfl Tryz.ntmps84 (leB rfl) rfl ?_
  repeat first | refine sk fun K hK => ?_ | refine bk ?_ | refine rn fun _ => ?_
  refine xC ?_
  refine wn [0, 1, 2] ?_
  repeat first | refine sk fun K hK => ?_ | refine bk ?_ | refine rn fun _ => ?_
  refine xM ?_
  refine xG (PO.lenSl Tryz.underlying25 Et) ?_
  refine xK ?_
  refine wn [0, 1, 2, 10, 11, 12] ?_
  repeat first | refine sk fun K hK => ?_ | refine bk ?_
  refine WC.loopI [0, 1, 2, 10, 11] rfl (fun μ F' h' => ∃ i : Nat, ((i ≤ l.length ∧ i ≤ ks.length) ∧ matchX f ks l = matchX f (ks.drop i) (l.drop i)) ∧ l.length - i = μ ∧ F' = [(12, .int .i64 i)] ∧ h = h') (l.length - 0) [(12, .int .i64 0)] (h0 := h) ?_ Sb ⟨0, ⟨⟨by omega, by omega⟩, rfl⟩, rfl, rfl, rfl⟩ ?_
  (repeat (first | exact Sub.nil | refine Sub.cons rfl ?_ | refine Sub.consE rfl (by simp; done) ?_))
  rintro _ _ _ ⟨i, ⟨⟨hk1, hk2⟩, hJ⟩, rfl, rfl, rfl⟩
  refine WC.frm rfl ?_
  repeat first | refine sk fun K hK => ?_ | refine bk ?_ | refine rn fun _ => ?_
  refine xG (PO.bin Et Et rfl) ?_
  refine wn [0, 1, 2, 10, 11, 12, 13] ?_
  repeat first | refine sk fun K hK => ?_ | refine bk ?_
  refine wc (fun c13 => ?_) fun c13 => ?_
  replace c13 := of_decide_eq_true c13
  obtain ⟨x, hx⟩ := get_some (l := l) (k := i) (by omega)
  have hxm := List.mem_of_getElem? hx
  rw [drop_at hx] at hJ
  refine WC.skip (kp [0, 1, 2, 10, 11, 12] ?_)
  repeat first | refine sk fun K hK => ?_ | refine bk ?_ | refine rn fun _ => ?_
  refine xM ?_
  refine xG (PO.idx EL25.und EL25.size EL25.posz (Ev.tmp rfl) (Ev.tmp rfl) Rr rfl (by omega)) ?_
  refine xG (PO.loadFA Tryz.underlying27 rfl rfl exE_len Rr (Ev.tmp rfl) (by assumption) rfl rfl (Nat.succ_pos _)) ?_
  refine xW fun b8 => ?_
  refine xA ?_
  refine xS ?_
  refine wn [0, 1, 2, 7, 8, 10, 11, 12] ?_
  repeat first | refine sk fun K hK => ?_ | refine bk ?_ | refine rn fun _ => ?_
  refine xM ?_
  refine xM ?_
  refine xG (PO.lenSl Tryz.underlying100 Et) ?_
  refine xG (PO.bin Et Et rfl) ?_
  refine wn [0, 1, 2, 7, 8, 10, 11, 12, 20] ?_
  repeat first | refine sk fun K hK => ?_ | refine bk ?_
  refine wc (fun c20 => ?_) fun c20 => ?_
  replace c20 := of_decide_eq_true c20
  rw [List.drop_eq_nil_of_le (by omega)] at hJ
  repeat first | refine sk fun K hK => ?_ | refine bk ?_ | refine rn fun _ => ?_
  refine xC ?_
  refine wn [6] ?_
  refine WC.ret (wR (h) ?_)
  exact ⟨by rw [hJ]; rfl, rfl⟩
  replace c20 := of_decide_eq_false c20
  obtain ⟨kd, hkd⟩ := get_some (l := ks) (k := i) (by omega)
  rw [drop_at hkd] at hJ
  refine WC.skip (kp [0, 1, 2, 7, 8, 10, 11, 12] ?_)
  repeat first | refine sk fun K hK => ?_ | refine bk ?_
  refine WC.drawS [6] (.op 0 (.op 1 (.op 2 (.op 3 (.op 4 (.op 5 (.op 6 .nil))))))) [7, 8] _ [] mixed (fun _ _ _ _ _ h => h) [] (by kernel_rfl) ?_
  refine yG rfl (PO.move Et) ?_
  refine yG rfl (pA Tryz.underlying27) ?_
  refine yG rfl (PO.move Et) ?_
  refine yG rfl (PO.move Et) ?_
  refine yG rfl (PO.idx EL100.und EL100.size EL100.posz (Ev.tmp rfl) (Ev.tmp rfl) Rr rfl (by omega)) ?_
  refine yG rfl (PO.loadF1 Tryz.underlying24 rfl encI_len Rr (Ev.tmp rfl) (by assumption) rfl) ?_
  refine yf rfl (E1 Et) (fun fr => tof_ct _ _ _) ?_
  refine SR.nil rfl rfl ?_
  refine WL.callP (Ev.tmp rfl) (Evs.cons (Ev.tmp rfl) (Evs.cons (Ev.tmp rfl) Evs.nil)) (hq x hxm kd _ Sb) (leB rfl) ?_
  refine xA ?_
  refine wn [0, 1, 2, 9, 10, 11, 12] ?_
  repeat first | refine sk fun K hK => ?_ | refine bk ?_ | refine rn fun _ => ?_
  refine xM ?_
  refine xG (PO.bin Et Ev.const rfl) ?_
  refine wn [0, 1, 2, 9, 10, 11, 12, 30] ?_
  repeat first | refine sk fun K hK => ?_ | refine bk ?_
  refine wc (fun c30 => ?_) fun c30 => ?_
  replace c30 := t_ne c30
  have hJ : matchX f ks l = f x kd := by rw [hJ]; unfold matchX; rw [if_pos c30]
  repeat first | refine sk fun K hK => ?_ | refine bk ?_ | refine rn fun _ => ?_
  refine xM ?_
  refine xA ?_
  refine wn [6] ?_
  refine WC.ret (wR (h) ?_)
  exact ⟨by rw [hJ], rfl⟩
  replace c30 := f_ne c30
  have hJ : matchX f ks l = matchX f (ks.drop (i + 1)) (l.drop (i + 1)) := by
    rw [hJ]
    show (if f x kd ≠ 0 then f x kd else matchX f (ks.drop (i + 1)) (l.drop (i + 1))) = _
    rw [if_neg (by simpa using c30)]
  refine WC.skip (kp [0, 1, 2, 10, 11, 12] ?_)
  repeat first | refine sk fun K hK => ?_ | refine bk ?_ | refine rn fun _ => ?_
  refine xG (PO.addI Et Ev.const (by omega)) ?_
  refine xM ?_
  refine WL.nil (loopBackI (l.length - (i + 1)) [(12, .int .i64 (i + 1))] (h'' := h) (by omega) ?_ (by (repeat (first | exact Sub.nil | refine Sub.cons rfl ?_ | refine Sub.consE rfl (by simp; done) ?_))) Sb ⟨i + 1, ⟨⟨by omega, by omega⟩, hJ⟩, rfl, rfl, rfl⟩)
  (repeat (first | exact Sub.nil | refine Sub.cons rfl ?_ | refine Sub.consE rfl (by simp; done) ?_))
  replace c13 := of_decide_eq_false c13
  rw [show l.drop i = [] from List.drop_eq_nil_of_le (by omega)] at hJ
  refine WC.exit (kp [0, 1] ?_)
  repeat first | refine sk fun K hK => ?_ | refine bk ?_ | refine rn fun _ => ?_
  refine xM ?_
  refine xG (PO.lenSl Tryz.underlying25 Et) ?_
  refine xM ?_
  refine xG (PO.lenSl Tryz.underlying100 Et) ?_
  refine xG (PO.bin Et Et rfl) ?_
  refine wn [37] ?_
  repeat first | refine sk fun K hK => ?_ | refine bk ?_
  refine wc (fun c37 => ?_) fun c37 => ?_
  replace c37 := of_decide_eq_true c37
  obtain ⟨kd, hkd⟩ := get_some (l := ks) (k := i) (by omega)
  rw [drop_at hkd] at hJ
  repeat first | refine sk fun K hK => ?_ | refine bk ?_ | refine rn fun _ => ?_
  refine xC ?_
  refine wn [6] ?_
  refine WC.ret (wR (h) ?_)
  exact ⟨by rw [hJ]; rfl, rfl⟩
  replace c37 := of_decide_eq_false c37
  rw [List.drop_eq_nil_of_le (by omega)] at hJ
  refine WC.skip (kp [] ?_)
  repeat first | refine sk fun K hK => ?_ | refine bk ?_ | refine rn fun _ => ?_
  refine xC ?_
  refine wn [6] ?_
  refine WC.ret (wR (h) ?_)
  exact ⟨by rw [hJ]; rfl, rfl⟩
/-- The variant that is found. -/
def findV (cs : Bool) (tag : B) : List Vr → Option Vr
  | [] => none
  | v :: r => if cs && (v.tag == tag) then some v else findV cs tag r
theorem findV_cons (cs : Bool) (tag : B) (v : Vr) (r : List Vr) : findV cs tag (v :: r) = if cs && (v.tag == tag) then some v else findV cs tag r := rfl
theorem findV_mem {cs : Bool} {tag : B} : ∀ {l : List Vr} {v : Vr}, findV cs tag l = some v → v ∈ l
  | x :: r, v, h => by
    unfold findV at h
    split at h
    · cases h; exact List.Mem.head _
    · exact List.Mem.tail _ (findV_mem h)
theorem variantX_find (cs : Bool) (tag : B) : ∀ l : List Vr, variantX (cs, prS l) tag = match findV cs tag l with | some v => .ok v.items | none => .error 130
  | [] => by cases cs <;> rfl
  | v :: r => by
    have ih := variantX_find cs tag r
    unfold findV
    cases cs with
    | false =>
      rw [Bool.false_and, if_neg (by decide), ← ih]
      rfl
    | true =>
      rw [Bool.true_and]
      unfold variantX at ih ⊢
      rw [show prS (v :: r) = (v.tag, v.items) :: prS r from rfl]
      simp only [if_true, List.find?_cons] at ih ⊢
      cases hv : v.tag == tag with
      | true => rfl
      | false => simpa using ih
def itA (r : Option Vr) : Option Addr := match r with | some v => v.a | none => none
def itN (r : Option Vr) : Nat := match r with | some v => v.n | none => 0
def itC (r : Option Vr) : Nat := match r with | some v => v.c | none => 0
def itL (r : Option Vr) : List Int := match r with | some v => v.items | none => []
def itE (r : Option Vr) : Int := match r with | some _ => 0 | none => 130
def varV (r : Option Vr) : Value := .tuple #[.slice (itA r) (itN r) (itC r), .int .i64 (itE r)]
theorem variantX_it (cs : Bool) (tag : B) (l : List Vr) : variantX (cs, prS l) tag = if itE (findV cs tag l) = 0 then .ok (itL (findV cs tag l)) else .error (itE (findV cs tag l)) := by
  rw [variantX_find]
  cases findV cs tag l <;> rfl
theorem it_rd {m : View} {h : List Res} {a : Option Addr} {k c : Nat} {l : List Vr} (hp : PrOk m h a k c l) (cs : Bool) (tag : B) : Rd m h (itA (findV cs tag l)) (itN (findV cs tag l)) (itC (findV cs tag l)) 1 (fl encI (itL (findV cs tag l))) := by
  cases hv : findV cs tag l with
  | none => exact Rd.nilF encI 1 m h
  | some v => exact (hp.ok v (findV_mem hv)).rd
theorem variant_ct {m : View} {h : List Res} (cs : Bool) (a : Option Addr) (c : Nat) (l : List Vr) (tag : B) (hp : PrOk m h a l.length c l) :
    CT Tryz.prog 88 [Go.Ty.prV cs a l.length c, str tag] h m (Pure1 h (varV (findV cs tag l))) := by
  obtain ⟨hs, hv, ht⟩ := hp
  have hmx := hs.mx
  have hle := hs.le
  refine CT.body Tryz.call88 Tryz.func88 rfl Tryz.ntmps88 (leB rfl) rfl ?_
  repeat first | refine sk fun K hK => ?_ | refine bk ?_ | refine rn fun _ => ?_
  refine xX fun b2 => ?_
  refine xC ?_
  refine xC ?_
  refine wn [1, 2] ?_
  repeat first | refine sk fun K hK => ?_ | refine bk ?_ | refine rn fun _ => ?_
  refine xF Tryz.underlying51 ?_
  refine xG (pL Tryz.underlying49) ?_
  refine xG (PO.lenSl Tryz.underlying49 Et) ?_
  refine xK ?_
  refine wn [1, 2, 9, 10, 11] ?_
  repeat first | refine sk fun K hK => ?_ | refine bk ?_
  refine WC.loopI [1, 2, 9, 10] rfl (fun μ F' h' => ∃ i : Nat, (i ≤ l.length ∧ findV cs tag l = findV cs tag (l.drop i)) ∧ l.length - i = μ ∧ F' = [(11, .int .i64 i)] ∧ .pt b2 (.cells (prL cs a l.length c).toArray 51 (0, 0)) :: h = h') (l.length - 0) [(11, .int .i64 0)] (h0 := .pt b2 (.cells (prL cs a l.length c).toArray 51 (0, 0)) :: h) ?_ Sb ⟨0, ⟨by omega, rfl⟩, rfl, rfl, rfl⟩ ?_
  (repeat (first | exact Sub.nil | refine Sub.cons rfl ?_ | refine Sub.consE rfl (by simp; done) ?_))
  rintro _ _ _ ⟨i, ⟨hk, hJ⟩, rfl, rfl, rfl⟩
  refine WC.frm rfl ?_
  repeat first | refine sk fun K hK => ?_ | refine bk ?_ | refine rn fun _ => ?_
  refine xG (PO.bin Et Et rfl) ?_
  refine wn [1, 2, 9, 10, 11, 12] ?_
  repeat first | refine sk fun K hK => ?_ | refine bk ?_
  refine wc (fun c12 => ?_) fun c12 => ?_
  replace c12 := of_decide_eq_true c12
  obtain ⟨v, hx⟩ := get_some (l := l) (k := i) (by omega)
  rw [drop_at hx, findV_cons] at hJ
  refine WC.skip (kp [1, 2, 9, 10, 11] ?_)
  repeat first | refine sk fun K hK => ?_ | refine bk ?_ | refine rn fun _ => ?_
  refine xG (PO.idx EL49.und EL49.size EL49.posz (Ev.tmp rfl) (Ev.tmp rfl) Rr rfl (by omega)) ?_
  refine xG (PO.loadFA Tryz.underlying102 rfl rfl encV_len Rr (Ev.tmp rfl) (by assumption) rfl rfl (Nat.succ_pos _)) ?_
  refine xW fun b7 => ?_
  refine xS ?_
  refine wn [1, 2, 7, 9, 10, 11] ?_
  repeat first | refine sk fun K hK => ?_ | refine bk ?_ | refine rg fun ops hG => ?_
  refine xF Tryz.underlying51 ?_
  refine xG (pL Tryz.underlying4) ?_
  refine xM ?_
  refine zG (fun _ => pF Tryz.underlying102) ?_
  refine zG (fun hc => PO.load1 Tryz.underlying9 rfl (Eg hc) Me rfl) ?_
  refine zM ?_
  refine zG (fun hc => PO.eqlS (Eg hc) (Eg hc)) ?_
  refine xP ?_
  refine wn [1, 2, 7, 9, 10, 11, 22] ?_
  try clear hG ops
  repeat first | refine sk fun K hK => ?_ | refine bk ?_
  refine wc (fun c22 => ?_) fun c22 => ?_
  have d22 : (cs && (v.tag == tag)) = true := c22
  rw [if_pos d22] at hJ
  repeat first | refine sk fun K hK => ?_ | refine bk ?_ | refine rn fun _ => ?_
  refine xF Tryz.underlying102 ?_
  refine xG (pL Tryz.underlying100) ?_
  refine xA ?_
  refine xC ?_
  refine wn [4, 5] ?_
  refine WC.ret (end2 (h' := h) (.inl rfl) rfl (RV.tmp rfl) (RV.tmp rfl) (View.le.refl m) Sb ?_)
  exact ⟨by rw [hJ]; rfl, rfl⟩
  have d22 : ¬ (cs && (v.tag == tag)) = true := by rw [show (cs && (v.tag == tag)) = false from c22]; decide
  rw [if_neg d22] at hJ
  refine WC.skip (kp [1, 2, 9, 10, 11] ?_)
  repeat first | refine sk fun K hK => ?_ | refine bk ?_ | refine rn fun _ => ?_
  refine xG (PO.addI Et Ev.const (by omega)) ?_
  refine xM ?_
  refine WL.nil (loopBackI (l.length - (i + 1)) [(11, .int .i64 (i + 1))] (h'' := .pt b2 (.cells (prL cs a l.length c).toArray 51 (0, 0)) :: h) (by omega) ?_ (by (repeat (first | exact Sub.nil | refine Sub.cons rfl ?_ | refine Sub.consE rfl (by simp; done) ?_))) Sb ⟨i + 1, ⟨by omega, hJ⟩, rfl, rfl, rfl⟩)
  (repeat (first | exact Sub.nil | refine Sub.cons rfl ?_ | refine Sub.consE rfl (by simp; done) ?_))
  replace c12 := of_decide_eq_false c12
  rw [List.drop_eq_nil_of_le (by omega)] at hJ
  refine WC.exit (kp [] ?_)
  repeat first | refine sk fun K hK => ?_ | refine bk ?_ | refine rn fun _ => ?_
  refine xC ?_
  refine xC ?_
  refine wn [4, 5] ?_
  refine WC.ret (end2 (h' := h) (.inl rfl) rfl (RV.tmp rfl) (RV.tmp rfl) (View.le.refl m) Sb ?_)
  exact ⟨by rw [hJ]; rfl, rfl⟩
/-- What a protocol is: a struct whose variants lie somewhere, beside what was there. -/
def PzS (m : View) (hb : List Res) (r : Except Int Pz) (hs : List Res) (v : Value) : Prop := ∃ (cs : Bool) (a : Option Addr) (c : Nat) (l : List Vr),
  v = .tuple #[Go.Ty.prV cs a l.length c, .int .i64 (errT r)] ∧ PrOk m (hb ++ hs) a l.length c l ∧ ∀ p, r = .ok p → p = (cs, prS l)
def PzR (m : View) (hb h : List Res) (r : Except Int Pz) (v : Value) (h' : List Res) : Prop := ∃ hs, h' = h ++ hs ∧ PzS m hb r hs v
theorem prNil (m : View) (h : List Res) : PrOk m h none 0 0 [] := ⟨Rd.nilF encV 2 m h, fun _ hv => (by cases hv), fun _ hv => (by cases hv)⟩
theorem pr_perm {m : View} {h h' : List Res} {a : Option Addr} {k c : Nat} {l : List Vr} (q : PrOk m h a k c l) (p : h.Perm h') : PrOk m h' a k c l :=
  ⟨q.rd.permH p, fun v hv => ⟨(q.ok v hv).rd.permH p⟩, q.tag⟩
set_option maxHeartbeats 1000000 in
theorem protocol_ct {m : View} {hb h : List Res} {s : List En} {a : Option Addr} {k c : Nat} (hg : Glob m) (hs : ScR m hb a k c s) (hh : hb.Sublist h) (t : Ty) (n : Nat) (hn : n ≤ s.length) :
    CT Tryz.prog 137 [.slice a k c, hdV ⟨t, n⟩] h m (fun v _ h' => PzR m hb h (protoX (shL s) ⟨t, n⟩) v h') := by
  refine CT.swap ?_
  have hl := hs.rd.lenF enE_len (by decide)
  have hmx := hs.rd.mx
  have hle := hs.rd.le
  subst hl
  have hbd := findE_lt (shL s) t.proto n
  have hs0 := hs
  replace hs := hs.mono hh
  refine CT.body Tryz.call137 Tryz.func137 rfl Tryz.ntmps137 (leB rfl) rfl ?_
  repeat first | refine sk fun K hK => ?_ | refine bk ?_ | refine rn fun _ => ?_
  refine xX fun b3 => ?_
  refine xW fun b4 => ?_
  refine xC ?_
  refine wn [0, 3, 4] ?_
  repeat first | refine sk fun K hK => ?_ | refine bk ?_ | refine rn fun _ => ?_
  refine xF Tryz.underlying76 ?_
  refine xF Tryz.underlying30 ?_
  refine xG (pL Tryz.underlying9) ?_
  refine xG (PO.eqlS Et Ev.const) ?_
  refine wn [0, 3, 4, 10] ?_
  repeat first | refine sk fun K hK => ?_ | refine bk ?_
  refine wc (fun c10 => ?_) fun c10 => ?_
  have ht : t.proto = [] := by simpa using c10
  have hP : protoX (shL s) ⟨t, n⟩ = .ok (false, [([], [t.item])]) := by unfold protoX; rw [if_pos ht]
  repeat first | refine sk fun K hK => ?_ | refine bk ?_ | refine rn fun _ => ?_
  refine xF Tryz.underlying76 ?_
  refine xF Tryz.underlying30 ?_
  refine xG (pL Tryz.underlying24) ?_
  refine xY EL100 (EvP.cons Et EvP.nil) fun b14 => ?_
  refine xG (PO.build Tryz.underlying102 rfl rfl rfl (EvP.cons Et EvP.nil) rfl) ?_
  refine xY EL49 (EvP.cons Et EvP.nil) fun b16 => ?_
  refine xG (PO.build Tryz.underlying51 rfl rfl rfl (EvP.cons Et EvP.nil) rfl) ?_
  refine xS ?_
  refine xC ?_
  refine wn [4, 5] ?_
  refine WC.ret (end2 (h' := .pt b16 (.cells (encV ⟨[], some ⟨b14, 0, none⟩, 1, 1, [t.item]⟩).toArray 102 (0, 0)) :: .pt b14 (.cells [.int .u8 t.item].toArray 24 (0, 0)) :: h) (.inl rfl) rfl (RV.cellA Tryz.underlying51 rfl rfl rfl Me rfl) (RV.tmp rfl) (View.le.refl m) Sb ?_)
  refine ⟨[_, _], rfl, false, some ⟨b16, 0, none⟩, 1, [⟨[], some ⟨b14, 0, none⟩, 1, 1, [t.item]⟩], by rw [hP]; rfl, ⟨Rd.ofPt rfl (leB rfl) (List.mem_append_right _ Me), fun v hv => ?_, fun v hv => ?_⟩, fun p hp => by rw [hP] at hp; cases hp; rfl⟩
  · cases List.mem_singleton.1 hv
    exact ⟨Rd.ofPt rfl (leB rfl) (List.mem_append_right _ Me)⟩
  · cases List.mem_singleton.1 hv
    exact Nat.zero_le _
  have ht : ¬ t.proto = [] := by simpa using c10
  have hP : protoX (shL s) ⟨t, n⟩ = if findE (shL s) t.proto n < 0 then .error 120 else match (shL s)[(findE (shL s) t.proto n).toNat]? with | some x => if x.k ≠ 4 ∨ x.ok = false then .error 130 else .ok (x.cs, x.vs) | none => .error 130 := by unfold protoX; rw [if_neg ht]; rfl
  refine WC.skip (kp [0, 3, 4] ?_)
  repeat first | refine sk fun K hK => ?_ | refine bk ?_ | refine rn fun _ => ?_
  refine xM ?_
  refine xF Tryz.underlying76 ?_
  refine xG (pL Tryz.underlying3) ?_
  refine xF Tryz.underlying76 ?_
  refine xF Tryz.underlying30 ?_
  refine xG (pL Tryz.underlying9) ?_
  refine xf (E3 Et Et Et) (findR_ct (hs.mono Sb) t.proto n hn) ?_
  refine xA ?_
  refine wn [0, 4, 6] ?_
  repeat first | refine sk fun K hK => ?_ | refine bk ?_ | refine rn fun _ => ?_
  refine xM ?_
  refine xG (PO.bin Et Ev.const rfl) ?_
  refine xA ?_
  refine wn [0, 4, 6, 25] ?_
  repeat first | refine sk fun K hK => ?_ | refine bk ?_
  refine wc (fun c25 => ?_) fun c25 => ?_
  replace c25 := of_decide_eq_true c25
  rw [if_pos c25] at hP
  repeat first | refine sk fun K hK => ?_ | refine bk ?_ | refine rn fun _ => ?_
  refine xG (PO.build Tryz.underlying51 rfl rfl rfl EvP.nil rfl) ?_
  refine xS ?_
  refine xC ?_
  refine wn [4, 5] ?_
  refine WC.ret (end2 (h' := h) (.inl rfl) rfl (RV.cellA Tryz.underlying51 rfl rfl rfl Me rfl) (RV.tmp rfl) (View.le.refl m) Sb ?_)
  exact ⟨[], rfl, false, none, 0, [], by rw [hP]; rfl, prNil _ _, fun p hp => by rw [hP] at hp; cases hp⟩
  replace c25 := of_decide_eq_false c25
  rw [if_neg c25] at hP
  obtain ⟨q, hq⟩ : ∃ q : Nat, findE (shL s) t.proto n = q := ⟨(findE (shL s) t.proto n).toNat, by omega⟩
  obtain ⟨x, hx⟩ := get_some (l := s) (k := q) (by omega)
  have hxm := List.mem_of_getElem? hx
  have hpx := hs.pr x hxm
  rw [hq, Int.toNat_natCast, shL_get hx] at hP
  replace hP : protoX (shL s) ⟨t, n⟩ = if x.sp.k ≠ 4 ∨ Go.Ty.mayPr x.sp.cs x.sp.vs.l = false then .error 130 else .ok (x.sp.cs, prS x.sp.vs.l) := hP
  have hrd : Rd m (.pt b4 (.cells (prL false none 0 0).toArray 51 (0, 0)) :: .pt b3 (.cells (hdE ⟨t, n⟩).toArray 76 (0, 0)) :: h) a s.length c 17 (fl enE s) := hs.rd.mono (View.le.refl _) Sb
  rw [hq]
  repeat first | refine sk fun K hK => ?_ | refine bk ?_ | refine rn fun _ => ?_
  refine xM ?_
  refine xM ?_
  refine xG (PO.idx EL79.und EL79.size EL79.posz (Ev.tmp rfl) (Ev.tmp rfl) Rr rfl (by omega)) ?_
  refine xG (PO.fieldF Tryz.underlying104 rfl (Nat.ne_of_beq_eq_false rfl) enE_len (Nat.succ_pos _) Rr (by assumption) (Ev.tmp rfl)) ?_
  refine xG (PO.fieldF Tryz.underlying54 rfl (Nat.ne_of_beq_eq_false rfl) enE_len (Nat.succ_pos _) Rr (by assumption) (Ev.tmp rfl)) ?_
  refine xG (PO.loadFf Tryz.underlying47 rfl enE_len Rr (Ev.tmp rfl) (by assumption) rfl) ?_
  refine xG (PO.bin Et Ev.const rfl) ?_
  refine xA ?_
  refine wn [0, 4, 6, 29] ?_
  (repeat refine WC.seqK fun K hK => ?_)
  refine WC.cutK (by assumption) [0, 4, 6] rfl (fun F' h' => ∃ bb : Bool, (bb = true ↔ (x.sp.k ≠ 4 ∨ Go.Ty.mayPr x.sp.cs x.sp.vs.l = false)) ∧ F' = [(29, .bool bb)] ∧ .pt b4 (.cells (prL false none 0 0).toArray 51 (0, 0)) :: .pt b3 (.cells (hdE ⟨t, n⟩).toArray 76 (0, 0)) :: h = h') ?_ ?_
  repeat first | refine sk fun K hK => ?_ | refine bk ?_
  refine wc (fun c29 => ?_) fun c29 => ?_
  have ca : (x.sp.k != 4) = true := c29
  refine WC.skip (meetI [(29, .bool ((x.sp.k != 4)))] (h'' := .pt b4 (.cells (prL false none 0 0).toArray 51 (0, 0)) :: .pt b3 (.cells (hdE ⟨t, n⟩).toArray 76 (0, 0)) :: h) ?_ (by (repeat (first | exact Sub.nil | refine Sub.cons rfl ?_ | refine Sub.consE rfl (by simp; done) ?_))) Sb ⟨(x.sp.k != 4), ⟨fun _ => .inl (by simpa using ca), fun _ => ca⟩, rfl, rfl⟩)
  (repeat (first | exact Sub.nil | refine Sub.cons rfl ?_ | refine Sub.consE rfl (by simp; done) ?_))
  have ca : (x.sp.k != 4) = false := c29
  repeat first | refine sk fun K hK => ?_ | refine bk ?_ | refine rn fun _ => ?_
  refine xM ?_
  refine xM ?_
  refine xG (PO.idx EL79.und EL79.size EL79.posz (Ev.tmp rfl) (Ev.tmp rfl) Rr rfl (by omega)) ?_
  refine xG (PO.fieldF Tryz.underlying104 rfl (Nat.ne_of_beq_eq_false rfl) enE_len (Nat.succ_pos _) Rr (by assumption) (Ev.tmp rfl)) ?_
  refine xG (PO.fieldF Tryz.underlying54 rfl (Nat.ne_of_beq_eq_false rfl) enE_len (Nat.succ_pos _) Rr (by assumption) (Ev.tmp rfl)) ?_
  refine xG (PO.loadFfA Tryz.underlying51 rfl rfl enE_len Rr (Ev.tmp rfl) (by assumption) rfl rfl (Nat.succ_pos _)) ?_
  refine xf (E1 Et) (Ty9.mayProto_ct x.sp.cs x.sp.vs.a x.sp.vs.l.length x.sp.vs.c x.sp.vs.l _ _ hg (hpx.mono (View.le.refl _) Sb)) ?_
  refine xG (PO.not Et) ?_
  refine xA ?_
  refine WL.nil (meetI [(29, .bool ((!Go.Ty.mayPr x.sp.cs x.sp.vs.l)))] (h'' := .pt b4 (.cells (prL false none 0 0).toArray 51 (0, 0)) :: .pt b3 (.cells (hdE ⟨t, n⟩).toArray 76 (0, 0)) :: h) ?_ (by (repeat (first | exact Sub.nil | refine Sub.cons rfl ?_ | refine Sub.consE rfl (by simp; done) ?_))) Sb ⟨(!Go.Ty.mayPr x.sp.cs x.sp.vs.l), ⟨fun hk => .inr (by simpa using hk), fun hk => hk.elim (fun h1 => absurd (by simpa using ca) h1) (fun h1 => by rw [h1]; rfl)⟩, rfl, rfl⟩)
  (repeat (first | exact Sub.nil | refine Sub.cons rfl ?_ | refine Sub.consE rfl (by simp; done) ?_))
  rintro _ _ ⟨bb, hbb, rfl, rfl⟩
  refine WC.frm rfl ?_
  repeat first | refine sk fun K hK => ?_ | refine bk ?_
  refine wc (fun c29 => ?_) fun c29 => ?_
  rw [if_pos (hbb.1 c29)] at hP
  repeat first | refine sk fun K hK => ?_ | refine bk ?_ | refine rn fun _ => ?_
  refine xG (PO.build Tryz.underlying51 rfl rfl rfl EvP.nil rfl) ?_
  refine xS ?_
  refine xC ?_
  refine wn [4, 5] ?_
  refine WC.ret (end2 (h' := h) (.inl rfl) rfl (RV.cellA Tryz.underlying51 rfl rfl rfl Me rfl) (RV.tmp rfl) (View.le.refl m) Sb ?_)
  exact ⟨[], rfl, false, none, 0, [], by rw [hP]; rfl, prNil _ _, fun p hp => by rw [hP] at hp; cases hp⟩
  rw [if_neg (fun h1 => by rw [hbb.2 h1] at c29; cases c29)] at hP
  refine WC.skip (kp [0, 4, 6] ?_)
  repeat first | refine sk fun K hK => ?_ | refine bk ?_ | refine rn fun _ => ?_
  refine xM ?_
  refine xM ?_
  refine xG (PO.idx EL79.und EL79.size EL79.posz (Ev.tmp rfl) (Ev.tmp rfl) Rr rfl (by omega)) ?_
  refine xG (PO.fieldF Tryz.underlying104 rfl (Nat.ne_of_beq_eq_false rfl) enE_len (Nat.succ_pos _) Rr (by assumption) (Ev.tmp rfl)) ?_
  refine xG (PO.fieldF Tryz.underlying54 rfl (Nat.ne_of_beq_eq_false rfl) enE_len (Nat.succ_pos _) Rr (by assumption) (Ev.tmp rfl)) ?_
  refine xG (PO.loadFfA Tryz.underlying51 rfl rfl enE_len Rr (Ev.tmp rfl) (by assumption) rfl rfl (Nat.succ_pos _)) ?_
  refine xS ?_
  refine xC ?_
  refine wn [4, 5] ?_
  refine WC.ret (end2 (h' := h) (.inl rfl) rfl (RV.cellA Tryz.underlying51 rfl rfl rfl Me rfl) (RV.tmp rfl) (View.le.refl m) Sb ?_)
  exact ⟨[], rfl, x.sp.cs, x.sp.vs.a, x.sp.vs.c, x.sp.vs.l, by rw [hP]; rfl, (hs0.pr x hxm).mono (View.le.refl _) (List.sublist_append_left _ _), fun p hp => by rw [hP] at hp; cases hp; rfl⟩
end Go.Proofs.YtdhmplmpbcnojaaGreatDoor
end
/- TpI -/
section
namespace Go.Proofs.YtdhmplmpbcnojaaGreatDoor
open Go.Eng Go.Pc Go.Tg Go
open Go.Xp hiding B nameT
open Go.Ty (Ty Vr eqT tyV cellT zeroT PrOk VOk prL encV encV_len encI encI_len)
open Go.Lx (encB encB_len)
set_option maxRecDepth 100000
theorem ScR.arOk {m : View} {h : List Res} {a : Option Addr} {k c : Nat} {s : List En} (q : ScR m h a k c s) : ArOk (shL s) := by
  intro i x hx
  unfold shL at hx
  rw [List.getElem?_map] at hx
  cases hy : s[i]? with
  | none => rw [hy] at hx; cases hx
  | some y =>
    rw [hy] at hx
    cases hx
    exact q.ar i y hy
set_option maxHeartbeats 1000000 in
theorem channel_ct {m : View} {hb h : List Res} {s : List En} {a : Option Addr} {k c : Nat} (hg : Glob m) (hs0 : ScR m hb a k c s) (hh : hb.Sublist h) (e : Ex) (kind : Int) (hx : XOk m h e) :
    CT Tryz.prog 87 [.slice a k c, exV e, .int .u8 kind] h m (fun v _ h' => PzR m hb h (chanX (shL s) e kind) v h') := by
  have hs := hs0.mono hh
  have hl := hs.rd.lenF enE_len (by decide)
  subst hl
  refine CT.body Tryz.call87 Tryz.func87 rfl Tryz.ntmps87 (leB rfl) rfl ?_
  repeat first | refine sk fun K hK => ?_ | refine bk ?_ | refine rn fun _ => ?_
  refine xX fun b4 => ?_
  refine xW fun b6 => ?_
  refine xC ?_
  refine wn [0, 2, 4, 6] ?_
  repeat first | refine sk fun K hK => ?_ | refine bk ?_ | refine rn fun _ => ?_
  refine xM ?_
  refine xG (pA Tryz.underlying27) ?_
  refine xg (E2 Et Et) (typeOfR_ct (hs.mono Sb) e (hx.mono Sb)) ?_
  rintro _ _ ⟨hd, rfl, hhd, rfl⟩
  refine xM ?_
  refine xE ?_
  refine xE ?_
  refine xW fun b8 => ?_
  refine xS ?_
  refine xA ?_
  refine wn [0, 2, 6, 8, 9] ?_
  repeat first | refine sk fun K hK => ?_ | refine bk ?_ | refine rn fun _ => ?_
  refine xM ?_
  refine xG (PO.bin Et Ev.const rfl) ?_
  refine xA ?_
  refine wn [0, 2, 6, 8, 9, 16] ?_
  repeat first | refine sk fun K hK => ?_ | refine bk ?_
  refine wc (fun c16 => ?_) fun c16 => ?_
  replace c16 := t_ne c16
  obtain ⟨w, hw⟩ : ∃ w, typX (shL s) e = .error w := by
    cases hw : typX (shL s) e with
    | error w => exact ⟨w, rfl⟩
    | ok q => rw [hw] at c16; exact absurd rfl c16
  have hP : chanX (shL s) e kind = .error w := by unfold chanX; rw [hw]
  repeat first | refine sk fun K hK => ?_ | refine bk ?_ | refine rn fun _ => ?_
  refine xG (PO.build Tryz.underlying51 rfl rfl rfl EvP.nil rfl) ?_
  refine xM ?_
  refine xS ?_
  refine xA ?_
  refine wn [6, 7] ?_
  refine WC.ret (end2 (h' := h) (.inl rfl) rfl (RV.cellA Tryz.underlying51 rfl rfl rfl Me rfl) (RV.tmp rfl) (View.le.refl m) Sb ?_)
  exact ⟨[], (List.append_nil _).symm, false, none, 0, [], by rw [hP, hw]; rfl, prNil _ _, fun p hp => by rw [hP] at hp; cases hp⟩
  replace c16 := f_ne c16
  have hE := okE (typX_err s e) c16 hhd
  have hP : chanX (shL s) e kind = if kind = 5 ∧ eqT hd.t (tyK kind) then .ok (false, []) else if kind = 5 ∨ hd.t.kind ≠ kind ∨ hd.t.dim ≠ 0 then .error 130 else protoX (shL s) hd := by unfold chanX; rw [hE]
  have har := typX_ar hs.arOk e hd hE
  rw [shL_len] at har
  obtain ⟨nn, hnn⟩ : ∃ nn : Nat, hd.ar = nn := ⟨hd.ar.toNat, by omega⟩
  obtain ⟨ht, hda⟩ := hd
  replace hnn : hda = (nn : Int) := hnn
  replace har : 0 ≤ hda ∧ hda ≤ (s.length : Int) := har
  subst hnn
  repeat first | refine sk fun K hK => ?_ | refine bk ?_
  refine WC.drawS [6] (.op 0 (.op 1 (.op 2 (.op 3 (.op 4 (.op 5 (.op 6 .nil))))))) [7, 8, 9] _ [] mixed (fun _ _ _ _ _ h => h) [] (by kernel_rfl) ?_
  refine yG rfl (PO.move Et) ?_
  refine yG rfl (PO.bin Et Ev.const rfl) ?_
  refine yG rfl (PO.move Et) ?_
  refine SR.poG rfl rfl (GU.t rfl rfl) (fun hc => PO.fieldAddr Tryz.underlying76 rfl (Nat.ne_of_beq_eq_false rfl) Et) (leB rfl) ?_
  refine SR.poG rfl rfl (GU.t rfl rfl) (fun hc => PO.loadA Tryz.underlying30 rfl rfl (Eg hc) Me rfl) (leB rfl) ?_
  refine SR.poG rfl rfl (GU.t rfl rfl) (fun hc => PO.move Et) (leB rfl) ?_
  refine SR.callG rfl rfl (GU.t rfl rfl) (fun hc => ⟨Ev.func, (Evs.cons (Eg hc) Evs.nil), fun fr => tof_ct _ _ _⟩) (leB rfl) ?_
  refine SR.nil rfl rfl ?_
  refine WL.poG (GU.t rfl rfl) (fun hc => PO.eqlA Tryz.underlying30 (by kernel_rfl) (by kernel_rfl) (Eg hc) (Eg hc) rfl) (leB rfl) ?_
  refine xP ?_
  refine xA ?_
  refine wn [0, 2, 6, 8, 21] ?_
  try clear hG ops
  repeat first | refine sk fun K hK => ?_ | refine bk ?_
  refine wc (fun c21 => ?_) fun c21 => ?_
  have d21 : kind = 5 ∧ eqT ht (tyK kind) = true := by
    have : ((kind == 5) && eqT ht (tyK kind)) = true := c21
    simpa using this
  rw [if_pos d21] at hP
  repeat first | refine sk fun K hK => ?_ | refine bk ?_ | refine rn fun _ => ?_
  refine xG (PO.build Tryz.underlying51 rfl rfl rfl EvP.nil rfl) ?_
  refine xS ?_
  refine xC ?_
  refine wn [6, 7] ?_
  refine WC.ret (end2 (h' := h) (.inl rfl) rfl (RV.cellA Tryz.underlying51 rfl rfl rfl Me rfl) (RV.tmp rfl) (View.le.refl m) Sb ?_)
  exact ⟨[], (List.append_nil _).symm, false, none, 0, [], by rw [hP]; rfl, prNil _ _, fun p hp => by rw [hP] at hp; cases hp; rfl⟩
  have d21 : ¬ (kind = 5 ∧ eqT ht (tyK kind) = true) := by
    have : ((kind == 5) && eqT ht (tyK kind)) = false := c21
    intro q
    rw [q.2] at this
    simp [q.1] at this
  rw [if_neg d21] at hP
  repeat first | refine sk fun K hK => ?_ | refine bk ?_ | refine rn fun _ => ?_
  refine xM ?_
  refine xG (PO.bin Et Ev.const rfl) ?_
  refine xA ?_
  refine wn [0, 2, 6, 8, 32] ?_
  (repeat refine WC.seqK fun K hK => ?_)
  refine WC.cutK (by assumption) [0, 6, 8] rfl (fun F' h' => ∃ bb : Bool, (bb = true ↔ (kind = 5 ∨ ht.kind ≠ kind ∨ ht.dim ≠ 0)) ∧ F' = [(32, .bool bb)] ∧ .pt b8 (.cells (hdE ⟨ht, nn⟩).toArray 76 (0, 0)) :: .pt b6 (.cells (prL false none 0 0).toArray 51 (0, 0)) :: .pt b4 (.cells (exE e).toArray 27 (0, 0)) :: h = h') ?_ ?_
  repeat first | refine sk fun K hK => ?_ | refine bk ?_
  refine wc (fun c32 => ?_) fun c32 => ?_
  have ca : (kind == 5) = true := c32
  refine WC.skip (meetI [(32, .bool ((kind == 5)))] (h'' := .pt b8 (.cells (hdE ⟨ht, nn⟩).toArray 76 (0, 0)) :: .pt b6 (.cells (prL false none 0 0).toArray 51 (0, 0)) :: .pt b4 (.cells (exE e).toArray 27 (0, 0)) :: h) ?_ (by (repeat (first | exact Sub.nil | refine Sub.cons rfl ?_ | refine Sub.consE rfl (by simp; done) ?_))) Sb ⟨(kind == 5), ⟨fun _ => .inl (by simpa using ca), fun _ => ca⟩, rfl, rfl⟩)
  (repeat (first | exact Sub.nil | refine Sub.cons rfl ?_ | refine Sub.consE rfl (by simp; done) ?_))
  have ca : (kind == 5) = false := c32
  repeat first | refine sk fun K hK => ?_ | refine bk ?_ | refine rn fun _ => ?_
  refine xF Tryz.underlying76 ?_
  refine xF Tryz.underlying30 ?_
  refine xG (pL Tryz.underlying24) ?_
  refine xM ?_
  refine xG (PO.bin Et Et rfl) ?_
  refine xA ?_
  refine wn [0, 6, 8, 32] ?_
  repeat first | refine sk fun K hK => ?_ | refine bk ?_
  refine wc (fun c32 => ?_) fun c32 => ?_
  have cb : (ht.kind != kind) = true := c32
  refine WC.skip (meetI [(32, .bool ((ht.kind != kind)))] (h'' := .pt b8 (.cells (hdE ⟨ht, nn⟩).toArray 76 (0, 0)) :: .pt b6 (.cells (prL false none 0 0).toArray 51 (0, 0)) :: .pt b4 (.cells (exE e).toArray 27 (0, 0)) :: h) ?_ (by (repeat (first | exact Sub.nil | refine Sub.cons rfl ?_ | refine Sub.consE rfl (by simp; done) ?_))) Sb ⟨(ht.kind != kind), ⟨fun _ => .inr (.inl (by simpa using cb)), fun _ => cb⟩, rfl, rfl⟩)
  (repeat (first | exact Sub.nil | refine Sub.cons rfl ?_ | refine Sub.consE rfl (by simp; done) ?_))
  have cb : (ht.kind != kind) = false := c32
  repeat first | refine sk fun K hK => ?_ | refine bk ?_ | refine rn fun _ => ?_
  refine xF Tryz.underlying76 ?_
  refine xF Tryz.underlying30 ?_
  refine xG (pL Tryz.underlying3) ?_
  refine xG (PO.bin Et Ev.const rfl) ?_
  refine xA ?_
  refine WL.nil (meetI [(32, .bool ((ht.dim != 0)))] (h'' := .pt b8 (.cells (hdE ⟨ht, nn⟩).toArray 76 (0, 0)) :: .pt b6 (.cells (prL false none 0 0).toArray 51 (0, 0)) :: .pt b4 (.cells (exE e).toArray 27 (0, 0)) :: h) ?_ (by (repeat (first | exact Sub.nil | refine Sub.cons rfl ?_ | refine Sub.consE rfl (by simp; done) ?_))) Sb ⟨(ht.dim != 0), ⟨fun hk => .inr (.inr (by simpa using hk)), fun hk => hk.elim (fun h1 => absurd h1 (by simpa using ca)) (fun h1 => h1.elim (fun h2 => absurd (by simpa using cb) h2) (fun h2 => by simpa using h2))⟩, rfl, rfl⟩)
  (repeat (first | exact Sub.nil | refine Sub.cons rfl ?_ | refine Sub.consE rfl (by simp; done) ?_))
  rintro _ _ ⟨bb, hb, rfl, rfl⟩
  refine WC.frm rfl ?_
  repeat first | refine sk fun K hK => ?_ | refine bk ?_
  refine wc (fun c32 => ?_) fun c32 => ?_
  rw [if_pos (hb.1 c32)] at hP
  repeat first | refine sk fun K hK => ?_ | refine bk ?_ | refine rn fun _ => ?_
  refine xG (PO.build Tryz.underlying51 rfl rfl rfl EvP.nil rfl) ?_
  refine xS ?_
  refine xC ?_
  refine wn [6, 7] ?_
  refine WC.ret (end2 (h' := h) (.inl rfl) rfl (RV.cellA Tryz.underlying51 rfl rfl rfl Me rfl) (RV.tmp rfl) (View.le.refl m) Sb ?_)
  exact ⟨[], (List.append_nil _).symm, false, none, 0, [], by rw [hP]; rfl, prNil _ _, fun p hp => by rw [hP] at hp; cases hp⟩
  rw [if_neg (fun q => by rw [hb.2 q] at c32; cases c32)] at hP
  refine WC.skip (kp [0, 6, 8] ?_)
  repeat first | refine sk fun K hK => ?_ | refine bk ?_ | refine rn fun _ => ?_
  refine xM ?_
  refine xG (pA Tryz.underlying76) ?_
  refine xg (E2 Et Et) (protocol_ct hg hs0 (hh.trans Sb) ht nn (by omega)) ?_
  rintro _ _ ⟨hs2, rfl, cs, a2, c2, l2, rfl, hpr, hpl⟩
  refine xE ?_
  refine xE ?_
  refine xS ?_
  refine xA ?_
  refine wn [6, 7] ?_
  refine WC.ret (end2 (h' := h ++ hs2) (.inl rfl) rfl (RV.cellA Tryz.underlying51 rfl rfl rfl Me rfl) (RV.tmp rfl) (View.le.refl m) Sb ?_)
  exact ⟨hs2, rfl, cs, a2, c2, l2, by rw [hP]; rfl, hpr, fun p hp => hpl p (by rw [← hP]; exact hp)⟩
theorem err_of {α : Type} {r : Except Int α} (h : errT r ≠ 0) : ∃ w, r = .error w := by
  cases r with
  | error w => exact ⟨w, rfl⟩
  | ok q => exact absurd rfl h
theorem chan_ok (s : List En) {e : Ex} {kind : Int} : ∀ w, chanX (shL s) e kind = .error w → w ≠ 0 := by
  intro w hw
  unfold chanX at hw
  split at hw
  · rename_i x hx
    cases hw
    exact typX_err s e _ hx
  · split at hw
    · cases hw
    · split at hw
      · cases hw; decide
      · unfold protoX at hw
        split at hw
        · cases hw
        · split at hw
          · cases hw; decide
          · split at hw
            · split at hw
              · cases hw; decide
              · cases hw
            · cases hw; decide
theorem ok_of {α : Type} {r : Except Int α} (hr : ∀ w, r = .error w → w ≠ 0) (h : errT r = 0) : ∃ p, r = .ok p := by
  cases r with
  | error w => exact absurd h (hr w rfl)
  | ok q => exact ⟨q, rfl⟩
/-- A list of expressions that is read. -/
structure LXk (m : View) (h : List Res) (l : Sli Ex) : Prop where
  rd : Rd m h l.a l.l.length l.c 6 (fl exE l.l)
  ok : ∀ x ∈ l.l, XOk m h x
theorem LXk.mono {m : View} {h h' : List Res} {l : Sli Ex} (q : LXk m h l) (r : h.Sublist h') : LXk m h' l := ⟨q.rd.mono (View.le.refl m) r, fun x hx => (q.ok x hx).mono r⟩
theorem recv_ct {m : View} {h : List Res} {s : List En} {a : Option Addr} {k c : Nat} (hg : Glob m) (hs : ScR m h a k c s) (e : Ex) (hx : XOk m h e) (to : Sli Ex) (ho : LXk m h to) :
    CT Tryz.prog 86 [.slice a k c, exV e, to.v] h m (Pure1 h (.int .i64 (recvX (shL s) e to.l))) := by
  have hR : recvX (shL s) e to.l = match chanX (shL s) e 4 with | .error w => w | .ok p => if p.1 then 130 else matchX (setX (shL s)) (itemsX p) to.l := rfl
  obtain ⟨ta, tc, tl⟩ := to
  have hto := ho.rd
  refine CT.body Tryz.call86 Tryz.func86 rfl Tryz.ntmps86 (leB rfl) rfl ?_
  repeat first | refine sk fun K hK => ?_ | refine bk ?_ | refine rn fun _ => ?_
  refine xX fun b4 => ?_
  refine xC ?_
  refine wn [0, 2, 4] ?_
  repeat first | refine sk fun K hK => ?_ | refine bk ?_ | refine rn fun _ => ?_
  refine xM ?_
  refine xG (pA Tryz.underlying27) ?_
  refine xg (E3 Et Et Ev.const) (channel_ct hg hs Sb e 4 (hx.mono Sb)) ?_
  rintro _ _ ⟨hs2, rfl, cs, a2, c2, l2, rfl, hpr, hpl⟩
  refine xM ?_
  refine xE ?_
  refine xE ?_
  refine xW fun b7 => ?_
  refine xS ?_
  refine xA ?_
  refine wn [0, 2, 7, 8] ?_
  repeat first | refine sk fun K hK => ?_ | refine bk ?_ | refine rn fun _ => ?_
  refine xM ?_
  refine xG (PO.bin Et Ev.const rfl) ?_
  refine xA ?_
  refine wn [0, 2, 7, 8, 15] ?_
  repeat first | refine sk fun K hK => ?_ | refine bk ?_
  refine wc (fun c15 => ?_) fun c15 => ?_
  replace c15 := t_ne c15
  obtain ⟨w, hw⟩ := err_of c15
  rw [hw] at hR
  repeat first | refine sk fun K hK => ?_ | refine bk ?_ | refine rn fun _ => ?_
  refine xM ?_
  refine xA ?_
  refine wn [6] ?_
  refine WC.ret (wR (h) ?_)
  exact ⟨by rw [hR, hw]; rfl, rfl⟩
  replace c15 := f_ne c15
  obtain ⟨p, hp⟩ := ok_of (chan_ok s) c15
  have hpe := hpl p hp
  subst hpe
  rw [hp] at hR
  dsimp only at hR
  repeat first | refine sk fun K hK => ?_ | refine bk ?_ | refine rn fun _ => ?_
  refine xF Tryz.underlying51 ?_
  refine xG (pL Tryz.underlying4) ?_
  refine xA ?_
  refine wn [0, 2, 7, 19] ?_
  repeat first | refine sk fun K hK => ?_ | refine bk ?_
  refine wc (fun c19 => ?_) fun c19 => ?_
  rw [c19, if_pos rfl] at hR
  repeat first | refine sk fun K hK => ?_ | refine bk ?_ | refine rn fun _ => ?_
  refine xC ?_
  refine wn [6] ?_
  refine WC.ret (wR (h) ?_)
  exact ⟨by rw [hR], rfl⟩
  have hne := chanX_ne hp c19
  rw [c19, if_neg (by decide)] at hR
  have hln : 0 < l2.length := by
    cases l2 with
    | nil => exact absurd rfl hne
    | cons y r => exact Nat.succ_pos _
  obtain ⟨v, hv⟩ := get_some hln
  have hi : itemsX (false, prS l2) = v.items := by
    cases l2 with
    | nil => cases hv
    | cons y r => cases hv; rfl
  have hvr := (hpr.ok v (List.mem_of_getElem? hv)).rd
  have hrd := hpr.rd
  rw [hi] at hR
  refine WC.skip (kp [0, 2, 7] ?_)
  repeat first | refine sk fun K hK => ?_ | refine bk ?_ | refine rn fun _ => ?_
  refine xF Tryz.underlying51 ?_
  refine xG (pL Tryz.underlying49) ?_
  refine xG (PO.idx EL49.und EL49.size EL49.posz (Ev.tmp rfl) Ev.const Rr rfl (q := 0) (by omega)) ?_
  refine xG (PO.fieldF Tryz.underlying102 rfl (Nat.ne_of_beq_eq_false rfl) encV_len (Nat.succ_pos _) Rr (by assumption) (Ev.tmp rfl)) ?_
  refine xG (PO.loadFf Tryz.underlying100 rfl encV_len Rr (Ev.tmp rfl) (by assumption) rfl) ?_
  refine xM ?_
  refine xM ?_
  refine xG (PO.makeFunc (Evs.cons Et Evs.nil) Evs.nil) ?_
  refine xf (E3 Et Et Et) (match_ct 85 [.slice a k c] (setX (shL s)) _ _ _ v.items _ _ _ tl (hvr.mono (View.le.refl _) Sb) (hto.mono (View.le.refl _) Sb) (fun x hxm kd h2 hh2 => takes_ct (hs.mono (List.Sublist.trans Sb hh2)) x (tyK kd) ((ho.ok x hxm).mono (List.Sublist.trans Sb hh2)))) ?_
  refine xA ?_
  refine wn [6] ?_
  refine WC.ret (wR (h) ?_)
  exact ⟨by rw [hR], rfl⟩
theorem after_ct {m : View} {h : List Res} {s : List En} {a : Option Addr} {k c : Nat} (hg : Glob m) (hs : ScR m h a k c s) (e x : Ex) (he : XOk m h e) (hx : XOk m h x) :
    CT Tryz.prog 89 [.slice a k c, exV e, exV x] h m (Pure1 h (.int .i64 (afterX (shL s) e x))) := by
  have hR : afterX (shL s) e x = match chanX (shL s) e 5 with | .error w => w | .ok _ => isX (shL s) x (tyK 1) := rfl
  refine CT.body Tryz.call89 Tryz.func89 rfl Tryz.ntmps89 (leB rfl) rfl ?_
  repeat first | refine sk fun K hK => ?_ | refine bk ?_ | refine rn fun _ => ?_
  refine xX fun b4 => ?_
  refine xX fun b5 => ?_
  refine xC ?_
  refine wn [0, 4, 5] ?_
  repeat first | refine sk fun K hK => ?_ | refine bk ?_ | refine rn fun _ => ?_
  refine xM ?_
  refine xG (pA Tryz.underlying27) ?_
  refine xg (E3 Et Et Ev.const) (channel_ct hg hs Sb e 5 (he.mono Sb)) ?_
  rintro _ _ ⟨hs2, rfl, cs, a2, c2, l2, rfl, _, _⟩
  refine xM ?_
  refine xE ?_
  refine xE ?_
  refine xW fun b7 => ?_
  refine xS ?_
  refine xA ?_
  refine wn [0, 5, 8] ?_
  repeat first | refine sk fun K hK => ?_ | refine bk ?_ | refine rn fun _ => ?_
  refine xM ?_
  refine xG (PO.bin Et Ev.const rfl) ?_
  refine wn [0, 5, 8, 16] ?_
  repeat first | refine sk fun K hK => ?_ | refine bk ?_
  refine wc (fun c16 => ?_) fun c16 => ?_
  replace c16 := t_ne c16
  obtain ⟨w, hw⟩ := err_of c16
  rw [hw] at hR
  repeat first | refine sk fun K hK => ?_ | refine bk ?_ | refine rn fun _ => ?_
  refine xM ?_
  refine xA ?_
  refine wn [6] ?_
  refine WC.ret (wR (h) ?_)
  exact ⟨by rw [hR, hw]; rfl, rfl⟩
  replace c16 := f_ne c16
  obtain ⟨p, hp⟩ := ok_of (chan_ok s) c16
  rw [hp] at hR
  dsimp only at hR
  refine WC.skip (kp [0, 5] ?_)
  repeat first | refine sk fun K hK => ?_ | refine bk ?_
  refine WC.drawS [2] (.op 0 (.op 1 (.op 2 .nil))) [3, 4] _ [] mixed (fun _ _ _ _ _ h => h) [] (by kernel_rfl) ?_
  refine yG rfl (PO.move Et) ?_
  refine yG rfl (pA Tryz.underlying27) ?_
  refine yf rfl (E1 Ev.const) (fun fr => tof_ct _ _ _) ?_
  refine SR.nil rfl rfl ?_
  refine xf (E3 Et Et Et) (isR_ct (hs.mono Sb) x (tyK 1) (hx.mono Sb)) ?_
  refine xA ?_
  refine wn [6] ?_
  refine WC.ret (wR (h) ?_)
  exact ⟨by rw [hR], rfl⟩
end Go.Proofs.YtdhmplmpbcnojaaGreatDoor
end
/- TpJ -/
section
namespace Go.Proofs.YtdhmplmpbcnojaaGreatDoor
open Go.Eng Go.Pc Go.Tg Go
open Go.Xp hiding B nameT
open Go.Ty (Ty Vr eqT tyV cellT zeroT PrOk VOk prL encV encV_len encI encI_len)
open Go.Lx (encB encB_len)
set_option maxRecDepth 100000
section
variable {m : View} {h : List Res} {s : List En} {a : Option Addr} {k c : Nat}
theorem findI_ct (hs : ScR m h a k c s) (nm : B) (i : Int) (hi : 0 ≤ i ∧ i ≤ s.length) : CT Tryz.prog 67 [.slice a k c, .int .i64 i, str nm] h m (Pure1 h (.int .i64 (findE (shL s) nm i.toNat))) := by
  obtain ⟨n, rfl⟩ : ∃ n : Nat, i = n := ⟨i.toNat, by omega⟩
  exact findR_ct hs nm n (by omega)
end
/-- What match asks of takes and is. -/
theorem takesM {m : View} {h : List Res} {s : List En} {a : Option Addr} {k c : Nat} (hs : ScR m h a k c s) {l : Sli Ex} (hl : LXk m h l) : ∀ x ∈ l.l, ∀ kd h', h.Sublist h' → CT Tryz.prog 85 ([.slice a k c] ++ [exV x, tyV (tyK kd)] ++ []) h' m (Pure1 h' (.int .i64 (setX (shL s) x kd))) :=
  fun x hx kd _ hh => takes_ct (hs.mono hh) x (tyK kd) ((hl.ok x hx).mono hh)
theorem isM {m : View} {h : List Res} {s : List En} {a : Option Addr} {k c : Nat} (hs : ScR m h a k c s) {l : Sli Ex} (hl : LXk m h l) : ∀ x ∈ l.l, ∀ kd h', h.Sublist h' → CT Tryz.prog 41 ([.slice a k c] ++ [exV x, tyV (tyK kd)] ++ []) h' m (Pure1 h' (.int .i64 (giveX (shL s) x kd))) :=
  fun x hx kd _ hh => isR_ct (hs.mono hh) x (tyK kd) ((hl.ok x hx).mono hh)
theorem input_ct {m : View} {h : List Res} {s : List En} {a : Option Addr} {k c : Nat} (hg : Glob m) (hs : ScR m h a k c s) (p : Pr) (hx : XOk m h p.ch) (ho : LXk m h p.tg) :
    CT Tryz.prog 56 [.slice a k c, prV p] h m (Pure1 h (.int .i64 (inX (shL s) p.ch p.tg.l))) := by
  have hR : inX (shL s) p.ch p.tg.l = match typX (shL s) p.ch with | .error w => w | .ok h => if eqT h.t (tyK 5) then matchX (setX (shL s)) [1] p.tg.l else recvX (shL s) p.ch p.tg.l := rfl
  have hto := ho.rd
  refine CT.body Tryz.call56 Tryz.func56 rfl Tryz.ntmps56 (leB rfl) rfl ?_
  repeat first | refine sk fun K hK => ?_ | refine bk ?_ | refine rn fun _ => ?_
  refine xX fun b3 => ?_
  refine xC ?_
  refine wn [0, 3] ?_
  repeat first | refine sk fun K hK => ?_ | refine bk ?_ | refine rn fun _ => ?_
  refine xM ?_
  refine xF Tryz.underlying56 ?_
  refine xG (pA Tryz.underlying27) ?_
  refine xg (E2 Et Et) (typeOfR_ct (hs.mono Sb) p.ch (hx.mono Sb)) ?_
  rintro _ _ ⟨hd, rfl, hhd, rfl⟩
  refine xM ?_
  refine xE ?_
  refine xE ?_
  refine xW fun b5 => ?_
  refine xS ?_
  refine xA ?_
  refine wn [0, 3, 5, 6] ?_
  repeat first | refine sk fun K hK => ?_ | refine bk ?_ | refine rn fun _ => ?_
  refine xM ?_
  refine xG (PO.bin Et Ev.const rfl) ?_
  refine xA ?_
  refine wn [0, 3, 5, 6, 14] ?_
  repeat first | refine sk fun K hK => ?_ | refine bk ?_
  refine wc (fun c14 => ?_) fun c14 => ?_
  replace c14 := t_ne c14
  obtain ⟨w, hw⟩ := err_of c14
  rw [hw] at hR
  repeat first | refine sk fun K hK => ?_ | refine bk ?_ | refine rn fun _ => ?_
  refine xM ?_
  refine xA ?_
  refine wn [4] ?_
  refine WC.ret (wR (h) ?_)
  exact ⟨by rw [hR, hw]; rfl, rfl⟩
  replace c14 := f_ne c14
  have hE := okE (typX_err s p.ch) c14 hhd
  rw [hE] at hR
  dsimp only at hR
  repeat first | refine sk fun K hK => ?_ | refine bk ?_
  refine WC.drawS [2] (.op 0 (.op 1 (.op 2 .nil))) [3, 4] _ [] mixed (fun _ _ _ _ _ h => h) [] (by kernel_rfl) ?_
  refine yG rfl (pF Tryz.underlying76) ?_
  refine yG rfl (pA Tryz.underlying30) ?_
  refine yf rfl (E1 Ev.const) (fun fr => tof_ct _ _ _) ?_
  refine SR.nil rfl rfl ?_
  refine xG (PO.eqlA Tryz.underlying30 (by kernel_rfl) (by kernel_rfl) Et Et rfl) ?_
  refine xA ?_
  refine wn [0, 3, 18] ?_
  repeat first | refine sk fun K hK => ?_ | refine bk ?_
  refine wc (fun c18 => ?_) fun c18 => ?_
  have d18 : eqT hd.t (tyK 5) = true := c18
  rw [if_pos d18] at hR
  repeat first | refine sk fun K hK => ?_ | refine bk ?_ | refine rn fun _ => ?_
  refine xY EL100 (EvP.cons Ev.const EvP.nil) fun b23 => ?_
  refine xF Tryz.underlying56 ?_
  refine xG (pL Tryz.underlying25) ?_
  refine xM ?_
  refine xG (PO.makeFunc (Evs.cons Et Evs.nil) Evs.nil) ?_
  refine xf (E3 Et Et Et) (match_ct 85 [.slice a k c] (setX (shL s)) _ _ _ [1] _ _ _ p.tg.l (Rd.ofPt rfl (leB rfl) Me) (hto.mono (View.le.refl _) Sb) (takesM (hs.mono Sb) (ho.mono Sb))) ?_
  refine xA ?_
  refine wn [4] ?_
  refine WC.ret (wR (h) ?_)
  exact ⟨by rw [hR], rfl⟩
  have d18 : eqT hd.t (tyK 5) = false := c18
  rw [if_neg (by rw [d18]; decide)] at hR
  refine WC.skip (kp [0, 3] ?_)
  repeat first | refine sk fun K hK => ?_ | refine bk ?_ | refine rn fun _ => ?_
  refine xM ?_
  refine xF Tryz.underlying56 ?_
  refine xG (pA Tryz.underlying27) ?_
  refine xF Tryz.underlying56 ?_
  refine xG (pL Tryz.underlying25) ?_
  refine xf (E3 Et Et Et) (recv_ct hg (hs.mono Sb) p.ch (hx.mono Sb) p.tg (ho.mono Sb)) ?_
  refine xA ?_
  refine wn [4] ?_
  refine WC.ret (wR (h) ?_)
  exact ⟨by rw [hR], rfl⟩
theorem output_ct {m : View} {h : List Res} {s : List En} {a : Option Addr} {k c : Nat} (hg : Glob m) (hs : ScR m h a k c s) (p : Pr) (hx : XOk m h p.ch) (ho : LXk m h p.ex) (hn : 0 < p.ex.l.length) :
    CT Tryz.prog 57 [.slice a k c, prV p] h m (Pure1 h (.int .i64 (outX (shL s) p.ch p.ex.l))) := by
  obtain ⟨e0, he0⟩ := get_some hn
  have hl0 : p.ex.l = e0 :: p.ex.l.drop 1 := drop_at (k := 0) he0
  have hR : outX (shL s) p.ch p.ex.l = match chanX (shL s) p.ch 4 with | .error w => w | .ok q => if q.1 = false then matchX (giveX (shL s)) (itemsX q) p.ex.l else if e0.k ≠ 4 then 130 else match variantX q e0.s with | .error w => w | .ok ks => matchX (giveX (shL s)) ks (p.ex.l.drop 1) := by
    unfold outX
    rw [hl0]
    rfl
  have hto := ho.rd
  have hmx := hto.mx
  have hle := hto.le
  refine CT.body Tryz.call57 Tryz.func57 rfl Tryz.ntmps57 (leB rfl) rfl ?_
  repeat first | refine sk fun K hK => ?_ | refine bk ?_ | refine rn fun _ => ?_
  refine xX fun b3 => ?_
  refine xC ?_
  refine wn [0, 3] ?_
  repeat first | refine sk fun K hK => ?_ | refine bk ?_ | refine rn fun _ => ?_
  refine xM ?_
  refine xF Tryz.underlying56 ?_
  refine xG (pA Tryz.underlying27) ?_
  refine xg (E3 Et Et Ev.const) (channel_ct hg hs Sb p.ch 4 (hx.mono Sb)) ?_
  rintro _ _ ⟨hs2, rfl, cs, a2, c2, l2, rfl, hpr, hpl⟩
  refine xM ?_
  refine xE ?_
  refine xE ?_
  refine xW fun b5 => ?_
  refine xS ?_
  refine xA ?_
  refine wn [0, 3, 5, 6] ?_
  repeat first | refine sk fun K hK => ?_ | refine bk ?_ | refine rn fun _ => ?_
  refine xM ?_
  refine xG (PO.bin Et Ev.const rfl) ?_
  refine xA ?_
  refine wn [0, 3, 5, 6, 15] ?_
  repeat first | refine sk fun K hK => ?_ | refine bk ?_
  refine wc (fun c15 => ?_) fun c15 => ?_
  replace c15 := t_ne c15
  obtain ⟨w, hw⟩ := err_of c15
  rw [hw] at hR
  repeat first | refine sk fun K hK => ?_ | refine bk ?_ | refine rn fun _ => ?_
  refine xM ?_
  refine xA ?_
  refine wn [4] ?_
  refine WC.ret (wR (h) ?_)
  exact ⟨by rw [hR, hw]; rfl, rfl⟩
  replace c15 := f_ne c15
  obtain ⟨q, hp⟩ := ok_of (chan_ok s) c15
  have hpe := hpl q hp
  subst hpe
  rw [hp] at hR
  dsimp only at hR
  have hrd := hpr.rd
  repeat first | refine sk fun K hK => ?_ | refine bk ?_ | refine rn fun _ => ?_
  refine xF Tryz.underlying51 ?_
  refine xG (pL Tryz.underlying4) ?_
  refine xG (PO.not Et) ?_
  refine xA ?_
  refine wn [0, 3, 5, 19] ?_
  repeat first | refine sk fun K hK => ?_ | refine bk ?_
  refine wc (fun c19 => ?_) fun c19 => ?_
  have d19 : cs = false := by simpa using c19
  have hne := chanX_ne hp d19
  rw [if_pos d19] at hR
  have hln : 0 < l2.length := by
    cases l2 with
    | nil => exact absurd rfl hne
    | cons y r => exact Nat.succ_pos _
  obtain ⟨v, hv⟩ := get_some hln
  have hi : itemsX (cs, prS l2) = v.items := by
    cases l2 with
    | nil => cases hv
    | cons y r => cases hv; rfl
  have hvr := (hpr.ok v (List.mem_of_getElem? hv)).rd
  rw [hi] at hR
  repeat first | refine sk fun K hK => ?_ | refine bk ?_
  refine WC.drawS [] (.op 0 (.op 1 (.op 2 (.op 3 (.op 4 (.op 5 (.op 6 (.op 7 (.op 8 .nil))))))))) [9, 10] _ [] mixed (fun _ _ _ _ _ h => h) [] (by kernel_rfl) ?_
  refine yG rfl (pF Tryz.underlying51) ?_
  refine yG rfl (pL Tryz.underlying49) ?_
  refine yG rfl (PO.idx EL49.und EL49.size EL49.posz (Ev.tmp rfl) Ev.const Rr rfl (q := 0) (by omega)) ?_
  refine yG rfl (PO.fieldF Tryz.underlying102 rfl (Nat.ne_of_beq_eq_false rfl) encV_len (Nat.succ_pos _) Rr (by assumption) (Ev.tmp rfl)) ?_
  refine yG rfl (PO.loadFf Tryz.underlying100 rfl encV_len Rr (Ev.tmp rfl) (by assumption) rfl) ?_
  refine yG rfl (pF Tryz.underlying56) ?_
  refine yG rfl (pL Tryz.underlying25) ?_
  refine yG rfl (PO.move Et) ?_
  refine yG rfl (PO.makeFunc (Evs.cons Et Evs.nil) Evs.nil) ?_
  refine SR.nil rfl rfl ?_
  refine xf (E3 Et Et Et) (match_ct 41 [.slice a k c] (giveX (shL s)) _ _ _ v.items _ _ _ p.ex.l (hvr.mono (View.le.refl _) Sb) (hto.mono (View.le.refl _) Sb) (isM (hs.mono Sb) (ho.mono Sb))) ?_
  refine xA ?_
  refine wn [4] ?_
  refine WC.ret (wR (h) ?_)
  exact ⟨by rw [hR], rfl⟩
  have d19 : ¬ cs = false := by simpa using c19
  rw [if_neg d19] at hR
  repeat first | refine sk fun K hK => ?_ | refine bk ?_ | refine rn fun _ => ?_
  refine xF Tryz.underlying56 ?_
  refine xG (pL Tryz.underlying25) ?_
  refine xG (PO.idx EL25.und EL25.size EL25.posz (Ev.tmp rfl) Ev.const Rr rfl (q := 0) (by omega)) ?_
  refine xG (PO.fieldF Tryz.underlying27 rfl (Nat.ne_of_beq_eq_false rfl) exE_len (Nat.succ_pos _) Rr (by assumption) (Ev.tmp rfl)) ?_
  refine xG (PO.loadFf Tryz.underlying22 rfl exE_len Rr (Ev.tmp rfl) (by assumption) rfl) ?_
  refine xG (PO.bin Et Ev.const rfl) ?_
  refine xA ?_
  refine wn [0, 3, 5, 33] ?_
  repeat first | refine sk fun K hK => ?_ | refine bk ?_
  refine wc (fun c33 => ?_) fun c33 => ?_
  replace c33 := t_ne c33
  rw [if_pos c33] at hR
  repeat first | refine sk fun K hK => ?_ | refine bk ?_ | refine rn fun _ => ?_
  refine xC ?_
  refine wn [4] ?_
  refine WC.ret (wR (h) ?_)
  exact ⟨by rw [hR], rfl⟩
  replace c33 := f_ne c33
  rw [if_neg (by simpa using c33), variantX_it] at hR
  have hit := it_rd hpr cs e0.s
  refine WC.skip (kp [0, 3, 5] ?_)
  repeat first | refine sk fun K hK => ?_ | refine bk ?_
  refine WC.drawS [6] (.op 0 (.op 1 (.op 2 (.op 3 (.op 4 (.op 5 (.op 6 (.op 7 (.op 8 (.op 9 .nil)))))))))) [10, 11] _ [] mixed (fun _ _ _ _ _ h => h) [9] (by kernel_rfl) ?_
  refine yG rfl (pA Tryz.underlying51) ?_
  refine yG rfl (pF Tryz.underlying56) ?_
  refine yG rfl (pL Tryz.underlying25) ?_
  refine yG rfl (PO.idx EL25.und EL25.size EL25.posz (Ev.tmp rfl) Ev.const Rr rfl (q := 0) (by omega)) ?_
  refine yG rfl (PO.fieldF Tryz.underlying27 rfl (Nat.ne_of_beq_eq_false rfl) exE_len (Nat.succ_pos _) Rr (by assumption) (Ev.tmp rfl)) ?_
  refine yG rfl (PO.loadFf Tryz.underlying9 rfl exE_len Rr (Ev.tmp rfl) (by assumption) rfl) ?_
  refine yf rfl (E2 Et Et) (fun fr => variant_ct cs a2 c2 l2 e0.s (hpr.mono (View.le.refl _) Sb)) ?_
  refine yG rfl (PO.move Et) ?_
  refine yG rfl (PO.extract Et rfl) ?_
  refine yG rfl (PO.extract Et rfl) ?_
  refine SR.nil rfl rfl ?_
  refine xA ?_
  refine xA ?_
  refine wn [0, 3, 6, 7] ?_
  repeat first | refine sk fun K hK => ?_ | refine bk ?_ | refine rn fun _ => ?_
  refine xM ?_
  refine xG (PO.bin Et Ev.const rfl) ?_
  refine wn [0, 3, 6, 7, 51] ?_
  repeat first | refine sk fun K hK => ?_ | refine bk ?_
  refine wc (fun c51 => ?_) fun c51 => ?_
  replace c51 := t_ne c51
  rw [if_neg (by simpa using c51)] at hR
  repeat first | refine sk fun K hK => ?_ | refine bk ?_ | refine rn fun _ => ?_
  refine xM ?_
  refine xA ?_
  refine wn [4] ?_
  refine WC.ret (wR (h) ?_)
  exact ⟨by rw [hR]; rfl, rfl⟩
  replace c51 := f_ne c51
  rw [if_pos c51] at hR
  dsimp only at hR
  have hlk : LXk m h ⟨sl1 p.ex.a 1 p.ex.c 6, p.ex.c - 1, p.ex.l.drop 1⟩ := ⟨by have := Rd.dropF exE_len (by decide) hto (i := 1) (by omega); simpa using this, fun x hx => ho.ok x (List.mem_of_mem_drop hx)⟩
  have hlr := hlk.rd
  refine WC.skip (kp [0, 3, 7] ?_)
  repeat first | refine sk fun K hK => ?_ | refine bk ?_ | refine rn fun _ => ?_
  refine xM ?_
  refine xF Tryz.underlying56 ?_
  refine xG (pL Tryz.underlying25) ?_
  refine xG (PO.sliceL EL25.und EL25.size Et Ev.const (l := 1) rfl (by omega)) ?_
  refine xM ?_
  refine xG (PO.makeFunc (Evs.cons Et Evs.nil) Evs.nil) ?_
  refine xf (E3 Et Et Et) (match_ct 41 [.slice a k c] (giveX (shL s)) _ _ _ (itL (findV cs e0.s l2)) _ _ _ (p.ex.l.drop 1) (hit.mono (View.le.refl _) Sb) (Rd.dropF exE_len (by decide) (hto.mono (View.le.refl _) Sb) (i := 1) (by omega)) (isM (hs.mono Sb) (hlk.mono Sb))) ?_
  refine xA ?_
  refine wn [4] ?_
  refine WC.ret (wR (h) ?_)
  exact ⟨by rw [hR], rfl⟩
theorem wait_ct {m : View} {h : List Res} {s : List En} {a : Option Addr} {k c : Nat} (hg : Glob m) (hs : ScR m h a k c s) (p : Pr) (hx : XOk m h p.ch) (ho : LXk m h p.ex) (hn : 0 < p.ex.l.length) :
    CT Tryz.prog 58 [.slice a k c, prV p] h m (Pure1 h (.int .i64 (afterX (shL s) p.ch (hdX p.ex.l)))) := by
  obtain ⟨e0, he0⟩ := get_some hn
  have hl0 : hdX p.ex.l = e0 := by
    unfold hdX
    cases hq : p.ex.l with
    | nil => rw [hq] at he0; cases he0
    | cons y r => rw [hq] at he0; cases he0; rfl
  have hto := ho.rd
  refine CT.body Tryz.call58 Tryz.func58 rfl Tryz.ntmps58 (leB rfl) rfl ?_
  repeat first | refine sk fun K hK => ?_ | refine bk ?_ | refine rn fun _ => ?_
  refine xX fun b3 => ?_
  refine xC ?_
  refine wn [0, 3] ?_
  repeat first | refine sk fun K hK => ?_ | refine bk ?_
  refine WC.drawS [] (.op 0 (.op 1 (.op 2 (.op 3 (.op 4 (.op 5 (.op 6 .nil))))))) [7, 8] _ [] mixed (fun _ _ _ _ _ h => h) [] (by kernel_rfl) ?_
  refine yG rfl (PO.move Et) ?_
  refine yG rfl (pF Tryz.underlying56) ?_
  refine yG rfl (pA Tryz.underlying27) ?_
  refine yG rfl (pF Tryz.underlying56) ?_
  refine yG rfl (pL Tryz.underlying25) ?_
  refine yG rfl (PO.idx EL25.und EL25.size EL25.posz (Ev.tmp rfl) Ev.const Rr rfl (q := 0) (by omega)) ?_
  refine yG rfl (PO.loadFA Tryz.underlying27 rfl rfl exE_len Rr (Ev.tmp rfl) (by assumption) rfl rfl (Nat.succ_pos _)) ?_
  refine SR.nil rfl rfl ?_
  refine xf (E3 Et Et Et) (after_ct hg (hs.mono Sb) p.ch e0 (hx.mono Sb) ((ho.ok e0 (List.mem_of_getElem? he0)).mono Sb)) ?_
  refine xA ?_
  refine wn [4] ?_
  refine WC.ret (wR (h) ?_)
  exact ⟨by rw [hl0], rfl⟩
theorem assign_ct {m : View} {h : List Res} {s : List En} {a : Option Addr} {k c : Nat} (hs : ScR m h a k c s) (p : Pr) (ht : LXk m h p.tg) (ho : LXk m h p.ex) :
    CT Tryz.prog 55 [.slice a k c, prV p] h m (Pure1 h (.int .i64 (asgX (shL s) p.tg.l p.ex.l))) := by
  have r1 := ht.rd
  have r2 := ho.rd
  have m1 := r1.mx
  have m2 := r2.mx
  have k1 := r1.le
  have k2 := r2.le
  refine CT.body Tryz.call55 Tryz.func55 rfl Tryz.ntmps55 (leB rfl) rfl ?_
  repeat first | refine sk fun K hK => ?_ | refine bk ?_ | refine rn fun _ => ?_
  refine xX fun b3 => ?_
  refine xC ?_
  refine wn [0, 3] ?_
  repeat first | refine sk fun K hK => ?_ | refine bk ?_ | refine rn fun _ => ?_
  refine xF Tryz.underlying56 ?_
  refine xG (pL Tryz.underlying25) ?_
  refine xG (PO.lenSl Tryz.underlying25 Et) ?_
  refine xF Tryz.underlying56 ?_
  refine xG (pL Tryz.underlying25) ?_
  refine xG (PO.lenSl Tryz.underlying25 Et) ?_
  refine xG (PO.min Et Et) ?_
  refine xK ?_
  refine wn [0, 3, 14, 15] ?_
  repeat first | refine sk fun K hK => ?_ | refine bk ?_
  refine WC.loopI [0, 3, 14] rfl (fun μ F' h' => ∃ i : Nat, ((i ≤ p.tg.l.length ∧ i ≤ p.ex.l.length) ∧ asgX (shL s) p.tg.l p.ex.l = asgX (shL s) (p.tg.l.drop i) (p.ex.l.drop i)) ∧ p.tg.l.length - i = μ ∧ F' = [(15, .int .i64 i)] ∧ .pt b3 (.cells (prE p).toArray 56 (0, 0)) :: h = h') (p.tg.l.length - 0) [(15, .int .i64 0)] (h0 := .pt b3 (.cells (prE p).toArray 56 (0, 0)) :: h) ?_ Sb ⟨0, ⟨⟨by omega, by omega⟩, rfl⟩, rfl, rfl, rfl⟩ ?_
  (repeat (first | exact Sub.nil | refine Sub.cons rfl ?_ | refine Sub.consE rfl (by simp; done) ?_))
  rintro _ _ _ ⟨i, ⟨⟨hk1, hk2⟩, hJ⟩, rfl, rfl, rfl⟩
  refine WC.frm rfl ?_
  repeat first | refine sk fun K hK => ?_ | refine bk ?_ | refine rn fun _ => ?_
  refine xG (PO.bin Et Et rfl) ?_
  refine wn [0, 3, 14, 15, 16] ?_
  repeat first | refine sk fun K hK => ?_ | refine bk ?_
  refine wc (fun c16 => ?_) fun c16 => ?_
  replace c16 := of_decide_eq_true c16
  have hlt1 : i < p.tg.l.length := by omega
  have hlt2 : i < p.ex.l.length := by omega
  obtain ⟨x, hx⟩ := get_some hlt1
  obtain ⟨y, hy⟩ := get_some hlt2
  have hxm := List.mem_of_getElem? hx
  have hym := List.mem_of_getElem? hy
  rw [drop_at hx, drop_at hy] at hJ
  replace hJ : asgX (shL s) p.tg.l p.ex.l = match tgtX (shL s) x with | .error w => w | .ok t => if isX (shL s) y t ≠ 0 then isX (shL s) y t else asgX (shL s) (p.tg.l.drop (i + 1)) (p.ex.l.drop (i + 1)) := hJ
  have h0 := tgtX_err s x
  generalize hr : tgtX (shL s) x = r at hJ h0
  refine WC.skip (kp [0, 3, 14, 15] ?_)
  repeat first | refine sk fun K hK => ?_ | refine bk ?_ | refine rn fun _ => ?_
  refine xM ?_
  refine xA ?_
  refine wn [0, 3, 5, 14, 15] ?_
  repeat first | refine sk fun K hK => ?_ | refine bk ?_ | refine rn fun _ => ?_
  refine xM ?_
  refine xF Tryz.underlying56 ?_
  refine xG (pL Tryz.underlying25) ?_
  refine xM ?_
  refine xG (PO.idx EL25.und EL25.size EL25.posz (Ev.tmp rfl) (Ev.tmp rfl) Rr rfl (by omega)) ?_
  refine xG (PO.loadFA Tryz.underlying27 rfl rfl exE_len Rr (Ev.tmp rfl) (by assumption) rfl rfl (Nat.succ_pos _)) ?_
  refine xf (E2 Et Et) (hr ▸ target_ct (hs.mono Sb) x ((ht.ok x hxm).mono Sb)) ?_
  refine xM ?_
  refine xE ?_
  refine xE ?_
  refine xW fun b6 => ?_
  refine xS ?_
  refine xA ?_
  refine wn [0, 3, 5, 6, 7, 14, 15] ?_
  repeat first | refine sk fun K hK => ?_ | refine bk ?_ | refine rn fun _ => ?_
  refine xM ?_
  refine xG (PO.bin Et Ev.const rfl) ?_
  refine wn [0, 3, 5, 6, 7, 14, 15, 29] ?_
  repeat first | refine sk fun K hK => ?_ | refine bk ?_
  refine wc (fun c29 => ?_) fun c29 => ?_
  replace c29 := t_ne c29
  obtain ⟨w, hw⟩ := err_of c29
  rw [hw] at hJ
  repeat first | refine sk fun K hK => ?_ | refine bk ?_ | refine rn fun _ => ?_
  refine xM ?_
  refine xA ?_
  refine wn [4] ?_
  refine WC.ret (wR (h) ?_)
  exact ⟨by rw [hJ, hw]; rfl, rfl⟩
  replace c29 := f_ne c29
  obtain ⟨t, hq⟩ := ok_of h0 c29
  rw [hq] at hJ ⊢
  dsimp only at hJ
  refine WC.skip (kp [0, 3, 5, 6, 14, 15] ?_)
  repeat first | refine sk fun K hK => ?_ | refine bk ?_
  refine WC.drawS [] (.op 0 (.op 1 (.op 2 (.op 3 (.op 4 (.op 5 (.op 6 .nil))))))) [7, 8] _ [] mixed (fun _ _ _ _ _ h => h) [] (by kernel_rfl) ?_
  refine yG rfl (PO.move Et) ?_
  refine yG rfl (pF Tryz.underlying56) ?_
  refine yG rfl (pL Tryz.underlying25) ?_
  refine yG rfl (PO.move Et) ?_
  refine yG rfl (PO.idx EL25.und EL25.size EL25.posz (Ev.tmp rfl) (Ev.tmp rfl) Rr rfl (by omega)) ?_
  refine yG rfl (PO.loadFA Tryz.underlying27 rfl rfl exE_len Rr (Ev.tmp rfl) (by assumption) rfl rfl (Nat.succ_pos _)) ?_
  refine yG rfl (pA Tryz.underlying30) ?_
  refine SR.nil rfl rfl ?_
  refine xf (E3 Et Et Et) (isR_ct (hs.mono Sb) y t ((ho.ok y hym).mono Sb)) ?_
  refine xA ?_
  refine wn [0, 3, 7, 14, 15] ?_
  repeat first | refine sk fun K hK => ?_ | refine bk ?_ | refine rn fun _ => ?_
  refine xM ?_
  refine xG (PO.bin Et Ev.const rfl) ?_
  refine wn [0, 3, 7, 14, 15, 40] ?_
  repeat first | refine sk fun K hK => ?_ | refine bk ?_
  refine wc (fun c40 => ?_) fun c40 => ?_
  replace c40 := t_ne c40
  rw [if_pos c40] at hJ
  repeat first | refine sk fun K hK => ?_ | refine bk ?_ | refine rn fun _ => ?_
  refine xM ?_
  refine xA ?_
  refine wn [4] ?_
  refine WC.ret (wR (h) ?_)
  exact ⟨by rw [hJ], rfl⟩
  replace c40 := f_ne c40
  rw [if_neg (by simpa using c40)] at hJ
  refine WC.skip (kp [0, 3, 14, 15] ?_)
  repeat first | refine sk fun K hK => ?_ | refine bk ?_ | refine rn fun _ => ?_
  refine xG (PO.addI Et Ev.const (by omega)) ?_
  refine xM ?_
  refine WL.nil (loopBackI (p.tg.l.length - (i + 1)) [(15, .int .i64 (i + 1))] (h'' := .pt b3 (.cells (prE p).toArray 56 (0, 0)) :: h) (by omega) ?_ (by (repeat (first | exact Sub.nil | refine Sub.cons rfl ?_ | refine Sub.consE rfl (by simp; done) ?_))) Sb ⟨i + 1, ⟨⟨by omega, by omega⟩, hJ⟩, rfl, rfl, rfl⟩)
  (repeat (first | exact Sub.nil | refine Sub.cons rfl ?_ | refine Sub.consE rfl (by simp; done) ?_))
  replace c16 := of_decide_eq_false c16
  have hor : p.ex.l.length ≤ i ∨ p.tg.l.length ≤ i := by split at c16 <;> omega
  refine WC.exit (kp [3] ?_)
  repeat first | refine sk fun K hK => ?_ | refine bk ?_ | refine rn fun _ => ?_
  refine xF Tryz.underlying56 ?_
  refine xG (pL Tryz.underlying25) ?_
  refine xG (PO.lenSl Tryz.underlying25 Et) ?_
  refine xF Tryz.underlying56 ?_
  refine xG (pL Tryz.underlying25) ?_
  refine xG (PO.lenSl Tryz.underlying25 Et) ?_
  refine xG (PO.bin Et Et rfl) ?_
  refine wn [49] ?_
  repeat first | refine sk fun K hK => ?_ | refine bk ?_
  refine wc (fun c49 => ?_) fun c49 => ?_
  replace c49 := t_ne c49
  have hJ : asgX (shL s) p.tg.l p.ex.l = 130 := by
    rw [hJ]
    rcases Nat.lt_or_ge i p.tg.l.length with h1 | h1
    · obtain ⟨x, hx⟩ := get_some h1
      rw [drop_at hx, show p.ex.l.drop i = [] from List.drop_eq_nil_of_le (by omega)]
      rfl
    · have h2 : i < p.ex.l.length := by omega
      obtain ⟨y, hy⟩ := get_some h2
      rw [drop_at hy, show p.tg.l.drop i = [] from List.drop_eq_nil_of_le (by omega)]
      rfl
  repeat first | refine sk fun K hK => ?_ | refine bk ?_ | refine rn fun _ => ?_
  refine xC ?_
  refine wn [4] ?_
  refine WC.ret (wR (h) ?_)
  exact ⟨by rw [hJ], rfl⟩
  replace c49 := f_ne c49
  rw [show p.ex.l.drop i = [] from List.drop_eq_nil_of_le (by omega), show p.tg.l.drop i = [] from List.drop_eq_nil_of_le (by omega)] at hJ
  refine WC.skip (kp [] ?_)
  repeat first | refine sk fun K hK => ?_ | refine bk ?_ | refine rn fun _ => ?_
  refine xC ?_
  refine wn [4] ?_
  refine WC.ret (wR (h) ?_)
  exact ⟨by rw [hJ]; rfl, rfl⟩
theorem actual_ct {m : View} {h : List Res} {s : List En} {a : Option Addr} {k c : Nat} (hs : ScR m h a k c s) (f : Fo) (place : Nat) (hp : place ≤ s.length) (e : Ex) (hx : XOk m h e) :
    CT Tryz.prog 96 [.slice a k c, foV f, .int .i64 place, exV e] h m (Pure1 h (.int .i64 (actX (shL s) place f e))) := by
  refine CT.body Tryz.call96 Tryz.func96 rfl Tryz.ntmps96 (leB rfl) rfl ?_
  repeat first | refine sk fun K hK => ?_ | refine bk ?_ | refine rn fun _ => ?_
  refine xX fun b5 => ?_
  refine xX fun b7 => ?_
  refine xC ?_
  refine wn [0, 2, 5, 7] ?_
  repeat first | refine sk fun K hK => ?_ | refine bk ?_ | refine rn fun _ => ?_
  refine xF Tryz.underlying60 ?_
  refine xG (pL Tryz.underlying4) ?_
  refine xA ?_
  refine wn [0, 2, 5, 7, 11] ?_
  repeat first | refine sk fun K hK => ?_ | refine bk ?_
  refine wc (fun c11 => ?_) fun c11 => ?_
  have hR : actX (shL s) place f e = isX (shL s) e f.ty := by unfold actX; rw [if_pos c11]
  repeat first | refine sk fun K hK => ?_ | refine bk ?_ | refine rn fun _ => ?_
  refine xM ?_
  refine xG (pA Tryz.underlying27) ?_
  refine xF Tryz.underlying60 ?_
  refine xG (pA Tryz.underlying30) ?_
  refine xf (E3 Et Et Et) (isR_ct (hs.mono Sb) e f.ty (hx.mono Sb)) ?_
  refine xA ?_
  refine wn [8] ?_
  refine WC.ret (wR (h) ?_)
  exact ⟨by rw [hR], rfl⟩
  have hv : ¬ f.val = true := by rw [c11]; decide
  repeat first | refine sk fun K hK => ?_ | refine bk ?_ | refine rn fun _ => ?_
  refine xF Tryz.underlying60 ?_
  refine xG (pA Tryz.underlying30) ?_
  refine xf (E1 Et) (tsim_ct _ _ _) ?_
  refine xA ?_
  refine wn [0, 2, 5, 7, 19] ?_
  repeat first | refine sk fun K hK => ?_ | refine bk ?_
  refine wc (fun c19 => ?_) fun c19 => ?_
  have hR : actX (shL s) place f e = takesX (shL s) e f.ty := by unfold actX; rw [if_neg hv, if_pos c19]
  repeat first | refine sk fun K hK => ?_ | refine bk ?_ | refine rn fun _ => ?_
  refine xM ?_
  refine xG (pA Tryz.underlying27) ?_
  refine xF Tryz.underlying60 ?_
  refine xG (pA Tryz.underlying30) ?_
  refine xf (E3 Et Et Et) (takes_ct (hs.mono Sb) e f.ty (hx.mono Sb)) ?_
  refine xA ?_
  refine wn [8] ?_
  refine WC.ret (wR (h) ?_)
  exact ⟨by rw [hR], rfl⟩
  have hR : actX (shL s) place f e = match typX (shL s) e with | .error w => w | .ok h => if eqT h.t f.ty = false ∨ (h.t.proto ≠ [] ∧ findE (shL s) h.t.proto h.ar.toNat ≠ findE (shL s) f.ty.proto place) then 130 else 0 := by unfold actX; rw [if_neg hv, if_neg (by rw [c19]; decide)]; rfl
  refine WC.skip (kp [0, 2, 5, 7] ?_)
  repeat first | refine sk fun K hK => ?_ | refine bk ?_ | refine rn fun _ => ?_
  refine xM ?_
  refine xG (pA Tryz.underlying27) ?_
  refine xg (E2 Et Et) (typeOfR_ct (hs.mono Sb) e (hx.mono Sb)) ?_
  rintro _ _ ⟨hd, rfl, hhd, rfl⟩
  refine xM ?_
  refine xE ?_
  refine xE ?_
  refine xW fun b9 => ?_
  refine xS ?_
  refine xA ?_
  refine wn [0, 2, 5, 9, 10] ?_
  repeat first | refine sk fun K hK => ?_ | refine bk ?_
  have hbd : errT (typX (shL s) e) = 0 → 0 ≤ hd.ar ∧ hd.ar ≤ s.length := fun h0 => by
    have := typX_ar hs.arOk e hd (okE (typX_err s e) h0 hhd)
    rw [shL_len] at this
    exact this
  refine WC.drawS [20] (.op 0 (.op 1 (.op 2 (.op 3 (.op 4 (.op 5 (.op 6 (.op 7 (.op 8 (.op 9 (.op 10 (.op 11 (.op 12 (.op 13 (.op 14 (.op 15 (.op 16 (.op 17 (.op 18 (.op 19 (.op 21 (.op 22 (.op 23 (.op 24 (.op 25 (.op 20 .nil)))))))))))))))))))))))))) [26, 27, 28, 29, 30] _ [] mixed (fun _ _ _ _ _ h => h) [] (by kernel_rfl) ?_
  refine yG rfl (PO.move Et) ?_
  refine yG rfl (PO.bin Et Ev.const rfl) ?_
  refine yG rfl (PO.move Et) ?_
  refine SR.poG rfl rfl (GU.t rfl rfl) (fun hc => PO.fieldAddr Tryz.underlying76 rfl (Nat.ne_of_beq_eq_false rfl) Et) (leB rfl) ?_
  refine SR.poG rfl rfl (GU.t rfl rfl) (fun hc => PO.loadA Tryz.underlying30 rfl rfl (Eg hc) Me rfl) (leB rfl) ?_
  refine SR.poG rfl rfl (GU.t rfl rfl) (fun hc => PO.fieldAddr Tryz.underlying60 rfl (Nat.ne_of_beq_eq_false rfl) Et) (leB rfl) ?_
  refine SR.poG rfl rfl (GU.t rfl rfl) (fun hc => PO.loadA Tryz.underlying30 rfl rfl (Eg hc) Me rfl) (leB rfl) ?_
  refine SR.poG rfl rfl (GU.t rfl rfl) (fun hc => PO.neqA Tryz.underlying30 (by kernel_rfl) (by kernel_rfl) (Eg hc) (Eg hc) rfl) (leB rfl) ?_
  refine SR.poG rfl rfl (GU.t rfl rfl) (fun hc => PO.move (Eg hc)) (leB rfl) ?_
  refine SR.poG rfl rfl (GU.nf rfl rfl) (fun hc => PO.fieldAddr Tryz.underlying76 rfl (Nat.ne_of_beq_eq_false rfl) Et) (leB rfl) ?_
  refine SR.poG rfl rfl (GU.nf rfl rfl) (fun hc => PO.fieldAddr Tryz.underlying30 rfl (Nat.ne_of_beq_eq_false rfl) (Eg hc)) (leB rfl) ?_
  refine SR.poG rfl rfl (GU.nf rfl rfl) (fun hc => PO.load1 Tryz.underlying9 rfl (Eg hc) Me rfl) (leB rfl) ?_
  refine SR.poG rfl rfl (GU.nf rfl rfl) (fun hc => PO.neqS (Eg hc) Ev.const) (leB rfl) ?_
  refine SR.poG rfl rfl (GU.nf rfl rfl) (fun hc => PO.move (Eg hc)) (leB rfl) ?_
  refine SR.poG rfl rfl (GU.nt rfl rfl) (fun hc => PO.move Et) (leB rfl) ?_
  refine SR.poG rfl rfl (GU.nt rfl rfl) (fun hc => PO.fieldAddr Tryz.underlying76 rfl (Nat.ne_of_beq_eq_false rfl) Et) (leB rfl) ?_
  refine SR.poG rfl rfl (GU.nt rfl rfl) (fun hc => PO.load1 Tryz.underlying3 rfl (Eg hc) Me rfl) (leB rfl) ?_
  refine SR.poG rfl rfl (GU.nt rfl rfl) (fun hc => PO.fieldAddr Tryz.underlying76 rfl (Nat.ne_of_beq_eq_false rfl) Et) (leB rfl) ?_
  refine SR.poG rfl rfl (GU.nt rfl rfl) (fun hc => PO.fieldAddr Tryz.underlying30 rfl (Nat.ne_of_beq_eq_false rfl) (Eg hc)) (leB rfl) ?_
  refine SR.poG rfl rfl (GU.nt rfl rfl) (fun hc => PO.load1 Tryz.underlying9 rfl (Eg hc) Me rfl) (leB rfl) ?_
  refine SR.poG rfl rfl (GU.nt rfl rfl) (fun hc => PO.move Et) (leB rfl) ?_
  refine SR.poG rfl rfl (GU.nt rfl rfl) (fun hc => PO.move Et) (leB rfl) ?_
  refine SR.poG rfl rfl (GU.nt rfl rfl) (fun hc => PO.fieldAddr Tryz.underlying60 rfl (Nat.ne_of_beq_eq_false rfl) Et) (leB rfl) ?_
  refine SR.poG rfl rfl (GU.nt rfl rfl) (fun hc => PO.fieldAddr Tryz.underlying30 rfl (Nat.ne_of_beq_eq_false rfl) (Eg hc)) (leB rfl) ?_
  refine SR.poG rfl rfl (GU.nt rfl rfl) (fun hc => PO.load1 Tryz.underlying9 rfl (Eg hc) Me rfl) (leB rfl) ?_
  refine SR.callG rfl rfl (GU.nt rfl rfl) (fun hc => ⟨Ev.func, (Evs.cons (Eg hc) (Evs.cons (Eg hc) (Evs.cons (Eg hc) Evs.nil))), fun fr => findI_ct (hs.mono Sb) hd.t.proto hd.ar (hbd (by simp at hc; exact hc.1.1))⟩) (leB rfl) ?_
  refine SR.nil rfl rfl ?_
  refine WL.callG (GU.nt rfl rfl) (fun hc => ⟨Ev.func, (Evs.cons (Eg hc) (Evs.cons (Eg hc) (Evs.cons (Eg hc) Evs.nil))), findR_ct (hs.mono Sb) f.ty.proto place hp⟩) (leB rfl) ?_
  refine WL.poG (GU.nt rfl rfl) (fun hc => PO.bin (Eg hc) (Eg hc) rfl) (leB rfl) ?_
  refine WL.poG (GU.nf rfl rfl) (fun hc => PO.pickAndN hc rfl rfl) (leB rfl) ?_
  refine zG (fun hc => PO.pickOrN hc rfl rfl) ?_
  refine xP ?_
  refine wn [10, 64] ?_
  try clear hG ops
  repeat first | refine sk fun K hK => ?_ | refine bk ?_
  refine wc (fun c64 => ?_) fun c64 => ?_
  have d64 : ((errT (typX (shL s) e) == 0) && ((!(eqT hd.t f.ty)) || ((hd.t.proto != []) && (findE (shL s) hd.t.proto hd.ar.toNat != findE (shL s) f.ty.proto place)))) = true := c64
  have hR : actX (shL s) place f e = 130 := by
    simp only [Bool.and_eq_true, beq_iff_eq] at d64
    rw [hR, okE (typX_err s e) d64.1 hhd]
    dsimp only
    rw [if_pos]
    have h2 := d64.2
    simpa using h2
  repeat first | refine sk fun K hK => ?_ | refine bk ?_ | refine rn fun _ => ?_
  refine xC ?_
  refine wn [8] ?_
  refine WC.ret (wR (h) ?_)
  exact ⟨by rw [hR], rfl⟩
  have d64 : ((errT (typX (shL s) e) == 0) && ((!(eqT hd.t f.ty)) || ((hd.t.proto != []) && (findE (shL s) hd.t.proto hd.ar.toNat != findE (shL s) f.ty.proto place)))) = false := c64
  have hR : actX (shL s) place f e = errT (typX (shL s) e) := by
    by_cases h0 : errT (typX (shL s) e) = 0
    · have hE := okE (typX_err s e) h0 hhd
      rw [h0] at d64 ⊢
      rw [hR, hE]
      dsimp only
      rw [if_neg]
      intro q
      have h3 : ((!(eqT hd.t f.ty)) || ((hd.t.proto != []) && (findE (shL s) hd.t.proto hd.ar.toNat != findE (shL s) f.ty.proto place))) = true := by simpa using q
      rw [h3] at d64
      cases d64
    · obtain ⟨w, hw⟩ := err_of h0
      rw [hR, hw]
      rfl
  refine WC.skip (kp [10] ?_)
  repeat first | refine sk fun K hK => ?_ | refine bk ?_ | refine rn fun _ => ?_
  refine xM ?_
  refine xA ?_
  refine wn [8] ?_
  refine WC.ret (wR (h) ?_)
  exact ⟨by rw [hR]; rfl, rfl⟩
set_option maxHeartbeats 1000000 in
theorem call_ct {m : View} {h : List Res} {s : List En} {a : Option Addr} {k c : Nat} (hs : ScR m h a k c s) (p : Pr) (ho : LXk m h p.ex) :
    CT Tryz.prog 63 [.slice a k c, prV p] h m (Pure1 h (.int .i64 (callX (shL s) p.name p.ex.l))) := by
  have hl := hs.rd.lenF enE_len (by decide)
  have hmx := hs.rd.mx
  have hle := hs.rd.le
  subst hl
  have r2 := ho.rd
  have m2 := r2.mx
  have k2 := r2.le
  have hbd := findE_lt (shL s) p.name s.length
  have hR : callX (shL s) p.name p.ex.l = if findE (shL s) p.name s.length < 0 then 120 else match (shL s)[(findE (shL s) p.name s.length).toNat]? with | some x => if x.k ≠ 5 ∨ x.fs.length ≠ p.ex.l.length then 130 else actsX (shL s) (findE (shL s) p.name s.length).toNat x.fs p.ex.l | none => 130 := by unfold callX; rw [shL_len]; rfl
  refine CT.body Tryz.call63 Tryz.func63 rfl Tryz.ntmps63 (leB rfl) rfl ?_
  repeat first | refine sk fun K hK => ?_ | refine bk ?_ | refine rn fun _ => ?_
  refine xX fun b3 => ?_
  refine xC ?_
  refine wn [0, 3] ?_
  repeat first | refine sk fun K hK => ?_ | refine bk ?_ | refine rn fun _ => ?_
  refine xM ?_
  refine xM ?_
  refine xG (PO.lenSl Tryz.underlying79 Et) ?_
  refine xF Tryz.underlying56 ?_
  refine xG (pL Tryz.underlying9) ?_
  refine xf (E3 Et Et Et) (findR_ct (hs.mono Sb) p.name s.length (Nat.le_refl _)) ?_
  refine xA ?_
  refine wn [0, 3, 5] ?_
  repeat first | refine sk fun K hK => ?_ | refine bk ?_ | refine rn fun _ => ?_
  refine xM ?_
  refine xG (PO.bin Et Ev.const rfl) ?_
  refine xA ?_
  refine wn [0, 3, 5, 15] ?_
  repeat first | refine sk fun K hK => ?_ | refine bk ?_
  refine wc (fun c15 => ?_) fun c15 => ?_
  replace c15 := of_decide_eq_true c15
  rw [if_pos c15] at hR
  repeat first | refine sk fun K hK => ?_ | refine bk ?_ | refine rn fun _ => ?_
  refine xC ?_
  refine wn [4] ?_
  refine WC.ret (wR (h) ?_)
  exact ⟨by rw [hR], rfl⟩
  replace c15 := of_decide_eq_false c15
  rw [if_neg c15] at hR
  obtain ⟨q, hq⟩ : ∃ q : Nat, findE (shL s) p.name s.length = q := ⟨(findE (shL s) p.name s.length).toNat, by omega⟩
  obtain ⟨x, hx⟩ := get_some (l := s) (k := q) (by omega)
  have hxm := List.mem_of_getElem? hx
  have hfr := hs.fr x hxm
  have fmx := hfr.mx
  have fle := hfr.le
  rw [hq, Int.toNat_natCast, shL_get hx] at hR
  replace hR : callX (shL s) p.name p.ex.l = if x.sp.k ≠ 5 ∨ x.sp.fs.l.length ≠ p.ex.l.length then 130 else actsX (shL s) q x.sp.fs.l p.ex.l := hR
  have hrd := hs.rd
  rw [hq]
  repeat first | refine sk fun K hK => ?_ | refine bk ?_ | refine rn fun _ => ?_
  refine xM ?_
  refine xM ?_
  refine xG (PO.idx EL79.und EL79.size EL79.posz (Ev.tmp rfl) (Ev.tmp rfl) Rr rfl (by omega)) ?_
  refine xG (PO.fieldF Tryz.underlying104 rfl (Nat.ne_of_beq_eq_false rfl) enE_len (Nat.succ_pos _) Rr (by assumption) (Ev.tmp rfl)) ?_
  refine xG (PO.fieldF Tryz.underlying54 rfl (Nat.ne_of_beq_eq_false rfl) enE_len (Nat.succ_pos _) Rr (by assumption) (Ev.tmp rfl)) ?_
  refine xG (PO.loadFf Tryz.underlying47 rfl enE_len Rr (Ev.tmp rfl) (by assumption) rfl) ?_
  refine xG (PO.bin Et Ev.const rfl) ?_
  refine xA ?_
  refine wn [0, 3, 5, 18] ?_
  (repeat refine WC.seqK fun K hK => ?_)
  refine WC.cutK (by assumption) [0, 3, 5] rfl (fun F' h' => ∃ bb : Bool, (bb = true ↔ (x.sp.k ≠ 5 ∨ x.sp.fs.l.length ≠ p.ex.l.length)) ∧ F' = [(18, .bool bb)] ∧ .pt b3 (.cells (prE p).toArray 56 (0, 0)) :: h = h') ?_ ?_
  repeat first | refine sk fun K hK => ?_ | refine bk ?_
  refine wc (fun c18 => ?_) fun c18 => ?_
  have ca : (x.sp.k != 5) = true := c18
  refine WC.skip (meetI [(18, .bool ((x.sp.k != 5)))] (h'' := .pt b3 (.cells (prE p).toArray 56 (0, 0)) :: h) ?_ (by (repeat (first | exact Sub.nil | refine Sub.cons rfl ?_ | refine Sub.consE rfl (by simp; done) ?_))) Sb ⟨(x.sp.k != 5), ⟨fun _ => .inl (by simpa using ca), fun _ => ca⟩, rfl, rfl⟩)
  (repeat (first | exact Sub.nil | refine Sub.cons rfl ?_ | refine Sub.consE rfl (by simp; done) ?_))
  have ca : (x.sp.k != 5) = false := c18
  have hM : ((x.sp.fs.l.length : Int) != p.ex.l.length) = true ↔ (x.sp.k ≠ 5 ∨ x.sp.fs.l.length ≠ p.ex.l.length) := by
    have hk5 : x.sp.k = 5 := by simpa using ca
    constructor
    · intro hk
      refine .inr fun he => ?_
      rw [he] at hk
      simp at hk
    · rintro (h1 | h1)
      · exact absurd hk5 h1
      · simp only [bne_iff_ne, ne_eq]
        omega
  repeat first | refine sk fun K hK => ?_ | refine bk ?_
  refine WC.drawS [] (.op 0 (.op 1 (.op 2 (.op 3 (.op 4 (.op 5 (.op 6 (.op 7 (.op 8 (.op 9 .nil)))))))))) [10, 11] _ [] mixed (fun _ _ _ _ _ h => h) [] (by kernel_rfl) ?_
  refine yG rfl (PO.move Et) ?_
  refine yG rfl (PO.move Et) ?_
  refine yG rfl (PO.idx EL79.und EL79.size EL79.posz (Ev.tmp rfl) (Ev.tmp rfl) Rr rfl (by omega)) ?_
  refine yG rfl (PO.fieldF Tryz.underlying104 rfl (Nat.ne_of_beq_eq_false rfl) enE_len (Nat.succ_pos _) Rr (by assumption) (Ev.tmp rfl)) ?_
  refine yG rfl (PO.fieldF Tryz.underlying54 rfl (Nat.ne_of_beq_eq_false rfl) enE_len (Nat.succ_pos _) Rr (by assumption) (Ev.tmp rfl)) ?_
  refine yG rfl (PO.loadFf Tryz.underlying52 rfl enE_len Rr (Ev.tmp rfl) (by assumption) rfl) ?_
  refine yG rfl (PO.lenSl Tryz.underlying52 Et) ?_
  refine yG rfl (pF Tryz.underlying56) ?_
  refine yG rfl (pL Tryz.underlying25) ?_
  refine yG rfl (PO.lenSl Tryz.underlying25 Et) ?_
  refine SR.nil rfl rfl ?_
  refine xG (PO.bin Et Et rfl) ?_
  refine xA ?_
  refine WL.nil (meetI [(18, .bool (((x.sp.fs.l.length : Int) != p.ex.l.length)))] (h'' := .pt b3 (.cells (prE p).toArray 56 (0, 0)) :: h) ?_ (by (repeat (first | exact Sub.nil | refine Sub.cons rfl ?_ | refine Sub.consE rfl (by simp; done) ?_))) Sb ⟨((x.sp.fs.l.length : Int) != p.ex.l.length), hM, rfl, rfl⟩)
  (repeat (first | exact Sub.nil | refine Sub.cons rfl ?_ | refine Sub.consE rfl (by simp; done) ?_))
  rintro _ _ ⟨bb, hbb, rfl, rfl⟩
  refine WC.frm rfl ?_
  repeat first | refine sk fun K hK => ?_ | refine bk ?_
  refine wc (fun c18 => ?_) fun c18 => ?_
  rw [if_pos (hbb.1 c18)] at hR
  repeat first | refine sk fun K hK => ?_ | refine bk ?_ | refine rn fun _ => ?_
  refine xC ?_
  refine wn [4] ?_
  refine WC.ret (wR (h) ?_)
  exact ⟨by rw [hR], rfl⟩
  have hno : ¬ (x.sp.k ≠ 5 ∨ x.sp.fs.l.length ≠ p.ex.l.length) := fun h1 => by rw [hbb.2 h1] at c18; cases c18
  rw [if_neg hno] at hR
  have hle2 : x.sp.fs.l.length = p.ex.l.length := by
    by_cases hz : x.sp.fs.l.length = p.ex.l.length
    · exact hz
    · exact absurd (.inr hz) hno
  refine WC.skip (kp [0, 3, 5] ?_)
  repeat first | refine sk fun K hK => ?_ | refine bk ?_ | refine rn fun _ => ?_
  refine xM ?_
  refine xM ?_
  refine xG (PO.idx EL79.und EL79.size EL79.posz (Ev.tmp rfl) (Ev.tmp rfl) Rr rfl (by omega)) ?_
  refine xG (PO.fieldF Tryz.underlying104 rfl (Nat.ne_of_beq_eq_false rfl) enE_len (Nat.succ_pos _) Rr (by assumption) (Ev.tmp rfl)) ?_
  refine xG (PO.fieldF Tryz.underlying54 rfl (Nat.ne_of_beq_eq_false rfl) enE_len (Nat.succ_pos _) Rr (by assumption) (Ev.tmp rfl)) ?_
  refine xG (PO.loadFf Tryz.underlying52 rfl enE_len Rr (Ev.tmp rfl) (by assumption) rfl) ?_
  refine xG (PO.lenSl Tryz.underlying52 Et) ?_
  refine xK ?_
  refine wn [0, 3, 5, 42, 43, 44] ?_
  repeat first | refine sk fun K hK => ?_ | refine bk ?_
  refine WC.loopI [0, 3, 5, 42, 43] rfl (fun μ F' h' => ∃ i : Nat, (i ≤ x.sp.fs.l.length ∧ callX (shL s) p.name p.ex.l = actsX (shL s) q (x.sp.fs.l.drop i) (p.ex.l.drop i)) ∧ x.sp.fs.l.length - i = μ ∧ F' = [(44, .int .i64 i)] ∧ .pt b3 (.cells (prE p).toArray 56 (0, 0)) :: h = h') (x.sp.fs.l.length - 0) [(44, .int .i64 0)] (h0 := .pt b3 (.cells (prE p).toArray 56 (0, 0)) :: h) ?_ Sb ⟨0, ⟨by omega, hR⟩, rfl, rfl, rfl⟩ ?_
  (repeat (first | exact Sub.nil | refine Sub.cons rfl ?_ | refine Sub.consE rfl (by simp; done) ?_))
  rintro _ _ _ ⟨i, ⟨hk1, hJ⟩, rfl, rfl, rfl⟩
  refine WC.frm rfl ?_
  repeat first | refine sk fun K hK => ?_ | refine bk ?_ | refine rn fun _ => ?_
  refine xG (PO.bin Et Et rfl) ?_
  refine wn [0, 3, 5, 42, 43, 44, 45] ?_
  repeat first | refine sk fun K hK => ?_ | refine bk ?_
  refine wc (fun c45 => ?_) fun c45 => ?_
  replace c45 := of_decide_eq_true c45
  obtain ⟨f, hf⟩ := get_some (l := x.sp.fs.l) (k := i) (by omega)
  obtain ⟨y, hy⟩ := get_some (l := p.ex.l) (k := i) (by omega)
  have hym := List.mem_of_getElem? hy
  rw [drop_at hf, drop_at hy] at hJ
  replace hJ : callX (shL s) p.name p.ex.l = if actX (shL s) q f y ≠ 0 then actX (shL s) q f y else actsX (shL s) q (x.sp.fs.l.drop (i + 1)) (p.ex.l.drop (i + 1)) := hJ
  refine WC.skip (kp [0, 3, 5, 42, 43, 44] ?_)
  repeat first | refine sk fun K hK => ?_ | refine bk ?_ | refine rn fun _ => ?_
  refine xM ?_
  refine xG (PO.idx EL52.und EL52.size EL52.posz (Ev.tmp rfl) (Ev.tmp rfl) Rr rfl (by omega)) ?_
  refine xG (PO.loadFA Tryz.underlying60 rfl rfl foE_len Rr (Ev.tmp rfl) (by assumption) rfl rfl (Nat.succ_pos _)) ?_
  refine xW fun b7 => ?_
  refine xA ?_
  refine xS ?_
  refine wn [0, 3, 5, 6, 7, 42, 43, 44] ?_
  repeat first | refine sk fun K hK => ?_ | refine bk ?_
  refine WC.drawS [] (.op 0 (.op 1 (.op 2 (.op 3 (.op 4 (.op 5 (.op 6 (.op 7 .nil)))))))) [8, 9] _ [] mixed (fun _ _ _ _ _ h => h) [] (by kernel_rfl) ?_
  refine yG rfl (PO.move Et) ?_
  refine yG rfl (pA Tryz.underlying60) ?_
  refine yG rfl (PO.move Et) ?_
  refine yG rfl (pF Tryz.underlying56) ?_
  refine yG rfl (pL Tryz.underlying25) ?_
  refine yG rfl (PO.move Et) ?_
  refine yG rfl (PO.idx EL25.und EL25.size EL25.posz (Ev.tmp rfl) (Ev.tmp rfl) Rr rfl (by omega)) ?_
  refine yG rfl (PO.loadFA Tryz.underlying27 rfl rfl exE_len Rr (Ev.tmp rfl) (by assumption) rfl rfl (Nat.succ_pos _)) ?_
  refine SR.nil rfl rfl ?_
  refine xf (E4 Et Et Et Et) (actual_ct (hs.mono Sb) f q (by omega) y ((ho.ok y hym).mono Sb)) ?_
  refine xA ?_
  refine wn [0, 3, 5, 8, 42, 43, 44] ?_
  repeat first | refine sk fun K hK => ?_ | refine bk ?_ | refine rn fun _ => ?_
  refine xM ?_
  refine xG (PO.bin Et Ev.const rfl) ?_
  refine wn [0, 3, 5, 8, 42, 43, 44, 59] ?_
  repeat first | refine sk fun K hK => ?_ | refine bk ?_
  refine wc (fun c59 => ?_) fun c59 => ?_
  replace c59 := t_ne c59
  rw [if_pos c59] at hJ
  repeat first | refine sk fun K hK => ?_ | refine bk ?_ | refine rn fun _ => ?_
  refine xM ?_
  refine xA ?_
  refine wn [4] ?_
  refine WC.ret (wR (h) ?_)
  exact ⟨by rw [hJ], rfl⟩
  replace c59 := f_ne c59
  rw [if_neg (by simpa using c59)] at hJ
  refine WC.skip (kp [0, 3, 5, 42, 43, 44] ?_)
  repeat first | refine sk fun K hK => ?_ | refine bk ?_ | refine rn fun _ => ?_
  refine xG (PO.addI Et Ev.const (by omega)) ?_
  refine xM ?_
  refine WL.nil (loopBackI (x.sp.fs.l.length - (i + 1)) [(44, .int .i64 (i + 1))] (h'' := .pt b3 (.cells (prE p).toArray 56 (0, 0)) :: h) (by omega) ?_ (by (repeat (first | exact Sub.nil | refine Sub.cons rfl ?_ | refine Sub.consE rfl (by simp; done) ?_))) Sb ⟨i + 1, ⟨by omega, hJ⟩, rfl, rfl, rfl⟩)
  (repeat (first | exact Sub.nil | refine Sub.cons rfl ?_ | refine Sub.consE rfl (by simp; done) ?_))
  replace c45 := of_decide_eq_false c45
  rw [show x.sp.fs.l.drop i = [] from List.drop_eq_nil_of_le (by omega)] at hJ
  refine WC.exit (kp [] ?_)
  repeat first | refine sk fun K hK => ?_ | refine bk ?_ | refine rn fun _ => ?_
  refine xC ?_
  refine wn [4] ?_
  refine WC.ret (wR (h) ?_)
  exact ⟨by rw [hJ]; rfl, rfl⟩
end Go.Proofs.YtdhmplmpbcnojaaGreatDoor
end
/- TpK -/
section
namespace Go.Proofs.YtdhmplmpbcnojaaGreatDoor
open Go.Eng Go.Pc Go.Tg Go
open Go.Xp hiding B nameT
open Go.Ty (Ty Vr eqT tyV cellT zeroT PrOk VOk prL encV encV_len encI encI_len)
open Go.Lx (encB encB_len)
set_option maxRecDepth 100000
theorem ScR.snoc {m : View} {h h' : List Res} {a a' : Option Addr} {k c k' c' : Nat} {s : List En} {sp : Sp} {ar : Nat} (hs : ScR m h a k c s) (hh : h.Sublist h') (hr : Rd m h' a' k' c' 17 (fl enE (s ++ [⟨sp, ar⟩])))
    (hnm : Rd m h' sp.names.a sp.names.l.length sp.names.c 1 (fl encB sp.names.l)) (hfr : Rd m h' sp.fs.a sp.fs.l.length sp.fs.c 6 (fl foE sp.fs.l)) (hpr : PrOk m h' sp.vs.a sp.vs.l.length sp.vs.c sp.vs.l) (har : ar ≤ s.length) : ScR m h' a' k' c' (s ++ [⟨sp, ar⟩]) := by
  have hm := hs.mono hh
  refine ⟨hr, fun x hx => ?_, fun x hx => ?_, fun x hx => ?_, fun i x hx => ?_⟩
  · rcases List.mem_append.1 hx with h1 | h1
    · exact hm.nm x h1
    · cases List.mem_singleton.1 h1; exact hnm
  · rcases List.mem_append.1 hx with h1 | h1
    · exact hm.fr x h1
    · cases List.mem_singleton.1 h1; exact hfr
  · rcases List.mem_append.1 hx with h1 | h1
    · exact hm.pr x h1
    · cases List.mem_singleton.1 h1; exact hpr
  · rcases Nat.lt_or_ge i s.length with h1 | h1
    · rw [List.getElem?_append_left h1] at hx
      exact hs.ar i x hx
    · have h2 : i = s.length := by
        have := (List.getElem?_eq_some_iff.1 hx).1
        simp at this
        omega
      subst h2
      rw [List.getElem?_append_right (Nat.le_refl _), Nat.sub_self] at hx
      cases hx
      show 0 ≤ (ar : Int) ∧ (ar : Int) ≤ (s.length : Int)
      omega
theorem open_ct {m : View} {h : List Res} {s : List En} {a : Option Addr} {k c : Nat} (hs : ScR m h a k c s) (sp : Sp) (ar : Nat) (hn : s.length ≤ 1000000) :
    CT Tryz.prog 100 [.slice a k c, spV sp, .int .i64 ar] h m (fun v _ h' => OwnF enE 104 17 h (s ++ [⟨sp, ar⟩]) v h') := by
  have hl := hs.rd.lenF enE_len (by decide)
  have hmx := hs.rd.mx
  have hle := hs.rd.le
  subst hl
  have hb0 := hs.rd.sub0 s.length (Nat.le_refl _) hle
  refine CT.body Tryz.call100 Tryz.func100 rfl Tryz.ntmps100 (leB rfl) rfl ?_
  repeat first | refine sk fun K hK => ?_ | refine bk ?_ | refine rn fun _ => ?_
  refine xX fun b4 => ?_
  refine WL.addNil 104 17 ?_
  refine xC ?_
  refine wn [0, 2, 4] ?_
  repeat first | refine sk fun K hK => ?_ | refine bk ?_
  refine WC.drawS [9] (.op 0 (.op 1 (.op 2 (.op 3 (.op 4 (.op 5 (.op 6 (.op 7 (.op 8 (.op 9 .nil)))))))))) [10, 11] _ [] mixed (fun _ _ _ _ _ h => h) [] (by kernel_rfl) ?_
  refine yG rfl (PO.move Et) ?_
  refine yG rfl (PO.move Et) ?_
  refine yG rfl (PO.lenSl Tryz.underlying79 Et) ?_
  refine yG rfl (PO.move Et) ?_
  refine yG rfl (PO.lenSl Tryz.underlying79 Et) ?_
  refine yG rfl (PO.sliceHM EL79.und EL79.size Et Et Et rfl rfl (by omega) (by omega)) ?_
  refine yG rfl (pA Tryz.underlying54) ?_
  refine yG rfl (PO.move Et) ?_
  refine yG rfl (PO.build Tryz.underlying104 rfl rfl rfl (EvP.cons Et (EvP.cons Et EvP.nil)) rfl) ?_
  refine SR.buildSlice rfl rfl EL79 rfl (EvP.cons Et EvP.nil) rfl rfl (by decide) rfl (leB rfl) fun b16 => ?_
  refine SR.nil rfl rfl ?_
  refine WL.appendR EL79 (Ev.tmp rfl) (Ev.tmp rfl) Rr Rr (by omega) rfl (fl_snoc (enc := enE) _ ((⟨sp, ar⟩ : En))) (by omega) (by omega) (leB rfl) fun a17 c17 => ?_
  refine xA ?_
  refine wn [6] ?_
  refine WC.ret (wR (.row (.slice (some ⟨a17, 0, none⟩) (s.length + 1) c17) 104 17 (s.length + 1) (fl enE (s ++ [⟨sp, ar⟩])) :: h) ?_)
  exact ⟨some ⟨a17, 0, none⟩, c17, s.length + 1, by simp, rfl, rfl⟩
theorem envS_snoc : ∀ (l : List Sp) (x : Sp) (i : Nat), envS (l ++ [x]) i = envS l i ++ [⟨x, ((i + l.length : Nat) : Int)⟩]
  | [], x, i => rfl
  | y :: r, x, i => by
    show (⟨y, (i : Int)⟩ : En) :: envS (r ++ [x]) (i + 1) = ⟨y, (i : Int)⟩ :: envS r (i + 1) ++ [_]
    rw [envS_snoc r x (i + 1), List.length_cons, show i + 1 + r.length = i + (r.length + 1) by omega]
    rfl
theorem envS_len : ∀ (l : List Sp) (i : Nat), (envS l i).length = l.length
  | [], _ => rfl
  | _ :: r, i => by
    show (envS r (i + 1)).length + 1 = r.length + 1
    rw [envS_len r]
theorem environment_ct {m : View} {h : List Res} (l : List Sp) (a : Option Addr) (k c : Nat) (hr : Rd m h a k c 16 (fl spE l)) (hn : l.length ≤ 1000000) :
    CT Tryz.prog 25 [.slice a k c] h m (fun v _ h' => OwnF enE 104 17 h (envS l 0) v h') := by
  have hl := hr.lenF spE_len (by decide)
  have hmx := hr.mx
  have hle := hr.le
  subst hl
  refine CT.body Tryz.call25 Tryz.func25 rfl Tryz.ntmps25 (leB rfl) rfl ?_
  repeat first | refine sk fun K hK => ?_ | refine bk ?_ | refine rn fun _ => ?_
  refine xC ?_
  refine wn [0] ?_
  repeat first | refine sk fun K hK => ?_ | refine bk ?_ | refine rn fun _ => ?_
  refine WL.addNil 104 17 ?_
  refine xC ?_
  refine wn [0, 3] ?_
  repeat first | refine sk fun K hK => ?_ | refine bk ?_ | refine rn fun _ => ?_
  refine xM ?_
  refine xG (PO.lenSl Tryz.underlying28 Et) ?_
  refine xK ?_
  refine wn [3, 6, 7, 8] ?_
  repeat first | refine sk fun K hK => ?_ | refine bk ?_
  refine WC.loopI [6, 7] rfl (fun μ F' h' => ∃ i : Nat, ∃ ea : Option Addr, ∃ ec : Nat, (i ≤ l.length) ∧ l.length - i = μ ∧ F' = [(3, .slice ea i ec), (8, .int .i64 i)] ∧ .row (.slice ea i ec) 104 17 i (fl enE (envS (l.take i) 0)) :: h = h') (l.length - 0) [(3, .slice none 0 0), (8, .int .i64 0)] (h0 := .row (.slice none 0 0) 104 17 0 (fl enE (envS (l.take 0) 0)) :: h) ?_ Sb ⟨0, none, 0, by omega, rfl, rfl, rfl⟩ ?_
  (repeat (first | exact Sub.nil | refine Sub.cons rfl ?_ | refine Sub.consE rfl (by simp; done) ?_))
  rintro _ _ _ ⟨i, ea, ec, hk, rfl, rfl, rfl⟩
  refine WC.frm rfl ?_
  repeat first | refine sk fun K hK => ?_ | refine bk ?_ | refine rn fun _ => ?_
  refine xG (PO.bin Et Et rfl) ?_
  refine wn [3, 6, 7, 8, 9] ?_
  repeat first | refine sk fun K hK => ?_ | refine bk ?_
  refine wc (fun c9 => ?_) fun c9 => ?_
  replace c9 := of_decide_eq_true c9
  obtain ⟨x, hx⟩ := get_some (l := l) (k := i) (by omega)
  have he : envS (l.take (i + 1)) 0 = envS (l.take i) 0 ++ [⟨x, (i : Int)⟩] := by
    rw [take_at hx, envS_snoc, List.length_take, Nat.min_eq_left (by omega), Nat.zero_add]
  refine WC.skip (kp [3, 6, 7, 8] ?_)
  repeat first | refine sk fun K hK => ?_ | refine bk ?_ | refine rn fun _ => ?_
  refine xM ?_
  refine xG (PO.idx EL28.und EL28.size EL28.posz (Ev.tmp rfl) (Ev.tmp rfl) Rr rfl (by omega)) ?_
  refine xG (PO.loadFA Tryz.underlying54 rfl rfl spE_len Rr (Ev.tmp rfl) (by assumption) rfl rfl (Nat.succ_pos _)) ?_
  refine xW fun b5 => ?_
  refine xA ?_
  refine xS ?_
  refine wn [3, 4, 5, 6, 7, 8] ?_
  repeat first | refine sk fun K hK => ?_ | refine bk ?_ | refine rn fun _ => ?_
  refine xM ?_
  refine xG (pA Tryz.underlying54) ?_
  refine xM ?_
  refine xG (PO.build Tryz.underlying104 rfl rfl rfl (EvP.cons Et (EvP.cons Et EvP.nil)) rfl) ?_
  refine xY EL79 (EvP.cons Et EvP.nil) fun b17 => ?_
  refine xD EL79 (Ev.tmp rfl) (Ev.tmp rfl) rfl (fl_snoc (enc := enE) _ ((⟨x, (i : Int)⟩ : En))) fun a18 c18 => ?_
  rw [← he]
  refine xA ?_
  refine wn [3, 6, 7, 8] ?_
  repeat first | refine sk fun K hK => ?_ | refine bk ?_ | refine rn fun _ => ?_
  refine xG (PO.addI Et Ev.const (by omega)) ?_
  refine xM ?_
  refine WL.nil (loopBackI (l.length - (i + 1)) [(3, .slice a18 (i + 1) c18), (8, .int .i64 (i + 1))] (h'' := .row (.slice a18 (i + 1) c18) 104 17 (i + 1) (fl enE (envS (l.take (i + 1)) 0)) :: h) (by omega) ?_ (by (repeat (first | exact Sub.nil | refine Sub.cons rfl ?_ | refine Sub.consE rfl (by simp; done) ?_))) Sb ⟨i + 1, a18, c18, by omega, rfl, rfl, rfl⟩)
  (repeat (first | exact Sub.nil | refine Sub.cons rfl ?_ | refine Sub.consE rfl (by simp; done) ?_))
  replace c9 := of_decide_eq_false c9
  obtain rfl : i = l.length := by omega
  rw [List.take_length]
  refine WC.exit (kp [3] ?_)
  repeat first | refine sk fun K hK => ?_ | refine bk ?_ | refine rn fun _ => ?_
  refine xM ?_
  refine xA ?_
  refine wn [2] ?_
  refine WC.ret (wR (.row (.slice ea l.length ec) 104 17 l.length (fl enE (envS l 0)) :: h) ?_)
  exact ⟨ea, ec, l.length, (envS_len l 0).symm, rfl, rfl⟩
theorem ScR.permH {m : View} {h h' : List Res} {a : Option Addr} {k c : Nat} {s : List En} (q : ScR m h a k c s) (p : h.Perm h') : ScR m h' a k c s :=
  ⟨q.rd.permH p, fun x hx => (q.nm x hx).permH p, fun x hx => (q.fr x hx).permH p, fun x hx => pr_perm (q.pr x hx) p, q.ar⟩
section
variable {m : View} {h : List Res} {s : List En} {a : Option Addr} {k c : Nat}
theorem inside1_ct (hs : ScR m h a k c s) (b2 b3 : Nat) (r : Rp) (hb2 : Res.pt b2 (.cells [.slice a k c].toArray 79 (0, 0)) ∈ h) (hb3 : Res.pt b3 (.cells (rpE r).toArray 43 (0, 0)) ∈ h) (hx : XOk m h r.base) :
    CT Tryz.prog 135 [.pointer (some ⟨b2, 0, none⟩), .pointer (some ⟨b3, 0, none⟩)] h m (Pure1 h (.int .i64 (isX (shL s) r.base (tyK 1)))) := by
  refine CT.body Tryz.call135 Tryz.func135 rfl Tryz.ntmps135 (leB rfl) rfl ?_
  repeat first | refine sk fun K hK => ?_ | refine bk ?_ | refine rn fun _ => ?_
  refine xC ?_
  refine wn [0, 1] ?_
  repeat first | refine sk fun K hK => ?_ | refine bk ?_
  refine WC.drawS [3] (.op 0 (.op 1 (.op 2 (.op 3 .nil)))) [4, 5] _ [] mixed (fun _ _ _ _ _ h => h) [] (by kernel_rfl) ?_
  refine yG rfl (PO.load1 Tryz.underlying79 rfl Et hb2 rfl) ?_
  refine yG rfl (pF Tryz.underlying43) ?_
  refine yG rfl (PO.loadA Tryz.underlying27 rfl rfl Et hb3 rfl) ?_
  refine yf rfl (E1 Ev.const) (fun fr => tof_ct _ _ _) ?_
  refine SR.nil rfl rfl ?_
  refine xf (E3 Et Et Et) (isR_ct (hs.mono Sb) r.base (tyK 1) (hx.mono Sb)) ?_
  refine xA ?_
  refine wn [2] ?_
  refine WC.ret (wR (h) ?_)
  exact ⟨rfl, rfl⟩
theorem inside2_ct (hs : ScR m h a k c s) (b2 b3 : Nat) (r : Rp) (hb2 : Res.pt b2 (.cells [.slice a k c].toArray 79 (0, 0)) ∈ h) (hb3 : Res.pt b3 (.cells (rpE r).toArray 43 (0, 0)) ∈ h) (hx : XOk m h r.count) :
    CT Tryz.prog 136 [.pointer (some ⟨b2, 0, none⟩), .pointer (some ⟨b3, 0, none⟩)] h m (Pure1 h (.int .i64 (isX (shL s) r.count (tyK 1)))) := by
  refine CT.body Tryz.call136 Tryz.func136 rfl Tryz.ntmps136 (leB rfl) rfl ?_
  repeat first | refine sk fun K hK => ?_ | refine bk ?_ | refine rn fun _ => ?_
  refine xC ?_
  refine wn [0, 1] ?_
  repeat first | refine sk fun K hK => ?_ | refine bk ?_
  refine WC.drawS [3] (.op 0 (.op 1 (.op 2 (.op 3 .nil)))) [4, 5] _ [] mixed (fun _ _ _ _ _ h => h) [] (by kernel_rfl) ?_
  refine yG rfl (PO.load1 Tryz.underlying79 rfl Et hb2 rfl) ?_
  refine yG rfl (pF Tryz.underlying43) ?_
  refine yG rfl (PO.loadA Tryz.underlying27 rfl rfl Et hb3 rfl) ?_
  refine yf rfl (E1 Ev.const) (fun fr => tof_ct _ _ _) ?_
  refine SR.nil rfl rfl ?_
  refine xf (E3 Et Et Et) (isR_ct (hs.mono Sb) r.count (tyK 1) (hx.mono Sb)) ?_
  refine xA ?_
  refine wn [2] ?_
  refine WC.ret (wR (h) ?_)
  exact ⟨rfl, rfl⟩
end
theorem first2_ct {m : View} {h : List Res} (b : Nat) (q1 q2 : FuncId) (u1 u2 : List Value) (e1 e2 : Int) (hb : Res.pt b (.cells [fnV (q1, u1), fnV (q2, u2)].toArray 154 (0, 0)) ∈ h) (c1 : CT Tryz.prog q1 u1 h m (Pure1 h (.int .i64 e1))) (c2 : CT Tryz.prog q2 u2 h m (Pure1 h (.int .i64 e2))) :
    CT Tryz.prog 90 [.slice (some ⟨b, 0, none⟩) 2 2] h m (Pure1 h (.int .i64 (if e1 ≠ 0 then e1 else e2))) := by
  refine (first_ct (some ⟨b, 0, none⟩) 2 [(q1, u1), (q2, u2)] [e1, e2] rfl (Rd.ofPt rfl (leB rfl) hb) (fun i p e hp he => ?_)).val (congrArg (Value.int .i64) ?_)
  · match i, hp, he with
    | 0, hp, he => cases hp; cases he; exact c1
    | 1, hp, he => cases hp; cases he; exact c2
  · show (if e1 ≠ 0 then e1 else if e2 ≠ 0 then e2 else 0) = _
    have e : (if e2 ≠ 0 then e2 else 0) = e2 := by split <;> omega
    rw [e]
theorem first3_ct {m : View} {h : List Res} (b : Nat) (q1 q2 q3 : FuncId) (u1 u2 u3 : List Value) (e1 e2 e3 : Int) (hb : Res.pt b (.cells [fnV (q1, u1), fnV (q2, u2), fnV (q3, u3)].toArray 154 (0, 0)) ∈ h) (c1 : CT Tryz.prog q1 u1 h m (Pure1 h (.int .i64 e1))) (c2 : CT Tryz.prog q2 u2 h m (Pure1 h (.int .i64 e2))) (c3 : CT Tryz.prog q3 u3 h m (Pure1 h (.int .i64 e3))) :
    CT Tryz.prog 90 [.slice (some ⟨b, 0, none⟩) 3 3] h m (Pure1 h (.int .i64 (if e1 ≠ 0 then e1 else if e2 ≠ 0 then e2 else e3))) := by
  refine (first_ct (some ⟨b, 0, none⟩) 3 [(q1, u1), (q2, u2), (q3, u3)] [e1, e2, e3] rfl (Rd.ofPt rfl (leB rfl) hb) (fun i p e hp he => ?_)).val (congrArg (Value.int .i64) ?_)
  · match i, hp, he with
    | 0, hp, he => cases hp; cases he; exact c1
    | 1, hp, he => cases hp; cases he; exact c2
    | 2, hp, he => cases hp; cases he; exact c3
  · show (if e1 ≠ 0 then e1 else if e2 ≠ 0 then e2 else if e3 ≠ 0 then e3 else 0) = _
    have e : (if e3 ≠ 0 then e3 else 0) = e3 := by split <;> omega
    rw [e]
/-- A name that is declared inside, as it lies in memory. -/
def inSp (b : Nat) (k : Int) (ty : Ty) (nm : B) : Sp := .mk k ty ⟨some ⟨b, 0, none⟩, 1, [nm]⟩ zeroE false nilS nilS none 0 []
def inEn (b : Nat) (k : Int) (ty : Ty) (nm : B) (ar : Nat) : En := ⟨inSp b k ty nm, ar⟩
def InS (m : View) (h : List Res) (S : List Ent) (n : Nat) (e : Int) (nh : List Res) (v : Value) : Prop := ∃ (a : Option Addr) (k c : Nat) (s : List En), v = .tuple #[.slice a k c, .int .i64 e] ∧ ScR m (h ++ nh) a k c s ∧ shL s = S ∧ s.length ≤ n
theorem inside_ct {m : View} {h : List Res} {s : List En} {a : Option Addr} {k c : Nat} (hs : ScR m h a k c s) (r : Rp) (hx : r.name ≠ [] → XOk m h r.base ∧ XOk m h r.count) (hn : s.length ≤ 1000000) :
    CT Tryz.prog 82 [.slice a k c, rpV r] h m (fun v _ h' => ∃ nh, h' = h ++ nh ∧ InS m h (repS (shL s) r) (s.length + 1) (repX (shL s) r) nh v) := by
  refine CT.swap ?_
  have hl := hs.rd.lenF enE_len (by decide)
  subst hl
  refine CT.body Tryz.call82 Tryz.func82 rfl Tryz.ntmps82 (leB rfl) rfl ?_
  repeat first | refine sk fun K hK => ?_ | refine bk ?_ | refine rn fun _ => ?_
  refine xX fun b2 => ?_
  refine xX fun b3 => ?_
  refine xC ?_
  refine xC ?_
  refine wn [2, 3] ?_
  repeat first | refine sk fun K hK => ?_ | refine bk ?_ | refine rn fun _ => ?_
  refine xF Tryz.underlying43 ?_
  refine xG (pL Tryz.underlying9) ?_
  refine xG (PO.eqlS Et Ev.const) ?_
  refine wn [2, 3, 9] ?_
  repeat first | refine sk fun K hK => ?_ | refine bk ?_
  refine wc (fun c9 => ?_) fun c9 => ?_
  have hnm : r.name = [] := by simpa using c9
  repeat first | refine sk fun K hK => ?_ | refine bk ?_ | refine rn fun _ => ?_
  refine xG (pL Tryz.underlying79) ?_
  refine xA ?_
  refine xC ?_
  refine wn [4, 5] ?_
  refine WC.ret (end2 (h' := h) (.inl rfl) rfl (RV.tmp rfl) (RV.tmp rfl) (View.le.refl m) Sb ?_)
  exact ⟨[], rfl, a, s.length, c, s, by unfold repX; rw [if_pos hnm], hs.mono (List.sublist_append_left _ _), by unfold repS; rw [if_pos hnm], Nat.le_succ _⟩
  have hnm : r.name ≠ [] := by simpa using c9
  obtain ⟨hx1, hx2⟩ := hx hnm
  refine WC.skip (kp [2, 3] ?_)
  repeat first | refine sk fun K hK => ?_ | refine bk ?_ | refine rn fun _ => ?_
  refine xG (PO.makeFunc Evs.nil (Evs.cons Et (Evs.cons Et Evs.nil))) ?_
  refine xG (PO.makeFunc Evs.nil (Evs.cons Et (Evs.cons Et Evs.nil))) ?_
  refine xY EL189 (EvP.cons Et (EvP.cons Et EvP.nil)) fun b13 => ?_
  refine xf (E1 Et) (first2_ct b13 135 136 [.pointer (some ⟨b2, 0, none⟩), .pointer (some ⟨b3, 0, none⟩)] [.pointer (some ⟨b2, 0, none⟩), .pointer (some ⟨b3, 0, none⟩)] (isX (shL s) r.base (tyK 1)) (isX (shL s) r.count (tyK 1)) Me (inside1_ct (hs.mono Sb) _ _ r Me Me (hx1.mono Sb)) (inside2_ct (hs.mono Sb) _ _ r Me Me (hx2.mono Sb))) ?_
  refine xA ?_
  refine wn [2, 3, 6] ?_
  repeat first | refine sk fun K hK => ?_ | refine bk ?_
  refine WC.drawS [1, 4, 8] (.op 0 (.op 2 (.op 3 (.op 6 (.op 7 (.op 9 (.alt (.op 1 (.op 4 (.op 5 (.op 8 .nil)))) (.op 4 (.op 1 (.op 5 (.op 8 .nil))))))))))) [10, 11] _ [] mixed (fun _ _ _ _ _ h => h) [9] (by kernel_rfl) ?_
  refine yG rfl (pL Tryz.underlying79) ?_
  refine yG rfl (pF Tryz.underlying43) ?_
  refine yG rfl (pL Tryz.underlying9) ?_
  refine yG rfl (pL Tryz.underlying79) ?_
  refine yG rfl (PO.lenSl Tryz.underlying79 Et) ?_
  refine yG rfl (PO.move Et) ?_
  refine SR.alt ?_ ?_
  refine yf rfl (E1 Ev.const) (fun fr => tof_ct _ _ _) ?_
  refine SR.buildSlice rfl rfl EL48 rfl (EvP.cons Et EvP.nil) rfl rfl (by decide) rfl (leB rfl) fun b19 => ?_
  refine yG rfl (PO.build Tryz.underlying54 rfl rfl rfl (EvP.cons Ev.const (EvP.cons Et (EvP.cons Et EvP.nil))) rfl) ?_
  refine SR.callF rfl rfl Ev.func (Evs.cons Et (Evs.cons Et (Evs.cons Et Evs.nil))) (fun fr => open_ct (hs.mono Sb) (inSp b19 2 (tyK 1) r.name) s.length hn) (leB rfl) fun a23 c23 => ?_
  refine SR.nil rfl rfl ?_
  refine WL.knowRow (a := a23) Me fun hk1 hk2 hk3 => ?_
  refine xA ?_
  refine xA ?_
  refine wn [4, 5] ?_
  refine WC.ret (end2 (h' := .row (.slice a23 (s ++ [inEn b19 2 (tyK 1) r.name s.length]).length c23) 104 17 (s ++ [inEn b19 2 (tyK 1) r.name s.length]).length (fl enE (s ++ [inEn b19 2 (tyK 1) r.name s.length])) :: .pt b19 (.cells [str r.name].toArray 9 (0, 0)) :: h) (.inl rfl) rfl (RV.tmp rfl) (RV.tmp rfl) (View.le.refl m) Sb ?_)
  refine ⟨[_, _], rfl, a23, _, c23, s ++ [inEn b19 2 (tyK 1) r.name s.length], by unfold repX; rw [if_neg hnm], ?_, ?_, by simp⟩
  · refine ScR.permH (h := [_, _] ++ h) (ScR.snoc (sp := inSp b19 2 (tyK 1) r.name) (ar := s.length) hs Sb (Rd.ofRow hk3 hk1 hk2 Me) (Rd.ofPt rfl (leB rfl) Me) (Rd.nilF foE 6 _ _) (prNil _ _) (Nat.le_refl _)) List.perm_append_comm
  · unfold repS shL
    rw [if_neg hnm, List.map_append, List.length_map]
    rfl
  refine SR.buildSlice rfl rfl EL48 rfl (EvP.cons Et EvP.nil) rfl rfl (by decide) rfl (leB rfl) fun b19 => ?_
  refine yf rfl (E1 Ev.const) (fun fr => tof_ct _ _ _) ?_
  refine yG rfl (PO.build Tryz.underlying54 rfl rfl rfl (EvP.cons Ev.const (EvP.cons Et (EvP.cons Et EvP.nil))) rfl) ?_
  refine SR.callF rfl rfl Ev.func (Evs.cons Et (Evs.cons Et (Evs.cons Et Evs.nil))) (fun fr => open_ct (hs.mono Sb) (inSp b19 2 (tyK 1) r.name) s.length hn) (leB rfl) fun a23 c23 => ?_
  refine SR.nil rfl rfl ?_
  refine WL.knowRow (a := a23) Me fun hk1 hk2 hk3 => ?_
  refine xA ?_
  refine xA ?_
  refine wn [4, 5] ?_
  refine WC.ret (end2 (h' := .row (.slice a23 (s ++ [inEn b19 2 (tyK 1) r.name s.length]).length c23) 104 17 (s ++ [inEn b19 2 (tyK 1) r.name s.length]).length (fl enE (s ++ [inEn b19 2 (tyK 1) r.name s.length])) :: .pt b19 (.cells [str r.name].toArray 9 (0, 0)) :: h) (.inl rfl) rfl (RV.tmp rfl) (RV.tmp rfl) (View.le.refl m) Sb ?_)
  refine ⟨[_, _], rfl, a23, _, c23, s ++ [inEn b19 2 (tyK 1) r.name s.length], by unfold repX; rw [if_neg hnm], ?_, ?_, by simp⟩
  · refine ScR.permH (h := [_, _] ++ h) (ScR.snoc (sp := inSp b19 2 (tyK 1) r.name) (ar := s.length) hs Sb (Rd.ofRow hk3 hk1 hk2 Me) (Rd.ofPt rfl (leB rfl) Me) (Rd.nilF foE 6 _ _) (prNil _ _) (Nat.le_refl _)) List.perm_append_comm
  · unfold repS shL
    rw [if_neg hnm, List.map_append, List.length_map]
    rfl
end Go.Proofs.YtdhmplmpbcnojaaGreatDoor
end
/- TpL -/
section
namespace Go.Proofs.YtdhmplmpbcnojaaGreatDoor
open Go.Eng Go.Pc Go.Tg Go
open Go.Xp hiding B nameT
open Go.Ty (Ty Vr eqT tyV cellT zeroT PrOk VOk prL encV encV_len encI encI_len)
open Go.Lx (encB encB_len)
set_option maxRecDepth 100000
theorem xok {m : View} {h : List Res} {e : Ex} (q : EOk m h e) (hm : mayE e = true) : XOk m h e := ⟨q.t, q.w, (may_good hm).1⟩
theorem lxk {m : View} {h : List Res} {l : Sli Ex} (q : LOk m h l) (hm : ∀ x ∈ l.l, mayE x = true) : LXk m h l := ⟨q.rd, fun x hx => xok (q.ok x hx) (hm x hx)⟩
theorem rep_x {m : View} {h : List Res} {r : Rp} (hb : EOk m h r.base) (hc : EOk m h r.count) (h1 : repP r = true) : r.name ≠ [] → XOk m h r.base ∧ XOk m h r.count := by
  intro hn
  unfold repP at h1
  rw [if_neg (by simpa using hn)] at h1
  simp only [Bool.and_eq_true] at h1
  exact ⟨xok hb h1.1.2, xok hc h1.2⟩
/-- The contract of process, at one process. -/
def ProcC (m : View) (p : Pr) : Prop := ∀ (h : List Res) (s : List En) (a : Option Addr) (k c : Nat), ScR m h a k c s → POk m h p → s.length + 16 * cntP p ≤ 1000000 → CT Tryz.prog 35 [.slice a k c, prV p] h m (Pure1 h (.int .i64 (chkP p (shL s))))
theorem block_ct {m : View} {h : List Res} {s : List En} {a : Option Addr} {k c : Nat} (hs : ScR m h a k c s) (p : Pr) (hP : POk m h p) (hV : Pl p) (hn : s.length + 16 * cntP p ≤ 1000000) (ih : ∀ x, In x p → ProcC m x) :
    CT Tryz.prog 54 [.slice a k c, prV p] h m (Pure1 h (.int .i64 (if repX (shL s) p.rep ≠ 0 then repX (shL s) p.rep else chkL p.ll (repS (shL s) p.rep)))) := by
  obtain ⟨G, hG⟩ : ∃ G, G = if repX (shL s) p.rep ≠ 0 then repX (shL s) p.rep else chkL p.ll (repS (shL s) p.rep) := ⟨_, rfl⟩
  rw [← hG]
  have hO := hP.own
  have hrl := hO.l
  have lmx := hrl.mx
  have lle := hrl.le
  refine CT.body Tryz.call54 Tryz.func54 rfl Tryz.ntmps54 (leB rfl) rfl ?_
  repeat first | refine sk fun K hK => ?_ | refine bk ?_ | refine rn fun _ => ?_
  refine xX fun b3 => ?_
  refine xC ?_
  refine wn [0, 3] ?_
  repeat first | refine sk fun K hK => ?_ | refine bk ?_ | refine rn fun _ => ?_
  refine xM ?_
  refine xF Tryz.underlying56 ?_
  refine xG (pA Tryz.underlying43) ?_
  refine xg (E2 Et Et) (inside_ct (hs.mono Sb) p.rep (rep_x (hO.rb.mono Sb) (hO.rc.mono Sb) hV.rep) (by omega)) ?_
  rintro _ _ ⟨nh, rfl, ia, ik, ic, is, rfl, his, hiS, hil⟩
  refine xM ?_
  refine xE ?_
  refine xE ?_
  refine xA ?_
  refine xA ?_
  refine wn [3, 5, 6] ?_
  repeat first | refine sk fun K hK => ?_ | refine bk ?_ | refine rn fun _ => ?_
  refine xF Tryz.underlying56 ?_
  refine xG (pL Tryz.underlying45) ?_
  refine xG (PO.lenSl Tryz.underlying45 Et) ?_
  refine xK ?_
  refine wn [5, 6, 17, 18, 19] ?_
  repeat first | refine sk fun K hK => ?_ | refine bk ?_
  refine WC.loopI [5, 17, 18] rfl (fun μ F' h' => ∃ i : Nat, ∃ er : Int, (i ≤ p.ll.length ∧ G = (if er ≠ 0 then er else chkL (p.ll.drop i) (shL is))) ∧ p.ll.length - i = μ ∧ F' = [(6, .int .i64 er), (19, .int .i64 i)] ∧ (.pt b3 (.cells (prE p).toArray 56 (0, 0)) :: h) ++ nh = h') (p.ll.length - 0) [(6, .int .i64 (repX (shL s) p.rep)), (19, .int .i64 0)] (h0 := (.pt b3 (.cells (prE p).toArray 56 (0, 0)) :: h) ++ nh) ?_ Sb ⟨0, repX (shL s) p.rep, ⟨by omega, by rw [hiS]; exact hG⟩, rfl, rfl, rfl⟩ ?_
  (repeat (first | exact Sub.nil | refine Sub.cons rfl ?_ | refine Sub.consE rfl (by simp; done) ?_))
  rintro _ _ _ ⟨i, er, ⟨hk, hJ⟩, rfl, rfl, rfl⟩
  refine WC.frm rfl ?_
  repeat first | refine sk fun K hK => ?_ | refine bk ?_ | refine rn fun _ => ?_
  refine xG (PO.bin Et Et rfl) ?_
  refine wn [5, 6, 17, 18, 19, 20] ?_
  repeat first | refine sk fun K hK => ?_ | refine bk ?_
  refine wc (fun c20 => ?_) fun c20 => ?_
  replace c20 := of_decide_eq_true c20
  obtain ⟨x, hx⟩ := get_some (l := p.ll) (k := i) (by omega)
  have hxm := List.mem_of_getElem? hx
  rw [drop_at hx] at hJ
  have hxi : In x p := In.l hxm
  have hlt := hxi.lt
  refine WC.skip (kp [5, 6, 17, 18, 19] ?_)
  repeat first | refine sk fun K hK => ?_ | refine bk ?_ | refine rn fun _ => ?_
  refine xG (PO.idx EL45.und EL45.size EL45.posz (Ev.tmp rfl) (Ev.tmp rfl) Rr rfl (by omega)) ?_
  refine xG (PO.loadFA Tryz.underlying56 rfl rfl prE_len Rr (Ev.tmp rfl) (by assumption) rfl rfl (Nat.succ_pos _)) ?_
  refine xW fun b8 => ?_
  refine xS ?_
  refine wn [5, 6, 8, 17, 18, 19] ?_
  repeat first | refine sk fun K hK => ?_ | refine bk ?_ | refine rn fun _ => ?_
  refine xM ?_
  refine xG (PO.bin Et Ev.const rfl) ?_
  refine wn [5, 6, 8, 17, 18, 19, 24] ?_
  repeat first | refine sk fun K hK => ?_ | refine bk ?_
  refine wc (fun c24 => ?_) fun c24 => ?_
  replace c24 := t_ne c24
  rw [if_pos c24] at hJ
  repeat first | refine sk fun K hK => ?_ | refine bk ?_ | refine rn fun _ => ?_
  refine xM ?_
  refine xA ?_
  refine wn [4] ?_
  refine WC.ret (wR (h) ?_)
  exact ⟨by rw [hJ], rfl⟩
  replace c24 := f_ne c24
  rw [if_neg (by simpa using c24)] at hJ
  replace hJ : G = if chkP x (shL is) ≠ 0 then chkP x (shL is) else chkL (p.ll.drop (i + 1)) (shL is) := hJ
  refine WC.skip (kp [5, 8, 17, 18, 19] ?_)
  repeat first | refine sk fun K hK => ?_ | refine bk ?_ | refine rn fun _ => ?_
  refine xM ?_
  refine xG (pA Tryz.underlying56) ?_
  refine xf (E2 Et Et) (ih x hxi _ is ia ik ic (his.mono Sb) ((hP.sub hxi).mono Sb) (by omega)) ?_
  refine xA ?_
  refine wn [5, 6, 17, 18, 19] ?_
  repeat first | refine sk fun K hK => ?_ | refine bk ?_ | refine rn fun _ => ?_
  refine xG (PO.addI Et Ev.const (by omega)) ?_
  refine xM ?_
  refine WL.nil (loopBackI (p.ll.length - (i + 1)) [(6, .int .i64 (chkP x (shL is))), (19, .int .i64 (i + 1))] (h'' := (.pt b3 (.cells (prE p).toArray 56 (0, 0)) :: h) ++ nh) (by omega) ?_ (by (repeat (first | exact Sub.nil | refine Sub.cons rfl ?_ | refine Sub.consE rfl (by simp; done) ?_))) Sb ⟨i + 1, chkP x (shL is), ⟨by omega, hJ⟩, rfl, rfl, rfl⟩)
  (repeat (first | exact Sub.nil | refine Sub.cons rfl ?_ | refine Sub.consE rfl (by simp; done) ?_))
  replace c20 := of_decide_eq_false c20
  rw [show p.ll.drop i = [] from List.drop_eq_nil_of_le (by omega)] at hJ
  have hJ : G = er := by rw [hJ]; show (if er ≠ 0 then er else 0) = er; split <;> omega
  refine WC.exit (kp [6] ?_)
  repeat first | refine sk fun K hK => ?_ | refine bk ?_ | refine rn fun _ => ?_
  refine xM ?_
  refine xA ?_
  refine wn [4] ?_
  refine WC.ret (wR (h) ?_)
  exact ⟨by rw [hJ], rfl⟩
section
variable {m : View} {h : List Res} {s : List En} {a : Option Addr} {k c : Nat}
theorem guard1_ct (hs : ScR m h a k c s) (bg b2 : Nat) (g : Gu) (hb2 : Res.pt b2 (.cells [.slice a k c].toArray 79 (0, 0)) ∈ h) (hbg : Res.pt bg (.cells (guE g).toArray 70 (0, 0)) ∈ h) (hx : g.cond.k ≠ 0 → XOk m h g.cond) :
    CT Tryz.prog 138 [.pointer (some ⟨bg, 0, none⟩), .pointer (some ⟨b2, 0, none⟩)] h m (Pure1 h (.int .i64 (if g.cond.k = 0 then 0 else isX (shL s) g.cond (tyK 3)))) := by
  refine CT.body Tryz.call138 Tryz.func138 rfl Tryz.ntmps138 (leB rfl) rfl ?_
  repeat first | refine sk fun K hK => ?_ | refine bk ?_ | refine rn fun _ => ?_
  refine xC ?_
  refine wn [0, 1] ?_
  repeat first | refine sk fun K hK => ?_ | refine bk ?_ | refine rn fun _ => ?_
  refine xF Tryz.underlying70 ?_
  refine xF Tryz.underlying27 ?_
  refine xG (PO.load1 Tryz.underlying22 rfl Et hbg rfl) ?_
  refine xG (PO.bin Et Ev.const rfl) ?_
  refine wn [0, 1, 6] ?_
  repeat first | refine sk fun K hK => ?_ | refine bk ?_
  refine wc (fun c6 => ?_) fun c6 => ?_
  replace c6 := t_eq c6
  repeat first | refine sk fun K hK => ?_ | refine bk ?_ | refine rn fun _ => ?_
  refine xC ?_
  refine wn [2] ?_
  refine WC.ret (wR (h) ?_)
  exact ⟨by rw [if_pos c6], rfl⟩
  replace c6 := f_eq c6
  have hx := hx c6
  refine WC.skip (kp [0, 1] ?_)
  repeat first | refine sk fun K hK => ?_ | refine bk ?_
  refine WC.drawS [3] (.op 0 (.op 1 (.op 2 (.op 3 .nil)))) [4, 5] _ [] mixed (fun _ _ _ _ _ h => h) [] (by kernel_rfl) ?_
  refine yG rfl (PO.load1 Tryz.underlying79 rfl Et hb2 rfl) ?_
  refine yG rfl (pF Tryz.underlying70) ?_
  refine yG rfl (PO.loadA Tryz.underlying27 rfl rfl Et hbg rfl) ?_
  refine yf rfl (E1 Ev.const) (fun fr => tof_ct _ _ _) ?_
  refine SR.nil rfl rfl ?_
  refine xf (E3 Et Et Et) (isR_ct (hs.mono Sb) g.cond (tyK 3) (hx.mono Sb)) ?_
  refine xA ?_
  refine wn [2] ?_
  refine WC.ret (wR (h) ?_)
  exact ⟨by rw [if_neg c6], rfl⟩
theorem guard2_ct (hg : Glob m) (hs : ScR m h a k c s) (bg b2 : Nat) (g : Gu) (hb2 : Res.pt b2 (.cells [.slice a k c].toArray 79 (0, 0)) ∈ h) (hbg : Res.pt bg (.cells (guE g).toArray 70 (0, 0)) ∈ h) (hc : g.k = 3 ∨ g.k = 4 → XOk m h g.ch) (ht : g.k = 4 → XOk m h g.time) (ho : LXk m h g.tg) :
    CT Tryz.prog 139 [.pointer (some ⟨bg, 0, none⟩), .pointer (some ⟨b2, 0, none⟩)] h m (Pure1 h (.int .i64 (if g.k = 3 then recvX (shL s) g.ch g.tg.l else if g.k = 4 then afterX (shL s) g.ch g.time else 0))) := by
  refine CT.body Tryz.call139 Tryz.func139 rfl Tryz.ntmps139 (leB rfl) rfl ?_
  repeat first | refine sk fun K hK => ?_ | refine bk ?_ | refine rn fun _ => ?_
  refine xC ?_
  refine wn [0, 1] ?_
  repeat first | refine sk fun K hK => ?_ | refine bk ?_ | refine rn fun _ => ?_
  refine xF Tryz.underlying70 ?_
  refine xG (PO.load1 Tryz.underlying68 rfl Et hbg rfl) ?_
  refine wn [0, 1, 4] ?_
  repeat first | refine sk fun K hK => ?_ | refine bk ?_ | refine rn fun _ => ?_
  refine xG (PO.bin Et Ev.const rfl) ?_
  refine xA ?_
  refine wn [0, 1, 4, 5] ?_
  repeat first | refine sk fun K hK => ?_ | refine bk ?_
  refine wc (fun c5 => ?_) fun c5 => ?_
  replace c5 := t_eq c5
  have hc := hc (.inl c5)
  repeat first | refine sk fun K hK => ?_ | refine bk ?_ | refine rn fun _ => ?_
  refine xG (PO.load1 Tryz.underlying79 rfl Et hb2 rfl) ?_
  refine xF Tryz.underlying70 ?_
  refine xG (PO.loadA Tryz.underlying27 rfl rfl Et hbg rfl) ?_
  refine xF Tryz.underlying70 ?_
  refine xG (PO.load1 Tryz.underlying25 rfl Et hbg rfl) ?_
  refine xf (E3 Et Et Et) (recv_ct hg hs g.ch hc g.tg ho) ?_
  refine xA ?_
  refine wn [2] ?_
  refine WC.ret (wR (h) ?_)
  exact ⟨by rw [if_pos c5], rfl⟩
  replace c5 := f_eq c5
  repeat first | refine sk fun K hK => ?_ | refine bk ?_ | refine rn fun _ => ?_
  refine xG (PO.bin Et Ev.const rfl) ?_
  refine xA ?_
  refine wn [0, 1, 13] ?_
  repeat first | refine sk fun K hK => ?_ | refine bk ?_
  refine wc (fun c13 => ?_) fun c13 => ?_
  replace c13 := t_eq c13
  have hc := hc (.inr c13)
  have ht := ht c13
  repeat first | refine sk fun K hK => ?_ | refine bk ?_ | refine rn fun _ => ?_
  refine xG (PO.load1 Tryz.underlying79 rfl Et hb2 rfl) ?_
  refine xF Tryz.underlying70 ?_
  refine xG (PO.loadA Tryz.underlying27 rfl rfl Et hbg rfl) ?_
  refine xF Tryz.underlying70 ?_
  refine xG (PO.loadA Tryz.underlying27 rfl rfl Et hbg rfl) ?_
  refine xf (E3 Et Et Et) (after_ct hg hs g.ch g.time hc ht) ?_
  refine xA ?_
  refine wn [2] ?_
  refine WC.ret (wR (h) ?_)
  exact ⟨by rw [if_neg c5, if_pos c13], rfl⟩
  replace c13 := f_eq c13
  refine WC.skip (kp [] ?_)
  repeat first | refine sk fun K hK => ?_ | refine bk ?_ | refine rn fun _ => ?_
  refine xC ?_
  refine wn [2] ?_
  refine WC.ret (wR (h) ?_)
  exact ⟨by rw [if_neg c5, if_neg c13], rfl⟩
theorem guard3_ct (hs : ScR m h a k c s) (bg b2 : Nat) (g : Gu) (hb2 : Res.pt b2 (.cells [.slice a k c].toArray 79 (0, 0)) ∈ h) (hbg : Res.pt bg (.cells (guE g).toArray 70 (0, 0)) ∈ h) (x : Pr) (hx : g.bl[0]? = some x) (hr : Rd m h g.ba g.bl.length g.bc 42 (fl prE g.bl)) (ih : ProcC m x) (hP : POk m h x) (hn : s.length + 16 * cntP x ≤ 1000000) :
    CT Tryz.prog 140 [.pointer (some ⟨b2, 0, none⟩), .pointer (some ⟨bg, 0, none⟩)] h m (Pure1 h (.int .i64 (chkP x (shL s)))) := by
  have hlt : 0 < g.bl.length := (List.getElem?_eq_some_iff.1 hx).1
  refine CT.body Tryz.call140 Tryz.func140 rfl Tryz.ntmps140 (leB rfl) rfl ?_
  repeat first | refine sk fun K hK => ?_ | refine bk ?_ | refine rn fun _ => ?_
  refine xC ?_
  refine wn [0, 1] ?_
  repeat first | refine sk fun K hK => ?_ | refine bk ?_
  refine WC.drawS [] (.op 0 (.op 1 (.op 2 (.op 3 (.op 4 .nil))))) [5, 6] _ [] mixed (fun _ _ _ _ _ h => h) [] (by kernel_rfl) ?_
  refine yG rfl (PO.load1 Tryz.underlying79 rfl Et hb2 rfl) ?_
  refine yG rfl (pF Tryz.underlying70) ?_
  refine yG rfl (PO.load1 Tryz.underlying45 rfl Et hbg rfl) ?_
  refine yG rfl (PO.idx EL45.und EL45.size EL45.posz (Ev.tmp rfl) Ev.const Rr rfl (q := 0) (by omega)) ?_
  refine yG rfl (PO.loadFA Tryz.underlying56 rfl rfl prE_len Rr (Ev.tmp rfl) (by assumption) rfl rfl (Nat.succ_pos _)) ?_
  refine SR.nil rfl rfl ?_
  refine xf (E2 Et Et) (ih _ s a k c (hs.mono Sb) (hP.mono Sb) hn) ?_
  refine xA ?_
  refine wn [2] ?_
  refine WC.ret (wR (h) ?_)
  exact ⟨rfl, rfl⟩
end
theorem chkH_at {l : List Pr} {x : Pr} (h : l[0]? = some x) (S : List Ent) : chkH l S = chkP x S := by
  cases l with
  | nil => cases h
  | cons y r => cases h; rfl
theorem guard_ct {m : View} {h : List Res} {s : List En} {a : Option Addr} {k c : Nat} (hg : Glob m) (hs : ScR m h a k c s) (g : Gu) (hO : GOk m h g) (hV : GuV g) (hk : 1 ≤ g.k ∧ g.k ≤ 4) (hP : ∀ x ∈ g.bl, POk m h x) (ih : ∀ x ∈ g.bl, ProcC m x) (hn : ∀ x ∈ g.bl, s.length + 16 * cntP x ≤ 1000000) :
    CT Tryz.prog 93 [.slice a k c, guV g] h m (Pure1 h (.int .i64 (chkG1 g (shL s)))) := by
  obtain ⟨x, hx⟩ := get_some (l := g.bl) (k := 0) (by have := hV.body; omega)
  have hxm := List.mem_of_getElem? hx
  have hR : chkG1 g (shL s) = if (if g.cond.k = 0 then 0 else isX (shL s) g.cond (tyK 3)) ≠ 0 then (if g.cond.k = 0 then 0 else isX (shL s) g.cond (tyK 3)) else if (if g.k = 3 then recvX (shL s) g.ch g.tg.l else if g.k = 4 then afterX (shL s) g.ch g.time else 0) ≠ 0 then (if g.k = 3 then recvX (shL s) g.ch g.tg.l else if g.k = 4 then afterX (shL s) g.ch g.time else 0) else chkP x (shL s) := by
    rw [← chkH_at hx]
    cases g
    rfl
  have hcx : g.cond.k ≠ 0 → XOk m h g.cond := fun h0 => by
    rcases hV.cond hk.1 hk.2 with h1 | h1
    · exact xok hO.cond h1
    · exact absurd (none_kind h1) h0
  have htg : LXk m h g.tg := lxk hO.tg fun x hx => elem_may (hV.tg x hx)
  refine CT.body Tryz.call93 Tryz.func93 rfl Tryz.ntmps93 (leB rfl) rfl ?_
  repeat first | refine sk fun K hK => ?_ | refine bk ?_ | refine rn fun _ => ?_
  refine xX fun b2 => ?_
  refine xX fun b3 => ?_
  refine xC ?_
  refine wn [2, 3] ?_
  repeat first | refine sk fun K hK => ?_ | refine bk ?_ | refine rn fun _ => ?_
  refine xG (PO.makeFunc Evs.nil (Evs.cons Et (Evs.cons Et Evs.nil))) ?_
  refine xG (PO.makeFunc Evs.nil (Evs.cons Et (Evs.cons Et Evs.nil))) ?_
  refine xG (PO.makeFunc Evs.nil (Evs.cons Et (Evs.cons Et Evs.nil))) ?_
  refine xY EL189 (EvP.cons Et (EvP.cons Et (EvP.cons Et EvP.nil))) fun b8 => ?_
  refine xf (E1 Et) (first3_ct b8 138 139 140 [.pointer (some ⟨b3, 0, none⟩), .pointer (some ⟨b2, 0, none⟩)] [.pointer (some ⟨b3, 0, none⟩), .pointer (some ⟨b2, 0, none⟩)] [.pointer (some ⟨b2, 0, none⟩), .pointer (some ⟨b3, 0, none⟩)] _ _ _ Me (guard1_ct (hs.mono Sb) _ _ g Me Me (fun h0 => (hcx h0).mono Sb)) (guard2_ct hg (hs.mono Sb) _ _ g Me Me (fun h0 => (xok hO.ch (elem_may (hV.ch h0))).mono Sb) (fun h0 => (xok hO.time (hV.time h0)).mono Sb) (htg.mono Sb)) (guard3_ct (hs.mono Sb) _ _ g Me Me x hx (hO.b.mono (View.le.refl _) Sb) (ih x hxm) ((hP x hxm).mono Sb) (hn x hxm))) ?_
  refine xA ?_
  refine wn [4] ?_
  refine WC.ret (wR (h) ?_)
  exact ⟨by rw [hR], rfl⟩
theorem choice_ct {m : View} {h : List Res} {s : List En} {a : Option Addr} {k c : Nat} (hg : Glob m) (hs : ScR m h a k c s) (p : Pr) (hP : POk m h p) (hV : Pl p) (hkk : 1 ≤ (fieldsP p.k).1.lo ∧ (fieldsP p.k).1.hi ≤ 4) (hn : s.length + 16 * cntP p ≤ 1000000) (ih : ∀ x, In x p → ProcC m x) :
    CT Tryz.prog 60 [.slice a k c, prV p] h m (Pure1 h (.int .i64 (if repX (shL s) p.rep ≠ 0 then repX (shL s) p.rep else chkG p.gl (repS (shL s) p.rep)))) := by
  obtain ⟨G, hG⟩ : ∃ G, G = if repX (shL s) p.rep ≠ 0 then repX (shL s) p.rep else chkG p.gl (repS (shL s) p.rep) := ⟨_, rfl⟩
  rw [← hG]
  have hO := hP.own
  have hrl := hO.g
  have lmx := hrl.mx
  have lle := hrl.le
  refine CT.body Tryz.call60 Tryz.func60 rfl Tryz.ntmps60 (leB rfl) rfl ?_
  repeat first | refine sk fun K hK => ?_ | refine bk ?_ | refine rn fun _ => ?_
  refine xX fun b3 => ?_
  refine xC ?_
  refine wn [0, 3] ?_
  repeat first | refine sk fun K hK => ?_ | refine bk ?_ | refine rn fun _ => ?_
  refine xM ?_
  refine xF Tryz.underlying56 ?_
  refine xG (pA Tryz.underlying43) ?_
  refine xg (E2 Et Et) (inside_ct (hs.mono Sb) p.rep (rep_x (hO.rb.mono Sb) (hO.rc.mono Sb) hV.rep) (by omega)) ?_
  rintro _ _ ⟨nh, rfl, ia, ik, ic, is, rfl, his, hiS, hil⟩
  refine xM ?_
  refine xE ?_
  refine xE ?_
  refine xA ?_
  refine xA ?_
  refine wn [3, 5, 6] ?_
  repeat first | refine sk fun K hK => ?_ | refine bk ?_ | refine rn fun _ => ?_
  refine xF Tryz.underlying56 ?_
  refine xG (pL Tryz.underlying44) ?_
  refine xG (PO.lenSl Tryz.underlying44 Et) ?_
  refine xK ?_
  refine wn [5, 6, 17, 18, 19] ?_
  repeat first | refine sk fun K hK => ?_ | refine bk ?_
  refine WC.loopI [5, 17, 18] rfl (fun μ F' h' => ∃ i : Nat, ∃ er : Int, (i ≤ p.gl.length ∧ G = (if er ≠ 0 then er else chkG (p.gl.drop i) (shL is))) ∧ p.gl.length - i = μ ∧ F' = [(6, .int .i64 er), (19, .int .i64 i)] ∧ (.pt b3 (.cells (prE p).toArray 56 (0, 0)) :: h) ++ nh = h') (p.gl.length - 0) [(6, .int .i64 (repX (shL s) p.rep)), (19, .int .i64 0)] (h0 := (.pt b3 (.cells (prE p).toArray 56 (0, 0)) :: h) ++ nh) ?_ Sb ⟨0, repX (shL s) p.rep, ⟨by omega, by rw [hiS]; exact hG⟩, rfl, rfl, rfl⟩ ?_
  (repeat (first | exact Sub.nil | refine Sub.cons rfl ?_ | refine Sub.consE rfl (by simp; done) ?_))
  rintro _ _ _ ⟨i, er, ⟨hk, hJ⟩, rfl, rfl, rfl⟩
  refine WC.frm rfl ?_
  repeat first | refine sk fun K hK => ?_ | refine bk ?_ | refine rn fun _ => ?_
  refine xG (PO.bin Et Et rfl) ?_
  refine wn [5, 6, 17, 18, 19, 20] ?_
  repeat first | refine sk fun K hK => ?_ | refine bk ?_
  refine wc (fun c20 => ?_) fun c20 => ?_
  replace c20 := of_decide_eq_true c20
  obtain ⟨x, hx⟩ := get_some (l := p.gl) (k := i) (by omega)
  have hxm := List.mem_of_getElem? hx
  rw [drop_at hx] at hJ
  obtain ⟨hgp, hgl, hgh⟩ := hV.gs x hxm
  have hgv := gu_spec hgp
  refine WC.skip (kp [5, 6, 17, 18, 19] ?_)
  repeat first | refine sk fun K hK => ?_ | refine bk ?_ | refine rn fun _ => ?_
  refine xG (PO.idx EL44.und EL44.size EL44.posz (Ev.tmp rfl) (Ev.tmp rfl) Rr rfl (by omega)) ?_
  refine xG (PO.loadFA Tryz.underlying70 rfl rfl guE_len Rr (Ev.tmp rfl) (by assumption) rfl rfl (Nat.succ_pos _)) ?_
  refine xW fun b8 => ?_
  refine xS ?_
  refine wn [5, 6, 8, 17, 18, 19] ?_
  repeat first | refine sk fun K hK => ?_ | refine bk ?_ | refine rn fun _ => ?_
  refine xM ?_
  refine xG (PO.bin Et Ev.const rfl) ?_
  refine wn [5, 6, 8, 17, 18, 19, 24] ?_
  repeat first | refine sk fun K hK => ?_ | refine bk ?_
  refine wc (fun c24 => ?_) fun c24 => ?_
  replace c24 := t_ne c24
  rw [if_pos c24] at hJ
  repeat first | refine sk fun K hK => ?_ | refine bk ?_ | refine rn fun _ => ?_
  refine xM ?_
  refine xA ?_
  refine wn [4] ?_
  refine WC.ret (wR (h) ?_)
  exact ⟨by rw [hJ], rfl⟩
  replace c24 := f_ne c24
  rw [if_neg (by simpa using c24)] at hJ
  replace hJ : G = if chkG1 x (shL is) ≠ 0 then chkG1 x (shL is) else chkG (p.gl.drop (i + 1)) (shL is) := hJ
  refine WC.skip (kp [5, 8, 17, 18, 19] ?_)
  repeat first | refine sk fun K hK => ?_ | refine bk ?_ | refine rn fun _ => ?_
  refine xM ?_
  refine xG (pA Tryz.underlying70) ?_
  refine xf (E2 Et Et) (guard_ct hg (his.mono Sb) x ((hO.gs x hxm).mono Sb) hgv ⟨by omega, by omega⟩ (fun y hy => (hP.sub (In.g hxm hy)).mono Sb) (fun y hy => ih y (In.g hxm hy)) (fun y hy => by have := (In.g hxm hy).lt; omega)) ?_
  refine xA ?_
  refine wn [5, 6, 17, 18, 19] ?_
  repeat first | refine sk fun K hK => ?_ | refine bk ?_ | refine rn fun _ => ?_
  refine xG (PO.addI Et Ev.const (by omega)) ?_
  refine xM ?_
  refine WL.nil (loopBackI (p.gl.length - (i + 1)) [(6, .int .i64 (chkG1 x (shL is))), (19, .int .i64 (i + 1))] (h'' := (.pt b3 (.cells (prE p).toArray 56 (0, 0)) :: h) ++ nh) (by omega) ?_ (by (repeat (first | exact Sub.nil | refine Sub.cons rfl ?_ | refine Sub.consE rfl (by simp; done) ?_))) Sb ⟨i + 1, chkG1 x (shL is), ⟨by omega, hJ⟩, rfl, rfl, rfl⟩)
  (repeat (first | exact Sub.nil | refine Sub.cons rfl ?_ | refine Sub.consE rfl (by simp; done) ?_))
  replace c20 := of_decide_eq_false c20
  rw [show p.gl.drop i = [] from List.drop_eq_nil_of_le (by omega)] at hJ
  have hJ : G = er := by rw [hJ]; show (if er ≠ 0 then er else 0) = er; split <;> omega
  refine WC.exit (kp [6] ?_)
  repeat first | refine sk fun K hK => ?_ | refine bk ?_ | refine rn fun _ => ?_
  refine xM ?_
  refine xA ?_
  refine wn [4] ?_
  refine WC.ret (wR (h) ?_)
  exact ⟨by rw [hJ], rfl⟩
end Go.Proofs.YtdhmplmpbcnojaaGreatDoor
end
/- TpN -/
section
namespace Go.Proofs.YtdhmplmpbcnojaaGreatDoor
open Go.Eng Go.Pc Go.Tg Go
open Go.Xp hiding B nameT
open Go.Ty (Ty Vr eqT tyV cellT zeroT PrOk VOk prL encV encV_len encI encI_len)
open Go.Lx (encB encB_len)
set_option maxRecDepth 100000
section
variable {m : View} {h : List Res} {s : List En} {a : Option Addr} {k c : Nat}
theorem loop1_ct (hs : ScR m h a k c s) (b2 b3 : Nat) (p : Pr) (hb2 : Res.pt b2 (.cells [.slice a k c].toArray 79 (0, 0)) ∈ h) (hb3 : Res.pt b3 (.cells (prE p).toArray 56 (0, 0)) ∈ h) (x : Ex) (hx : p.ex.l[0]? = some x) (ho : LXk m h p.ex) :
    CT Tryz.prog 94 [.pointer (some ⟨b2, 0, none⟩), .pointer (some ⟨b3, 0, none⟩)] h m (Pure1 h (.int .i64 (isX (shL s) x (tyK 3)))) := by
  have hlt : 0 < p.ex.l.length := (List.getElem?_eq_some_iff.1 hx).1
  have hr := ho.rd
  refine CT.body Tryz.call94 Tryz.func94 rfl Tryz.ntmps94 (leB rfl) rfl ?_
  repeat first | refine sk fun K hK => ?_ | refine bk ?_ | refine rn fun _ => ?_
  refine xC ?_
  refine wn [0, 1] ?_
  repeat first | refine sk fun K hK => ?_ | refine bk ?_
  refine WC.drawS [5] (.op 0 (.op 1 (.op 2 (.op 3 (.op 4 (.op 5 .nil)))))) [6, 7] _ [] mixed (fun _ _ _ _ _ h => h) [] (by kernel_rfl) ?_
  refine yG rfl (PO.load1 Tryz.underlying79 rfl Et hb2 rfl) ?_
  refine yG rfl (pF Tryz.underlying56) ?_
  refine yG rfl (PO.load1 Tryz.underlying25 rfl Et hb3 rfl) ?_
  refine yG rfl (PO.idx EL25.und EL25.size EL25.posz (Ev.tmp rfl) Ev.const Rr rfl (q := 0) (by omega)) ?_
  refine yG rfl (PO.loadFA Tryz.underlying27 rfl rfl exE_len Rr (Ev.tmp rfl) (by assumption) rfl rfl (Nat.succ_pos _)) ?_
  refine yf rfl (E1 Ev.const) (fun fr => tof_ct _ _ _) ?_
  refine SR.nil rfl rfl ?_
  refine xf (E3 Et Et Et) (isR_ct (hs.mono Sb) x (tyK 3) ((ho.ok x (List.mem_of_getElem? hx)).mono Sb)) ?_
  refine xA ?_
  refine wn [2] ?_
  refine WC.ret (wR (h) ?_)
  exact ⟨rfl, rfl⟩
theorem loop2_ct (hs : ScR m h a k c s) (b2 b3 : Nat) (p : Pr) (hb2 : Res.pt b2 (.cells [.slice a k c].toArray 79 (0, 0)) ∈ h) (hb3 : Res.pt b3 (.cells (prE p).toArray 56 (0, 0)) ∈ h) (x : Pr) (hx : p.ll[0]? = some x) (hr : Rd m h p.la p.ll.length p.lc 42 (fl prE p.ll)) (ih : ProcC m x) (hP : POk m h x) (hn : s.length + 16 * cntP x ≤ 1000000) :
    CT Tryz.prog 95 [.pointer (some ⟨b2, 0, none⟩), .pointer (some ⟨b3, 0, none⟩)] h m (Pure1 h (.int .i64 (chkP x (shL s)))) := by
  have hlt : 0 < p.ll.length := (List.getElem?_eq_some_iff.1 hx).1
  refine CT.body Tryz.call95 Tryz.func95 rfl Tryz.ntmps95 (leB rfl) rfl ?_
  repeat first | refine sk fun K hK => ?_ | refine bk ?_ | refine rn fun _ => ?_
  refine xC ?_
  refine wn [0, 1] ?_
  repeat first | refine sk fun K hK => ?_ | refine bk ?_
  refine WC.drawS [] (.op 0 (.op 1 (.op 2 (.op 3 (.op 4 .nil))))) [5, 6] _ [] mixed (fun _ _ _ _ _ h => h) [] (by kernel_rfl) ?_
  refine yG rfl (PO.load1 Tryz.underlying79 rfl Et hb2 rfl) ?_
  refine yG rfl (pF Tryz.underlying56) ?_
  refine yG rfl (PO.load1 Tryz.underlying45 rfl Et hb3 rfl) ?_
  refine yG rfl (PO.idx EL45.und EL45.size EL45.posz (Ev.tmp rfl) Ev.const Rr rfl (q := 0) (by omega)) ?_
  refine yG rfl (PO.loadFA Tryz.underlying56 rfl rfl prE_len Rr (Ev.tmp rfl) (by assumption) rfl rfl (Nat.succ_pos _)) ?_
  refine SR.nil rfl rfl ?_
  refine xf (E2 Et Et) (ih _ s a k c (hs.mono Sb) (hP.mono Sb) hn) ?_
  refine xA ?_
  refine wn [2] ?_
  refine WC.ret (wR (h) ?_)
  exact ⟨rfl, rfl⟩
theorem loop_ct (hs : ScR m h a k c s) (p : Pr) (hP : POk m h p) (hV : Pl p) (h1 : 0 < p.ex.l.length) (h2 : 0 < p.ll.length) (hn : s.length + 16 * cntP p ≤ 1000000) (ih : ∀ x, In x p → ProcC m x) :
    CT Tryz.prog 62 [.slice a k c, prV p] h m (Pure1 h (.int .i64 (if isX (shL s) (hdX p.ex.l) (tyK 3) ≠ 0 then isX (shL s) (hdX p.ex.l) (tyK 3) else chkH p.ll (shL s)))) := by
  obtain ⟨e, he⟩ := get_some h1
  obtain ⟨x, hx⟩ := get_some h2
  have hxi : In x p := In.l (List.mem_of_getElem? hx)
  have hlt := hxi.lt
  have he0 : hdX p.ex.l = e := by
    unfold hdX
    cases hq : p.ex.l with
    | nil => rw [hq] at he; cases he
    | cons y r => rw [hq] at he; cases he; rfl
  rw [he0, chkH_at hx]
  have hex := lxk hP.own.ex hV.ex
  refine CT.body Tryz.call62 Tryz.func62 rfl Tryz.ntmps62 (leB rfl) rfl ?_
  repeat first | refine sk fun K hK => ?_ | refine bk ?_ | refine rn fun _ => ?_
  refine xX fun b2 => ?_
  refine xX fun b3 => ?_
  refine xC ?_
  refine wn [2, 3] ?_
  repeat first | refine sk fun K hK => ?_ | refine bk ?_ | refine rn fun _ => ?_
  refine xG (PO.makeFunc Evs.nil (Evs.cons Et (Evs.cons Et Evs.nil))) ?_
  refine xG (PO.makeFunc Evs.nil (Evs.cons Et (Evs.cons Et Evs.nil))) ?_
  refine xY EL189 (EvP.cons Et (EvP.cons Et EvP.nil)) fun b7 => ?_
  refine xf (E1 Et) (first2_ct b7 94 95 [.pointer (some ⟨b2, 0, none⟩), .pointer (some ⟨b3, 0, none⟩)] [.pointer (some ⟨b2, 0, none⟩), .pointer (some ⟨b3, 0, none⟩)] _ _ Me (loop1_ct (hs.mono Sb) _ _ p Me Me e he (hex.mono Sb)) (loop2_ct (hs.mono Sb) _ _ p Me Me x hx (hP.own.l.mono (View.le.refl _) Sb) (ih x hxi) ((hP.sub hxi).mono Sb) (by omega))) ?_
  refine xA ?_
  refine wn [4] ?_
  refine WC.ret (wR (h) ?_)
  exact ⟨rfl, rfl⟩
end
set_option maxHeartbeats 2000000 in
theorem selection_ct {m : View} {h : List Res} {s : List En} {a : Option Addr} {k c : Nat} (hs : ScR m h a k c s) (p : Pr) (hP : POk m h p) (hV : Pl p) (h1 : 0 < p.ex.l.length) (hn : s.length + 16 * cntP p ≤ 1000000) (ih : ∀ x, In x p → ProcC m x) :
    CT Tryz.prog 61 [.slice a k c, prV p] h m (Pure1 h (.int .i64 (match typX (shL s) (hdX p.ex.l) with | .error w => w | .ok h => if eqT h.t (tyK 1) = false ∧ eqT h.t (tyK 2) = false then 130 else chkC p.gl (shL s) h.t 0))) := by
  obtain ⟨e, he⟩ := get_some h1
  have hem := List.mem_of_getElem? he
  have he0 : hdX p.ex.l = e := by
    unfold hdX
    cases hq : p.ex.l with
    | nil => rw [hq] at he; cases he
    | cons y r => rw [hq] at he; cases he; rfl
  rw [he0]
  obtain ⟨G, hG⟩ : ∃ G, G = match typX (shL s) e with | .error w => w | .ok h => if eqT h.t (tyK 1) = false ∧ eqT h.t (tyK 2) = false then 130 else chkC p.gl (shL s) h.t 0 := ⟨_, rfl⟩
  rw [← hG]
  have hO := hP.own
  have hex := lxk hO.ex hV.ex
  have her := hex.rd
  have hgr := hO.g
  have gmx := hgr.mx
  have gle := hgr.le
  refine CT.body Tryz.call61 Tryz.func61 rfl Tryz.ntmps61 (leB rfl) rfl ?_
  repeat first | refine sk fun K hK => ?_ | refine bk ?_ | refine rn fun _ => ?_
  refine xX fun b3 => ?_
  refine xC ?_
  refine wn [0, 3] ?_
  repeat first | refine sk fun K hK => ?_ | refine bk ?_ | refine rn fun _ => ?_
  refine xM ?_
  refine xF Tryz.underlying56 ?_
  refine xG (pL Tryz.underlying25) ?_
  refine xG (PO.idx EL25.und EL25.size EL25.posz (Ev.tmp rfl) Ev.const Rr rfl (q := 0) (by omega)) ?_
  refine xG (PO.loadFA Tryz.underlying27 rfl rfl exE_len Rr (Ev.tmp rfl) (by assumption) rfl rfl (Nat.succ_pos _)) ?_
  refine xg (E2 Et Et) (typeOfR_ct (hs.mono Sb) e ((hex.ok e hem).mono Sb)) ?_
  rintro _ _ ⟨hd, rfl, hhd, rfl⟩
  refine xM ?_
  refine xE ?_
  refine xE ?_
  refine xW fun b5 => ?_
  refine xS ?_
  refine xA ?_
  refine wn [0, 3, 5, 6] ?_
  repeat first | refine sk fun K hK => ?_ | refine bk ?_ | refine rn fun _ => ?_
  refine xM ?_
  refine xG (PO.bin Et Ev.const rfl) ?_
  refine xA ?_
  refine wn [0, 3, 5, 6, 23] ?_
  repeat first | refine sk fun K hK => ?_ | refine bk ?_
  refine wc (fun c23 => ?_) fun c23 => ?_
  replace c23 := t_ne c23
  obtain ⟨w, hw⟩ := err_of c23
  rw [hw] at hG
  repeat first | refine sk fun K hK => ?_ | refine bk ?_ | refine rn fun _ => ?_
  refine xM ?_
  refine xA ?_
  refine wn [4] ?_
  refine WC.ret (wR (h) ?_)
  exact ⟨by rw [hG, hw]; rfl, rfl⟩
  replace c23 := f_ne c23
  have hE := okE (typX_err s e) c23 hhd
  rw [hE] at hG
  dsimp only at hG
  repeat first | refine sk fun K hK => ?_ | refine bk ?_
  refine WC.drawS [2, 7] (.op 0 (.op 1 (.op 2 (.op 3 (.op 4 (.op 5 (.op 6 (.op 7 .nil)))))))) [8, 9, 10] _ [] mixed (fun _ _ _ _ _ h => h) [] (by kernel_rfl) ?_
  refine yG rfl (pF Tryz.underlying76) ?_
  refine yG rfl (pA Tryz.underlying30) ?_
  refine yf rfl (E1 Ev.const) (fun fr => tof_ct _ _ _) ?_
  refine yG rfl (PO.neqA Tryz.underlying30 (by kernel_rfl) (by kernel_rfl) Et Et rfl) ?_
  refine yG rfl (PO.move Et) ?_
  refine SR.poG rfl rfl (GU.t rfl rfl) (fun hc => PO.fieldAddr Tryz.underlying76 rfl (Nat.ne_of_beq_eq_false rfl) Et) (leB rfl) ?_
  refine SR.poG rfl rfl (GU.t rfl rfl) (fun hc => PO.loadA Tryz.underlying30 rfl rfl (Eg hc) Me rfl) (leB rfl) ?_
  refine SR.callG rfl rfl (GU.t rfl rfl) (fun hc => ⟨Ev.func, (Evs.cons Ev.const Evs.nil), fun fr => tof_ct _ _ _⟩) (leB rfl) ?_
  refine SR.nil rfl rfl ?_
  refine WL.poG (GU.t rfl rfl) (fun hc => PO.neqA Tryz.underlying30 (by kernel_rfl) (by kernel_rfl) (Eg hc) (Eg hc) rfl) (leB rfl) ?_
  refine xP ?_
  refine xA ?_
  refine wn [0, 3, 5, 27] ?_
  try clear hG ops
  repeat first | refine sk fun K hK => ?_ | refine bk ?_
  refine wc (fun c27 => ?_) fun c27 => ?_
  have d27 : ((!(eqT hd.t (tyK 1))) && !(eqT hd.t (tyK 2))) = true := c27
  rw [if_pos (by simpa using d27)] at hG
  repeat first | refine sk fun K hK => ?_ | refine bk ?_ | refine rn fun _ => ?_
  refine xC ?_
  refine wn [4] ?_
  refine WC.ret (wR (h) ?_)
  exact ⟨by rw [hG], rfl⟩
  have d27 : ((!(eqT hd.t (tyK 1))) && !(eqT hd.t (tyK 2))) = false := c27
  rw [if_neg (fun q => by rw [q.1, q.2] at d27; cases d27)] at hG
  refine WC.skip (kp [0, 3, 5] ?_)
  repeat first | refine sk fun K hK => ?_ | refine bk ?_ | refine rn fun _ => ?_
  refine xC ?_
  refine wn [0, 3, 5, 7] ?_
  repeat first | refine sk fun K hK => ?_ | refine bk ?_ | refine rn fun _ => ?_
  refine xF Tryz.underlying56 ?_
  refine xG (pL Tryz.underlying44) ?_
  refine xG (PO.lenSl Tryz.underlying44 Et) ?_
  refine xK ?_
  refine wn [0, 5, 7, 39, 40, 41] ?_
  repeat first | refine sk fun K hK => ?_ | refine bk ?_
  refine WC.loopI [0, 5, 39, 40] rfl (fun μ F' h' => ∃ i : Nat, ∃ ot : Int, ((i ≤ p.gl.length ∧ 0 ≤ ot ∧ ot ≤ i) ∧ G = chkC (p.gl.drop i) (shL s) hd.t ot) ∧ p.gl.length - i = μ ∧ F' = [(7, .int .i64 ot), (41, .int .i64 i)] ∧ .pt b5 (.cells (hdE hd).toArray 76 (0, 0)) :: .pt b3 (.cells (prE p).toArray 56 (0, 0)) :: h = h') (p.gl.length - 0) [(7, .int .i64 0), (41, .int .i64 0)] (h0 := .pt b5 (.cells (hdE hd).toArray 76 (0, 0)) :: .pt b3 (.cells (prE p).toArray 56 (0, 0)) :: h) ?_ Sb ⟨0, 0, ⟨⟨by omega, by omega, by omega⟩, hG⟩, rfl, rfl, rfl⟩ ?_
  (repeat (first | exact Sub.nil | refine Sub.cons rfl ?_ | refine Sub.consE rfl (by simp; done) ?_))
  rintro _ _ _ ⟨i, ot, ⟨⟨hk, ho1, ho2⟩, hJ⟩, rfl, rfl, rfl⟩
  refine WC.frm rfl ?_
  repeat first | refine sk fun K hK => ?_ | refine bk ?_ | refine rn fun _ => ?_
  refine xG (PO.bin Et Et rfl) ?_
  refine wn [0, 5, 7, 39, 40, 41, 42] ?_
  repeat first | refine sk fun K hK => ?_ | refine bk ?_
  refine wc (fun c42 => ?_) fun c42 => ?_
  replace c42 := of_decide_eq_true c42
  obtain ⟨g, hx⟩ := get_some (l := p.gl) (k := i) (by omega)
  have hgm := List.mem_of_getElem? hx
  rw [drop_at hx] at hJ
  obtain ⟨hgp, _, _⟩ := hV.gs g hgm
  have hgv := gu_spec hgp
  have hgo := hO.gs g hgm
  obtain ⟨y, hy⟩ := get_some (l := g.bl) (k := 0) (by have := hgv.body; omega)
  have hyi : In y p := In.g hgm (List.mem_of_getElem? hy)
  have hlt := hyi.lt
  have hvl := lxk hgo.vl hgv.vl
  have hvr := hvl.rd
  have vmx := hvr.mx
  have vle := hvr.le
  have hbr := hgo.b
  have hy1 : 0 < g.bl.length := (List.getElem?_eq_some_iff.1 hy).1
  have hC1 : chkC1 g (shL s) hd.t = if selX (shL s) g.vl.l hd.t ≠ 0 then selX (shL s) g.vl.l hd.t else chkP y (shL s) := by
    rw [← chkH_at hy]
    cases g
    rfl
  replace hJ : G = if g.k = 6 ∧ ot ≥ 1 then 130 else if chkC1 g (shL s) hd.t ≠ 0 then chkC1 g (shL s) hd.t else chkC (p.gl.drop (i + 1)) (shL s) hd.t (if g.k = 6 then ot + 1 else ot) := hJ
  refine WC.skip (kp [0, 5, 7, 39, 40, 41] ?_)
  repeat first | refine sk fun K hK => ?_ | refine bk ?_ | refine rn fun _ => ?_
  refine xG (PO.idx EL44.und EL44.size EL44.posz (Ev.tmp rfl) (Ev.tmp rfl) Rr rfl (by omega)) ?_
  refine xG (PO.loadFA Tryz.underlying70 rfl rfl guE_len Rr (Ev.tmp rfl) (by assumption) rfl rfl (Nat.succ_pos _)) ?_
  refine xW fun b9 => ?_
  refine xS ?_
  refine wn [0, 5, 7, 9, 39, 40, 41] ?_
  repeat first | refine sk fun K hK => ?_ | refine bk ?_ | refine rn fun _ => ?_
  refine xF Tryz.underlying70 ?_
  refine xG (pL Tryz.underlying68) ?_
  refine xG (PO.bin Et Ev.const rfl) ?_
  refine wn [0, 5, 7, 9, 39, 40, 41, 47] ?_
  (repeat refine WC.seqK fun K hK => ?_)
  refine WC.cutK (by assumption) [0, 5, 9, 39, 40, 41] rfl (fun F' h' => ∃ o2 : Int, (o2 = (if g.k = 6 then ot + 1 else ot) ∧ (ot ≤ o2 ∧ o2 ≤ ot + 1)) ∧ F' = [(7, .int .i64 o2)] ∧ .pt b9 (.cells (guE g).toArray 70 (0, 0)) :: .pt b5 (.cells (hdE hd).toArray 76 (0, 0)) :: .pt b3 (.cells (prE p).toArray 56 (0, 0)) :: h = h') ?_ ?_
  repeat first | refine sk fun K hK => ?_ | refine bk ?_
  refine wc (fun c47 => ?_) fun c47 => ?_
  replace c47 := t_eq c47
  repeat first | refine sk fun K hK => ?_ | refine bk ?_ | refine rn fun _ => ?_
  refine xM ?_
  refine xG (PO.addI Et Ev.const (by omega)) ?_
  refine xA ?_
  refine WL.nil (meetI [(7, .int .i64 (ot + 1))] (h'' := .pt b9 (.cells (guE g).toArray 70 (0, 0)) :: .pt b5 (.cells (hdE hd).toArray 76 (0, 0)) :: .pt b3 (.cells (prE p).toArray 56 (0, 0)) :: h) ?_ (by (repeat (first | exact Sub.nil | refine Sub.cons rfl ?_ | refine Sub.consE rfl (by simp; done) ?_))) Sb ⟨ot + 1, ⟨by rw [if_pos c47], by omega, by omega⟩, rfl, rfl⟩)
  (repeat (first | exact Sub.nil | refine Sub.cons rfl ?_ | refine Sub.consE rfl (by simp; done) ?_))
  replace c47 := f_eq c47
  refine WC.skip (meetI [(7, .int .i64 ot)] (h'' := .pt b9 (.cells (guE g).toArray 70 (0, 0)) :: .pt b5 (.cells (hdE hd).toArray 76 (0, 0)) :: .pt b3 (.cells (prE p).toArray 56 (0, 0)) :: h) ?_ (by (repeat (first | exact Sub.nil | refine Sub.cons rfl ?_ | refine Sub.consE rfl (by simp; done) ?_))) Sb ⟨ot, ⟨by rw [if_neg c47], by omega, by omega⟩, rfl, rfl⟩)
  (repeat (first | exact Sub.nil | refine Sub.cons rfl ?_ | refine Sub.consE rfl (by simp; done) ?_))
  rintro _ _ ⟨o2, ⟨ho3, ho4, ho5⟩, rfl, rfl⟩
  refine WC.frm rfl ?_
  rw [← ho3] at hJ
  repeat first | refine sk fun K hK => ?_ | refine bk ?_ | refine rg fun ops hG => ?_
  refine xM ?_
  refine xG (PO.bin Et Ev.const rfl) ?_
  refine xM ?_
  refine zG (fun _ => pF Tryz.underlying70) ?_
  refine zG (fun hc => PO.load1 Tryz.underlying68 rfl (Eg hc) Me rfl) ?_
  refine zG (fun hc => PO.bin (Eg hc) Ev.const rfl) ?_
  refine xP ?_
  refine wn [0, 5, 7, 9, 39, 40, 41, 56] ?_
  try clear hG ops
  repeat first | refine sk fun K hK => ?_ | refine bk ?_
  refine wc (fun c56 => ?_) fun c56 => ?_
  have d56 : o2 > 1 ∧ g.k = 6 := by simpa using c56
  rw [d56.2, if_pos rfl] at ho3
  rw [if_pos ⟨d56.2, by omega⟩] at hJ
  repeat first | refine sk fun K hK => ?_ | refine bk ?_ | refine rn fun _ => ?_
  refine xC ?_
  refine wn [4] ?_
  refine WC.ret (wR (h) ?_)
  exact ⟨by rw [hJ], rfl⟩
  have d56 : ¬ (o2 > 1 ∧ g.k = 6) := by simpa using c56
  have hno : ¬ (g.k = 6 ∧ ot ≥ 1) := fun q => d56 ⟨by rw [q.1, if_pos rfl] at ho3; omega, q.1⟩
  rw [if_neg hno] at hJ
  refine WC.skip (kp [0, 5, 7, 9, 39, 40, 41] ?_)
  repeat first | refine sk fun K hK => ?_ | refine bk ?_ | refine rn fun _ => ?_
  refine xF Tryz.underlying70 ?_
  refine xG (pL Tryz.underlying25) ?_
  refine xG (PO.lenSl Tryz.underlying25 Et) ?_
  refine xK ?_
  refine wn [0, 5, 7, 9, 39, 40, 41, 58, 59, 60] ?_
  repeat first | refine sk fun K hK => ?_ | refine bk ?_
  refine WC.loopI [0, 5, 7, 9, 39, 40, 41, 58, 59] rfl (fun μ F' h' => ∃ j : Nat, (j ≤ g.vl.l.length ∧ selX (shL s) g.vl.l hd.t = selX (shL s) (g.vl.l.drop j) hd.t) ∧ g.vl.l.length - j = μ ∧ F' = [(60, .int .i64 j)] ∧ .pt b9 (.cells (guE g).toArray 70 (0, 0)) :: .pt b5 (.cells (hdE hd).toArray 76 (0, 0)) :: .pt b3 (.cells (prE p).toArray 56 (0, 0)) :: h = h') (g.vl.l.length - 0) [(60, .int .i64 0)] (h0 := .pt b9 (.cells (guE g).toArray 70 (0, 0)) :: .pt b5 (.cells (hdE hd).toArray 76 (0, 0)) :: .pt b3 (.cells (prE p).toArray 56 (0, 0)) :: h) ?_ Sb ⟨0, ⟨by omega, rfl⟩, rfl, rfl, rfl⟩ ?_
  (repeat (first | exact Sub.nil | refine Sub.cons rfl ?_ | refine Sub.consE rfl (by simp; done) ?_))
  rintro _ _ _ ⟨j, ⟨hj, hS⟩, rfl, rfl, rfl⟩
  refine WC.frm rfl ?_
  repeat first | refine sk fun K hK => ?_ | refine bk ?_ | refine rn fun _ => ?_
  refine xG (PO.bin Et Et rfl) ?_
  refine wn [0, 5, 7, 9, 39, 40, 41, 58, 59, 60, 61] ?_
  repeat first | refine sk fun K hK => ?_ | refine bk ?_
  refine wc (fun c61 => ?_) fun c61 => ?_
  replace c61 := of_decide_eq_true c61
  obtain ⟨v, hv⟩ := get_some (l := g.vl.l) (k := j) (by omega)
  rw [drop_at hv] at hS
  replace hS : selX (shL s) g.vl.l hd.t = if isX (shL s) v hd.t ≠ 0 then isX (shL s) v hd.t else selX (shL s) (g.vl.l.drop (j + 1)) hd.t := hS
  refine WC.skip (kp [0, 5, 7, 9, 39, 40, 41, 58, 59, 60] ?_)
  repeat first | refine sk fun K hK => ?_ | refine bk ?_ | refine rn fun _ => ?_
  refine xG (PO.idx EL25.und EL25.size EL25.posz (Ev.tmp rfl) (Ev.tmp rfl) Rr rfl (by omega)) ?_
  refine xG (PO.loadFA Tryz.underlying27 rfl rfl exE_len Rr (Ev.tmp rfl) (by assumption) rfl rfl (Nat.succ_pos _)) ?_
  refine xW fun b11 => ?_
  refine xS ?_
  refine wn [0, 5, 7, 9, 11, 39, 40, 41, 58, 59, 60] ?_
  repeat first | refine sk fun K hK => ?_ | refine bk ?_ | refine rn fun _ => ?_
  refine xM ?_
  refine xG (pA Tryz.underlying27) ?_
  refine xF Tryz.underlying76 ?_
  refine xG (pA Tryz.underlying30) ?_
  refine xf (E3 Et Et Et) (isR_ct (hs.mono Sb) v hd.t ((hvl.ok v (List.mem_of_getElem? hv)).mono Sb)) ?_
  refine xA ?_
  refine wn [0, 5, 7, 9, 12, 39, 40, 41, 58, 59, 60] ?_
  repeat first | refine sk fun K hK => ?_ | refine bk ?_ | refine rn fun _ => ?_
  refine xM ?_
  refine xG (PO.bin Et Ev.const rfl) ?_
  refine wn [0, 5, 7, 9, 12, 39, 40, 41, 58, 59, 60, 70] ?_
  repeat first | refine sk fun K hK => ?_ | refine bk ?_
  refine wc (fun c70 => ?_) fun c70 => ?_
  replace c70 := t_ne c70
  rw [if_pos c70] at hS
  have hJ : G = isX (shL s) v hd.t := by rw [hJ, hC1, hS, if_pos c70, if_pos c70]
  repeat first | refine sk fun K hK => ?_ | refine bk ?_ | refine rn fun _ => ?_
  refine xM ?_
  refine xA ?_
  refine wn [4] ?_
  refine WC.ret (wR (h) ?_)
  exact ⟨by rw [hJ], rfl⟩
  replace c70 := f_ne c70
  rw [if_neg (by simpa using c70)] at hS
  refine WC.skip (kp [0, 5, 7, 9, 39, 40, 41, 58, 59, 60] ?_)
  repeat first | refine sk fun K hK => ?_ | refine bk ?_ | refine rn fun _ => ?_
  refine xG (PO.addI Et Ev.const (by omega)) ?_
  refine xM ?_
  refine WL.nil (loopBackI (g.vl.l.length - (j + 1)) [(60, .int .i64 (j + 1))] (h'' := .pt b9 (.cells (guE g).toArray 70 (0, 0)) :: .pt b5 (.cells (hdE hd).toArray 76 (0, 0)) :: .pt b3 (.cells (prE p).toArray 56 (0, 0)) :: h) (by omega) ?_ (by (repeat (first | exact Sub.nil | refine Sub.cons rfl ?_ | refine Sub.consE rfl (by simp; done) ?_))) Sb ⟨j + 1, ⟨by omega, hS⟩, rfl, rfl, rfl⟩)
  (repeat (first | exact Sub.nil | refine Sub.cons rfl ?_ | refine Sub.consE rfl (by simp; done) ?_))
  replace c61 := of_decide_eq_false c61
  rw [show g.vl.l.drop j = [] from List.drop_eq_nil_of_le (by omega)] at hS
  have hS0 : selX (shL s) g.vl.l hd.t = 0 := hS
  rw [hS0, if_neg (by decide)] at hC1
  rw [hC1] at hJ
  refine WC.exit (kp [0, 5, 7, 9, 39, 40, 41] ?_)
  repeat first | refine sk fun K hK => ?_ | refine bk ?_ | refine rn fun _ => ?_
  refine xM ?_
  refine xF Tryz.underlying70 ?_
  refine xG (pL Tryz.underlying45) ?_
  refine xG (PO.idx EL45.und EL45.size EL45.posz (Ev.tmp rfl) Ev.const Rr rfl (q := 0) (by omega)) ?_
  refine xG (PO.loadFA Tryz.underlying56 rfl rfl prE_len Rr (Ev.tmp rfl) (by assumption) rfl rfl (Nat.succ_pos _)) ?_
  refine xf (E2 Et Et) (ih y hyi _ s a _ c (hs.mono Sb) ((hP.sub hyi).mono Sb) (by omega)) ?_
  refine xA ?_
  refine wn [0, 5, 7, 13, 39, 40, 41] ?_
  repeat first | refine sk fun K hK => ?_ | refine bk ?_ | refine rn fun _ => ?_
  refine xM ?_
  refine xG (PO.bin Et Ev.const rfl) ?_
  refine wn [0, 5, 7, 13, 39, 40, 41, 80] ?_
  repeat first | refine sk fun K hK => ?_ | refine bk ?_
  refine wc (fun c80 => ?_) fun c80 => ?_
  replace c80 := t_ne c80
  rw [if_pos c80] at hJ
  repeat first | refine sk fun K hK => ?_ | refine bk ?_ | refine rn fun _ => ?_
  refine xM ?_
  refine xA ?_
  refine wn [4] ?_
  refine WC.ret (wR (h) ?_)
  exact ⟨by rw [hJ], rfl⟩
  replace c80 := f_ne c80
  rw [if_neg (by simpa using c80)] at hJ
  refine WC.skip (kp [0, 5, 7, 39, 40, 41] ?_)
  repeat first | refine sk fun K hK => ?_ | refine bk ?_ | refine rn fun _ => ?_
  refine xG (PO.addI Et Ev.const (by omega)) ?_
  refine xM ?_
  refine WL.nil (loopBackI (p.gl.length - (i + 1)) [(7, .int .i64 o2), (41, .int .i64 (i + 1))] (h'' := .pt b5 (.cells (hdE hd).toArray 76 (0, 0)) :: .pt b3 (.cells (prE p).toArray 56 (0, 0)) :: h) (by omega) ?_ (by (repeat (first | exact Sub.nil | refine Sub.cons rfl ?_ | refine Sub.consE rfl (by simp; done) ?_))) Sb ⟨i + 1, o2, ⟨⟨by omega, by omega, by omega⟩, hJ⟩, rfl, rfl, rfl⟩)
  (repeat (first | exact Sub.nil | refine Sub.cons rfl ?_ | refine Sub.consE rfl (by simp; done) ?_))
  replace c42 := of_decide_eq_false c42
  rw [show p.gl.drop i = [] from List.drop_eq_nil_of_le (by omega)] at hJ
  refine WC.exit (kp [] ?_)
  repeat first | refine sk fun K hK => ?_ | refine bk ?_ | refine rn fun _ => ?_
  refine xC ?_
  refine wn [4] ?_
  refine WC.ret (wR (h) ?_)
  exact ⟨by rw [hJ]; rfl, rfl⟩
end Go.Proofs.YtdhmplmpbcnojaaGreatDoor
end
/- TpO -/
section
namespace Go.Proofs.YtdhmplmpbcnojaaGreatDoor
open Go.Eng Go.Pc Go.Tg Go
open Go.Xp hiding B nameT
open Go.Ty (Ty Vr eqT tyV cellT zeroT PrOk VOk prL encV encV_len encI encI_len)
open Go.Lx (encB encB_len)
set_option maxRecDepth 100000
section
variable {m : View} {h : List Res} {s : List En} {a : Option Addr} {k c : Nat}
theorem variants1_ct (hs : ScR m h a k c s) (bk bg b2 : Nat) (g : Gu) (ka : Option Addr) (kn kc : Nat) (ks : List Int) (hk : Rd m h ka kn kc 1 (fl encI ks)) (hbk : Res.pt bk (.cells [.slice ka kn kc].toArray 100 (0, 0)) ∈ h) (hb2 : Res.pt b2 (.cells [.slice a k c].toArray 79 (0, 0)) ∈ h) (hbg : Res.pt bg (.cells (guE g).toArray 70 (0, 0)) ∈ h) (ho : LXk m h g.tg) :
    CT Tryz.prog 91 [.pointer (some ⟨bk, 0, none⟩), .pointer (some ⟨bg, 0, none⟩), .pointer (some ⟨b2, 0, none⟩)] h m (Pure1 h (.int .i64 (matchX (setX (shL s)) ks g.tg.l))) := by
  have hto := ho.rd
  refine CT.body Tryz.call91 Tryz.func91 rfl Tryz.ntmps91 (leB rfl) rfl ?_
  repeat first | refine sk fun K hK => ?_ | refine bk ?_ | refine rn fun _ => ?_
  refine xC ?_
  refine wn [0, 1, 2] ?_
  repeat first | refine sk fun K hK => ?_ | refine bk ?_ | refine rn fun _ => ?_
  refine xG (PO.load1 Tryz.underlying100 rfl Et hbk rfl) ?_
  refine xF Tryz.underlying70 ?_
  refine xG (PO.load1 Tryz.underlying25 rfl Et hbg rfl) ?_
  refine xG (PO.load1 Tryz.underlying79 rfl Et hb2 rfl) ?_
  refine xG (PO.makeFunc (Evs.cons Et Evs.nil) Evs.nil) ?_
  refine xf (E3 Et Et Et) (match_ct 85 [.slice a k c] (setX (shL s)) _ _ _ ks _ _ _ g.tg.l hk hto (takesM hs ho)) ?_
  refine xA ?_
  refine wn [3] ?_
  refine WC.ret (wR (h) ?_)
  exact ⟨rfl, rfl⟩
theorem variants2_ct (hs : ScR m h a k c s) (bg b2 : Nat) (g : Gu) (hb2 : Res.pt b2 (.cells [.slice a k c].toArray 79 (0, 0)) ∈ h) (hbg : Res.pt bg (.cells (guE g).toArray 70 (0, 0)) ∈ h) (x : Pr) (hx : g.bl[0]? = some x) (hr : Rd m h g.ba g.bl.length g.bc 42 (fl prE g.bl)) (ih : ProcC m x) (hP : POk m h x) (hn : s.length + 16 * cntP x ≤ 1000000) :
    CT Tryz.prog 92 [.pointer (some ⟨b2, 0, none⟩), .pointer (some ⟨bg, 0, none⟩)] h m (Pure1 h (.int .i64 (chkP x (shL s)))) := by
  have hlt : 0 < g.bl.length := (List.getElem?_eq_some_iff.1 hx).1
  refine CT.body Tryz.call92 Tryz.func92 rfl Tryz.ntmps92 (leB rfl) rfl ?_
  repeat first | refine sk fun K hK => ?_ | refine bk ?_ | refine rn fun _ => ?_
  refine xC ?_
  refine wn [0, 1] ?_
  repeat first | refine sk fun K hK => ?_ | refine bk ?_
  refine WC.drawS [] (.op 0 (.op 1 (.op 2 (.op 3 (.op 4 .nil))))) [5, 6] _ [] mixed (fun _ _ _ _ _ h => h) [] (by kernel_rfl) ?_
  refine yG rfl (PO.load1 Tryz.underlying79 rfl Et hb2 rfl) ?_
  refine yG rfl (pF Tryz.underlying70) ?_
  refine yG rfl (PO.load1 Tryz.underlying45 rfl Et hbg rfl) ?_
  refine yG rfl (PO.idx EL45.und EL45.size EL45.posz (Ev.tmp rfl) Ev.const Rr rfl (q := 0) (by omega)) ?_
  refine yG rfl (PO.loadFA Tryz.underlying56 rfl rfl prE_len Rr (Ev.tmp rfl) (by assumption) rfl rfl (Nat.succ_pos _)) ?_
  refine SR.nil rfl rfl ?_
  refine xf (E2 Et Et) (ih _ s a k c (hs.mono Sb) (hP.mono Sb) hn) ?_
  refine xA ?_
  refine wn [2] ?_
  refine WC.ret (wR (h) ?_)
  exact ⟨rfl, rfl⟩
end
theorem itE_cases (r : Option Vr) : itE r = 0 ∨ itE r = 130 := by cases r <;> simp [itE]
set_option maxHeartbeats 2000000 in
theorem variants_ct {m : View} {h : List Res} {s : List En} {a : Option Addr} {k c : Nat} (hg : Glob m) (hs : ScR m h a k c s) (p : Pr) (hP : POk m h p) (hV : Pl p) (hx : XOk m h p.ch) (hn : s.length + 16 * cntP p ≤ 1000000) (ih : ∀ x, In x p → ProcC m x) :
    CT Tryz.prog 59 [.slice a k c, prV p] h m (Pure1 h (.int .i64 (match chanX (shL s) p.ch 4 with | .error w => w | .ok q => chkV p.gl (shL s) q []))) := by
  obtain ⟨G, hG⟩ : ∃ G, G = match chanX (shL s) p.ch 4 with | .error w => w | .ok q => chkV p.gl (shL s) q [] := ⟨_, rfl⟩
  rw [← hG]
  have hO := hP.own
  have hgr := hO.g
  have gmx := hgr.mx
  have gle := hgr.le
  refine CT.body Tryz.call59 Tryz.func59 rfl Tryz.ntmps59 (leB rfl) rfl ?_
  repeat first | refine sk fun K hK => ?_ | refine bk ?_ | refine rn fun _ => ?_
  refine xX fun b2 => ?_
  refine xX fun b3 => ?_
  refine xC ?_
  refine wn [2, 3] ?_
  repeat first | refine sk fun K hK => ?_ | refine bk ?_ | refine rn fun _ => ?_
  refine xG (pL Tryz.underlying79) ?_
  refine xF Tryz.underlying56 ?_
  refine xG (pA Tryz.underlying27) ?_
  refine xg (E3 Et Et Ev.const) (channel_ct hg hs Sb p.ch 4 (hx.mono Sb)) ?_
  rintro _ _ ⟨nh, rfl, cs, a2, c2, l2, rfl, hpr, hpl⟩
  refine xM ?_
  refine xE ?_
  refine xE ?_
  refine xW fun b5 => ?_
  refine xS ?_
  refine xA ?_
  refine wn [2, 3, 5, 6] ?_
  repeat first | refine sk fun K hK => ?_ | refine bk ?_ | refine rn fun _ => ?_
  refine WL.makeMap (leB rfl) fun b19 => ?_
  refine xA ?_
  refine wn [2, 3, 5, 6, 7] ?_
  repeat first | refine sk fun K hK => ?_ | refine bk ?_ | refine rn fun _ => ?_
  have hG0 : G = if errT (chanX (shL s) p.ch 4) ≠ 0 then errT (chanX (shL s) p.ch 4) else chkV p.gl (shL s) (cs, prS l2) [] := by
    cases hq : chanX (shL s) p.ch 4 with
    | error w =>
      rw [hG, hq]
      show w = if w ≠ 0 then w else _
      rw [if_pos (chan_ok s w hq)]
    | ok q => rw [hG, hq, hpl q hq]; rfl
  refine xF Tryz.underlying56 ?_
  refine xG (pL Tryz.underlying44) ?_
  refine xG (PO.lenSl Tryz.underlying44 Et) ?_
  refine xK ?_
  refine wn [2, 5, 6, 7, 21, 22, 23] ?_
  repeat first | refine sk fun K hK => ?_ | refine bk ?_
  refine WC.loopI [2, 5, 7, 21, 22] rfl (fun μ F' h' => ∃ i : Nat, ∃ er : Int, ∃ es : Array MapEntry, ∃ ck : Nat, ∃ seen : List B, ((i ≤ p.gl.length ∧ MapS es seen) ∧ G = (if er ≠ 0 then er else chkV (p.gl.drop i) (shL s) (cs, prS l2) seen)) ∧ p.gl.length - i = μ ∧ F' = [(6, .int .i64 er), (23, .int .i64 i)] ∧ .pt b19 (.map es ck) :: .pt b5 (.cells (prL cs a2 l2.length c2).toArray 51 (0, 0)) :: ((.pt b3 (.cells (prE p).toArray 56 (0, 0)) :: .pt b2 (.cells [.slice a k c].toArray 79 (0, 0)) :: h) ++ nh) = h') (p.gl.length - 0) [(6, .int .i64 (errT (chanX (shL s) p.ch 4))), (23, .int .i64 0)] (h0 := .pt b19 (.map (#[]) 0) :: .pt b5 (.cells (prL cs a2 l2.length c2).toArray 51 (0, 0)) :: ((.pt b3 (.cells (prE p).toArray 56 (0, 0)) :: .pt b2 (.cells [.slice a k c].toArray 79 (0, 0)) :: h) ++ nh)) ?_ Sb ⟨0, errT (chanX (shL s) p.ch 4), #[], 0, [], ⟨⟨by omega, MapS.nil⟩, hG0⟩, rfl, rfl, rfl⟩ ?_
  (repeat (first | exact Sub.nil | refine Sub.cons rfl ?_ | refine Sub.consE rfl (by simp; done) ?_))
  rintro _ _ _ ⟨i, er, es, ck, seen, ⟨⟨hk, hM⟩, hJ⟩, rfl, rfl, rfl⟩
  refine WC.frm rfl ?_
  repeat first | refine sk fun K hK => ?_ | refine bk ?_ | refine rn fun _ => ?_
  refine xG (PO.bin Et Et rfl) ?_
  refine wn [2, 5, 6, 7, 21, 22, 23, 24] ?_
  repeat first | refine sk fun K hK => ?_ | refine bk ?_
  refine wc (fun c24 => ?_) fun c24 => ?_
  replace c24 := of_decide_eq_true c24
  obtain ⟨g, hgx⟩ := get_some (l := p.gl) (k := i) (by omega)
  have hgm := List.mem_of_getElem? hgx
  rw [drop_at hgx] at hJ
  obtain ⟨hgp, _, _⟩ := hV.gs g hgm
  have hgv := gu_spec hgp
  have hgo := hO.gs g hgm
  obtain ⟨y, hy⟩ := get_some (l := g.bl) (k := 0) (by have := hgv.body; omega)
  have hyi : In y p := In.g hgm (List.mem_of_getElem? hy)
  have hlt := hyi.lt
  have htg : LXk m h g.tg := lxk hgo.tg fun x hx => elem_may (hgv.tg x hx)
  obtain ⟨fv, hfv⟩ : ∃ fv, fv = findV cs g.name l2 := ⟨_, rfl⟩
  have hC1 : chkV1 g (shL s) (cs, prS l2) = match variantX (cs, prS l2) g.name with | .error w => w | .ok ks => if matchX (setX (shL s)) ks g.tg.l ≠ 0 then matchX (setX (shL s)) ks g.tg.l else chkP y (shL s) := by
    rw [← chkH_at hy]
    cases g
    rfl
  rw [variantX_it, ← hfv] at hC1
  have hit := it_rd hpr cs g.name
  rw [← hfv] at hit
  refine WC.skip (kp [2, 5, 6, 7, 21, 22, 23] ?_)
  repeat first | refine sk fun K hK => ?_ | refine bk ?_ | refine rn fun _ => ?_
  refine xG (PO.idx EL44.und EL44.size EL44.posz (Ev.tmp rfl) (Ev.tmp rfl) Rr rfl (by omega)) ?_
  refine xG (PO.loadFA Tryz.underlying70 rfl rfl guE_len Rr (Ev.tmp rfl) (by assumption) rfl rfl (Nat.succ_pos _)) ?_
  refine xW fun b9 => ?_
  refine xS ?_
  refine wn [2, 5, 6, 7, 9, 21, 22, 23] ?_
  repeat first | refine sk fun K hK => ?_ | refine bk ?_ | refine rn fun _ => ?_
  refine xM ?_
  refine xG (PO.bin Et Ev.const rfl) ?_
  refine wn [2, 5, 6, 7, 9, 21, 22, 23, 28] ?_
  repeat first | refine sk fun K hK => ?_ | refine bk ?_
  refine wc (fun c28 => ?_) fun c28 => ?_
  replace c28 := t_ne c28
  rw [if_pos c28] at hJ
  repeat first | refine sk fun K hK => ?_ | refine bk ?_ | refine rn fun _ => ?_
  refine xM ?_
  refine xA ?_
  refine wn [4] ?_
  refine WC.ret (wR (h) ?_)
  exact ⟨by rw [hJ], rfl⟩
  replace c28 := f_ne c28
  rw [if_neg (by simpa using c28)] at hJ
  replace hJ : G = if seen.contains g.name then 130 else if chkV1 g (shL s) (cs, prS l2) ≠ 0 then chkV1 g (shL s) (cs, prS l2) else chkV (p.gl.drop (i + 1)) (shL s) (cs, prS l2) (g.name :: seen) := hJ
  refine WC.skip (kp [2, 5, 7, 9, 21, 22, 23] ?_)
  repeat first | refine sk fun K hK => ?_ | refine bk ?_ | refine rn fun _ => ?_
  refine xG (pA Tryz.underlying51) ?_
  refine xF Tryz.underlying70 ?_
  refine xG (pL Tryz.underlying9) ?_
  refine xf (E2 Et Et) (hfv ▸ variant_ct cs a2 c2 l2 g.name (hpr.mono (View.le.refl _) Sb)) ?_
  refine xM ?_
  refine xE ?_
  refine xE ?_
  refine xW fun b10 => ?_
  refine xS ?_
  refine xA ?_
  refine wn [2, 5, 7, 9, 10, 11, 21, 22, 23] ?_
  repeat first | refine sk fun K hK => ?_ | refine bk ?_ | refine rg fun ops hG => ?_
  refine xM ?_
  refine xG (PO.bin Et Ev.const rfl) ?_
  refine xM ?_
  refine zM ?_
  refine zG (fun _ => pF Tryz.underlying70) ?_
  refine zG (fun hc => PO.load1 Tryz.underlying9 rfl (Eg hc) Me rfl) ?_
  refine zG (fun hc => PO.mapGetS Tryz.underlying152 Tryz.underlying9 rfl hM (Eg hc) (Eg hc) Me) ?_
  refine xQ ?_
  refine wn [2, 5, 7, 9, 10, 21, 22, 23, 44] ?_
  try clear hG ops
  repeat first | refine sk fun K hK => ?_ | refine bk ?_
  refine wc (fun c44 => ?_) fun c44 => ?_
  have d44 : ((itE fv != 0) || decide (g.name ∈ seen)) = true := c44
  have hJ : G = 130 := by
    by_cases hin : g.name ∈ seen
    · rw [hJ, if_pos (by simpa using hin)]
    · have h0 : itE fv ≠ 0 := by simpa [hin] using d44
      have h1 : itE fv = 130 := (itE_cases fv).resolve_left h0
      rw [if_neg h0] at hC1
      rw [hJ, if_neg (by simpa using hin), hC1, h1]
      rfl
  repeat first | refine sk fun K hK => ?_ | refine bk ?_ | refine rn fun _ => ?_
  refine xC ?_
  refine wn [4] ?_
  refine WC.ret (wR (h) ?_)
  exact ⟨by rw [hJ], rfl⟩
  have d44 : ((itE fv != 0) || decide (g.name ∈ seen)) = false := c44
  simp only [Bool.or_eq_false_iff, bne_eq_false_iff_eq, decide_eq_false_iff_not] at d44
  rw [if_neg (by simpa using d44.2)] at hJ
  rw [if_pos d44.1] at hC1
  replace hC1 : chkV1 g (shL s) (cs, prS l2) = if matchX (setX (shL s)) (itL fv) g.tg.l ≠ 0 then matchX (setX (shL s)) (itL fv) g.tg.l else chkP y (shL s) := hC1
  refine WC.skip (kp [2, 5, 7, 9, 10, 21, 22, 23] ?_)
  repeat first | refine sk fun K hK => ?_ | refine bk ?_ | refine rn fun _ => ?_
  refine xM ?_
  refine xF Tryz.underlying70 ?_
  refine xG (pL Tryz.underlying9) ?_
  refine WL.mapSetS (.inl rfl) Tryz.underlying152 Tryz.underlying9 hM Et Et Ev.const (fun _ _ => Up) fun es1 ck1 hM1 => ?_
  refine wn [2, 5, 7, 9, 10, 21, 22, 23] ?_
  repeat first | refine sk fun K hK => ?_ | refine bk ?_ | refine rn fun _ => ?_
  refine xG (PO.makeFunc Evs.nil (Evs.cons Et (Evs.cons Et (Evs.cons Et Evs.nil)))) ?_
  refine xG (PO.makeFunc Evs.nil (Evs.cons Et (Evs.cons Et Evs.nil))) ?_
  refine xY EL189 (EvP.cons Et (EvP.cons Et EvP.nil)) fun b50 => ?_
  refine xf (E1 Et) (first2_ct b50 91 92 [.pointer (some ⟨b10, 0, none⟩), .pointer (some ⟨b9, 0, none⟩), .pointer (some ⟨b2, 0, none⟩)] [.pointer (some ⟨b2, 0, none⟩), .pointer (some ⟨b9, 0, none⟩)] _ _ Me (variants1_ct (hs.mono Sb) _ _ _ g _ _ _ (itL fv) (hit.mono (View.le.refl _) Sb) Me Me Me (htg.mono Sb)) (variants2_ct (hs.mono Sb) _ _ g Me Me y hy (hgo.b.mono (View.le.refl _) Sb) (ih y hyi) ((hP.sub hyi).mono Sb) (by omega))) ?_
  rw [← hC1]
  refine xA ?_
  refine wn [2, 5, 6, 7, 21, 22, 23] ?_
  repeat first | refine sk fun K hK => ?_ | refine bk ?_ | refine rn fun _ => ?_
  refine xG (PO.addI Et Ev.const (by omega)) ?_
  refine xM ?_
  refine WL.nil (loopBackI (p.gl.length - (i + 1)) [(6, .int .i64 (chkV1 g (shL s) (cs, prS l2))), (23, .int .i64 (i + 1))] (h'' := .pt b19 (.map es1 ck1) :: .pt b5 (.cells (prL cs a2 l2.length c2).toArray 51 (0, 0)) :: ((.pt b3 (.cells (prE p).toArray 56 (0, 0)) :: .pt b2 (.cells [.slice a k c].toArray 79 (0, 0)) :: h) ++ nh)) (by omega) ?_ (by (repeat (first | exact Sub.nil | refine Sub.cons rfl ?_ | refine Sub.consE rfl (by simp; done) ?_))) Sb ⟨i + 1, chkV1 g (shL s) (cs, prS l2), es1, ck1, g.name :: seen, ⟨⟨by omega, hM1⟩, hJ⟩, rfl, rfl, rfl⟩)
  (repeat (first | exact Sub.nil | refine Sub.cons rfl ?_ | refine Sub.consE rfl (by simp; done) ?_))
  replace c24 := of_decide_eq_false c24
  rw [show p.gl.drop i = [] from List.drop_eq_nil_of_le (by omega)] at hJ
  have hJ : G = er := by rw [hJ]; show (if er ≠ 0 then er else 0) = er; split <;> omega
  refine WC.exit (kp [6] ?_)
  repeat first | refine sk fun K hK => ?_ | refine bk ?_ | refine rn fun _ => ?_
  refine xM ?_
  refine xA ?_
  refine wn [4] ?_
  refine WC.ret (wR (h) ?_)
  exact ⟨by rw [hJ], rfl⟩
theorem perm_asc (x y : Res) (h nh nh2 : List Res) : ((x :: y :: (h ++ nh)) ++ nh2).Perm (x :: y :: (h ++ (nh ++ nh2))) := by simp
theorem foE1_snoc {S : List Ent} {fs : List Fo} {i : Nat} {f : Fo} (hf : fs[i]? = some f) (n : Int) : (S ++ (fs.take i).map fun f => foE1 f n) ++ [foE1 f n] = S ++ (fs.take (i + 1)).map fun f => foE1 f n := by
  rw [take_at hf, List.map_append, List.append_assoc]
  rfl
theorem ScR.push {m : View} {h nh nh2 : List Res} {r0 : Res} {ia a' : Option Addr} {ik ic k' c' : Nat} {is : List En} (his : ScR m (r0 :: (h ++ nh)) ia ik ic is) (b : Nat) (k : Int) (ty : Ty) (nm : B) (ar : Nat) (har : ar ≤ is.length) (hp : k' ≤ c') (hq : c' ≤ 9223372036854775807) (hr : (fl enE (is ++ [inEn b k ty nm ar])).length = k' * 17) :
    ScR m (r0 :: (h ++ (.row (.slice a' k' c') 104 17 k' (fl enE (is ++ [inEn b k ty nm ar])) :: .pt b (.cells [str nm].toArray 9 (0, 0)) :: (nh ++ nh2)))) a' k' c' (is ++ [inEn b k ty nm ar]) := by
  have hh : (r0 :: (h ++ nh)).Sublist (r0 :: (h ++ (.row (.slice a' k' c') 104 17 k' (fl enE (is ++ [inEn b k ty nm ar])) :: .pt b (.cells [str nm].toArray 9 (0, 0)) :: (nh ++ nh2)))) :=
    List.Sublist.cons_cons _ (((List.sublist_append_left nh nh2).cons _ |>.cons _).append_left h)
  exact ScR.snoc (sp := inSp b k ty nm) (ar := ar) his hh (Rd.ofRow hr hp hq (List.mem_cons_of_mem _ (List.mem_append_right _ (List.Mem.head _)))) (Rd.ofPt rfl (leB rfl) (List.mem_cons_of_mem _ (List.mem_append_right _ (List.Mem.tail _ (List.Mem.head _))))) (Rd.nilF foE 6 _ _) (prNil _ _) har
theorem protoX_err (s : List En) (h : Hd) : ∀ w, protoX (shL s) h = .error w → w ≠ 0 := by
  intro w hw
  unfold protoX at hw
  split at hw
  · cases hw
  · split at hw
    · cases hw; decide
    · split at hw
      · split at hw
        · cases hw; decide
        · cases hw
      · cases hw; decide
set_option maxHeartbeats 2000000 in
theorem procedure_ct {m : View} {h : List Res} {s : List En} {a : Option Addr} {k c : Nat} (hg : Glob m) (hs : ScR m h a k c s) (x : Sp) (hO : SOk m h x) (hf8 : x.fs.l.length ≤ 8) (y : Pr) (hy : x.bl[0]? = some y) (hP : POk m h y) (hn : s.length + 16 + 16 * cntP y ≤ 1000000) (ih : ProcC m y) :
    CT Tryz.prog 141 [.slice a k c, spV x] h m (Pure1 h (.int .i64 (if fosX (shL s) x.fs.l ≠ 0 then fosX (shL s) x.fs.l else chkP y (shL s ++ x.fs.l.map fun f => foE1 f s.length)))) := by
  obtain ⟨G, hG⟩ : ∃ G, G = if fosX (shL s) x.fs.l ≠ 0 then fosX (shL s) x.fs.l else chkP y (shL s ++ x.fs.l.map fun f => foE1 f s.length) := ⟨_, rfl⟩
  rw [← hG]
  have hl := hs.rd.lenF enE_len (by decide)
  subst hl
  have hfr := hO.fr
  have fmx := hfr.mx
  have fle := hfr.le
  have hbr := hO.b
  have hy1 : 0 < x.bl.length := (List.getElem?_eq_some_iff.1 hy).1
  refine CT.body Tryz.call141 Tryz.func141 rfl Tryz.ntmps141 (leB rfl) rfl ?_
  repeat first | refine sk fun K hK => ?_ | refine bk ?_ | refine rn fun _ => ?_
  refine xX fun b3 => ?_
  refine xC ?_
  refine wn [0, 3] ?_
  repeat first | refine sk fun K hK => ?_ | refine bk ?_ | refine rn fun _ => ?_
  refine xM ?_
  refine xA ?_
  refine wn [0, 3, 5] ?_
  repeat first | refine sk fun K hK => ?_ | refine bk ?_ | refine rn fun _ => ?_
  refine xF Tryz.underlying54 ?_
  refine xG (pL Tryz.underlying52) ?_
  refine xG (PO.lenSl Tryz.underlying52 Et) ?_
  refine xK ?_
  refine WL.perm (h' := .pt b3 (.cells (spE x).toArray 54 (0, 0)) :: (h ++ [])) (by simp) ?_
  refine wn [0, 3, 5, 13, 14, 15] ?_
  repeat first | refine sk fun K hK => ?_ | refine bk ?_
  refine WC.loopI [0, 3, 13, 14] rfl (fun μ F' h' => ∃ i : Nat, ∃ ia : Option Addr, ∃ ik : Nat, ∃ ic : Nat, ∃ is : List En, ∃ nh : List Res, (((i ≤ x.fs.l.length ∧ is.length = s.length + i) ∧ (ScR m (.pt b3 (.cells (spE x).toArray 54 (0, 0)) :: (h ++ nh)) ia ik ic is ∧ shL is = shL s ++ (x.fs.l.take i).map fun f => foE1 f s.length)) ∧ fosX (shL s) x.fs.l = fosX (shL s) (x.fs.l.drop i)) ∧ x.fs.l.length - i = μ ∧ F' = [(5, .slice ia ik ic), (15, .int .i64 i)] ∧ .pt b3 (.cells (spE x).toArray 54 (0, 0)) :: (h ++ nh) = h') (x.fs.l.length - 0) [(5, .slice a (s.length) c), (15, .int .i64 0)] (h0 := .pt b3 (.cells (spE x).toArray 54 (0, 0)) :: (h ++ ([]))) ?_ Sb ⟨0, a, s.length, c, s, [], ⟨⟨⟨by omega, rfl⟩, hs.mono Sb, by simp⟩, rfl⟩, rfl, rfl, rfl⟩ ?_
  (repeat (first | exact Sub.nil | refine Sub.cons rfl ?_ | refine Sub.consE rfl (by simp; done) ?_))
  rintro _ _ _ ⟨i, ia, ik, ic, is, nh, ⟨⟨⟨hk, hil⟩, his, hiS⟩, hJ⟩, rfl, rfl, rfl⟩
  refine WC.frm rfl ?_
  repeat first | refine sk fun K hK => ?_ | refine bk ?_ | refine rn fun _ => ?_
  refine xG (PO.bin Et Et rfl) ?_
  refine wn [0, 3, 5, 13, 14, 15, 16] ?_
  repeat first | refine sk fun K hK => ?_ | refine bk ?_
  refine wc (fun c16 => ?_) fun c16 => ?_
  replace c16 := of_decide_eq_true c16
  obtain ⟨f, hf⟩ := get_some (l := x.fs.l) (k := i) (by omega)
  rw [drop_at hf] at hJ
  have hsn := foE1_snoc (S := shL s) hf (s.length : Int)
  replace hJ : fosX (shL s) x.fs.l = if f.val ∧ simT f.ty = false then 130 else match protoX (shL s) ⟨f.ty, (shL s).length⟩ with | .error w => w | .ok _ => fosX (shL s) (x.fs.l.drop (i + 1)) := hJ
  rw [shL_len] at hJ
  refine WC.skip (kp [0, 3, 5, 13, 14, 15] ?_)
  repeat first | refine sk fun K hK => ?_ | refine bk ?_ | refine rn fun _ => ?_
  refine xG (PO.idx EL52.und EL52.size EL52.posz (Ev.tmp rfl) (Ev.tmp rfl) Rr rfl (by omega)) ?_
  refine xG (PO.loadFA Tryz.underlying60 rfl rfl foE_len Rr (Ev.tmp rfl) (by assumption) rfl rfl (Nat.succ_pos _)) ?_
  refine xW fun b7 => ?_
  refine xS ?_
  refine wn [0, 3, 5, 7, 13, 14, 15] ?_
  repeat first | refine sk fun K hK => ?_ | refine bk ?_ | refine rn fun _ => ?_
  refine xC ?_
  refine wn [0, 3, 5, 7, 8, 13, 14, 15] ?_
  repeat first | refine sk fun K hK => ?_ | refine bk ?_ | refine rn fun _ => ?_
  refine xF Tryz.underlying60 ?_
  refine xG (pL Tryz.underlying4) ?_
  refine wn [0, 3, 5, 7, 8, 13, 14, 15, 20] ?_
  repeat first | refine sk fun K hK => ?_ | refine bk ?_
  refine wc (fun c20 => ?_) fun c20 => ?_
  have hv : f.val = true := c20
  repeat first | refine sk fun K hK => ?_ | refine bk ?_ | refine rn fun _ => ?_
  refine xC ?_
  refine wn [0, 3, 5, 7, 8, 13, 14, 15] ?_
  repeat first | refine sk fun K hK => ?_ | refine bk ?_ | refine rn fun _ => ?_
  refine xF Tryz.underlying60 ?_
  refine xG (pA Tryz.underlying30) ?_
  refine xf (E1 Et) (tsim_ct _ _ _) ?_
  refine xG (PO.not Et) ?_
  refine wn [0, 3, 5, 7, 8, 13, 14, 15, 24] ?_
  repeat first | refine sk fun K hK => ?_ | refine bk ?_
  refine wc (fun c24 => ?_) fun c24 => ?_
  have hsm : simT f.ty = false := by simpa using c24
  rw [if_pos ⟨hv, hsm⟩] at hJ
  have hG9 : G = 130 := by rw [hG, hJ]; rfl
  repeat first | refine sk fun K hK => ?_ | refine bk ?_ | refine rn fun _ => ?_
  refine xC ?_
  refine wn [4] ?_
  refine WC.ret (wR (h) ?_)
  exact ⟨by rw [hG9], rfl⟩
  have hsm : simT f.ty = true := by simpa using c24
  rw [if_neg (fun q => by rw [hsm] at q; cases q.2)] at hJ
  have hkd : foE1 f (s.length : Int) = inE 2 f.ty f.name s.length := by unfold foE1; rw [hv]; rfl
  refine WC.skip (kp [0, 3, 5, 7, 8, 13, 14, 15] ?_)
  repeat first | refine sk fun K hK => ?_ | refine bk ?_ | refine rn fun _ => ?_
  refine xM ?_
  refine xF Tryz.underlying60 ?_
  refine xG (pA Tryz.underlying30) ?_
  refine xM ?_
  refine xG (PO.lenSl Tryz.underlying79 Et) ?_
  refine xG (PO.build Tryz.underlying76 rfl rfl rfl (EvP.cons Et (EvP.cons Et EvP.nil)) rfl) ?_
  refine xg (E2 Et Et) (protocol_ct hg hs Sb f.ty s.length (Nat.le_refl _)) ?_
  rintro _ _ ⟨nh2, rfl, _, _, _, _, rfl, _, _⟩
  refine WL.perm (perm_asc _ _ h nh nh2) ?_
  refine xM ?_
  refine xE ?_
  refine xE ?_
  refine xW fun b9 => ?_
  refine xS ?_
  refine xA ?_
  refine wn [0, 3, 5, 7, 8, 10, 13, 14, 15] ?_
  repeat first | refine sk fun K hK => ?_ | refine bk ?_ | refine rn fun _ => ?_
  refine xM ?_
  refine xG (PO.bin Et Ev.const rfl) ?_
  refine wn [0, 3, 5, 7, 8, 10, 13, 14, 15, 36] ?_
  repeat first | refine sk fun K hK => ?_ | refine bk ?_
  refine wc (fun c36 => ?_) fun c36 => ?_
  replace c36 := t_ne c36
  obtain ⟨w, hw⟩ := err_of c36
  rw [hw] at hJ
  have hG9 : G = w := by
    have hw0 : w ≠ 0 := by rw [hw] at c36; exact c36
    rw [hG, hJ]
    show (if w ≠ 0 then w else _) = w
    rw [if_pos hw0]
  repeat first | refine sk fun K hK => ?_ | refine bk ?_ | refine rn fun _ => ?_
  refine xM ?_
  refine xA ?_
  refine wn [4] ?_
  refine WC.ret (wR (h) ?_)
  exact ⟨by rw [hG9, hw]; rfl, rfl⟩
  replace c36 := f_ne c36
  have hJ : fosX (shL s) x.fs.l = fosX (shL s) (x.fs.l.drop (i + 1)) := by
    cases hq : protoX (shL s) ⟨f.ty, s.length⟩ with
    | error w => rw [hq] at c36 hJ; exact absurd c36 (protoX_err s _ w hq)
    | ok q => rw [hq] at hJ; exact hJ
  refine WC.skip (kp [0, 3, 5, 7, 8, 13, 14, 15] ?_)
  repeat first | refine sk fun K hK => ?_ | refine bk ?_ | refine rn fun _ => ?_
  refine xM ?_
  refine xM ?_
  refine xF Tryz.underlying60 ?_
  refine xG (pA Tryz.underlying30) ?_
  refine xF Tryz.underlying60 ?_
  refine xG (pL Tryz.underlying9) ?_
  refine xY EL48 (EvP.cons Et EvP.nil) fun b44 => ?_
  refine xG (PO.build Tryz.underlying54 rfl rfl rfl (EvP.cons Et (EvP.cons Et (EvP.cons Et EvP.nil))) rfl) ?_
  refine xM ?_
  refine xG (PO.lenSl Tryz.underlying79 Et) ?_
  refine xg (E3 Et Et Et) (open_ct (his.mono (List.Sublist.trans (List.Sublist.cons_cons _ ((List.sublist_append_left nh nh2).append_left h)) Sb)) (inSp b44 2 f.ty f.name) s.length (by omega)) ?_
  rintro _ _ ⟨a48, c48, k48, e48, rfl, rfl⟩
  refine WL.knowRow (a := a48) Me fun p48 q48 r48 => ?_
  refine WL.drop (h' := .row (.slice a48 k48 c48) 104 17 k48 (fl enE (is ++ [inEn b44 2 f.ty f.name s.length])) :: .pt b44 (.cells [str f.name].toArray 9 (0, 0)) :: .pt b3 (.cells (spE x).toArray 54 (0, 0)) :: (h ++ (nh ++ nh2))) Sb ?_
  refine WL.perm (perm_mid [_, _] (.pt b3 (.cells (spE x).toArray 54 (0, 0)) :: h) (nh ++ nh2)) ?_
  have hpu := ScR.push (nh2 := nh2) (a' := a48) his b44 2 f.ty f.name s.length (by omega) p48 q48 r48
  have hsh : shL (is ++ [inEn b44 2 f.ty f.name s.length]) = shL s ++ (x.fs.l.take (i + 1)).map fun f => foE1 f s.length := by
    rw [← hsn, ← hiS, hkd]
    unfold shL
    rw [List.map_append]
    rfl
  refine xA ?_
  refine wn [0, 3, 5, 13, 14, 15] ?_
  repeat first | refine sk fun K hK => ?_ | refine bk ?_ | refine rn fun _ => ?_
  refine xG (PO.addI Et Ev.const (by omega)) ?_
  refine xM ?_
  refine WL.nil (loopBackI (x.fs.l.length - (i + 1)) [(5, .slice a48 k48 c48), (15, .int .i64 (i + 1))] (h'' := .pt b3 (.cells (spE x).toArray 54 (0, 0)) :: (h ++ (.row (.slice a48 k48 c48) 104 17 k48 (fl enE (is ++ [inEn b44 2 f.ty f.name s.length])) :: .pt b44 (.cells [str f.name].toArray 9 (0, 0)) :: (nh ++ nh2)))) (by omega) ?_ (by (repeat (first | exact Sub.nil | refine Sub.cons rfl ?_ | refine Sub.consE rfl (by simp; done) ?_))) Sb ⟨i + 1, a48, k48, c48, is ++ [inEn b44 2 f.ty f.name s.length], .row (.slice a48 k48 c48) 104 17 k48 (fl enE (is ++ [inEn b44 2 f.ty f.name s.length])) :: .pt b44 (.cells [str f.name].toArray 9 (0, 0)) :: (nh ++ nh2), ⟨⟨⟨by omega, by simp; omega⟩, hpu, hsh⟩, hJ⟩, rfl, rfl, rfl⟩)
  (repeat (first | exact Sub.nil | refine Sub.cons rfl ?_ | refine Sub.consE rfl (by simp; done) ?_))
  have hv : f.val = false := c20
  rw [if_neg (fun q => by rw [hv] at q; cases q.1)] at hJ
  have hkd : foE1 f (s.length : Int) = inE 1 f.ty f.name s.length := by unfold foE1; rw [hv]; rfl
  refine WC.skip (kp [0, 3, 5, 7, 8, 13, 14, 15] ?_)
  repeat first | refine sk fun K hK => ?_ | refine bk ?_ | refine rn fun _ => ?_
  refine xM ?_
  refine xF Tryz.underlying60 ?_
  refine xG (pA Tryz.underlying30) ?_
  refine xM ?_
  refine xG (PO.lenSl Tryz.underlying79 Et) ?_
  refine xG (PO.build Tryz.underlying76 rfl rfl rfl (EvP.cons Et (EvP.cons Et EvP.nil)) rfl) ?_
  refine xg (E2 Et Et) (protocol_ct hg hs Sb f.ty s.length (Nat.le_refl _)) ?_
  rintro _ _ ⟨nh2, rfl, _, _, _, _, rfl, _, _⟩
  refine WL.perm (perm_asc _ _ h nh nh2) ?_
  refine xM ?_
  refine xE ?_
  refine xE ?_
  refine xW fun b9 => ?_
  refine xS ?_
  refine xA ?_
  refine wn [0, 3, 5, 7, 8, 10, 13, 14, 15] ?_
  repeat first | refine sk fun K hK => ?_ | refine bk ?_ | refine rn fun _ => ?_
  refine xM ?_
  refine xG (PO.bin Et Ev.const rfl) ?_
  refine wn [0, 3, 5, 7, 8, 10, 13, 14, 15, 36] ?_
  repeat first | refine sk fun K hK => ?_ | refine bk ?_
  refine wc (fun c36 => ?_) fun c36 => ?_
  replace c36 := t_ne c36
  obtain ⟨w, hw⟩ := err_of c36
  rw [hw] at hJ
  have hG9 : G = w := by
    have hw0 : w ≠ 0 := by rw [hw] at c36; exact c36
    rw [hG, hJ]
    show (if w ≠ 0 then w else _) = w
    rw [if_pos hw0]
  repeat first | refine sk fun K hK => ?_ | refine bk ?_ | refine rn fun _ => ?_
  refine xM ?_
  refine xA ?_
  refine wn [4] ?_
  refine WC.ret (wR (h) ?_)
  exact ⟨by rw [hG9, hw]; rfl, rfl⟩
  replace c36 := f_ne c36
  have hJ : fosX (shL s) x.fs.l = fosX (shL s) (x.fs.l.drop (i + 1)) := by
    cases hq : protoX (shL s) ⟨f.ty, s.length⟩ with
    | error w => rw [hq] at c36 hJ; exact absurd c36 (protoX_err s _ w hq)
    | ok q => rw [hq] at hJ; exact hJ
  refine WC.skip (kp [0, 3, 5, 7, 8, 13, 14, 15] ?_)
  repeat first | refine sk fun K hK => ?_ | refine bk ?_ | refine rn fun _ => ?_
  refine xM ?_
  refine xM ?_
  refine xF Tryz.underlying60 ?_
  refine xG (pA Tryz.underlying30) ?_
  refine xF Tryz.underlying60 ?_
  refine xG (pL Tryz.underlying9) ?_
  refine xY EL48 (EvP.cons Et EvP.nil) fun b44 => ?_
  refine xG (PO.build Tryz.underlying54 rfl rfl rfl (EvP.cons Et (EvP.cons Et (EvP.cons Et EvP.nil))) rfl) ?_
  refine xM ?_
  refine xG (PO.lenSl Tryz.underlying79 Et) ?_
  refine xg (E3 Et Et Et) (open_ct (his.mono (List.Sublist.trans (List.Sublist.cons_cons _ ((List.sublist_append_left nh nh2).append_left h)) Sb)) (inSp b44 1 f.ty f.name) s.length (by omega)) ?_
  rintro _ _ ⟨a48, c48, k48, e48, rfl, rfl⟩
  refine WL.knowRow (a := a48) Me fun p48 q48 r48 => ?_
  refine WL.drop (h' := .row (.slice a48 k48 c48) 104 17 k48 (fl enE (is ++ [inEn b44 1 f.ty f.name s.length])) :: .pt b44 (.cells [str f.name].toArray 9 (0, 0)) :: .pt b3 (.cells (spE x).toArray 54 (0, 0)) :: (h ++ (nh ++ nh2))) Sb ?_
  refine WL.perm (perm_mid [_, _] (.pt b3 (.cells (spE x).toArray 54 (0, 0)) :: h) (nh ++ nh2)) ?_
  have hpu := ScR.push (nh2 := nh2) (a' := a48) his b44 1 f.ty f.name s.length (by omega) p48 q48 r48
  have hsh : shL (is ++ [inEn b44 1 f.ty f.name s.length]) = shL s ++ (x.fs.l.take (i + 1)).map fun f => foE1 f s.length := by
    rw [← hsn, ← hiS, hkd]
    unfold shL
    rw [List.map_append]
    rfl
  refine xA ?_
  refine wn [0, 3, 5, 13, 14, 15] ?_
  repeat first | refine sk fun K hK => ?_ | refine bk ?_ | refine rn fun _ => ?_
  refine xG (PO.addI Et Ev.const (by omega)) ?_
  refine xM ?_
  refine WL.nil (loopBackI (x.fs.l.length - (i + 1)) [(5, .slice a48 k48 c48), (15, .int .i64 (i + 1))] (h'' := .pt b3 (.cells (spE x).toArray 54 (0, 0)) :: (h ++ (.row (.slice a48 k48 c48) 104 17 k48 (fl enE (is ++ [inEn b44 1 f.ty f.name s.length])) :: .pt b44 (.cells [str f.name].toArray 9 (0, 0)) :: (nh ++ nh2)))) (by omega) ?_ (by (repeat (first | exact Sub.nil | refine Sub.cons rfl ?_ | refine Sub.consE rfl (by simp; done) ?_))) Sb ⟨i + 1, a48, k48, c48, is ++ [inEn b44 1 f.ty f.name s.length], .row (.slice a48 k48 c48) 104 17 k48 (fl enE (is ++ [inEn b44 1 f.ty f.name s.length])) :: .pt b44 (.cells [str f.name].toArray 9 (0, 0)) :: (nh ++ nh2), ⟨⟨⟨by omega, by simp; omega⟩, hpu, hsh⟩, hJ⟩, rfl, rfl, rfl⟩)
  (repeat (first | exact Sub.nil | refine Sub.cons rfl ?_ | refine Sub.consE rfl (by simp; done) ?_))
  replace c16 := of_decide_eq_false c16
  rw [show x.fs.l.drop i = [] from List.drop_eq_nil_of_le (by omega)] at hJ
  have hJ0 : fosX (shL s) x.fs.l = 0 := hJ
  rw [hJ0, if_neg (by decide)] at hG
  rw [List.take_of_length_le (by omega)] at hiS
  rw [← hiS] at hG
  refine WC.exit (kp [3, 5] ?_)
  repeat first | refine sk fun K hK => ?_ | refine bk ?_ | refine rn fun _ => ?_
  refine xM ?_
  refine xF Tryz.underlying54 ?_
  refine xG (pL Tryz.underlying45) ?_
  refine xG (PO.idx EL45.und EL45.size EL45.posz (Ev.tmp rfl) Ev.const Rr rfl (q := 0) (by omega)) ?_
  refine xG (PO.loadFA Tryz.underlying56 rfl rfl prE_len Rr (Ev.tmp rfl) (by assumption) rfl rfl (Nat.succ_pos _)) ?_
  refine xf (E2 Et Et) (ih _ is ia ik ic (his.mono Sb) (hP.mono Sb) (by omega)) ?_
  refine xA ?_
  refine wn [4] ?_
  refine WC.ret (wR (h) ?_)
  exact ⟨by rw [hG], rfl⟩
theorem specification_ct {m : View} {h : List Res} {s : List En} {a : Option Addr} {k c : Nat} (hg : Glob m) (hs : ScR m h a k c s) (x : Sp) (hO : SOk m h x) (hV : SpV x) (hP : ∀ y ∈ x.bl, POk m h y) (ih : ∀ y ∈ x.bl, ProcC m y) (hn : ∀ y ∈ x.bl, s.length + 16 + 16 * cntP y ≤ 1000000) :
    CT Tryz.prog 98 [.slice a k c, spV x] h m (Pure1 h (.int .i64 (chkS x (shL s)))) := by
  have hl := hs.rd.lenF enE_len (by decide)
  subst hl
  have hC : chkS x (shL s) = if x.k = 1 then errT (protoX (shL s) ⟨x.ty, (shL s).length⟩) else if x.k = 2 then (if simT x.ty = false then 130 else isX (shL s) x.e x.ty) else if x.k = 3 then (if simT x.ty = false then 130 else takesX (shL s) x.e x.ty) else if x.k = 5 then (if fosX (shL s) x.fs.l ≠ 0 then fosX (shL s) x.fs.l else chkH x.bl (shL s ++ x.fs.l.map fun f => foE1 f (shL s).length)) else 0 := by
    cases x
    rfl
  rw [shL_len] at hC
  refine CT.body Tryz.call98 Tryz.func98 rfl Tryz.ntmps98 (leB rfl) rfl ?_
  repeat first | refine sk fun K hK => ?_ | refine bk ?_ | refine rn fun _ => ?_
  refine xX fun b3 => ?_
  refine xC ?_
  refine wn [0, 3] ?_
  repeat first | refine sk fun K hK => ?_ | refine bk ?_ | refine rn fun _ => ?_
  refine xF Tryz.underlying54 ?_
  refine xG (pL Tryz.underlying47) ?_
  refine wn [0, 3, 8] ?_
  repeat first | refine sk fun K hK => ?_ | refine bk ?_ | refine rn fun _ => ?_
  refine xG (PO.bin Et Ev.const rfl) ?_
  refine xA ?_
  refine wn [0, 3, 8, 9] ?_
  repeat first | refine sk fun K hK => ?_ | refine bk ?_
  refine wc (fun c9 => ?_) fun c9 => ?_
  replace c9 := t_eq c9
  rw [if_pos c9] at hC
  repeat first | refine sk fun K hK => ?_ | refine bk ?_ | refine rn fun _ => ?_
  refine xM ?_
  refine xF Tryz.underlying54 ?_
  refine xG (pA Tryz.underlying30) ?_
  refine xM ?_
  refine xG (PO.lenSl Tryz.underlying79 Et) ?_
  refine xG (PO.build Tryz.underlying76 rfl rfl rfl (EvP.cons Et (EvP.cons Et EvP.nil)) rfl) ?_
  refine xg (E2 Et Et) (protocol_ct hg hs Sb x.ty s.length (Nat.le_refl _)) ?_
  rintro _ _ ⟨nh2, rfl, _, _, _, _, rfl, _, _⟩
  refine xM ?_
  refine xE ?_
  refine xE ?_
  refine xW fun b5 => ?_
  refine xS ?_
  refine xA ?_
  refine wn [6] ?_
  repeat first | refine sk fun K hK => ?_ | refine bk ?_ | refine rn fun _ => ?_
  refine xM ?_
  refine xA ?_
  refine wn [4] ?_
  refine WC.ret (wR (h) ?_)
  exact ⟨by rw [hC]; rfl, rfl⟩
  replace c9 := f_eq c9
  rw [if_neg c9] at hC
  repeat first | refine sk fun K hK => ?_ | refine bk ?_ | refine rn fun _ => ?_
  refine xG (PO.bin Et Ev.const rfl) ?_
  refine xA ?_
  refine wn [0, 3, 8, 22] ?_
  (repeat refine WC.seqK fun K hK => ?_)
  refine WC.cutK (by assumption) [0, 3, 8] rfl (fun F' h' => ∃ bb : Bool, (bb = true ↔ (x.k = 2 ∨ x.k = 3)) ∧ F' = [(22, .bool bb)] ∧ .pt b3 (.cells (spE x).toArray 54 (0, 0)) :: h = h') ?_ ?_
  repeat first | refine sk fun K hK => ?_ | refine bk ?_
  refine wc (fun c22 => ?_) fun c22 => ?_
  have ca : (x.k == 2) = true := c22
  refine WC.skip (meetI [(22, .bool ((x.k == 2)))] (h'' := .pt b3 (.cells (spE x).toArray 54 (0, 0)) :: h) ?_ (by (repeat (first | exact Sub.nil | refine Sub.cons rfl ?_ | refine Sub.consE rfl (by simp; done) ?_))) Sb ⟨(x.k == 2), ⟨fun _ => .inl (by simpa using ca), fun _ => ca⟩, rfl, rfl⟩)
  (repeat (first | exact Sub.nil | refine Sub.cons rfl ?_ | refine Sub.consE rfl (by simp; done) ?_))
  have ca : (x.k == 2) = false := c22
  repeat first | refine sk fun K hK => ?_ | refine bk ?_ | refine rn fun _ => ?_
  refine xG (PO.bin Et Ev.const rfl) ?_
  refine xA ?_
  refine WL.nil (meetI [(22, .bool ((x.k == 3)))] (h'' := .pt b3 (.cells (spE x).toArray 54 (0, 0)) :: h) ?_ (by (repeat (first | exact Sub.nil | refine Sub.cons rfl ?_ | refine Sub.consE rfl (by simp; done) ?_))) Sb ⟨(x.k == 3), ⟨fun hk => .inr (by simpa using hk), fun hk => hk.elim (fun h1 => absurd h1 (by simpa using ca)) (fun h1 => by simpa using h1)⟩, rfl, rfl⟩)
  (repeat (first | exact Sub.nil | refine Sub.cons rfl ?_ | refine Sub.consE rfl (by simp; done) ?_))
  rintro _ _ ⟨bb, hbb, rfl, rfl⟩
  refine WC.frm rfl ?_
  repeat first | refine sk fun K hK => ?_ | refine bk ?_
  refine wc (fun c22 => ?_) fun c22 => ?_
  have hk := hbb.1 c22
  repeat first | refine sk fun K hK => ?_ | refine bk ?_ | refine rn fun _ => ?_
  refine xF Tryz.underlying54 ?_
  refine xG (pA Tryz.underlying30) ?_
  refine xf (E1 Et) (tsim_ct _ _ _) ?_
  refine xG (PO.not Et) ?_
  refine xA ?_
  refine wn [0, 3, 25] ?_
  repeat first | refine sk fun K hK => ?_ | refine bk ?_
  refine wc (fun c25 => ?_) fun c25 => ?_
  have hsm : simT x.ty = false := by simpa using c25
  have hC : chkS x (shL s) = 130 := by
    rcases hk with hk | hk
    · rw [hC, if_pos hk, if_pos hsm]
    · rw [hC, if_neg (by omega), if_pos hk, if_pos hsm]
  repeat first | refine sk fun K hK => ?_ | refine bk ?_ | refine rn fun _ => ?_
  refine xC ?_
  refine wn [4] ?_
  refine WC.ret (wR (h) ?_)
  exact ⟨by rw [hC], rfl⟩
  have hsm : simT x.ty = true := by simpa using c25
  repeat first | refine sk fun K hK => ?_ | refine bk ?_ | refine rn fun _ => ?_
  refine xF Tryz.underlying54 ?_
  refine xG (pL Tryz.underlying47) ?_
  refine xG (PO.bin Et Ev.const rfl) ?_
  refine xA ?_
  refine wn [0, 3, 30] ?_
  repeat first | refine sk fun K hK => ?_ | refine bk ?_
  refine wc (fun c30 => ?_) fun c30 => ?_
  replace c30 := t_eq c30
  rw [if_pos c30, if_neg (by rw [hsm]; decide)] at hC
  have hxe := xok hO.e (hV.ev c30)
  repeat first | refine sk fun K hK => ?_ | refine bk ?_ | refine rn fun _ => ?_
  refine xM ?_
  refine xF Tryz.underlying54 ?_
  refine xG (pA Tryz.underlying27) ?_
  refine xF Tryz.underlying54 ?_
  refine xG (pA Tryz.underlying30) ?_
  refine xf (E3 Et Et Et) (isR_ct (hs.mono Sb) x.e x.ty (hxe.mono Sb)) ?_
  refine xA ?_
  refine wn [4] ?_
  refine WC.ret (wR (h) ?_)
  exact ⟨by rw [hC], rfl⟩
  replace c30 := f_eq c30
  have hk3 : x.k = 3 := by omega
  rw [if_neg c30, if_pos hk3, if_neg (by rw [hsm]; decide)] at hC
  have hxe := xok hO.e (elem_may (hV.es hk3))
  refine WC.skip (kp [0, 3] ?_)
  repeat first | refine sk fun K hK => ?_ | refine bk ?_ | refine rn fun _ => ?_
  refine xM ?_
  refine xF Tryz.underlying54 ?_
  refine xG (pA Tryz.underlying27) ?_
  refine xF Tryz.underlying54 ?_
  refine xG (pA Tryz.underlying30) ?_
  refine xf (E3 Et Et Et) (takes_ct (hs.mono Sb) x.e x.ty (hxe.mono Sb)) ?_
  refine xA ?_
  refine wn [4] ?_
  refine WC.ret (wR (h) ?_)
  exact ⟨by rw [hC], rfl⟩
  have hk : ¬ (x.k = 2 ∨ x.k = 3) := fun q => by rw [hbb.2 q] at c22; cases c22
  rw [if_neg (fun q => hk (.inl q)), if_neg (fun q => hk (.inr q))] at hC
  repeat first | refine sk fun K hK => ?_ | refine bk ?_ | refine rn fun _ => ?_
  refine xG (PO.bin Et Ev.const rfl) ?_
  refine xA ?_
  refine wn [0, 3, 46] ?_
  repeat first | refine sk fun K hK => ?_ | refine bk ?_
  refine wc (fun c46 => ?_) fun c46 => ?_
  replace c46 := t_eq c46
  rw [if_pos c46] at hC
  obtain ⟨y, hy⟩ := get_some (l := x.bl) (k := 0) (by have := hV.body c46; omega)
  have hym := List.mem_of_getElem? hy
  rw [chkH_at hy] at hC
  repeat first | refine sk fun K hK => ?_ | refine bk ?_ | refine rn fun _ => ?_
  refine xM ?_
  refine xG (pA Tryz.underlying54) ?_
  refine xf (E2 Et Et) (procedure_ct hg (hs.mono Sb) x (hO.mono Sb) (hV.fs c46) y hy ((hP y hym).mono Sb) (hn y hym) (ih y hym)) ?_
  refine xA ?_
  refine wn [4] ?_
  refine WC.ret (wR (h) ?_)
  exact ⟨by rw [hC], rfl⟩
  replace c46 := f_eq c46
  rw [if_neg c46] at hC
  refine WC.skip (kp [] ?_)
  repeat first | refine sk fun K hK => ?_ | refine bk ?_ | refine rn fun _ => ?_
  refine xC ?_
  refine wn [4] ?_
  refine WC.ret (wR (h) ?_)
  exact ⟨by rw [hC], rfl⟩
section
variable {m : View} {h : List Res} {s : List En} {a : Option Addr} {k c : Nat}
theorem specified1_ct (hg : Glob m) (hs : ScR m h a k c s) (b2 b3 : Nat) (p : Pr) (hb2 : Res.pt b2 (.cells [.slice a k c].toArray 79 (0, 0)) ∈ h) (hb3 : Res.pt b3 (.cells (prE p).toArray 56 (0, 0)) ∈ h) (hP : POk m h p) (hV : SpV p.sp) (hn : s.length + 16 * cntP p ≤ 1000000) (ih : ∀ x, In x p → ProcC m x) :
    CT Tryz.prog 97 [.pointer (some ⟨b2, 0, none⟩), .pointer (some ⟨b3, 0, none⟩)] h m (Pure1 h (.int .i64 (chkS p.sp (shL s)))) := by
  refine CT.body Tryz.call97 Tryz.func97 rfl Tryz.ntmps97 (leB rfl) rfl ?_
  repeat first | refine sk fun K hK => ?_ | refine bk ?_ | refine rn fun _ => ?_
  refine xC ?_
  refine wn [0, 1] ?_
  repeat first | refine sk fun K hK => ?_ | refine bk ?_ | refine rn fun _ => ?_
  refine xG (PO.load1 Tryz.underlying79 rfl Et hb2 rfl) ?_
  refine xF Tryz.underlying56 ?_
  refine xG (PO.loadA Tryz.underlying54 rfl rfl Et hb3 rfl) ?_
  refine xf (E2 Et Et) (specification_ct hg hs p.sp hP.own.sp hV (fun y hy => hP.sub (In.s hy)) (fun y hy => ih y (In.s hy)) (fun y hy => by have := (In.s (p := p) hy).lt; omega)) ?_
  refine xA ?_
  refine wn [2] ?_
  refine WC.ret (wR (h) ?_)
  exact ⟨rfl, rfl⟩
theorem specified2_ct (hs : ScR m h a k c s) (b2 b3 : Nat) (p : Pr) (hb2 : Res.pt b2 (.cells [.slice a k c].toArray 79 (0, 0)) ∈ h) (hb3 : Res.pt b3 (.cells (prE p).toArray 56 (0, 0)) ∈ h) (hP : POk m h p) (x : Pr) (hx : p.ll[0]? = some x) (ih : ProcC m x) (hn : s.length + 16 * cntP p ≤ 1000000) :
    CT Tryz.prog 99 [.pointer (some ⟨b2, 0, none⟩), .pointer (some ⟨b3, 0, none⟩)] h m (Pure1 h (.int .i64 (chkP x (shL s ++ [shS p.sp (shL s).length])))) := by
  have hl := hs.rd.lenF enE_len (by decide)
  subst hl
  have hlt : 0 < p.ll.length := (List.getElem?_eq_some_iff.1 hx).1
  have hxi : In x p := In.l (List.mem_of_getElem? hx)
  have hcl := hxi.lt
  have hlr := hP.own.l
  have hPx := hP.sub hxi
  have hso := hP.own.sp
  have hsh : shL (s ++ [⟨p.sp, (s.length : Int)⟩]) = shL s ++ [shS p.sp (shL s).length] := by
    unfold shL
    rw [List.map_append, List.length_map]
    rfl
  refine CT.body Tryz.call99 Tryz.func99 rfl Tryz.ntmps99 (leB rfl) rfl ?_
  repeat first | refine sk fun K hK => ?_ | refine bk ?_ | refine rn fun _ => ?_
  refine xC ?_
  refine wn [0, 1] ?_
  repeat first | refine sk fun K hK => ?_ | refine bk ?_
  refine WC.drawS [5] (.op 0 (.op 1 (.op 2 (.op 3 (.op 4 (.op 6 (.op 7 (.op 8 (.op 9 (.op 5 .nil)))))))))) [10, 11] _ [] mixed (fun _ _ _ _ _ h => h) [] (by kernel_rfl) ?_
  refine yG rfl (PO.load1 Tryz.underlying79 rfl Et hb2 rfl) ?_
  refine yG rfl (pF Tryz.underlying56) ?_
  refine yG rfl (PO.loadA Tryz.underlying54 rfl rfl Et hb3 rfl) ?_
  refine yG rfl (PO.load1 Tryz.underlying79 rfl Et hb2 rfl) ?_
  refine yG rfl (PO.lenSl Tryz.underlying79 Et) ?_
  refine yG rfl (pF Tryz.underlying56) ?_
  refine yG rfl (PO.load1 Tryz.underlying45 rfl Et hb3 rfl) ?_
  refine yG rfl (PO.idx EL45.und EL45.size EL45.posz (Ev.tmp rfl) Ev.const Rr rfl (q := 0) (by omega)) ?_
  refine yG rfl (PO.loadFA Tryz.underlying56 rfl rfl prE_len Rr (Ev.tmp rfl) (by assumption) rfl rfl (Nat.succ_pos _)) ?_
  refine SR.callF rfl rfl Ev.func (Evs.cons Et (Evs.cons Et (Evs.cons Et Evs.nil))) (fun fr => open_ct (hs.mono Sb) p.sp s.length (by omega)) (leB rfl) fun a8 c8 => ?_
  refine SR.nil rfl rfl ?_
  refine WL.knowRow (a := a8) Me fun hk1 hk2 hk3 => ?_
  refine xf (E2 Et Et) (ih _ (s ++ [⟨p.sp, (s.length : Int)⟩]) a8 _ c8 (ScR.snoc hs Sb (Rd.ofRow hk3 hk1 hk2 Me) (hso.nr.mono (View.le.refl _) Sb) (hso.fr.mono (View.le.refl _) Sb) (hso.v.mono (View.le.refl _) Sb) (Nat.le_refl _)) (hPx.mono Sb) (by rw [List.length_append]; show s.length + 1 + _ ≤ _; omega)) ?_
  refine xA ?_
  refine wn [2] ?_
  refine WC.ret (wR (h) ?_)
  exact ⟨by rw [hsh], rfl⟩
theorem specified_ct (hg : Glob m) (hs : ScR m h a k c s) (p : Pr) (hP : POk m h p) (hV : SpV p.sp) (h1 : 0 < p.ll.length) (hn : s.length + 16 * cntP p ≤ 1000000) (ih : ∀ x, In x p → ProcC m x) :
    CT Tryz.prog 64 [.slice a k c, prV p] h m (Pure1 h (.int .i64 (if chkS p.sp (shL s) ≠ 0 then chkS p.sp (shL s) else chkH p.ll (shL s ++ [shS p.sp (shL s).length])))) := by
  obtain ⟨x, hx⟩ := get_some h1
  have hxi : In x p := In.l (List.mem_of_getElem? hx)
  rw [chkH_at hx]
  refine CT.body Tryz.call64 Tryz.func64 rfl Tryz.ntmps64 (leB rfl) rfl ?_
  repeat first | refine sk fun K hK => ?_ | refine bk ?_ | refine rn fun _ => ?_
  refine xX fun b2 => ?_
  refine xX fun b3 => ?_
  refine xC ?_
  refine wn [2, 3] ?_
  repeat first | refine sk fun K hK => ?_ | refine bk ?_ | refine rn fun _ => ?_
  refine xG (PO.makeFunc Evs.nil (Evs.cons Et (Evs.cons Et Evs.nil))) ?_
  refine xG (PO.makeFunc Evs.nil (Evs.cons Et (Evs.cons Et Evs.nil))) ?_
  refine xY EL189 (EvP.cons Et (EvP.cons Et EvP.nil)) fun b7 => ?_
  refine xf (E1 Et) (first2_ct b7 97 99 [.pointer (some ⟨b2, 0, none⟩), .pointer (some ⟨b3, 0, none⟩)] [.pointer (some ⟨b2, 0, none⟩), .pointer (some ⟨b3, 0, none⟩)] _ _ Me (specified1_ct hg (hs.mono Sb) _ _ p Me Me (hP.mono Sb) hV hn ih) (specified2_ct (hs.mono Sb) _ _ p Me Me (hP.mono Sb) x hx (ih x hxi) hn)) ?_
  refine xA ?_
  refine wn [4] ?_
  refine WC.ret (wR (h) ?_)
  exact ⟨rfl, rfl⟩
end
end Go.Proofs.YtdhmplmpbcnojaaGreatDoor
end
/- ExpA -/
section
namespace Go.Proofs.YtdhmplmpbcnojaaGreatDoor
open Go.Eng Go.Xp Go
set_option maxRecDepth 100000
theorem prim_ct (k : Int) (h : List Res) (m : View) : CT Tryz.prog 66 [.int .u8 k] h m (Pure1 h (str (primP k))) := by
  refine CT.body Tryz.call66 Tryz.func66 rfl Tryz.ntmps66 (leB rfl) rfl ?_
  repeat first | refine sk fun K hK => ?_ | refine bk ?_ | refine rn fun _ => ?_
  refine xC ?_
  refine wn [0] ?_
  repeat first | refine sk fun K hK => ?_ | refine bk ?_ | refine rn fun _ => ?_
  refine xM ?_
  refine wn [3] ?_
  repeat first | refine sk fun K hK => ?_ | refine bk ?_ | refine rn fun _ => ?_
  refine xG (PO.bin Et Ev.const rfl) ?_
  refine xA ?_
  refine wn [3, 4] ?_
  repeat first | refine sk fun K hK => ?_ | refine bk ?_
  refine wc (fun c4 => ?_) fun c4 => ?_
  replace c4 := t_eq c4
  repeat first | refine sk fun K hK => ?_ | refine bk ?_ | refine rn fun _ => ?_
  refine xC ?_
  refine wn [2] ?_
  refine WC.ret (wR (h) ?_)
  exact ⟨by unfold primP; rw [if_pos c4], rfl⟩
  replace c4 := f_eq c4
  repeat first | refine sk fun K hK => ?_ | refine bk ?_ | refine rn fun _ => ?_
  refine xG (PO.bin Et Ev.const rfl) ?_
  refine xA ?_
  refine wn [3, 6] ?_
  repeat first | refine sk fun K hK => ?_ | refine bk ?_
  refine wc (fun c6 => ?_) fun c6 => ?_
  replace c6 := t_eq c6
  repeat first | refine sk fun K hK => ?_ | refine bk ?_ | refine rn fun _ => ?_
  refine xC ?_
  refine wn [2] ?_
  refine WC.ret (wR (h) ?_)
  exact ⟨by unfold primP; rw [if_neg c4, if_pos c6], rfl⟩
  replace c6 := f_eq c6
  repeat first | refine sk fun K hK => ?_ | refine bk ?_ | refine rn fun _ => ?_
  refine xG (PO.bin Et Ev.const rfl) ?_
  refine xA ?_
  refine wn [8] ?_
  repeat first | refine sk fun K hK => ?_ | refine bk ?_
  refine wc (fun c8 => ?_) fun c8 => ?_
  replace c8 := t_eq c8
  repeat first | refine sk fun K hK => ?_ | refine bk ?_ | refine rn fun _ => ?_
  refine xC ?_
  refine wn [2] ?_
  refine WC.ret (wR (h) ?_)
  exact ⟨by unfold primP; rw [if_neg c4, if_neg c6, if_pos c8], rfl⟩
  replace c8 := f_eq c8
  refine WC.skip (kp [] ?_)
  repeat first | refine sk fun K hK => ?_ | refine bk ?_ | refine rn fun _ => ?_
  refine xC ?_
  refine wn [2] ?_
  refine WC.ret (wR (h) ?_)
  exact ⟨by unfold primP; rw [if_neg c4, if_neg c6, if_neg c8], rfl⟩
theorem parts_ct {m : View} (hg : Glob m) (e : Ex) (hw : Wf e) (h : List Res) : CT Tryz.prog 37 [exV e] h m (Pure1 h (.tuple #[.int .i64 (partsP e).1, .bool (partsP e).2])) := by
  obtain ⟨⟨hk, ho, ht⟩, hn, hs⟩ := hw.spec
  have hs2 : e.s.length ≤ 9223372036854775807 := by omega
  refine CT.body Tryz.call37 Tryz.func37 rfl Tryz.ntmps37 (leB rfl) rfl ?_
  repeat first | refine sk fun K hK => ?_ | refine bk ?_ | refine rn fun _ => ?_
  refine xX fun b1 => ?_
  refine xC ?_
  refine xC ?_
  refine wn [1, 2] ?_
  repeat first | refine sk fun K hK => ?_ | refine bk ?_ | refine rn fun _ => ?_
  refine xG (pA Tryz.underlying27) ?_
  refine xW fun b4 => ?_
  refine xS ?_
  refine wn [1, 2, 4] ?_
  repeat first | refine sk fun K hK => ?_ | refine bk ?_ | refine rn fun _ => ?_
  refine xF Tryz.underlying27 ?_
  refine xS ?_
  refine xF Tryz.underlying27 ?_
  refine xS ?_
  refine wn [1, 2, 4] ?_
  repeat first | refine sk fun K hK => ?_ | refine bk ?_ | refine rn fun _ => ?_
  refine xF Tryz.underlying27 ?_
  refine xG (pL Tryz.underlying22) ?_
  refine wn [1, 2, 4, 9] ?_
  (repeat refine WC.seqK fun K hK => ?_)
  refine WC.cutK (by assumption) [4] rfl (fun F' h' => ∃ nn : Int, ∃ o' : Int, ∃ t' : Int, ∃ n' : Int, ∃ s' : B, (partsP e = (nn, fin o' t' n' s')) ∧ F' = [(2, .int .i64 nn)] ∧ .pt b4 (.cells [.int .u8 0, .int .u8 o', .int .u8 t', .int .i32 n', str s', .slice none 0 0].toArray 27 (0, 0)) :: h = h') ?_ ?_
  repeat first | refine sk fun K hK => ?_ | refine bk ?_ | refine rn fun _ => ?_
  refine xG (PO.bin Et Ev.const rfl) ?_
  refine xA ?_
  refine wn [1, 2, 4, 9, 10] ?_
  repeat first | refine sk fun K hK => ?_ | refine bk ?_
  refine wc (fun c10 => ?_) fun c10 => ?_
  replace c10 := t_eq c10
  repeat first | refine sk fun K hK => ?_ | refine bk ?_ | refine rn fun _ => ?_
  refine xF Tryz.underlying27 ?_
  refine xS ?_
  refine WL.nil (meetI [(2, .int .i64 0)] (h'' := .pt b4 (.cells [.int .u8 0, .int .u8 (e.o), .int .u8 (e.t), .int .i32 0, str (e.s), .slice none 0 0].toArray 27 (0, 0)) :: h) ?_ (by (repeat (first | exact Sub.nil | refine Sub.cons rfl ?_ | refine Sub.consE rfl (by simp; done) ?_))) Sb ⟨0, e.o, e.t, 0, e.s, by simp [partsP, c10], rfl, rfl⟩)
  (repeat (first | exact Sub.nil | refine Sub.cons rfl ?_ | refine Sub.consE rfl (by simp; done) ?_))
  replace c10 := f_eq c10
  repeat first | refine sk fun K hK => ?_ | refine bk ?_ | refine rn fun _ => ?_
  refine xG (PO.bin Et Ev.const rfl) ?_
  refine xA ?_
  refine wn [1, 2, 4, 9, 13] ?_
  repeat first | refine sk fun K hK => ?_ | refine bk ?_
  refine wc (fun c13 => ?_) fun c13 => ?_
  replace c13 := t_eq c13
  repeat first | refine sk fun K hK => ?_ | refine bk ?_ | refine rn fun _ => ?_
  refine xF Tryz.underlying27 ?_
  refine xG (pL Tryz.underlying21) ?_
  refine xG (PO.shr Et Ev.const (by decide)) ?_
  refine xG (PO.bin Et Ev.const rfl) ?_
  refine wn [2, 4, 18] ?_
  repeat first | refine sk fun K hK => ?_ | refine bk ?_
  refine wc (fun c18 => ?_) fun c18 => ?_
  replace c18 := t_ne c18
  repeat first | refine sk fun K hK => ?_ | refine bk ?_ | refine rn fun _ => ?_
  refine xC ?_
  refine xC ?_
  refine wn [2, 3] ?_
  refine WC.ret (end2 (h' := h) (.inl rfl) rfl (RV.tmp rfl) (RV.tmp rfl) (View.le.refl m) Sb ?_)
  exact ⟨by simp [partsP, c13, c18], rfl⟩
  replace c18 := f_ne c18
  refine WC.skip (kp [2, 4] ?_)
  repeat first | refine sk fun K hK => ?_ | refine bk ?_ | refine rn fun _ => ?_
  refine xF Tryz.underlying27 ?_
  refine xS ?_
  refine WL.nil (meetI [(2, .int .i64 0)] (h'' := .pt b4 (.cells [.int .u8 0, .int .u8 (e.o), .int .u8 (e.t), .int .i32 0, str (e.s), .slice none 0 0].toArray 27 (0, 0)) :: h) ?_ (by (repeat (first | exact Sub.nil | refine Sub.cons rfl ?_ | refine Sub.consE rfl (by simp; done) ?_))) Sb ⟨0, e.o, e.t, 0, e.s, by simp [partsP, c13, c18], rfl, rfl⟩)
  (repeat (first | exact Sub.nil | refine Sub.cons rfl ?_ | refine Sub.consE rfl (by simp; done) ?_))
  replace c13 := f_eq c13
  repeat first | refine sk fun K hK => ?_ | refine bk ?_ | refine rn fun _ => ?_
  refine xG (PO.bin Et Ev.const rfl) ?_
  refine xA ?_
  refine wn [1, 2, 4, 9, 20] ?_
  repeat first | refine sk fun K hK => ?_ | refine bk ?_
  refine wc (fun c20 => ?_) fun c20 => ?_
  replace c20 := t_eq c20
  repeat first | refine sk fun K hK => ?_ | refine bk ?_ | refine rn fun _ => ?_
  refine xF Tryz.underlying27 ?_
  refine xG (pL Tryz.underlying21) ?_
  refine xG (PO.shr Et Ev.const (by decide)) ?_
  refine xG (PO.bin Et Ev.const rfl) ?_
  refine wn [2, 4, 25] ?_
  repeat first | refine sk fun K hK => ?_ | refine bk ?_
  refine wc (fun c25 => ?_) fun c25 => ?_
  replace c25 := t_ne c25
  repeat first | refine sk fun K hK => ?_ | refine bk ?_ | refine rn fun _ => ?_
  refine xC ?_
  refine xC ?_
  refine wn [2, 3] ?_
  refine WC.ret (end2 (h' := h) (.inl rfl) rfl (RV.tmp rfl) (RV.tmp rfl) (View.le.refl m) Sb ?_)
  exact ⟨by simp [partsP, c20, c25], rfl⟩
  replace c25 := f_ne c25
  refine WC.skip (kp [2, 4] ?_)
  repeat first | refine sk fun K hK => ?_ | refine bk ?_ | refine rn fun _ => ?_
  refine xF Tryz.underlying27 ?_
  refine xS ?_
  refine WL.nil (meetI [(2, .int .i64 0)] (h'' := .pt b4 (.cells [.int .u8 0, .int .u8 (e.o), .int .u8 (e.t), .int .i32 0, str (e.s), .slice none 0 0].toArray 27 (0, 0)) :: h) ?_ (by (repeat (first | exact Sub.nil | refine Sub.cons rfl ?_ | refine Sub.consE rfl (by simp; done) ?_))) Sb ⟨0, e.o, e.t, 0, e.s, by simp [partsP, c20, c25], rfl, rfl⟩)
  (repeat (first | exact Sub.nil | refine Sub.cons rfl ?_ | refine Sub.consE rfl (by simp; done) ?_))
  replace c20 := f_eq c20
  repeat first | refine sk fun K hK => ?_ | refine bk ?_ | refine rn fun _ => ?_
  refine xG (PO.bin Et Ev.const rfl) ?_
  refine xA ?_
  refine wn [1, 2, 4, 9, 27] ?_
  repeat first | refine sk fun K hK => ?_ | refine bk ?_
  refine wc (fun c27 => ?_) fun c27 => ?_
  have hk4 : e.k = 4 := t_eq c27
  refine WC.skip (kp [1, 2, 4, 9, 27] ?_)
  repeat first | refine sk fun K hK => ?_ | refine bk ?_
  refine wc (fun c27 => ?_) fun c27 => ?_
  repeat first | refine sk fun K hK => ?_ | refine bk ?_ | refine rn fun _ => ?_
  refine xF Tryz.underlying27 ?_
  refine xG (pL Tryz.underlying9) ?_
  refine xf (E1 Et) (name_ct _ _ _ hg (by assumption)) ?_
  refine xG (PO.not Et) ?_
  refine wn [1, 2, 4, 34] ?_
  repeat first | refine sk fun K hK => ?_ | refine bk ?_
  refine wc (fun c34 => ?_) fun c34 => ?_
  have hnm : Go.Lx.name e.s = false := by simpa using c34
  repeat first | refine sk fun K hK => ?_ | refine bk ?_ | refine rn fun _ => ?_
  refine xC ?_
  refine xC ?_
  refine wn [2, 3] ?_
  refine WC.ret (end2 (h' := h) (.inl rfl) rfl (RV.tmp rfl) (RV.tmp rfl) (View.le.refl m) Sb ?_)
  exact ⟨by first | simp [partsP, hk4, hnm] | simp [partsP, hk9, hnm] | simp [partsP, hk5, hnm], rfl⟩
  have hnm : Go.Lx.name e.s = true := by simpa using c34
  refine WC.skip (kp [1, 2, 4] ?_)
  repeat first | refine sk fun K hK => ?_ | refine bk ?_ | refine rn fun _ => ?_
  refine xF Tryz.underlying27 ?_
  refine xS ?_
  refine wn [1, 2, 4] ?_
  repeat first | refine sk fun K hK => ?_ | refine bk ?_ | refine rn fun _ => ?_
  refine xF Tryz.underlying27 ?_
  refine xG (pL Tryz.underlying22) ?_
  refine xG (PO.bin Et Ev.const rfl) ?_
  refine wn [2, 4, 38] ?_
  repeat first | refine sk fun K hK => ?_ | refine bk ?_
  refine wc (fun c38 => ?_) fun c38 => ?_
  replace c38 := t_eq c38
  repeat first | refine sk fun K hK => ?_ | refine bk ?_ | refine rn fun _ => ?_
  refine xC ?_
  refine WL.nil (meetI [(2, .int .i64 1)] (h'' := .pt b4 (.cells [.int .u8 0, .int .u8 (e.o), .int .u8 (e.t), .int .i32 (e.n), str ([]), .slice none 0 0].toArray 27 (0, 0)) :: h) ?_ (by (repeat (first | exact Sub.nil | refine Sub.cons rfl ?_ | refine Sub.consE rfl (by simp; done) ?_))) Sb ⟨1, e.o, e.t, e.n, [], by simp [partsP, c38, hnm], rfl, rfl⟩)
  (repeat (first | exact Sub.nil | refine Sub.cons rfl ?_ | refine Sub.consE rfl (by simp; done) ?_))
  replace c38 := f_eq c38
  have hq : partsP e = (0, fin e.o e.t e.n []) := by first | exact absurd hk5 c38 | simp [partsP, hk4, hnm] | simp [partsP, hk9, hnm]
  refine WC.skip (meetI [(2, .int .i64 0)] (h'' := .pt b4 (.cells [.int .u8 0, .int .u8 (e.o), .int .u8 (e.t), .int .i32 (e.n), str ([]), .slice none 0 0].toArray 27 (0, 0)) :: h) ?_ (by (repeat (first | exact Sub.nil | refine Sub.cons rfl ?_ | refine Sub.consE rfl (by simp; done) ?_))) Sb ⟨0, e.o, e.t, e.n, [], hq, rfl, rfl⟩)
  (repeat (first | exact Sub.nil | refine Sub.cons rfl ?_ | refine Sub.consE rfl (by simp; done) ?_))
  exact absurd hk4 (f_eq c27)
  have n4 : e.k ≠ 4 := f_eq c27
  repeat first | refine sk fun K hK => ?_ | refine bk ?_ | refine rn fun _ => ?_
  refine xG (PO.bin Et Ev.const rfl) ?_
  refine xA ?_
  refine wn [1, 2, 4, 9, 27] ?_
  repeat first | refine sk fun K hK => ?_ | refine bk ?_
  refine wc (fun c27 => ?_) fun c27 => ?_
  have hk9 : e.k = 9 := t_eq c27
  refine WC.skip (kp [1, 2, 4, 9, 27] ?_)
  repeat first | refine sk fun K hK => ?_ | refine bk ?_
  refine wc (fun c27 => ?_) fun c27 => ?_
  repeat first | refine sk fun K hK => ?_ | refine bk ?_ | refine rn fun _ => ?_
  refine xF Tryz.underlying27 ?_
  refine xG (pL Tryz.underlying9) ?_
  refine xf (E1 Et) (name_ct _ _ _ hg (by assumption)) ?_
  refine xG (PO.not Et) ?_
  refine wn [1, 2, 4, 34] ?_
  repeat first | refine sk fun K hK => ?_ | refine bk ?_
  refine wc (fun c34 => ?_) fun c34 => ?_
  have hnm : Go.Lx.name e.s = false := by simpa using c34
  repeat first | refine sk fun K hK => ?_ | refine bk ?_ | refine rn fun _ => ?_
  refine xC ?_
  refine xC ?_
  refine wn [2, 3] ?_
  refine WC.ret (end2 (h' := h) (.inl rfl) rfl (RV.tmp rfl) (RV.tmp rfl) (View.le.refl m) Sb ?_)
  exact ⟨by first | simp [partsP, hk4, hnm] | simp [partsP, hk9, hnm] | simp [partsP, hk5, hnm], rfl⟩
  have hnm : Go.Lx.name e.s = true := by simpa using c34
  refine WC.skip (kp [1, 2, 4] ?_)
  repeat first | refine sk fun K hK => ?_ | refine bk ?_ | refine rn fun _ => ?_
  refine xF Tryz.underlying27 ?_
  refine xS ?_
  refine wn [1, 2, 4] ?_
  repeat first | refine sk fun K hK => ?_ | refine bk ?_ | refine rn fun _ => ?_
  refine xF Tryz.underlying27 ?_
  refine xG (pL Tryz.underlying22) ?_
  refine xG (PO.bin Et Ev.const rfl) ?_
  refine wn [2, 4, 38] ?_
  repeat first | refine sk fun K hK => ?_ | refine bk ?_
  refine wc (fun c38 => ?_) fun c38 => ?_
  replace c38 := t_eq c38
  repeat first | refine sk fun K hK => ?_ | refine bk ?_ | refine rn fun _ => ?_
  refine xC ?_
  refine WL.nil (meetI [(2, .int .i64 1)] (h'' := .pt b4 (.cells [.int .u8 0, .int .u8 (e.o), .int .u8 (e.t), .int .i32 (e.n), str ([]), .slice none 0 0].toArray 27 (0, 0)) :: h) ?_ (by (repeat (first | exact Sub.nil | refine Sub.cons rfl ?_ | refine Sub.consE rfl (by simp; done) ?_))) Sb ⟨1, e.o, e.t, e.n, [], by simp [partsP, c38, hnm], rfl, rfl⟩)
  (repeat (first | exact Sub.nil | refine Sub.cons rfl ?_ | refine Sub.consE rfl (by simp; done) ?_))
  replace c38 := f_eq c38
  have hq : partsP e = (0, fin e.o e.t e.n []) := by first | exact absurd hk5 c38 | simp [partsP, hk4, hnm] | simp [partsP, hk9, hnm]
  refine WC.skip (meetI [(2, .int .i64 0)] (h'' := .pt b4 (.cells [.int .u8 0, .int .u8 (e.o), .int .u8 (e.t), .int .i32 (e.n), str ([]), .slice none 0 0].toArray 27 (0, 0)) :: h) ?_ (by (repeat (first | exact Sub.nil | refine Sub.cons rfl ?_ | refine Sub.consE rfl (by simp; done) ?_))) Sb ⟨0, e.o, e.t, e.n, [], hq, rfl, rfl⟩)
  (repeat (first | exact Sub.nil | refine Sub.cons rfl ?_ | refine Sub.consE rfl (by simp; done) ?_))
  exact absurd hk9 (f_eq c27)
  have n9 : e.k ≠ 9 := f_eq c27
  repeat first | refine sk fun K hK => ?_ | refine bk ?_ | refine rn fun _ => ?_
  refine xG (PO.bin Et Ev.const rfl) ?_
  refine xA ?_
  refine wn [1, 2, 4, 9, 27] ?_
  repeat first | refine sk fun K hK => ?_ | refine bk ?_
  refine wc (fun c27 => ?_) fun c27 => ?_
  have hk5 : e.k = 5 := t_eq c27
  repeat first | refine sk fun K hK => ?_ | refine bk ?_ | refine rn fun _ => ?_
  refine xF Tryz.underlying27 ?_
  refine xG (pL Tryz.underlying9) ?_
  refine xf (E1 Et) (name_ct _ _ _ hg (by assumption)) ?_
  refine xG (PO.not Et) ?_
  refine wn [1, 2, 4, 34] ?_
  repeat first | refine sk fun K hK => ?_ | refine bk ?_
  refine wc (fun c34 => ?_) fun c34 => ?_
  have hnm : Go.Lx.name e.s = false := by simpa using c34
  repeat first | refine sk fun K hK => ?_ | refine bk ?_ | refine rn fun _ => ?_
  refine xC ?_
  refine xC ?_
  refine wn [2, 3] ?_
  refine WC.ret (end2 (h' := h) (.inl rfl) rfl (RV.tmp rfl) (RV.tmp rfl) (View.le.refl m) Sb ?_)
  exact ⟨by first | simp [partsP, hk4, hnm] | simp [partsP, hk9, hnm] | simp [partsP, hk5, hnm], rfl⟩
  have hnm : Go.Lx.name e.s = true := by simpa using c34
  refine WC.skip (kp [1, 2, 4] ?_)
  repeat first | refine sk fun K hK => ?_ | refine bk ?_ | refine rn fun _ => ?_
  refine xF Tryz.underlying27 ?_
  refine xS ?_
  refine wn [1, 2, 4] ?_
  repeat first | refine sk fun K hK => ?_ | refine bk ?_ | refine rn fun _ => ?_
  refine xF Tryz.underlying27 ?_
  refine xG (pL Tryz.underlying22) ?_
  refine xG (PO.bin Et Ev.const rfl) ?_
  refine wn [2, 4, 38] ?_
  repeat first | refine sk fun K hK => ?_ | refine bk ?_
  refine wc (fun c38 => ?_) fun c38 => ?_
  replace c38 := t_eq c38
  repeat first | refine sk fun K hK => ?_ | refine bk ?_ | refine rn fun _ => ?_
  refine xC ?_
  refine WL.nil (meetI [(2, .int .i64 1)] (h'' := .pt b4 (.cells [.int .u8 0, .int .u8 (e.o), .int .u8 (e.t), .int .i32 (e.n), str ([]), .slice none 0 0].toArray 27 (0, 0)) :: h) ?_ (by (repeat (first | exact Sub.nil | refine Sub.cons rfl ?_ | refine Sub.consE rfl (by simp; done) ?_))) Sb ⟨1, e.o, e.t, e.n, [], by simp [partsP, c38, hnm], rfl, rfl⟩)
  (repeat (first | exact Sub.nil | refine Sub.cons rfl ?_ | refine Sub.consE rfl (by simp; done) ?_))
  replace c38 := f_eq c38
  have hq : partsP e = (0, fin e.o e.t e.n []) := by first | exact absurd hk5 c38 | simp [partsP, hk4, hnm] | simp [partsP, hk9, hnm]
  refine WC.skip (meetI [(2, .int .i64 0)] (h'' := .pt b4 (.cells [.int .u8 0, .int .u8 (e.o), .int .u8 (e.t), .int .i32 (e.n), str ([]), .slice none 0 0].toArray 27 (0, 0)) :: h) ?_ (by (repeat (first | exact Sub.nil | refine Sub.cons rfl ?_ | refine Sub.consE rfl (by simp; done) ?_))) Sb ⟨0, e.o, e.t, e.n, [], hq, rfl, rfl⟩)
  (repeat (first | exact Sub.nil | refine Sub.cons rfl ?_ | refine Sub.consE rfl (by simp; done) ?_))
  have n5 : e.k ≠ 5 := f_eq c27
  repeat first | refine sk fun K hK => ?_ | refine bk ?_ | refine rn fun _ => ?_
  refine xG (PO.bin Et Ev.const rfl) ?_
  refine xA ?_
  refine wn [1, 4, 9, 39] ?_
  repeat first | refine sk fun K hK => ?_ | refine bk ?_
  refine wc (fun c39 => ?_) fun c39 => ?_
  replace c39 := t_eq c39
  repeat first | refine sk fun K hK => ?_ | refine bk ?_ | refine rg fun ops hG => ?_
  refine xF Tryz.underlying27 ?_
  refine xG (pL Tryz.underlying23) ?_
  refine xG (PO.bin Et Ev.const rfl) ?_
  refine xM ?_
  refine zG (fun _ => pF Tryz.underlying27) ?_
  refine zG (fun hc => PO.load1 Tryz.underlying23 rfl (Eg hc) Me rfl) ?_
  refine zG (fun hc => PO.bin (Eg hc) Ev.const rfl) ?_
  refine zG (fun hc => PO.bin (Eg hc) Ev.const rfl) ?_
  refine xQ ?_
  refine wn [4, 49] ?_
  try clear hG ops
  repeat first | refine sk fun K hK => ?_ | refine bk ?_
  refine wc (fun c49 => ?_) fun c49 => ?_
  repeat first | refine sk fun K hK => ?_ | refine bk ?_ | refine rn fun _ => ?_
  refine xC ?_
  refine xC ?_
  refine wn [2, 3] ?_
  refine WC.ret (end2 (h' := h) (.inl rfl) rfl (RV.tmp rfl) (RV.tmp rfl) (View.le.refl m) Sb ?_)
  exact ⟨by simp only [partsP, c39, c49]; rfl, rfl⟩
  refine WC.skip (kp [4] ?_)
  repeat first | refine sk fun K hK => ?_ | refine bk ?_ | refine rn fun _ => ?_
  refine xC ?_
  refine xF Tryz.underlying27 ?_
  refine xS ?_
  refine WL.nil (meetI [(2, .int .i64 1)] (h'' := .pt b4 (.cells [.int .u8 0, .int .u8 0, .int .u8 (e.t), .int .i32 (e.n), str (e.s), .slice none 0 0].toArray 27 (0, 0)) :: h) ?_ (by (repeat (first | exact Sub.nil | refine Sub.cons rfl ?_ | refine Sub.consE rfl (by simp; done) ?_))) Sb ⟨1, 0, e.t, e.n, e.s, by simp only [partsP, c39, c49]; rfl, rfl, rfl⟩)
  (repeat (first | exact Sub.nil | refine Sub.cons rfl ?_ | refine Sub.consE rfl (by simp; done) ?_))
  replace c39 := f_eq c39
  repeat first | refine sk fun K hK => ?_ | refine bk ?_ | refine rn fun _ => ?_
  refine xG (PO.bin Et Ev.const rfl) ?_
  refine xA ?_
  refine wn [1, 4, 9, 51] ?_
  repeat first | refine sk fun K hK => ?_ | refine bk ?_
  refine wc (fun c51 => ?_) fun c51 => ?_
  replace c51 := t_eq c51
  repeat first | refine sk fun K hK => ?_ | refine bk ?_ | refine rg fun ops hG => ?_
  refine xF Tryz.underlying27 ?_
  refine xG (pL Tryz.underlying23) ?_
  refine xG (PO.bin Et Ev.const rfl) ?_
  refine xM ?_
  refine zG (fun _ => pF Tryz.underlying27) ?_
  refine zG (fun hc => PO.load1 Tryz.underlying23 rfl (Eg hc) Me rfl) ?_
  refine zG (fun hc => PO.bin (Eg hc) Ev.const rfl) ?_
  refine xQ ?_
  refine wn [4, 60] ?_
  try clear hG ops
  repeat first | refine sk fun K hK => ?_ | refine bk ?_
  refine wc (fun c60 => ?_) fun c60 => ?_
  repeat first | refine sk fun K hK => ?_ | refine bk ?_ | refine rn fun _ => ?_
  refine xC ?_
  refine xC ?_
  refine wn [2, 3] ?_
  refine WC.ret (end2 (h' := h) (.inl rfl) rfl (RV.tmp rfl) (RV.tmp rfl) (View.le.refl m) Sb ?_)
  exact ⟨by simp only [partsP, c51, c60]; rfl, rfl⟩
  refine WC.skip (kp [4] ?_)
  repeat first | refine sk fun K hK => ?_ | refine bk ?_ | refine rn fun _ => ?_
  refine xC ?_
  refine xF Tryz.underlying27 ?_
  refine xS ?_
  refine WL.nil (meetI [(2, .int .i64 2)] (h'' := .pt b4 (.cells [.int .u8 0, .int .u8 0, .int .u8 (e.t), .int .i32 (e.n), str (e.s), .slice none 0 0].toArray 27 (0, 0)) :: h) ?_ (by (repeat (first | exact Sub.nil | refine Sub.cons rfl ?_ | refine Sub.consE rfl (by simp; done) ?_))) Sb ⟨2, 0, e.t, e.n, e.s, by simp only [partsP, c51, c60]; rfl, rfl, rfl⟩)
  (repeat (first | exact Sub.nil | refine Sub.cons rfl ?_ | refine Sub.consE rfl (by simp; done) ?_))
  replace c51 := f_eq c51
  repeat first | refine sk fun K hK => ?_ | refine bk ?_ | refine rn fun _ => ?_
  refine xG (PO.bin Et Ev.const rfl) ?_
  refine xA ?_
  refine wn [1, 4, 62] ?_
  repeat first | refine sk fun K hK => ?_ | refine bk ?_
  refine wc (fun c62 => ?_) fun c62 => ?_
  replace c62 := t_eq c62
  repeat first | refine sk fun K hK => ?_ | refine bk ?_ | refine rn fun _ => ?_
  refine xF Tryz.underlying27 ?_
  refine xG (pL Tryz.underlying24) ?_
  refine xf (E1 Et) (prim_ct _ _ _) ?_
  refine xG (PO.eqlS Et Ev.const) ?_
  refine wn [4, 67] ?_
  repeat first | refine sk fun K hK => ?_ | refine bk ?_
  refine wc (fun c67 => ?_) fun c67 => ?_
  repeat first | refine sk fun K hK => ?_ | refine bk ?_ | refine rn fun _ => ?_
  refine xC ?_
  refine xC ?_
  refine wn [2, 3] ?_
  refine WC.ret (end2 (h' := h) (.inl rfl) rfl (RV.tmp rfl) (RV.tmp rfl) (View.le.refl m) Sb ?_)
  exact ⟨by simp only [partsP, c62, c67]; rfl, rfl⟩
  refine WC.skip (kp [4] ?_)
  repeat first | refine sk fun K hK => ?_ | refine bk ?_ | refine rn fun _ => ?_
  refine xC ?_
  refine xF Tryz.underlying27 ?_
  refine xS ?_
  refine WL.nil (meetI [(2, .int .i64 1)] (h'' := .pt b4 (.cells [.int .u8 0, .int .u8 (e.o), .int .u8 0, .int .i32 (e.n), str (e.s), .slice none 0 0].toArray 27 (0, 0)) :: h) ?_ (by (repeat (first | exact Sub.nil | refine Sub.cons rfl ?_ | refine Sub.consE rfl (by simp; done) ?_))) Sb ⟨1, e.o, 0, e.n, e.s, by simp only [partsP, c62, c67]; rfl, rfl, rfl⟩)
  (repeat (first | exact Sub.nil | refine Sub.cons rfl ?_ | refine Sub.consE rfl (by simp; done) ?_))
  replace c62 := f_eq c62
  repeat first | refine sk fun K hK => ?_ | refine bk ?_ | refine rn fun _ => ?_
  refine xC ?_
  refine xC ?_
  refine wn [2, 3] ?_
  refine WC.ret (end2 (h' := h) (.inl rfl) rfl (RV.tmp rfl) (RV.tmp rfl) (View.le.refl m) Sb ?_)
  exact ⟨by simp [partsP, c10, c13, c20, n4, n9, n5, c39, c51, c62], rfl⟩
  rintro _ _ ⟨nn, o', t', n', s', hJ, rfl, rfl⟩
  refine WC.frm rfl ?_
  repeat first | refine sk fun K hK => ?_ | refine bk ?_
  refine WC.drawS [] (.op 0 (.op 1 (.op 2 (.op 3 (.op 4 (.op 5 (.op 6 (.op 7 (.op 8 (.op 9 (.op 10 (.op 11 (.op 12 (.op 13 (.op 14 (.op 15 (.op 16 (.op 17 (.op 18 (.op 19 .nil)))))))))))))))))))) [20] _ [] mixed (fun _ _ _ _ _ h => h) [] (by kernel_rfl) ?_
  refine yG rfl (PO.move Et) ?_
  refine yG rfl (pF Tryz.underlying27) ?_
  refine yG rfl (pL Tryz.underlying23) ?_
  refine yG rfl (PO.bin Et Ev.const rfl) ?_
  refine yG rfl (PO.move Et) ?_
  refine SR.poG rfl rfl (GU.t rfl rfl) (fun hc => PO.fieldAddr Tryz.underlying27 rfl (Nat.ne_of_beq_eq_false rfl) Et) (leB rfl) ?_
  refine SR.poG rfl rfl (GU.t rfl rfl) (fun hc => PO.load1 Tryz.underlying24 rfl (Eg hc) Me rfl) (leB rfl) ?_
  refine SR.poG rfl rfl (GU.t rfl rfl) (fun hc => PO.bin (Eg hc) Ev.const rfl) (leB rfl) ?_
  refine yG rfl (PO.pickAnd rfl rfl) ?_
  refine yG rfl (PO.move Et) ?_
  refine SR.poG rfl rfl (GU.t rfl rfl) (fun hc => PO.fieldAddr Tryz.underlying27 rfl (Nat.ne_of_beq_eq_false rfl) Et) (leB rfl) ?_
  refine SR.poG rfl rfl (GU.t rfl rfl) (fun hc => PO.load1 Tryz.underlying21 rfl (Eg hc) Me rfl) (leB rfl) ?_
  refine SR.poG rfl rfl (GU.t rfl rfl) (fun hc => PO.bin (Eg hc) Ev.const rfl) (leB rfl) ?_
  refine yG rfl (PO.pickAnd rfl rfl) ?_
  refine yG rfl (PO.move Et) ?_
  refine SR.poG rfl rfl (GU.t rfl rfl) (fun hc => PO.fieldAddr Tryz.underlying27 rfl (Nat.ne_of_beq_eq_false rfl) Et) (leB rfl) ?_
  refine SR.poG rfl rfl (GU.t rfl rfl) (fun hc => PO.load1 Tryz.underlying9 rfl (Eg hc) Me rfl) (leB rfl) ?_
  refine SR.poG rfl rfl (GU.t rfl rfl) (fun hc => PO.eqlS (Eg hc) Ev.const) (leB rfl) ?_
  refine yG rfl (PO.pickAnd rfl rfl) ?_
  refine yG rfl (PO.assign Et) ?_
  refine SR.nil rfl rfl ?_
  refine xA ?_
  refine wn [2, 3] ?_
  try clear hG ops
  refine WC.ret (end2 (h' := h) (.inl rfl) rfl (RV.tmp rfl) (RV.tmp rfl) (View.le.refl m) Sb ?_)
  exact ⟨by rw [hJ]; rfl, rfl⟩
end Go.Proofs.YtdhmplmpbcnojaaGreatDoor
end
/- ExpB -/
section
namespace Go.Proofs.YtdhmplmpbcnojaaGreatDoor
open Go.Eng Go.Xp Go
set_option maxRecDepth 100000
end Go.Proofs.YtdhmplmpbcnojaaGreatDoor
end
/- ExpD -/
section
namespace Go.Proofs.YtdhmplmpbcnojaaGreatDoor
open Go.Eng Go.Xp Go
set_option maxRecDepth 100000
abbrev lftR (b : Nat) (v : Int) : Res := .pt b (.cells [Value.int .i64 v].toArray 3 (0, 0))
abbrev visR (bl bv : Nat) : Res := .pt bv (.cells [Value.func (.func 36) #[] #[.pointer (some ⟨bl, 0, none⟩), .pointer (some ⟨bv, 0, none⟩)]].toArray 97 (0, 0))
theorem visit_ct {m : View} (hg : Glob m) (bl bv : Nat) (e : Ex) : ∀ (h : List Res) (deep left : Int), visR bl bv ∈ h → TOk m h e → Wf e → (0 ≤ deep ∧ deep ≤ 33) → (0 ≤ left ∧ left ≤ 1000000) →
    CT Tryz.prog 36 [exV e, .int .i64 deep, .pointer (some ⟨bl, 0, none⟩), .pointer (some ⟨bv, 0, none⟩)] (lftR bl left :: h) m
      (fun v _ h' => ∃ left', v = .bool (visitE deep left e).isSome ∧ (∀ q, visitE deep left e = some q → left' = q) ∧ h' = lftR bl left' :: h) := by
  refine Ex.ind (p := fun e => ∀ (h : List Res) (deep left : Int), visR bl bv ∈ h → TOk m h e → Wf e → (0 ≤ deep ∧ deep ≤ 33) → (0 ≤ left ∧ left ≤ 1000000) →
    CT Tryz.prog 36 [exV e, .int .i64 deep, .pointer (some ⟨bl, 0, none⟩), .pointer (some ⟨bv, 0, none⟩)] (lftR bl left :: h) m
      (fun v _ h' => ∃ left', v = .bool (visitE deep left e).isSome ∧ (∀ q, visitE deep left e = some q → left' = q) ∧ h' = lftR bl left' :: h)) (fun e ih h deep left hv hT hW hd hl => ?_) e
  have hr := hT.rd
  have hmx := hr.mx
  have hkx := hr.le
  have he := visitE_eq deep left e
  refine CT.body Tryz.call36 Tryz.func36 rfl Tryz.ntmps36 (leB rfl) rfl ?_
  repeat first | refine sk fun K hK => ?_ | refine bk ?_ | refine rn fun _ => ?_
  refine xX fun b4 => ?_
  refine xC ?_
  refine wn [1, 2, 3, 4] ?_
  repeat first | refine sk fun K hK => ?_ | refine bk ?_ | refine rn fun _ => ?_
  refine xG (pA Tryz.underlying27) ?_
  refine xf (E1 Et) (parts_ct hg _ (by assumption) _) ?_
  refine xM ?_
  refine xE ?_
  refine xE ?_
  refine xA ?_
  refine xA ?_
  refine wn [1, 2, 3, 4, 7, 8] ?_
  repeat first | refine sk fun K hK => ?_ | refine bk ?_ | refine rn fun _ => ?_
  refine xG (pL Tryz.underlying3) ?_
  refine xG (PO.subI Et Ev.const (by omega)) ?_
  refine xS ?_
  refine wn [1, 2, 3, 4, 7, 8] ?_
  repeat first | refine sk fun K hK => ?_ | refine bk ?_ | refine rg fun ops hG => ?_
  refine xM ?_
  refine xG (PO.not Et) ?_
  refine xM ?_
  refine zG (fun _ => pL Tryz.underlying3) ?_
  refine zG (fun hc => PO.bin (Eg hc) Ev.const rfl) ?_
  refine xQ ?_
  refine xM ?_
  refine zM ?_
  refine zG (fun hc => PO.bin (Eg hc) Ev.const rfl) ?_
  refine xQ ?_
  refine xM ?_
  refine zG (fun _ => pF Tryz.underlying27) ?_
  refine zG (fun hc => PO.load1 Tryz.underlying25 rfl (Eg hc) Me rfl) ?_
  refine zG (fun hc => PO.lenSl Tryz.underlying25 (Eg hc)) ?_
  refine zM ?_
  refine zG (fun hc => PO.bin (Eg hc) (Eg hc) rfl) ?_
  refine xQ ?_
  refine wn [1, 3, 4, 34] ?_
  try clear hG ops
  repeat first | refine sk fun K hK => ?_ | refine bk ?_
  refine wc (fun c34 => ?_) fun c34 => ?_
  replace c34 : headE deep left e = true := c34
  rw [c34, if_pos rfl] at he
  repeat first | refine sk fun K hK => ?_ | refine bk ?_ | refine rn fun _ => ?_
  refine xC ?_
  refine wn [6] ?_
  refine WC.ret (wR (lftR bl (left - 1) :: h) ?_)
  exact ⟨_, by rw [he]; rfl, by (intro q hq; rw [he] at hq; cases hq), rfl⟩
  replace c34 : headE deep left e = false := c34
  rw [c34, if_neg (by decide)] at he
  have hb := head_no c34
  refine WC.skip (kp [1, 3, 4] ?_)
  repeat first | refine sk fun K hK => ?_ | refine bk ?_ | refine rn fun _ => ?_
  refine xF Tryz.underlying27 ?_
  refine xG (pL Tryz.underlying25) ?_
  refine xG (PO.lenSl Tryz.underlying25 Et) ?_
  refine xK ?_
  refine wn [1, 3, 36, 37, 38] ?_
  repeat first | refine sk fun K hK => ?_ | refine bk ?_
  refine WC.loopI [1, 3, 36, 37] rfl (fun μ F' h' => ∃ k : Nat, ∃ z : Int, ((k ≤ e.l.length ∧ 0 ≤ z ∧ z ≤ left) ∧ visitE deep left e = visitL (deep + 1) z (e.l.drop k)) ∧ e.l.length - k = μ ∧ F' = [(38, .int .i64 k)] ∧ .pt b4 (.cells (exE e).toArray 27 (0, 0)) :: lftR bl z :: h = h') (e.l.length - 0) [(38, .int .i64 0)] (h0 := .pt b4 (.cells (exE e).toArray 27 (0, 0)) :: lftR bl (left - 1) :: h) ?_ Sb ⟨0, left - 1, ⟨⟨by omega, by omega, by omega⟩, he⟩, rfl, rfl, rfl⟩ ?_
  (repeat (first | exact Sub.nil | refine Sub.cons rfl ?_ | refine Sub.consE rfl (by simp; done) ?_))
  rintro _ _ _ ⟨k, z, ⟨⟨hk, hz0, hz1⟩, hJ⟩, rfl, rfl, rfl⟩
  refine WC.frm rfl ?_
  have hrk : Rd m (.pt b4 (.cells (exE e).toArray 27 (0, 0)) :: lftR bl z :: h) e.a e.l.length e.c 6 (fl exE e.l) := hr.mono (View.le.refl m) Sb
  repeat first | refine sk fun K hK => ?_ | refine bk ?_ | refine rn fun _ => ?_
  refine xG (PO.bin Et Et rfl) ?_
  refine wn [1, 3, 36, 37, 38, 39] ?_
  repeat first | refine sk fun K hK => ?_ | refine bk ?_
  refine wc (fun c39 => ?_) fun c39 => ?_
  replace c39 := of_decide_eq_true c39
  obtain ⟨x, hx⟩ := get_some (l := e.l) (k := k) (by omega)
  have hxm := List.mem_of_getElem? hx
  rw [visitL_at hx] at hJ
  refine WC.skip (kp [1, 3, 36, 37, 38] ?_)
  repeat first | refine sk fun K hK => ?_ | refine bk ?_ | refine rn fun _ => ?_
  refine xG (PO.idx EL25.und EL25.size EL25.posz (Ev.tmp rfl) (Ev.tmp rfl) Rr rfl (by omega)) ?_
  refine xG (PO.loadFA Tryz.underlying27 rfl rfl exE_len Rr (Ev.tmp rfl) (by assumption) rfl rfl (Nat.succ_pos _)) ?_
  refine xW fun b10 => ?_
  refine xS ?_
  refine wn [1, 3, 10, 36, 37, 38] ?_
  repeat first | refine sk fun K hK => ?_ | refine bk ?_ | refine rn fun _ => ?_
  refine xG (PO.load1 Tryz.underlying97 rfl Et (List.mem_cons_of_mem _ (List.mem_cons_of_mem _ (List.mem_cons_of_mem _ hv))) rfl) ?_
  refine xG (pA Tryz.underlying27) ?_
  refine xM ?_
  refine xG (PO.addI Et Ev.const (by omega)) ?_
  refine WL.perm (Del.perm (r := lftR bl z) De) ?_
  refine WL.callK (Ev.tmp rfl) (Evs.cons (Ev.tmp rfl) (Evs.cons (Ev.tmp rfl) Evs.nil)) (ih x hxm _ (deep + 1) z (List.mem_cons_of_mem _ (List.mem_cons_of_mem _ hv)) ((hT.part hxm).mono Sb) (hW.part hxm) (by omega) (by omega)) (leB rfl) ?_
  rintro _ _ ⟨z46, rfl, y46, rfl⟩
  refine WL.perm (Del.perm (r := .pt b4 _) De) ?_
  refine xG (PO.not Et) ?_
  refine wn [1, 3, 36, 37, 38, 47] ?_
  repeat first | refine sk fun K hK => ?_ | refine bk ?_
  refine wc (fun c47 => ?_) fun c47 => ?_
  have hn : visitE (deep + 1) z x = none := by simpa using c47
  rw [hn] at hJ
  repeat first | refine sk fun K hK => ?_ | refine bk ?_ | refine rn fun _ => ?_
  refine xC ?_
  refine wn [6] ?_
  refine WC.ret (wR (lftR bl z46 :: h) ?_)
  exact ⟨_, by rw [hJ]; rfl, by (intro q hq; rw [hJ] at hq; cases hq), rfl⟩
  obtain ⟨q, hq⟩ : ∃ q, visitE (deep + 1) z x = some q := Option.isSome_iff_exists.1 (by simpa using c47)
  have hq2 := y46 q hq
  subst hq2
  have hrg := visit_rng _ _ _ _ hz0 hq
  rw [hq] at hJ
  refine WC.skip (kp [1, 3, 36, 37, 38] ?_)
  repeat first | refine sk fun K hK => ?_ | refine bk ?_ | refine rn fun _ => ?_
  refine xG (PO.addI Et Ev.const (by omega)) ?_
  refine xM ?_
  refine WL.nil (loopBackI (e.l.length - (k + 1)) [(38, .int .i64 (k + 1))] (h'' := .pt b4 (.cells (exE e).toArray 27 (0, 0)) :: lftR bl z46 :: h) (by omega) ?_ (by (repeat (first | exact Sub.nil | refine Sub.cons rfl ?_ | refine Sub.consE rfl (by simp; done) ?_))) Sb ⟨k + 1, z46, ⟨⟨by omega, by omega, by omega⟩, hJ⟩, rfl, rfl, rfl⟩)
  (repeat (first | exact Sub.nil | refine Sub.cons rfl ?_ | refine Sub.consE rfl (by simp; done) ?_))
  replace c39 := of_decide_eq_false c39
  rw [List.drop_eq_nil_of_le (by omega)] at hJ
  replace hJ : visitE deep left e = some z := hJ
  refine WC.exit (kp [] ?_)
  repeat first | refine sk fun K hK => ?_ | refine bk ?_ | refine rn fun _ => ?_
  refine xC ?_
  refine wn [6] ?_
  refine WC.ret (wR (lftR bl z :: h) ?_)
  exact ⟨_, by rw [hJ]; rfl, by (intro q hq; rw [hJ] at hq; cases hq; rfl), rfl⟩
theorem may_ct {m : View} (hg : Glob m) (e : Ex) (h : List Res) (hT : TOk m h e) (hW : Wf e) : CT Tryz.prog 17 [exV e] h m (Pure1 h (.bool (mayE e))) := by
  refine CT.body Tryz.call17 Tryz.func17 rfl Tryz.ntmps17 (leB rfl) rfl ?_
  repeat first | refine sk fun K hK => ?_ | refine bk ?_ | refine rn fun _ => ?_
  refine xX fun b1 => ?_
  refine xC ?_
  refine wn [1] ?_
  repeat first | refine sk fun K hK => ?_ | refine bk ?_ | refine rn fun _ => ?_
  refine xW fun b3 => ?_
  refine xS ?_
  refine wn [1, 3] ?_
  repeat first | refine sk fun K hK => ?_ | refine bk ?_ | refine rn fun _ => ?_
  refine xW fun b4 => ?_
  refine wn [1, 3, 4] ?_
  repeat first | refine sk fun K hK => ?_ | refine bk ?_ | refine rn fun _ => ?_
  refine xG (PO.makeFunc Evs.nil (Evs.cons Et (Evs.cons Et Evs.nil))) ?_
  refine xS ?_
  refine wn [1, 4] ?_
  repeat first | refine sk fun K hK => ?_ | refine bk ?_ | refine rn fun _ => ?_
  refine xG (pL Tryz.underlying97) ?_
  refine xG (pA Tryz.underlying27) ?_
  refine WL.perm (Del.perm (r := lftR b3 256) De) ?_
  refine WL.callK (Ev.tmp rfl) (Evs.cons (Ev.tmp rfl) (Evs.cons Ev.const Evs.nil)) (visit_ct hg b3 b4 e _ 1 256 Me (hT.mono Sb) hW (by omega) (by omega)) (leB rfl) ?_
  rintro _ _ ⟨z8, rfl, y8, rfl⟩
  refine xA ?_
  refine wn [2] ?_
  refine WC.ret (wR (h) ?_)
  exact ⟨rfl, rfl⟩
end Go.Proofs.YtdhmplmpbcnojaaGreatDoor
end

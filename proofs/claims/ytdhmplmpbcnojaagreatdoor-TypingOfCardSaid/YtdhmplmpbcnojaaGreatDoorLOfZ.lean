/- TpR TpS LwA LwB Door ArgE ArgP LOf -/
import Derived.Test.YtdhmplmpbcnojaaGreatDoorLOfZ5
import Derived.SevenTiedAt
import Derived.Test.YtdhmplmpbcnojaaGreatDoorCards
import Derived.Test.YtdhmplmpbcnojaaGreatDoorTie
import Derived.ChangeMaps5
/- TpR -/
section
namespace Go.Proofs.YtdhmplmpbcnojaaGreatDoor
open Go.Eng Go.Pc Go.Tg Go
open Go.Xp hiding B nameT
open Go.Ty (Ty Vr eqT tyV cellT PrOk VOk prL encV encV_len encI encI_len)
open Go.Lx (encB encB_len)
set_option maxRecDepth 100000
theorem scal_ct (k : Int) (h : List Res) (m : View) : CT Tryz.prog 44 [.int .u8 k] h m (Pure1 h (tyV (tyK k))) := by
  refine CT.body Tryz.call44 Tryz.func44 rfl Tryz.ntmps44 (leB rfl) rfl ?_
  repeat first | refine sk fun K hK => ?_ | refine bk ?_ | refine rn fun _ => ?_
  refine xW fun b2 => ?_
  refine wn [0, 2] ?_
  repeat first | refine sk fun K hK => ?_ | refine bk ?_ | refine rn fun _ => ?_
  refine xM ?_
  refine xG (PO.build Tryz.underlying30 rfl rfl rfl (EvP.cons Et EvP.nil) rfl) ?_
  refine xS ?_
  refine wn [2] ?_
  refine WC.ret (end1 (h' := h) (.inl rfl) rfl (RV.cellA Tryz.underlying30 rfl rfl rfl Me rfl) (View.le.refl m) Sb ?_)
  exact ⟨rfl, rfl⟩
theorem simR_eq (t : Ty) : simT t = ((((t.kind == 1) || (t.kind == 2)) || (t.kind == 3)) && eqT t (tyK t.kind)) := by
  unfold simT
  rw [Bool.eq_iff_iff]
  simp only [Bool.and_eq_true, Bool.or_eq_true, beq_iff_eq, decide_eq_true_eq]
  constructor
  · rintro ⟨⟨h1, h2⟩, h3⟩
    exact ⟨by omega, h1⟩
  · rintro ⟨h1, h2⟩
    exact ⟨⟨h2, by omega⟩, by omega⟩
theorem simR_ct (t : Ty) (h : List Res) (m : View) : CT Tryz.prog 47 [tyV t] h m (Pure1 h (.bool (simT t))) := by
  have he := simR_eq t
  refine CT.body Tryz.call47 Tryz.func47 rfl Tryz.ntmps47 (leB rfl) rfl ?_
  repeat first | refine sk fun K hK => ?_ | refine bk ?_ | refine rn fun _ => ?_
  refine xX fun b1 => ?_
  refine xC ?_
  refine wn [1] ?_
  repeat first | refine sk fun K hK => ?_ | refine bk ?_
  refine WC.drawS [2, 7] (.op 0 (.op 1 (.op 2 (.op 3 (.op 4 (.op 5 (.op 6 (.op 7 .nil)))))))) [8, 9, 10] _ [] mixed (fun _ _ _ _ _ h => h) [] (by kernel_rfl) ?_
  refine yG rfl (pF Tryz.underlying30) ?_
  refine yG rfl (pL Tryz.underlying24) ?_
  refine yf rfl (E1 Et) (fun fr => primR_ct _ _ _) ?_
  refine yG rfl (PO.move Et) ?_
  refine SR.poG rfl rfl (GU.t rfl rfl) (fun hc => PO.loadA Tryz.underlying30 rfl rfl Et Me rfl) (leB rfl) ?_
  refine SR.poG rfl rfl (GU.t rfl rfl) (fun hc => PO.fieldAddr Tryz.underlying30 rfl (Nat.ne_of_beq_eq_false rfl) Et) (leB rfl) ?_
  refine SR.poG rfl rfl (GU.t rfl rfl) (fun hc => PO.load1 Tryz.underlying24 rfl (Eg hc) Me rfl) (leB rfl) ?_
  refine SR.callG rfl rfl (GU.t rfl rfl) (fun hc => ⟨Ev.func, (Evs.cons (Eg hc) Evs.nil), fun fr => scal_ct _ _ _⟩) (leB rfl) ?_
  refine SR.nil rfl rfl ?_
  refine WL.poG (GU.t rfl rfl) (fun hc => PO.eqlA Tryz.underlying30 (by kernel_rfl) (by kernel_rfl) (Eg hc) (Eg hc) rfl) (leB rfl) ?_
  refine xP ?_
  refine xA ?_
  refine wn [2] ?_
  try clear hG ops
  refine WC.ret (wR (h) ?_)
  exact ⟨by rw [he]; rfl, rfl⟩
theorem entriesR_ct {m : View} {h : List Res} (l : List Sp) (a : Option Addr) (k c : Nat) (hr : Rd m h a k c 16 (fl spE l)) (hn : l.length ≤ 1000000) :
    CT Tryz.prog 28 [.slice a k c] h m (fun v _ h' => OwnF enE 113 17 h (envS l 0) v h') := by
  have hl := hr.lenF spE_len (by decide)
  have hmx := hr.mx
  have hle := hr.le
  subst hl
  refine CT.body Tryz.call28 Tryz.func28 rfl Tryz.ntmps28 (leB rfl) rfl ?_
  repeat first | refine sk fun K hK => ?_ | refine bk ?_ | refine rn fun _ => ?_
  refine xC ?_
  refine wn [0] ?_
  repeat first | refine sk fun K hK => ?_ | refine bk ?_ | refine rn fun _ => ?_
  refine WL.addNil 113 17 ?_
  refine xC ?_
  refine wn [0, 3] ?_
  repeat first | refine sk fun K hK => ?_ | refine bk ?_ | refine rn fun _ => ?_
  refine xC ?_
  refine wn [0, 3, 4] ?_
  repeat first | refine sk fun K hK => ?_ | refine bk ?_
  refine WC.loopI [0] rfl (fun μ F' h' => ∃ i : Nat, ∃ ea : Option Addr, ∃ ec : Nat, (i ≤ l.length) ∧ l.length - i = μ ∧ F' = [(3, .slice ea i ec), (4, .int .i64 i)] ∧ .row (.slice ea i ec) 113 17 i (fl enE (envS (l.take i) 0)) :: h = h') (l.length - 0) [(3, .slice none 0 0), (4, .int .i64 0)] (h0 := .row (.slice none 0 0) 113 17 0 (fl enE (envS (l.take 0) 0)) :: h) ?_ Sb ⟨0, none, 0, by omega, rfl, rfl, rfl⟩ ?_
  (repeat (first | exact Sub.nil | refine Sub.cons rfl ?_ | refine Sub.consE rfl (by simp; done) ?_))
  rintro _ _ _ ⟨i, ea, ec, hk, rfl, rfl, rfl⟩
  refine WC.frm rfl ?_
  repeat first | refine sk fun K hK => ?_ | refine bk ?_ | refine rn fun _ => ?_
  refine xM ?_
  refine xM ?_
  refine xG (PO.lenSl Tryz.underlying28 Et) ?_
  refine xG (PO.bin Et Et rfl) ?_
  refine wn [0, 3, 4, 8] ?_
  repeat first | refine sk fun K hK => ?_ | refine bk ?_
  refine wc (fun c8 => ?_) fun c8 => ?_
  replace c8 := of_decide_eq_true c8
  obtain ⟨x, hx⟩ := get_some (l := l) (k := i) (by omega)
  have he : envS (l.take (i + 1)) 0 = envS (l.take i) 0 ++ [⟨x, (i : Int)⟩] := by
    rw [take_at hx, envS_snoc, List.length_take, Nat.min_eq_left (by omega), Nat.zero_add]
  refine WC.skip (kp [0, 3, 4] ?_)
  repeat first | refine sk fun K hK => ?_ | refine bk ?_ | refine rn fun _ => ?_
  refine xM ?_
  refine xM ?_
  refine xM ?_
  refine xG (PO.idx EL28.und EL28.size EL28.posz (Ev.tmp rfl) (Ev.tmp rfl) Rr rfl (by omega)) ?_
  refine xG (PO.loadFA Tryz.underlying54 rfl rfl spE_len Rr (Ev.tmp rfl) (by assumption) rfl rfl (Nat.succ_pos _)) ?_
  refine xM ?_
  refine xG (PO.build Tryz.underlying113 rfl rfl rfl (EvP.cons Et (EvP.cons Et EvP.nil)) rfl) ?_
  refine xY EL86 (EvP.cons Et EvP.nil) fun b18 => ?_
  refine xD EL86 (Ev.tmp rfl) (Ev.tmp rfl) rfl (fl_snoc (enc := enE) _ ((⟨x, (i : Int)⟩ : En))) fun a19 c19 => ?_
  rw [← he]
  refine xA ?_
  refine wn [0, 3, 4] ?_
  repeat first | refine sk fun K hK => ?_ | refine bk ?_ | refine rn fun _ => ?_
  refine xM ?_
  refine xG (PO.addI Et Ev.const (by omega)) ?_
  refine xA ?_
  refine WL.nil (loopBackI (l.length - (i + 1)) [(3, .slice a19 (i + 1) c19), (4, .int .i64 (i + 1))] (h'' := .row (.slice a19 (i + 1) c19) 113 17 (i + 1) (fl enE (envS (l.take (i + 1)) 0)) :: h) (by omega) ?_ (by (repeat (first | exact Sub.nil | refine Sub.cons rfl ?_ | refine Sub.consE rfl (by simp; done) ?_))) Sb ⟨i + 1, a19, c19, by omega, rfl, rfl, rfl⟩)
  (repeat (first | exact Sub.nil | refine Sub.cons rfl ?_ | refine Sub.consE rfl (by simp; done) ?_))
  replace c8 := of_decide_eq_false c8
  obtain rfl : i = l.length := by omega
  rw [List.take_length]
  refine WC.exit (kp [3] ?_)
  repeat first | refine sk fun K hK => ?_ | refine bk ?_ | refine rn fun _ => ?_
  refine xM ?_
  refine xA ?_
  refine wn [2] ?_
  refine WC.ret (wR (.row (.slice ea l.length ec) 113 17 l.length (fl enE (envS l 0)) :: h) ?_)
  exact ⟨ea, ec, l.length, (envS_len l 0).symm, rfl, rfl⟩
set_option maxHeartbeats 2000000 in
theorem find13_ct {m : View} {h : List Res} {s : List En} {a : Option Addr} {k c : Nat} (hs : ScR m h a k c s) (nm : B) (n : Nat) (hn : n ≤ s.length) :
    CT Tryz.prog 68 [.slice a k c, .int .i64 n, str nm] h m (Pure1 h (.int .i64 (findE (shL s) nm n))) := by
  have hl := hs.rd.lenF enE_len (by decide)
  have hmx := hs.rd.mx
  have hle := hs.rd.le
  have hrd := hs.rd
  subst hl
  refine CT.body Tryz.call68 Tryz.func68 rfl Tryz.ntmps68 (leB rfl) rfl ?_
  repeat first | refine sk fun K hK => ?_ | refine bk ?_ | refine rn fun _ => ?_
  refine xC ?_
  refine wn [0, 1, 2] ?_
  repeat first | refine sk fun K hK => ?_ | refine bk ?_ | refine rn fun _ => ?_
  refine xM ?_
  refine xG (PO.subI Et Ev.const (by omega)) ?_
  refine xA ?_
  refine wn [0, 2, 7] ?_
  repeat first | refine sk fun K hK => ?_ | refine bk ?_
  refine WC.loopI [0, 2] rfl (fun μ F' h' => ∃ q : Nat, (q ≤ n ∧ findE (shL s) nm n = findE (shL s) nm q) ∧ q = μ ∧ F' = [(7, .int .i64 ((q : Int) - 1))] ∧ h = h') (n) [(7, .int .i64 ((n : Int) - 1))] (h0 := h) ?_ Sb ⟨n, ⟨by omega, rfl⟩, rfl, rfl, rfl⟩ ?_
  (repeat (first | exact Sub.nil | refine Sub.cons rfl ?_ | refine Sub.consE rfl (by simp; done) ?_))
  rintro _ _ _ ⟨q, ⟨hk, hJ⟩, rfl, rfl, rfl⟩
  refine WC.frm rfl ?_
  repeat first | refine sk fun K hK => ?_ | refine bk ?_ | refine rn fun _ => ?_
  refine xM ?_
  refine xG (PO.bin Et Ev.const rfl) ?_
  refine wn [0, 2, 7, 12] ?_
  repeat first | refine sk fun K hK => ?_ | refine bk ?_
  refine wc (fun c12 => ?_) fun c12 => ?_
  replace c12 := of_decide_eq_true c12
  obtain ⟨r, rfl⟩ : ∃ r, q = r + 1 := ⟨q - 1, by omega⟩
  rw [show ((r + 1 : Nat) : Int) - 1 = (r : Int) by omega]
  obtain ⟨x, hx⟩ := get_some (l := s) (k := r) (by omega)
  have hnr := hs.nm x (List.mem_of_getElem? hx)
  have nmx := hnr.mx
  have nle := hnr.le
  have hf : findE (shL s) nm (r + 1) = if x.sp.names.l.contains nm then (r : Int) else findE (shL s) nm r := by
    show (match (shL s)[r]? with | some x => if x.names.contains nm then (r : Int) else findE (shL s) nm r | none => findE (shL s) nm r) = _
    rw [shL_get hx]
    rfl
  rw [hf] at hJ
  refine WC.skip (kp [0, 2, 7] ?_)
  repeat first | refine sk fun K hK => ?_ | refine bk ?_ | refine rn fun _ => ?_
  refine xC ?_
  refine wn [0, 2, 7, 8] ?_
  repeat first | refine sk fun K hK => ?_ | refine bk ?_
  refine WC.loopI [0, 2, 7] rfl (fun μ F' h' => ∃ j : Nat, (j ≤ x.sp.names.l.length ∧ x.sp.names.l.contains nm = (x.sp.names.l.drop j).contains nm) ∧ x.sp.names.l.length - j = μ ∧ F' = [(8, .int .i64 j)] ∧ h = h') (x.sp.names.l.length - 0) [(8, .int .i64 0)] (h0 := h) ?_ Sb ⟨0, ⟨by omega, rfl⟩, rfl, rfl, rfl⟩ ?_
  (repeat (first | exact Sub.nil | refine Sub.cons rfl ?_ | refine Sub.consE rfl (by simp; done) ?_))
  rintro _ _ _ ⟨j, ⟨hj, hN⟩, rfl, rfl, rfl⟩
  refine WC.frm rfl ?_
  repeat first | refine sk fun K hK => ?_ | refine bk ?_ | refine rn fun _ => ?_
  refine xM ?_
  refine xM ?_
  refine xM ?_
  refine xG (PO.idx EL86.und EL86.size EL86.posz (Ev.tmp rfl) (Ev.tmp rfl) Rr rfl (by omega)) ?_
  refine xG (PO.fieldF Tryz.underlying113 rfl (Nat.ne_of_beq_eq_false rfl) enE_len (Nat.succ_pos _) Rr (by assumption) (Ev.tmp rfl)) ?_
  refine xG (PO.fieldF Tryz.underlying54 rfl (Nat.ne_of_beq_eq_false rfl) enE_len (Nat.succ_pos _) Rr (by assumption) (Ev.tmp rfl)) ?_
  refine xG (PO.loadFf Tryz.underlying48 rfl enE_len Rr (Ev.tmp rfl) (by assumption) rfl) ?_
  refine xG (PO.lenSl Tryz.underlying48 Et) ?_
  refine xG (PO.bin Et Et rfl) ?_
  refine wn [0, 2, 7, 8, 23] ?_
  repeat first | refine sk fun K hK => ?_ | refine bk ?_
  refine wc (fun c23 => ?_) fun c23 => ?_
  replace c23 := of_decide_eq_true c23
  obtain ⟨y, hy⟩ := get_some (l := x.sp.names.l) (k := j) (by omega)
  rw [drop_at hy, List.contains_cons] at hN
  refine WC.skip (kp [0, 2, 7, 8] ?_)
  repeat first | refine sk fun K hK => ?_ | refine bk ?_ | refine rn fun _ => ?_
  refine xM ?_
  refine xM ?_
  refine xG (PO.idx EL86.und EL86.size EL86.posz (Ev.tmp rfl) (Ev.tmp rfl) Rr rfl (by omega)) ?_
  refine xG (PO.fieldF Tryz.underlying113 rfl (Nat.ne_of_beq_eq_false rfl) enE_len (Nat.succ_pos _) Rr (by assumption) (Ev.tmp rfl)) ?_
  refine xG (PO.fieldF Tryz.underlying54 rfl (Nat.ne_of_beq_eq_false rfl) enE_len (Nat.succ_pos _) Rr (by assumption) (Ev.tmp rfl)) ?_
  refine xG (PO.loadFf Tryz.underlying48 rfl enE_len Rr (Ev.tmp rfl) (by assumption) rfl) ?_
  refine xM ?_
  refine xG (PO.idx EL48.und EL48.size EL48.posz (Ev.tmp rfl) (Ev.tmp rfl) Rr rfl (by omega)) ?_
  refine xG (PO.loadF1 Tryz.underlying9 rfl encB_len Rr (Ev.tmp rfl) (by assumption) rfl) ?_
  refine xM ?_
  refine xG (PO.eqlS Et Et) ?_
  refine wn [0, 2, 7, 8, 36] ?_
  repeat first | refine sk fun K hK => ?_ | refine bk ?_
  refine wc (fun c36 => ?_) fun c36 => ?_
  have hyn : (nm == y) = true := by
    have : (y == nm) = true := c36
    simp at this
    simp [this]
  rw [hyn, Bool.true_or] at hN
  rw [hN, if_pos rfl] at hJ
  repeat first | refine sk fun K hK => ?_ | refine bk ?_ | refine rn fun _ => ?_
  refine xM ?_
  refine xA ?_
  refine wn [6] ?_
  refine WC.ret (wR (h) ?_)
  exact ⟨by rw [hJ], rfl⟩
  have hyn : (nm == y) = false := by
    have : (y == nm) = false := c36
    rw [Bool.beq_comm]
    exact this
  rw [hyn, Bool.false_or] at hN
  refine WC.skip (kp [0, 2, 7, 8] ?_)
  repeat first | refine sk fun K hK => ?_ | refine bk ?_ | refine rn fun _ => ?_
  refine xM ?_
  refine xG (PO.addI Et Ev.const (by omega)) ?_
  refine xA ?_
  refine WL.nil (loopBackI (x.sp.names.l.length - (j + 1)) [(8, .int .i64 (j + 1))] (h'' := h) (by omega) ?_ (by (repeat (first | exact Sub.nil | refine Sub.cons rfl ?_ | refine Sub.consE rfl (by simp; done) ?_))) Sb ⟨j + 1, ⟨by omega, hN⟩, rfl, rfl, rfl⟩)
  (repeat (first | exact Sub.nil | refine Sub.cons rfl ?_ | refine Sub.consE rfl (by simp; done) ?_))
  replace c23 := of_decide_eq_false c23
  rw [show x.sp.names.l.drop j = [] from List.drop_eq_nil_of_le (by omega)] at hN
  have hN0 : x.sp.names.l.contains nm = false := hN
  rw [hN0, if_neg (by decide)] at hJ
  refine WC.exit (kp [0, 2, 7] ?_)
  repeat first | refine sk fun K hK => ?_ | refine bk ?_ | refine rn fun _ => ?_
  refine xM ?_
  refine xG (PO.subI Et Ev.const (by omega)) ?_
  refine xA ?_
  refine WL.nil (loopBackI (r) [(7, .int .i64 ((r : Int) - 1))] (h'' := h) (by omega) ?_ (by (repeat (first | exact Sub.nil | refine Sub.cons rfl ?_ | refine Sub.consE rfl (by simp; done) ?_))) Sb ⟨r, ⟨by omega, hJ⟩, rfl, rfl, rfl⟩)
  (repeat (first | exact Sub.nil | refine Sub.cons rfl ?_ | refine Sub.consE rfl (by simp; done) ?_))
  replace c12 := of_decide_eq_false c12
  obtain rfl : q = 0 := by omega
  refine WC.exit (kp [] ?_)
  repeat first | refine sk fun K hK => ?_ | refine bk ?_ | refine rn fun _ => ?_
  refine xC ?_
  refine wn [6] ?_
  refine WC.ret (wR (h) ?_)
  exact ⟨by rw [hJ]; rfl, rfl⟩
theorem named_ct {m : View} {h : List Res} {s : List En} {a : Option Addr} {k c : Nat} (hs : ScR m h a k c s) (nm : B) :
    CT Tryz.prog 45 [.slice a k c, str nm] h m (Pure1 h (heldV (okT (nameE (shL s) nm)) (errT (nameE (shL s) nm)))) := by
  have hl := hs.rd.lenF enE_len (by decide)
  have hmx := hs.rd.mx
  have hle := hs.rd.le
  have hrd := hs.rd
  subst hl
  have hf := findE_lt (shL s) nm s.length
  have hN : nameE (shL s) nm = match (if findE (shL s) nm s.length < 0 then none else (shL s)[(findE (shL s) nm s.length).toNat]?) with | none => .error 120 | some x => if x.k = 1 ∨ x.k = 2 ∨ x.k = 3 then .ok ⟨x.ty, x.ar⟩ else .error 130 := by unfold nameE; rw [shL_len]; rfl
  refine CT.body Tryz.call45 Tryz.func45 rfl Tryz.ntmps45 (leB rfl) rfl ?_
  repeat first | refine sk fun K hK => ?_ | refine bk ?_ | refine rn fun _ => ?_
  refine xW fun b4 => ?_
  refine xC ?_
  refine wn [0, 1, 4] ?_
  repeat first | refine sk fun K hK => ?_ | refine bk ?_ | refine rn fun _ => ?_
  refine xM ?_
  refine xM ?_
  refine xG (PO.lenSl Tryz.underlying86 Et) ?_
  refine xM ?_
  refine xf (E3 Et Et Et) (find13_ct (hs.mono Sb) nm s.length (Nat.le_refl _)) ?_
  refine xA ?_
  refine wn [0, 4, 6] ?_
  repeat first | refine sk fun K hK => ?_ | refine bk ?_ | refine rn fun _ => ?_
  refine xM ?_
  refine xG (PO.bin Et Ev.const rfl) ?_
  refine wn [0, 4, 6, 14] ?_
  repeat first | refine sk fun K hK => ?_ | refine bk ?_
  refine wc (fun c14 => ?_) fun c14 => ?_
  replace c14 := of_decide_eq_true c14
  rw [if_pos (by first | exact c14 | simpa using c14)] at hN
  repeat first | refine sk fun K hK => ?_ | refine bk ?_ | refine rn fun _ => ?_
  refine xG (PO.build Tryz.underlying83 rfl rfl rfl EvP.nil rfl) ?_
  refine xS ?_
  refine xC ?_
  refine wn [4, 5] ?_
  refine WC.ret (end2 (h' := h) (.inl rfl) rfl (RV.cellA Tryz.underlying83 rfl rfl rfl Me rfl) (RV.tmp rfl) (View.le.refl m) Sb ?_)
  exact ⟨by rw [hN]; rfl, rfl⟩
  replace c14 := of_decide_eq_false c14
  obtain ⟨q, hq⟩ : ∃ q : Nat, findE (shL s) nm s.length = q := ⟨(findE (shL s) nm s.length).toNat, by omega⟩
  obtain ⟨x, hx⟩ := get_some (l := s) (k := q) (by omega)
  rw [if_neg (by omega), hq, Int.toNat_natCast, shL_get hx] at hN
  replace hN : nameE (shL s) nm = if x.sp.k = 1 ∨ x.sp.k = 2 ∨ x.sp.k = 3 then .ok ⟨x.sp.ty, x.ar⟩ else .error 130 := hN
  rw [hq]
  refine WC.skip (kp [0, 4, 6] ?_)
  repeat first | refine sk fun K hK => ?_ | refine bk ?_ | refine rn fun _ => ?_
  refine xM ?_
  refine xM ?_
  refine xG (PO.idx EL86.und EL86.size EL86.posz (Ev.tmp rfl) (Ev.tmp rfl) Rr rfl (by omega)) ?_
  refine xG (PO.fieldF Tryz.underlying113 rfl (Nat.ne_of_beq_eq_false rfl) enE_len (Nat.succ_pos _) Rr (by assumption) (Ev.tmp rfl)) ?_
  refine xG (PO.loadFfA Tryz.underlying54 rfl rfl enE_len Rr (Ev.tmp rfl) (by assumption) rfl rfl (Nat.succ_pos _)) ?_
  refine xW fun b7 => ?_
  refine xS ?_
  refine wn [0, 4, 6, 7] ?_
  repeat first | refine sk fun K hK => ?_ | refine bk ?_ | refine rg fun ops hG => ?_
  refine xF Tryz.underlying54 ?_
  refine xG (pL Tryz.underlying47) ?_
  refine xG (PO.bin Et Ev.const rfl) ?_
  refine xM ?_
  refine zG (fun _ => pF Tryz.underlying54) ?_
  refine zG (fun hc => PO.load1 Tryz.underlying47 rfl (Eg hc) Me rfl) ?_
  refine zG (fun hc => PO.bin (Eg hc) Ev.const rfl) ?_
  refine xP ?_
  refine xM ?_
  refine zG (fun _ => pF Tryz.underlying54) ?_
  refine zG (fun hc => PO.load1 Tryz.underlying47 rfl (Eg hc) Me rfl) ?_
  refine zG (fun hc => PO.bin (Eg hc) Ev.const rfl) ?_
  refine xP ?_
  refine wn [0, 4, 6, 7, 33] ?_
  try clear hG ops
  repeat first | refine sk fun K hK => ?_ | refine bk ?_
  refine wc (fun c33 => ?_) fun c33 => ?_
  have hk : ¬ (x.sp.k = 1 ∨ x.sp.k = 2 ∨ x.sp.k = 3) := by
    have : (((x.sp.k != 1) && (x.sp.k != 2)) && (x.sp.k != 3)) = true := c33
    simp at this
    omega
  rw [if_neg hk] at hN
  repeat first | refine sk fun K hK => ?_ | refine bk ?_ | refine rn fun _ => ?_
  refine xG (PO.build Tryz.underlying83 rfl rfl rfl EvP.nil rfl) ?_
  refine xS ?_
  refine xC ?_
  refine wn [4, 5] ?_
  refine WC.ret (end2 (h' := h) (.inl rfl) rfl (RV.cellA Tryz.underlying83 rfl rfl rfl Me rfl) (RV.tmp rfl) (View.le.refl m) Sb ?_)
  exact ⟨by rw [hN]; rfl, rfl⟩
  have hk : x.sp.k = 1 ∨ x.sp.k = 2 ∨ x.sp.k = 3 := by
    have : (((x.sp.k != 1) && (x.sp.k != 2)) && (x.sp.k != 3)) = false := c33
    simp at this
    omega
  rw [if_pos hk] at hN
  refine WC.skip (kp [0, 4, 6, 7] ?_)
  repeat first | refine sk fun K hK => ?_ | refine bk ?_
  refine WC.drawS [] (.op 0 (.op 1 (.op 2 (.op 3 (.op 4 (.op 5 (.op 6 .nil))))))) [7, 8, 9] _ [] mixed (fun _ _ _ _ _ h => h) [] (by kernel_rfl) ?_
  refine yG rfl (pF Tryz.underlying54) ?_
  refine yG rfl (pA Tryz.underlying30) ?_
  refine yG rfl (PO.move Et) ?_
  refine yG rfl (PO.move Et) ?_
  refine yG rfl (PO.idx EL86.und EL86.size EL86.posz (Ev.tmp rfl) (Ev.tmp rfl) Rr rfl (by omega)) ?_
  refine yG rfl (PO.fieldF Tryz.underlying113 rfl (Nat.ne_of_beq_eq_false rfl) enE_len (Nat.succ_pos _) Rr (by assumption) (Ev.tmp rfl)) ?_
  refine yG rfl (PO.loadFf Tryz.underlying3 rfl enE_len Rr (Ev.tmp rfl) (by assumption) rfl) ?_
  refine SR.nil rfl rfl ?_
  refine xG (PO.build Tryz.underlying83 rfl rfl rfl (EvP.cons Et (EvP.cons Et EvP.nil)) rfl) ?_
  refine xS ?_
  refine xC ?_
  refine wn [4, 5] ?_
  refine WC.ret (end2 (h' := h) (.inl rfl) rfl (RV.cellA Tryz.underlying83 rfl rfl rfl Me rfl) (RV.tmp rfl) (View.le.refl m) Sb ?_)
  exact ⟨by rw [hN]; rfl, rfl⟩
theorem sim_or (t : Ty) : simT t = ((eqT t (tyK 1) || eqT t (tyK 2)) || eqT t (tyK 3)) := by
  rw [Bool.eq_iff_iff]
  unfold simT
  simp only [Bool.and_eq_true, Bool.or_eq_true, decide_eq_true_eq, Go.Ty.eqT_iff]
  constructor
  · rintro ⟨⟨h1, h2⟩, h3⟩
    have : t.kind = 1 ∨ t.kind = 2 ∨ t.kind = 3 := by omega
    rcases this with q | q | q <;> rw [q] at h1
    · exact .inl (.inl h1)
    · exact .inl (.inr h1)
    · exact .inr h1
  · rintro ((h1 | h1) | h1) <;> rw [h1] <;> exact ⟨⟨rfl, by decide⟩, by decide⟩
set_option maxHeartbeats 1000000 in
theorem oper_ct (o : Int) (t : Ty) (h : List Res) (m : View) : CT Tryz.prog 49 [.int .u8 o, tyV t] h m (Pure1 h (resV (resT o t))) := by
  refine CT.body Tryz.call49 Tryz.func49 rfl Tryz.ntmps49 (leB rfl) rfl ?_
  repeat first | refine sk fun K hK => ?_ | refine bk ?_ | refine rn fun _ => ?_
  refine xX fun b3 => ?_
  refine xW fun b4 => ?_
  refine xC ?_
  refine wn [0, 3, 4] ?_
  repeat first | refine sk fun K hK => ?_ | refine bk ?_
  refine WC.drawS [1] (.op 0 (.op 1 .nil)) [2, 3] _ [] mixed (fun _ _ _ _ _ h => h) [] (by kernel_rfl) ?_
  refine yG rfl (pA Tryz.underlying30) ?_
  refine yf rfl (E1 Ev.const) (fun fr => scal_ct _ _ _) ?_
  refine SR.nil rfl rfl ?_
  refine xG (PO.eqlA Tryz.underlying30 (by kernel_rfl) (by kernel_rfl) Et Et rfl) ?_
  refine xA ?_
  refine wn [0, 3, 4, 6] ?_
  repeat first | refine sk fun K hK => ?_ | refine bk ?_
  refine WC.drawS [3] (.op 0 (.op 1 (.op 2 (.op 3 .nil)))) [4, 5, 6] _ [] mixed (fun _ _ _ _ _ h => h) [] (by kernel_rfl) ?_
  refine yG rfl (PO.move Et) ?_
  refine yG rfl (PO.move Et) ?_
  refine SR.poG rfl rfl (GU.f rfl rfl) (fun hc => PO.loadA Tryz.underlying30 rfl rfl Et Me rfl) (leB rfl) ?_
  refine SR.callG rfl rfl (GU.f rfl rfl) (fun hc => ⟨Ev.func, (Evs.cons Ev.const Evs.nil), fun fr => scal_ct _ _ _⟩) (leB rfl) ?_
  refine SR.nil rfl rfl ?_
  refine WL.poG (GU.f rfl rfl) (fun hc => PO.eqlA Tryz.underlying30 (by kernel_rfl) (by kernel_rfl) (Eg hc) (Eg hc) rfl) (leB rfl) ?_
  refine xQ ?_
  refine xA ?_
  refine wn [0, 3, 4, 6, 7] ?_
  try clear hG ops
  repeat first | refine sk fun K hK => ?_ | refine bk ?_
  refine WC.drawS [1] (.op 0 (.op 1 .nil)) [2, 3] _ [] mixed (fun _ _ _ _ _ h => h) [] (by kernel_rfl) ?_
  refine yG rfl (pA Tryz.underlying30) ?_
  refine yf rfl (E1 Ev.const) (fun fr => scal_ct _ _ _) ?_
  refine SR.nil rfl rfl ?_
  refine xG (PO.eqlA Tryz.underlying30 (by kernel_rfl) (by kernel_rfl) Et Et rfl) ?_
  refine xA ?_
  refine wn [0, 4, 6, 7, 8] ?_
  repeat first | refine sk fun K hK => ?_ | refine bk ?_ | refine rn fun _ => ?_
  refine xM ?_
  refine xA ?_
  refine wn [0, 4, 7, 8, 9] ?_
  repeat first | refine sk fun K hK => ?_ | refine bk ?_ | refine rn fun _ => ?_
  refine xC ?_
  refine wn [0, 4, 7, 8, 9, 10] ?_
  (repeat refine WC.seqK fun K hK => ?_)
  refine WC.cutK (by assumption) [4] rfl (fun F' h' => ∃ kk : Int, ∃ bb : Bool, (resT o t = if bb then .ok (tyK kk) else .error 130) ∧ F' = [(9, .bool bb), (10, .int .u8 kk)] ∧ .pt b4 (.cells (cellT Go.Ty.zeroT).toArray 30 (0, 0)) :: .pt b3 (.cells (cellT t).toArray 30 (0, 0)) :: h = h') ?_ ?_
  repeat first | refine sk fun K hK => ?_ | refine bk ?_ | refine rg fun ops hG => ?_
  refine xM ?_
  refine xG (PO.bin Et Ev.const rfl) ?_
  refine xM ?_
  refine zM ?_
  refine zG (fun hc => PO.bin (Eg hc) Ev.const rfl) ?_
  refine xQ ?_
  refine xA ?_
  refine wn [0, 4, 7, 8, 9, 10, 24] ?_
  try clear hG ops
  repeat first | refine sk fun K hK => ?_ | refine bk ?_
  refine wc (fun c24 => ?_) fun c24 => ?_
  have d24 : o = 14 ∨ o = 15 := by have : ((o == 14) || (o == 15)) = true := c24; simpa using this
  repeat first | refine sk fun K hK => ?_ | refine bk ?_ | refine rg fun ops hG => ?_
  refine xM ?_
  refine xM ?_
  refine zM ?_
  refine xQ ?_
  refine xA ?_
  refine wn [4, 9] ?_
  try clear hG ops
  repeat first | refine sk fun K hK => ?_ | refine bk ?_ | refine rn fun _ => ?_
  refine xC ?_
  refine WL.nil (meetI [(9, .bool ((eqT t (tyK 1) || eqT t (tyK 2)) || eqT t (tyK 3))), (10, .int .u8 3)] (h'' := .pt b4 (.cells (cellT Go.Ty.zeroT).toArray 30 (0, 0)) :: .pt b3 (.cells (cellT t).toArray 30 (0, 0)) :: h) ?_ (by (repeat (first | exact Sub.nil | refine Sub.cons rfl ?_ | refine Sub.consE rfl (by simp; done) ?_))) Sb ⟨3, (eqT t (tyK 1) || eqT t (tyK 2)) || eqT t (tyK 3), by unfold resT; rw [if_pos d24, sim_or], rfl, rfl⟩)
  (repeat (first | exact Sub.nil | refine Sub.cons rfl ?_ | refine Sub.consE rfl (by simp; done) ?_))
  have d24 : ¬ (o = 14 ∨ o = 15) := by have : ((o == 14) || (o == 15)) = false := c24; simp at this; omega
  repeat first | refine sk fun K hK => ?_ | refine bk ?_ | refine rg fun ops hG => ?_
  refine xM ?_
  refine xG (PO.bin Et Ev.const rfl) ?_
  refine xM ?_
  refine zM ?_
  refine zG (fun hc => PO.bin (Eg hc) Ev.const rfl) ?_
  refine xP ?_
  refine xA ?_
  refine wn [0, 4, 7, 8, 9, 10, 35] ?_
  try clear hG ops
  repeat first | refine sk fun K hK => ?_ | refine bk ?_
  refine wc (fun c35 => ?_) fun c35 => ?_
  have d35 : o > 15 ∧ o ≤ 19 := by have : ((decide (o > 15)) && (decide (o ≤ 19))) = true := c35; simpa using this
  repeat first | refine sk fun K hK => ?_ | refine bk ?_ | refine rn fun _ => ?_
  refine xM ?_
  refine xA ?_
  refine wn [4, 9] ?_
  repeat first | refine sk fun K hK => ?_ | refine bk ?_ | refine rn fun _ => ?_
  refine xC ?_
  refine WL.nil (meetI [(9, .bool (eqT t (tyK 1) || eqT t (tyK 2))), (10, .int .u8 3)] (h'' := .pt b4 (.cells (cellT Go.Ty.zeroT).toArray 30 (0, 0)) :: .pt b3 (.cells (cellT t).toArray 30 (0, 0)) :: h) ?_ (by (repeat (first | exact Sub.nil | refine Sub.cons rfl ?_ | refine Sub.consE rfl (by simp; done) ?_))) Sb ⟨3, eqT t (tyK 1) || eqT t (tyK 2), by unfold resT; rw [if_neg d24, if_pos (by omega)], rfl, rfl⟩)
  (repeat (first | exact Sub.nil | refine Sub.cons rfl ?_ | refine Sub.consE rfl (by simp; done) ?_))
  have d35 : ¬ (o > 15 ∧ o ≤ 19) := by have : ((decide (o > 15)) && (decide (o ≤ 19))) = false := c35; simp at this; omega
  repeat first | refine sk fun K hK => ?_ | refine bk ?_ | refine rg fun ops hG => ?_
  refine xM ?_
  refine xG (PO.bin Et Ev.const rfl) ?_
  refine xM ?_
  refine zM ?_
  refine zG (fun hc => PO.bin (Eg hc) Ev.const rfl) ?_
  refine xQ ?_
  refine xM ?_
  refine zM ?_
  refine zG (fun hc => PO.bin (Eg hc) Ev.const rfl) ?_
  refine xQ ?_
  refine xA ?_
  refine wn [0, 4, 8, 9, 10, 43] ?_
  try clear hG ops
  repeat first | refine sk fun K hK => ?_ | refine bk ?_
  refine wc (fun c43 => ?_) fun c43 => ?_
  have d43 : o = 20 ∨ o = 21 ∨ o = 26 := by have : (((o == 20) || (o == 21)) || (o == 26)) = true := c43; simp at this; omega
  repeat first | refine sk fun K hK => ?_ | refine bk ?_ | refine rn fun _ => ?_
  refine xM ?_
  refine xA ?_
  refine wn [4, 9] ?_
  repeat first | refine sk fun K hK => ?_ | refine bk ?_ | refine rn fun _ => ?_
  refine xC ?_
  refine WL.nil (meetI [(9, .bool (eqT t (tyK 3))), (10, .int .u8 3)] (h'' := .pt b4 (.cells (cellT Go.Ty.zeroT).toArray 30 (0, 0)) :: .pt b3 (.cells (cellT t).toArray 30 (0, 0)) :: h) ?_ (by (repeat (first | exact Sub.nil | refine Sub.cons rfl ?_ | refine Sub.consE rfl (by simp; done) ?_))) Sb ⟨3, eqT t (tyK 3), by unfold resT; rw [if_neg d24, if_neg (by omega), if_pos d43], rfl, rfl⟩)
  (repeat (first | exact Sub.nil | refine Sub.cons rfl ?_ | refine Sub.consE rfl (by simp; done) ?_))
  have d43 : ¬ (o = 20 ∨ o = 21 ∨ o = 26) := by have : (((o == 20) || (o == 21)) || (o == 26)) = false := c43; simp at this; omega
  repeat first | refine sk fun K hK => ?_ | refine bk ?_ | refine rn fun _ => ?_
  refine xM ?_
  refine xG (PO.bin Et Ev.const rfl) ?_
  refine xA ?_
  refine wn [4, 9, 10, 55] ?_
  repeat first | refine sk fun K hK => ?_ | refine bk ?_
  refine wc (fun c55 => ?_) fun c55 => ?_
  replace c55 := t_eq c55
  repeat first | refine sk fun K hK => ?_ | refine bk ?_ | refine rn fun _ => ?_
  refine xC ?_
  refine WL.nil (meetI [(9, .bool (eqT t (tyK 1))), (10, .int .u8 3)] (h'' := .pt b4 (.cells (cellT Go.Ty.zeroT).toArray 30 (0, 0)) :: .pt b3 (.cells (cellT t).toArray 30 (0, 0)) :: h) ?_ (by (repeat (first | exact Sub.nil | refine Sub.cons rfl ?_ | refine Sub.consE rfl (by simp; done) ?_))) Sb ⟨3, eqT t (tyK 1), by unfold resT; rw [if_neg d24, if_neg (by omega), if_neg d43, if_pos c55], rfl, rfl⟩)
  (repeat (first | exact Sub.nil | refine Sub.cons rfl ?_ | refine Sub.consE rfl (by simp; done) ?_))
  replace c55 := f_eq c55
  refine WC.skip (meetI [(9, .bool (eqT t (tyK 1))), (10, .int .u8 1)] (h'' := .pt b4 (.cells (cellT Go.Ty.zeroT).toArray 30 (0, 0)) :: .pt b3 (.cells (cellT t).toArray 30 (0, 0)) :: h) ?_ (by (repeat (first | exact Sub.nil | refine Sub.cons rfl ?_ | refine Sub.consE rfl (by simp; done) ?_))) Sb ⟨1, eqT t (tyK 1), by unfold resT; rw [if_neg d24, if_neg (by omega), if_neg d43, if_neg c55], rfl, rfl⟩)
  (repeat (first | exact Sub.nil | refine Sub.cons rfl ?_ | refine Sub.consE rfl (by simp; done) ?_))
  rintro _ _ ⟨kk, bb, hr, rfl, rfl⟩
  refine WC.frm rfl ?_
  repeat first | refine sk fun K hK => ?_ | refine bk ?_ | refine rn fun _ => ?_
  refine xM ?_
  refine xG (PO.not Et) ?_
  refine wn [4, 10, 59] ?_
  repeat first | refine sk fun K hK => ?_ | refine bk ?_
  refine wc (fun c59 => ?_) fun c59 => ?_
  have hb : bb = false := by simpa using c59
  rw [hb] at hr
  repeat first | refine sk fun K hK => ?_ | refine bk ?_ | refine rn fun _ => ?_
  refine xG (PO.build Tryz.underlying30 rfl rfl rfl EvP.nil rfl) ?_
  refine xS ?_
  refine xC ?_
  refine wn [4, 5] ?_
  refine WC.ret (end2 (h' := h) (.inl rfl) rfl (RV.cellA Tryz.underlying30 rfl rfl rfl Me rfl) (RV.tmp rfl) (View.le.refl m) Sb ?_)
  exact ⟨by rw [hr]; rfl, rfl⟩
  have hb : bb = true := by simpa using c59
  rw [hb] at hr
  refine WC.skip (kp [4, 10] ?_)
  repeat first | refine sk fun K hK => ?_ | refine bk ?_ | refine rn fun _ => ?_
  refine xM ?_
  refine xf (E1 Et) (scal_ct _ _ _) ?_
  refine xS ?_
  refine xC ?_
  refine wn [4, 5] ?_
  refine WC.ret (end2 (h' := h) (.inl rfl) rfl (RV.cellA Tryz.underlying30 rfl rfl rfl Me rfl) (RV.tmp rfl) (View.le.refl m) Sb ?_)
  exact ⟨by rw [hr]; rfl, rfl⟩
end Go.Proofs.YtdhmplmpbcnojaaGreatDoor
end
/- TpS -/
section
namespace Go.Proofs.YtdhmplmpbcnojaaGreatDoor
open Go.Eng Go.Pc Go.Tg Go
open Go.Xp hiding B nameT
open Go.Ty (Ty Vr eqT tyV cellT PrOk VOk prL encV encV_len encI encI_len)
open Go.Lx (encB encB_len)
set_option maxRecDepth 100000
theorem needs_ct {m : View} (v : Value) (e : Ex) (t : Ty) (r : Except Int Hd) (hr0 : ∀ w, r = .error w → w ≠ 0) (h : List Res) (hq : ∀ h', h.Sublist h' → CT Tryz.prog 27 [v, exV e] h' m (TyR h' r)) :
    CT Tryz.prog 48 [v, exV e, tyV t] h m (Pure1 h (.int .i64 (isT r t))) := by
  refine CT.body Tryz.call48 Tryz.func48 rfl Tryz.ntmps48 (leB rfl) rfl ?_
  repeat first | refine sk fun K hK => ?_ | refine bk ?_ | refine rn fun _ => ?_
  refine xX fun b4 => ?_
  refine xX fun b5 => ?_
  refine xC ?_
  refine wn [0, 4, 5] ?_
  repeat first | refine sk fun K hK => ?_ | refine bk ?_ | refine rn fun _ => ?_
  refine xM ?_
  refine xG (pA Tryz.underlying27) ?_
  refine xg (E2 Et Et) (hq _ Sb) ?_
  rintro _ _ ⟨hd, rfl, hhd, rfl⟩
  refine xM ?_
  refine xE ?_
  refine xE ?_
  refine xW fun b7 => ?_
  refine xS ?_
  refine xA ?_
  refine wn [5, 7, 8] ?_
  repeat first | refine sk fun K hK => ?_ | refine bk ?_ | refine rn fun _ => ?_
  refine xM ?_
  refine xG (PO.bin Et Ev.const rfl) ?_
  refine wn [5, 7, 8, 16] ?_
  repeat first | refine sk fun K hK => ?_ | refine bk ?_
  refine wc (fun c16 => ?_) fun c16 => ?_
  replace c16 := t_ne c16
  obtain ⟨w, hw⟩ := err_of c16
  repeat first | refine sk fun K hK => ?_ | refine bk ?_ | refine rn fun _ => ?_
  refine xM ?_
  refine xA ?_
  refine wn [6] ?_
  refine WC.ret (wR (h) ?_)
  exact ⟨by rw [hw]; rfl, rfl⟩
  replace c16 := f_ne c16
  have hE := okE hr0 c16 hhd
  refine WC.skip (kp [5, 7] ?_)
  repeat first | refine sk fun K hK => ?_ | refine bk ?_ | refine rn fun _ => ?_
  refine xF Tryz.underlying83 ?_
  refine xG (pA Tryz.underlying30) ?_
  refine xG (pA Tryz.underlying30) ?_
  refine xG (PO.neqA Tryz.underlying30 (by kernel_rfl) (by kernel_rfl) Et Et rfl) ?_
  refine wn [21] ?_
  repeat first | refine sk fun K hK => ?_ | refine bk ?_
  refine wc (fun c21 => ?_) fun c21 => ?_
  have d21 : (!(eqT hd.t t)) = true := c21
  have hf : eqT hd.t t = false := by simpa using d21
  repeat first | refine sk fun K hK => ?_ | refine bk ?_ | refine rn fun _ => ?_
  refine xC ?_
  refine wn [6] ?_
  refine WC.ret (wR (h) ?_)
  exact ⟨by rw [hE]; show Value.int .i64 130 = .int .i64 (if eqT hd.t t then 0 else 130); rw [hf]; rfl, rfl⟩
  have d21 : (!(eqT hd.t t)) = false := c21
  have hf : eqT hd.t t = true := by simpa using d21
  refine WC.skip (kp [] ?_)
  repeat first | refine sk fun K hK => ?_ | refine bk ?_ | refine rn fun _ => ?_
  refine xC ?_
  refine wn [6] ?_
  refine WC.ret (wR (h) ?_)
  exact ⟨by rw [hE]; show Value.int .i64 0 = .int .i64 (if eqT hd.t t then 0 else 130); rw [hf]; rfl, rfl⟩
/-- The type of an element. -/
def idxT (r w : Except Int Hd) : Except Int Hd := match arrF r with
  | .error e => .error e
  | .ok h => if isT w (tyK 1) = 0 then .ok ⟨{ h.t with dim := 0 }, h.ar⟩ else .error (isT w (tyK 1))
theorem indexed_ct {m : View} {h : List Res} {s : List En} {a : Option Addr} {k c : Nat} (hs : ScR m h a k c s) (e : Ex) (hT : TOk m h e) (x0 : Ex) (hx0 : e.l[0]? = some x0) (r : Except Int Hd) (hr0 : ∀ w, r = .error w → w ≠ 0)
    (hq : ∀ h', h.Sublist h' → CT Tryz.prog 27 [.slice a k c, exV x0] h' m (TyR h' r)) :
    CT Tryz.prog 46 [.slice a k c, exV e] h m (TyR h (idxT (nameE (shL s) e.s) r)) := by
  have hr := hT.rd
  have hlt : 0 < e.l.length := (List.getElem?_eq_some_iff.1 hx0).1
  obtain ⟨nr, hnr⟩ : ∃ nr, nr = nameE (shL s) e.s := ⟨_, rfl⟩
  have hn0 : ∀ w, nr = .error w → w ≠ 0 := by
    intro w hw
    rw [hnr] at hw
    exact nameT_err s e.s w ((nameE_eq s e.s).trans hw)
  rw [← hnr]
  refine CT.body Tryz.call46 Tryz.func46 rfl Tryz.ntmps46 (leB rfl) rfl ?_
  repeat first | refine sk fun K hK => ?_ | refine bk ?_ | refine rn fun _ => ?_
  refine xX fun b3 => ?_
  refine xW fun b4 => ?_
  refine xC ?_
  refine wn [0, 3, 4] ?_
  repeat first | refine sk fun K hK => ?_ | refine bk ?_ | refine rn fun _ => ?_
  refine xM ?_
  refine xF Tryz.underlying27 ?_
  refine xG (pL Tryz.underlying9) ?_
  refine xf (E2 Et Et) (hnr ▸ named_ct (hs.mono Sb) e.s) ?_
  refine xM ?_
  refine xE ?_
  refine xE ?_
  refine xW fun b6 => ?_
  refine xS ?_
  refine xA ?_
  refine wn [0, 3, 4, 6, 7] ?_
  repeat first | refine sk fun K hK => ?_ | refine bk ?_ | refine rn fun _ => ?_
  refine xM ?_
  refine xG (PO.bin Et Ev.const rfl) ?_
  refine wn [0, 3, 4, 6, 7, 16] ?_
  repeat first | refine sk fun K hK => ?_ | refine bk ?_
  refine wc (fun c16 => ?_) fun c16 => ?_
  replace c16 := t_ne c16
  obtain ⟨w, hw⟩ := err_of c16
  have hI : idxT nr r = .error w := by unfold idxT arrF; rw [hw]
  repeat first | refine sk fun K hK => ?_ | refine bk ?_ | refine rn fun _ => ?_
  refine xG (PO.build Tryz.underlying83 rfl rfl rfl EvP.nil rfl) ?_
  refine xM ?_
  refine xS ?_
  refine xA ?_
  refine wn [4, 5] ?_
  refine WC.ret (end2 (h' := h) (.inl rfl) rfl (RV.cellA Tryz.underlying83 rfl rfl rfl Me rfl) (RV.tmp rfl) (View.le.refl m) Sb ?_)
  exact ⟨zeroH, by rw [hI, hw]; rfl, fun x hx => (by rw [hI] at hx; cases hx), rfl⟩
  replace c16 := f_ne c16
  obtain ⟨hd, hw⟩ := ok_of hn0 c16
  rw [hw]
  refine WC.skip (kp [0, 3, 4, 6] ?_)
  repeat first | refine sk fun K hK => ?_ | refine bk ?_ | refine rn fun _ => ?_
  refine xF Tryz.underlying83 ?_
  refine xF Tryz.underlying30 ?_
  refine xG (pL Tryz.underlying3) ?_
  refine xG (PO.bin Et Ev.const rfl) ?_
  refine wn [0, 3, 4, 6, 22] ?_
  repeat first | refine sk fun K hK => ?_ | refine bk ?_
  refine wc (fun c22 => ?_) fun c22 => ?_
  replace c22 := of_decide_eq_true c22
  replace c22 : hd.t.dim < 1 := c22
  have hI : idxT nr r = .error 130 := by unfold idxT arrF; rw [hw]; dsimp only; rw [if_pos c22]
  repeat first | refine sk fun K hK => ?_ | refine bk ?_ | refine rn fun _ => ?_
  refine xG (PO.build Tryz.underlying83 rfl rfl rfl EvP.nil rfl) ?_
  refine xS ?_
  refine xC ?_
  refine wn [4, 5] ?_
  refine WC.ret (end2 (h' := h) (.inl rfl) rfl (RV.cellA Tryz.underlying83 rfl rfl rfl Me rfl) (RV.tmp rfl) (View.le.refl m) Sb ?_)
  exact ⟨zeroH, by rw [hI]; rfl, fun x hx => (by rw [hI] at hx; cases hx), rfl⟩
  replace c22 := of_decide_eq_false c22
  replace c22 : ¬ hd.t.dim < 1 := c22
  have hI : idxT nr r = if isT r (tyK 1) = 0 then .ok ⟨{ hd.t with dim := 0 }, hd.ar⟩ else .error (isT r (tyK 1)) := by unfold idxT arrF; rw [hw]; dsimp only; rw [if_neg c22]
  refine WC.skip (kp [0, 3, 4, 6] ?_)
  repeat first | refine sk fun K hK => ?_ | refine bk ?_
  refine WC.drawS [5] (.op 0 (.op 1 (.op 2 (.op 3 (.op 4 (.op 5 .nil)))))) [6, 7] _ [] mixed (fun _ _ _ _ _ h => h) [] (by kernel_rfl) ?_
  refine yG rfl (PO.move Et) ?_
  refine yG rfl (pF Tryz.underlying27) ?_
  refine yG rfl (pL Tryz.underlying25) ?_
  refine yG rfl (PO.idx EL25.und EL25.size EL25.posz (Ev.tmp rfl) Ev.const Rr rfl (q := 0) (by omega)) ?_
  refine yG rfl (PO.loadFA Tryz.underlying27 rfl rfl exE_len Rr (Ev.tmp rfl) (by assumption) rfl rfl (Nat.succ_pos _)) ?_
  refine yf rfl (E1 Ev.const) (fun fr => scal_ct _ _ _) ?_
  refine SR.nil rfl rfl ?_
  refine xf (E3 Et Et Et) (needs_ct _ x0 (tyK 1) r hr0 _ (fun h' hs2 => hq h' (List.Sublist.trans Sb hs2))) ?_
  refine xA ?_
  refine wn [4, 6, 7] ?_
  repeat first | refine sk fun K hK => ?_ | refine bk ?_ | refine rn fun _ => ?_
  refine xF Tryz.underlying83 ?_
  refine xF Tryz.underlying30 ?_
  refine xS ?_
  refine wn [4, 6, 7] ?_
  repeat first | refine sk fun K hK => ?_ | refine bk ?_ | refine rn fun _ => ?_
  refine xG (pA Tryz.underlying83) ?_
  refine xM ?_
  refine xS ?_
  refine xA ?_
  refine wn [4, 5] ?_
  refine WC.ret (end2 (h' := h) (.inl rfl) rfl (RV.cellA Tryz.underlying83 rfl rfl rfl Me rfl) (RV.tmp rfl) (View.le.refl m) Sb ?_)
  by_cases hi : isT r (tyK 1) = 0
  · rw [if_pos hi] at hI
    exact ⟨⟨{ hd.t with dim := 0 }, hd.ar⟩, by rw [hI, hi]; rfl, fun x hx => (by rw [hI] at hx; cases hx; rfl), rfl⟩
  · rw [if_neg hi] at hI
    exact ⟨⟨{ hd.t with dim := 0 }, hd.ar⟩, by rw [hI]; rfl, fun x hx => (by rw [hI] at hx; cases hx), rfl⟩
theorem typFL_0 (f : B → Except Int Hd) {l : List Ex} {x : Ex} (h : l[0]? = some x) : (typFL f l).getD 0 (.error 130) = typF f x := by
  cases l with
  | nil => cases h
  | cons y r => cases h; rfl
/-- The type that an operation yields, as a held one. -/
def opT (o : Int) (t : Ty) : Except Int Hd := match resT o t with
  | .error e => .error e
  | .ok r => .ok ⟨r, 0⟩
set_option maxHeartbeats 2000000 in
theorem ofR_ct {m : View} (s : List En) (a : Option Addr) (k c : Nat) (e : Ex) : ∀ h, ScR m h a k c s → TOk m h e → Wf e → Fine e →
    CT Tryz.prog 27 [.slice a k c, exV e] h m (TyR h (typX (shL s) e)) := by
  refine Ex.ind (p := fun e => ∀ h, ScR m h a k c s → TOk m h e → Wf e → Fine e → CT Tryz.prog 27 [.slice a k c, exV e] h m (TyR h (typX (shL s) e))) (fun e ih h hs hT hW hF => ?_) e
  have hr := hT.rd
  have hmx := hr.mx
  have hkx := hr.le
  have he : typX (shL s) e = tyF (nameE (shL s) e.s) (arrF (nameE (shL s) e.s)) e.k e.o e.t (typFL (nameE (shL s)) e.l) := by unfold typX; rw [typF_eq]
  obtain ⟨nr, hnr⟩ : ∃ nr, nr = nameE (shL s) e.s := ⟨_, rfl⟩
  have hn0 : ∀ w, nr = .error w → w ≠ 0 := by
    intro w hw
    rw [hnr] at hw
    exact nameT_err s e.s w ((nameE_eq s e.s).trans hw)
  rw [← hnr] at he
  unfold tyF at he
  refine CT.body Tryz.call27 Tryz.func27 rfl Tryz.ntmps27 (leB rfl) rfl ?_
  repeat first | refine sk fun K hK => ?_ | refine bk ?_ | refine rn fun _ => ?_
  refine xX fun b3 => ?_
  refine xW fun b4 => ?_
  refine xC ?_
  refine wn [0, 3, 4] ?_
  repeat first | refine sk fun K hK => ?_ | refine bk ?_ | refine rn fun _ => ?_
  refine xF Tryz.underlying27 ?_
  refine xG (pL Tryz.underlying22) ?_
  refine wn [0, 3, 4, 12] ?_
  repeat first | refine sk fun K hK => ?_ | refine bk ?_ | refine rn fun _ => ?_
  refine xG (PO.bin Et Ev.const rfl) ?_
  refine xA ?_
  refine wn [0, 3, 4, 12, 13] ?_
  repeat first | refine sk fun K hK => ?_ | refine bk ?_
  refine wc (fun c13 => ?_) fun c13 => ?_
  replace c13 := t_eq c13
  rw [if_pos c13] at he
  repeat first | refine sk fun K hK => ?_ | refine bk ?_ | refine rn fun _ => ?_
  refine xf (E1 Ev.const) (scal_ct _ _ _) ?_
  refine xG (PO.build Tryz.underlying83 rfl rfl rfl (EvP.cons Et (EvP.cons Ev.const EvP.nil)) rfl) ?_
  refine xS ?_
  refine xC ?_
  refine wn [4, 5] ?_
  refine WC.ret (end2 (h' := h) (.inl rfl) rfl (RV.cellA Tryz.underlying83 rfl rfl rfl Me rfl) (RV.tmp rfl) (View.le.refl m) Sb ?_)
  exact ⟨simpleH 1, by rw [he]; rfl, fun x hx => by rw [he] at hx; cases hx; rfl, rfl⟩
  replace c13 := f_eq c13
  rw [if_neg c13] at he
  repeat first | refine sk fun K hK => ?_ | refine bk ?_ | refine rn fun _ => ?_
  refine xG (PO.bin Et Ev.const rfl) ?_
  refine xA ?_
  refine wn [0, 3, 4, 12, 17] ?_
  repeat first | refine sk fun K hK => ?_ | refine bk ?_
  refine wc (fun c17 => ?_) fun c17 => ?_
  replace c17 := t_eq c17
  rw [if_pos c17] at he
  repeat first | refine sk fun K hK => ?_ | refine bk ?_ | refine rn fun _ => ?_
  refine xf (E1 Ev.const) (scal_ct _ _ _) ?_
  refine xG (PO.build Tryz.underlying83 rfl rfl rfl (EvP.cons Et (EvP.cons Ev.const EvP.nil)) rfl) ?_
  refine xS ?_
  refine xC ?_
  refine wn [4, 5] ?_
  refine WC.ret (end2 (h' := h) (.inl rfl) rfl (RV.cellA Tryz.underlying83 rfl rfl rfl Me rfl) (RV.tmp rfl) (View.le.refl m) Sb ?_)
  exact ⟨simpleH 2, by rw [he]; rfl, fun x hx => by rw [he] at hx; cases hx; rfl, rfl⟩
  replace c17 := f_eq c17
  rw [if_neg c17] at he
  repeat first | refine sk fun K hK => ?_ | refine bk ?_ | refine rn fun _ => ?_
  refine xG (PO.bin Et Ev.const rfl) ?_
  refine xA ?_
  refine wn [0, 3, 4, 12, 21] ?_
  repeat first | refine sk fun K hK => ?_ | refine bk ?_
  refine wc (fun c21 => ?_) fun c21 => ?_
  replace c21 := t_eq c21
  rw [if_pos c21] at he
  repeat first | refine sk fun K hK => ?_ | refine bk ?_ | refine rn fun _ => ?_
  refine xf (E1 Ev.const) (scal_ct _ _ _) ?_
  refine xG (PO.build Tryz.underlying83 rfl rfl rfl (EvP.cons Et (EvP.cons Ev.const EvP.nil)) rfl) ?_
  refine xS ?_
  refine xC ?_
  refine wn [4, 5] ?_
  refine WC.ret (end2 (h' := h) (.inl rfl) rfl (RV.cellA Tryz.underlying83 rfl rfl rfl Me rfl) (RV.tmp rfl) (View.le.refl m) Sb ?_)
  exact ⟨simpleH 3, by rw [he]; rfl, fun x hx => by rw [he] at hx; cases hx; rfl, rfl⟩
  replace c21 := f_eq c21
  rw [if_neg c21] at he
  repeat first | refine sk fun K hK => ?_ | refine bk ?_ | refine rn fun _ => ?_
  refine xG (PO.bin Et Ev.const rfl) ?_
  refine xA ?_
  refine wn [0, 3, 4, 12, 25] ?_
  repeat first | refine sk fun K hK => ?_ | refine bk ?_
  refine wc (fun c25 => ?_) fun c25 => ?_
  replace c25 := t_eq c25
  rw [if_pos c25] at he
  repeat first | refine sk fun K hK => ?_ | refine bk ?_ | refine rn fun _ => ?_
  refine xM ?_
  refine xF Tryz.underlying27 ?_
  refine xG (pL Tryz.underlying9) ?_
  refine xf (E2 Et Et) (hnr ▸ named_ct (hs.mono Sb) e.s) ?_
  refine xE ?_
  refine xE ?_
  refine xS ?_
  refine xA ?_
  refine wn [4, 5] ?_
  refine WC.ret (end2 (h' := h) (.inl rfl) rfl (RV.cellA Tryz.underlying83 rfl rfl rfl Me rfl) (RV.tmp rfl) (View.le.refl m) Sb ?_)
  exact ⟨okT nr, by rw [he]; rfl, fun x hx => by rw [he] at hx; rw [hx]; rfl, rfl⟩
  replace c25 := f_eq c25
  rw [if_neg c25] at he
  repeat first | refine sk fun K hK => ?_ | refine bk ?_ | refine rn fun _ => ?_
  refine xG (PO.bin Et Ev.const rfl) ?_
  refine xA ?_
  refine wn [0, 3, 4, 12, 33] ?_
  repeat first | refine sk fun K hK => ?_ | refine bk ?_
  refine wc (fun c33 => ?_) fun c33 => ?_
  replace c33 := t_eq c33
  rw [if_neg (by omega), if_pos c33] at he
  obtain ⟨x0, hl⟩ := one_part hF (.inl c33)
  have hx0 : e.l[0]? = some x0 := by rw [hl]; rfl
  have hxm : x0 ∈ e.l := by rw [hl]; exact List.Mem.head _
  rw [typFL_0 _ hx0] at he
  have hI : typX (shL s) e = idxT (nameE (shL s) e.s) (typX (shL s) x0) := by rw [he, ← hnr]; rfl
  repeat first | refine sk fun K hK => ?_ | refine bk ?_ | refine rn fun _ => ?_
  refine xM ?_
  refine xG (pA Tryz.underlying27) ?_
  refine xg (E2 Et Et) (indexed_ct (hs.mono Sb) e (hT.mono Sb) x0 hx0 (typX (shL s) x0) (typX_err s x0) (fun h' hh => ih x0 hxm h' (hs.mono (List.Sublist.trans Sb hh)) ((hT.part hxm).mono (List.Sublist.trans Sb hh)) (hW.part hxm) (hF.part hxm))) ?_
  rintro _ _ ⟨hd, rfl, hhd, rfl⟩
  refine xE ?_
  refine xE ?_
  refine xS ?_
  refine xA ?_
  refine wn [4, 5] ?_
  refine WC.ret (end2 (h' := h) (.inl rfl) rfl (RV.cellA Tryz.underlying83 rfl rfl rfl Me rfl) (RV.tmp rfl) (View.le.refl m) Sb ?_)
  exact ⟨hd, by rw [hI]; rfl, fun x hx => hhd x (by rw [← hI]; exact hx), rfl⟩
  replace c33 := f_eq c33
  repeat first | refine sk fun K hK => ?_ | refine bk ?_ | refine rn fun _ => ?_
  refine xG (PO.bin Et Ev.const rfl) ?_
  refine xA ?_
  refine wn [0, 3, 4, 40] ?_
  repeat first | refine sk fun K hK => ?_ | refine bk ?_
  refine wc (fun c40 => ?_) fun c40 => ?_
  replace c40 := t_eq c40
  rw [if_pos c40] at he
  repeat first | refine sk fun K hK => ?_ | refine bk ?_ | refine rn fun _ => ?_
  refine xM ?_
  refine xF Tryz.underlying27 ?_
  refine xG (pL Tryz.underlying9) ?_
  refine xf (E2 Et Et) (hnr ▸ named_ct (hs.mono Sb) e.s) ?_
  refine xM ?_
  refine xE ?_
  refine xE ?_
  refine xW fun b6 => ?_
  refine xS ?_
  refine xA ?_
  refine wn [4, 6, 7] ?_
  repeat first | refine sk fun K hK => ?_ | refine bk ?_ | refine rg fun ops hG => ?_
  refine xM ?_
  refine xG (PO.bin Et Ev.const rfl) ?_
  refine xM ?_
  refine zG (fun _ => pF Tryz.underlying83) ?_
  refine zG (fun hc => PO.fieldAddr Tryz.underlying30 rfl (Nat.ne_of_beq_eq_false rfl) (Eg hc)) ?_
  refine zG (fun hc => PO.load1 Tryz.underlying3 rfl (Eg hc) Me rfl) ?_
  refine zG (fun hc => PO.bin (Eg hc) Ev.const rfl) ?_
  refine xP ?_
  refine wn [4, 7, 56] ?_
  try clear hG ops
  (repeat refine WC.seqK fun K hK => ?_)
  refine WC.cutK (by assumption) [4] rfl (fun F' h' => ∃ er : Int, (er = errT (arrF nr)) ∧ F' = [(7, .int .i64 er)] ∧ .pt b6 (.cells (hdE (okT nr)).toArray 83 (0, 0)) :: .pt b4 (.cells (hdE zeroH).toArray 83 (0, 0)) :: .pt b3 (.cells (exE e).toArray 27 (0, 0)) :: h = h') ?_ ?_
  repeat first | refine sk fun K hK => ?_ | refine bk ?_
  refine wc (fun c56 => ?_) fun c56 => ?_
  have d56 : errT nr = 0 ∧ (okT nr).t.dim < 1 := by have : ((errT nr == 0) && decide ((okT nr).t.dim < 1)) = true := c56; simpa using this
  have hA : errT (arrF nr) = 130 := by
    obtain ⟨q, hq⟩ := ok_of hn0 d56.1
    have h2 := d56.2
    rw [hq] at h2 ⊢
    replace h2 : q.t.dim < 1 := h2
    unfold arrF
    dsimp only
    rw [if_pos h2]
    rfl
  repeat first | refine sk fun K hK => ?_ | refine bk ?_ | refine rn fun _ => ?_
  refine xC ?_
  refine WL.nil (meetI [(7, .int .i64 130)] (h'' := .pt b6 (.cells (hdE (okT nr)).toArray 83 (0, 0)) :: .pt b4 (.cells (hdE zeroH).toArray 83 (0, 0)) :: .pt b3 (.cells (exE e).toArray 27 (0, 0)) :: h) ?_ (by (repeat (first | exact Sub.nil | refine Sub.cons rfl ?_ | refine Sub.consE rfl (by simp; done) ?_))) Sb ⟨130, hA.symm, rfl, rfl⟩)
  (repeat (first | exact Sub.nil | refine Sub.cons rfl ?_ | refine Sub.consE rfl (by simp; done) ?_))
  have d56 : ¬ (errT nr = 0 ∧ (okT nr).t.dim < 1) := by have : ((errT nr == 0) && decide ((okT nr).t.dim < 1)) = false := c56; simpa using this
  have hA : errT (arrF nr) = errT nr := by
    cases hq : nr with
    | error w => rfl
    | ok q =>
      rw [hq] at d56
      unfold arrF
      dsimp only
      have hz : ¬ q.t.dim < 1 := fun z => d56 ⟨rfl, z⟩
      rw [if_neg hz]
  refine WC.skip (meetI [(7, .int .i64 (errT nr))] (h'' := .pt b6 (.cells (hdE (okT nr)).toArray 83 (0, 0)) :: .pt b4 (.cells (hdE zeroH).toArray 83 (0, 0)) :: .pt b3 (.cells (exE e).toArray 27 (0, 0)) :: h) ?_ (by (repeat (first | exact Sub.nil | refine Sub.cons rfl ?_ | refine Sub.consE rfl (by simp; done) ?_))) Sb ⟨errT nr, hA.symm, rfl, rfl⟩)
  (repeat (first | exact Sub.nil | refine Sub.cons rfl ?_ | refine Sub.consE rfl (by simp; done) ?_))
  rintro _ _ ⟨er, her, rfl, rfl⟩
  refine WC.frm rfl ?_
  repeat first | refine sk fun K hK => ?_ | refine bk ?_ | refine rn fun _ => ?_
  refine xf (E1 Ev.const) (scal_ct _ _ _) ?_
  refine xG (PO.build Tryz.underlying83 rfl rfl rfl (EvP.cons Et (EvP.cons Ev.const EvP.nil)) rfl) ?_
  refine xM ?_
  refine xS ?_
  refine xA ?_
  refine wn [4, 5] ?_
  refine WC.ret (end2 (h' := h) (.inl rfl) rfl (RV.cellA Tryz.underlying83 rfl rfl rfl Me rfl) (RV.tmp rfl) (View.le.refl m) Sb ?_)
  exact ⟨simpleH 1, by rw [he, her]; cases arrF nr <;> rfl, fun x hx => by rw [he] at hx; cases hA : arrF nr <;> rw [hA] at hx <;> cases hx <;> rfl, rfl⟩
  replace c40 := f_eq c40
  rw [if_neg c40, if_neg c33] at he
  have hkd := good_kind hF
  have hk3 : e.k = 6 ∨ e.k = 7 ∨ e.k = 8 := by omega
  have hl1 : 1 ≤ e.l.length := by
    rcases hk3 with h6 | h7 | h8
    · obtain ⟨x, hl⟩ := one_part hF (.inr (.inl h6)); rw [hl]; exact Nat.le_refl _
    · obtain ⟨x, y, hl⟩ := two_parts hF h7; rw [hl]; exact Nat.le_succ _
    · obtain ⟨x, hl⟩ := one_part hF (.inr (.inr h8)); rw [hl]; exact Nat.le_refl _
  obtain ⟨x0, hx0⟩ := get_some (l := e.l) (k := 0) (by omega)
  have hxm := List.mem_of_getElem? hx0
  rw [typFL_0 _ hx0] at he
  replace he : typX (shL s) e = match typX (shL s) x0 with
    | .error e => .error e
    | .ok a => if e.k = 7 ∧ isT ((typFL (nameE (shL s)) e.l).getD 1 (.error 130)) a.t ≠ 0 then .error (isT ((typFL (nameE (shL s)) e.l).getD 1 (.error 130)) a.t)
      else if e.k ≠ 8 then opT e.o a.t
      else if simT a.t then .ok (simpleH e.t) else .error 130 := he
  refine WC.skip (kp [0, 3, 4] ?_)
  repeat first | refine sk fun K hK => ?_ | refine bk ?_ | refine rn fun _ => ?_
  refine xM ?_
  refine xF Tryz.underlying27 ?_
  refine xG (pL Tryz.underlying25) ?_
  refine xG (PO.idx EL25.und EL25.size EL25.posz (Ev.tmp rfl) Ev.const Rr rfl (q := 0) (by omega)) ?_
  refine xG (PO.loadFA Tryz.underlying27 rfl rfl exE_len Rr (Ev.tmp rfl) (by assumption) rfl rfl (Nat.succ_pos _)) ?_
  refine xg (E2 Et Et) (ih x0 hxm _ (hs.mono Sb) ((hT.part hxm).mono Sb) (hW.part hxm) (hF.part hxm)) ?_
  rintro _ _ ⟨hd, rfl, hhd, rfl⟩
  refine xM ?_
  refine xE ?_
  refine xE ?_
  refine xW fun b8 => ?_
  refine xS ?_
  refine xA ?_
  refine wn [0, 3, 4, 8, 9] ?_
  repeat first | refine sk fun K hK => ?_ | refine bk ?_ | refine rn fun _ => ?_
  refine xM ?_
  refine xG (PO.bin Et Ev.const rfl) ?_
  refine wn [0, 3, 4, 8, 9, 70] ?_
  repeat first | refine sk fun K hK => ?_ | refine bk ?_
  refine wc (fun c70 => ?_) fun c70 => ?_
  replace c70 := t_ne c70
  obtain ⟨w, hw⟩ := err_of c70
  rw [hw] at he
  repeat first | refine sk fun K hK => ?_ | refine bk ?_ | refine rn fun _ => ?_
  refine xG (PO.build Tryz.underlying83 rfl rfl rfl EvP.nil rfl) ?_
  refine xM ?_
  refine xS ?_
  refine xA ?_
  refine wn [4, 5] ?_
  refine WC.ret (end2 (h' := h) (.inl rfl) rfl (RV.cellA Tryz.underlying83 rfl rfl rfl Me rfl) (RV.tmp rfl) (View.le.refl m) Sb ?_)
  exact ⟨zeroH, by rw [he, hw]; rfl, fun x hx => (by rw [he] at hx; cases hx), rfl⟩
  replace c70 := f_ne c70
  have hE := okE (typX_err s x0) c70 hhd
  rw [hE] at he
  dsimp only at he
  refine WC.skip (kp [0, 3, 4, 8] ?_)
  repeat first | refine sk fun K hK => ?_ | refine bk ?_ | refine rn fun _ => ?_
  refine xF Tryz.underlying27 ?_
  refine xG (pL Tryz.underlying22) ?_
  refine xG (PO.bin Et Ev.const rfl) ?_
  refine wn [0, 3, 4, 8, 75] ?_
  repeat first | refine sk fun K hK => ?_ | refine bk ?_
  refine wc (fun c75 => ?_) fun c75 => ?_
  replace c75 := t_eq c75
  rw [if_neg (by omega), if_neg (by omega)] at he
  repeat first | refine sk fun K hK => ?_ | refine bk ?_ | refine rn fun _ => ?_
  refine xF Tryz.underlying83 ?_
  refine xG (pA Tryz.underlying30) ?_
  refine xf (E1 Et) (simR_ct _ _ _) ?_
  refine xG (PO.not Et) ?_
  refine wn [3, 4, 79] ?_
  repeat first | refine sk fun K hK => ?_ | refine bk ?_
  refine wc (fun c79 => ?_) fun c79 => ?_
  have hsm : ¬ simT hd.t = true := by simpa using c79
  rw [if_neg hsm] at he
  repeat first | refine sk fun K hK => ?_ | refine bk ?_ | refine rn fun _ => ?_
  refine xG (PO.build Tryz.underlying83 rfl rfl rfl EvP.nil rfl) ?_
  refine xS ?_
  refine xC ?_
  refine wn [4, 5] ?_
  refine WC.ret (end2 (h' := h) (.inl rfl) rfl (RV.cellA Tryz.underlying83 rfl rfl rfl Me rfl) (RV.tmp rfl) (View.le.refl m) Sb ?_)
  exact ⟨zeroH, by rw [he]; rfl, fun x hx => (by rw [he] at hx; cases hx), rfl⟩
  have hsm : simT hd.t = true := by simpa using c79
  rw [if_pos hsm] at he
  refine WC.skip (kp [3, 4] ?_)
  repeat first | refine sk fun K hK => ?_ | refine bk ?_ | refine rn fun _ => ?_
  refine xF Tryz.underlying27 ?_
  refine xG (pL Tryz.underlying24) ?_
  refine xf (E1 Et) (scal_ct _ _ _) ?_
  refine xG (PO.build Tryz.underlying83 rfl rfl rfl (EvP.cons Et (EvP.cons Ev.const EvP.nil)) rfl) ?_
  refine xS ?_
  refine xC ?_
  refine wn [4, 5] ?_
  refine WC.ret (end2 (h' := h) (.inl rfl) rfl (RV.cellA Tryz.underlying83 rfl rfl rfl Me rfl) (RV.tmp rfl) (View.le.refl m) Sb ?_)
  exact ⟨simpleH e.t, by rw [he]; rfl, fun x hx => (by rw [he] at hx; cases hx; rfl), rfl⟩
  replace c75 := f_eq c75
  refine WC.skip (kp [0, 3, 4, 8] ?_)
  repeat first | refine sk fun K hK => ?_ | refine bk ?_ | refine rn fun _ => ?_
  refine xF Tryz.underlying27 ?_
  refine xG (pL Tryz.underlying22) ?_
  refine xG (PO.bin Et Ev.const rfl) ?_
  refine wn [0, 3, 4, 8, 87] ?_
  (repeat refine WC.seqK fun K hK => ?_)
  refine WC.cutK (by assumption) [3, 4, 8] rfl (fun F' h' => (typX (shL s) e = opT e.o hd.t) ∧ F' = [] ∧ .pt b8 (.cells (hdE hd).toArray 83 (0, 0)) :: .pt b4 (.cells (hdE zeroH).toArray 83 (0, 0)) :: .pt b3 (.cells (exE e).toArray 27 (0, 0)) :: h = h') ?_ ?_
  repeat first | refine sk fun K hK => ?_ | refine bk ?_
  refine wc (fun c87 => ?_) fun c87 => ?_
  replace c87 := t_eq c87
  obtain ⟨xx, y0, hl⟩ := two_parts hF c87
  have hy0 : e.l[1]? = some y0 := by rw [hl]; rfl
  have hln2 : e.l.length = 2 := by rw [hl]; rfl
  have hym := List.mem_of_getElem? hy0
  have g1 : (typFL (nameE (shL s)) e.l).getD 1 (.error 130) = typX (shL s) y0 := by rw [hl]; rfl
  rw [g1] at he
  repeat first | refine sk fun K hK => ?_ | refine bk ?_
  refine WC.drawS [] (.op 0 (.op 1 (.op 2 (.op 3 (.op 4 (.op 5 (.op 6 .nil))))))) [7, 8] _ [] mixed (fun _ _ _ _ _ h => h) [] (by kernel_rfl) ?_
  refine yG rfl (PO.move Et) ?_
  refine yG rfl (pF Tryz.underlying27) ?_
  refine yG rfl (pL Tryz.underlying25) ?_
  refine yG rfl (PO.idx EL25.und EL25.size EL25.posz (Ev.tmp rfl) Ev.const Rr rfl (q := 1) (by omega)) ?_
  refine yG rfl (PO.loadFA Tryz.underlying27 rfl rfl exE_len Rr (Ev.tmp rfl) (by assumption) rfl rfl (Nat.succ_pos _)) ?_
  refine yG rfl (pF Tryz.underlying83) ?_
  refine yG rfl (pA Tryz.underlying30) ?_
  refine SR.nil rfl rfl ?_
  refine xf (E3 Et Et Et) (needs_ct _ y0 hd.t (typX (shL s) y0) (typX_err s y0) _ (fun h' hh => ih y0 hym h' (hs.mono (List.Sublist.trans Sb hh)) ((hT.part hym).mono (List.Sublist.trans Sb hh)) (hW.part hym) (hF.part hym))) ?_
  refine xA ?_
  refine wn [3, 4, 8, 9] ?_
  repeat first | refine sk fun K hK => ?_ | refine bk ?_ | refine rn fun _ => ?_
  refine xM ?_
  refine xG (PO.bin Et Ev.const rfl) ?_
  refine wn [3, 4, 8, 9, 97] ?_
  repeat first | refine sk fun K hK => ?_ | refine bk ?_
  refine wc (fun c97 => ?_) fun c97 => ?_
  replace c97 := t_ne c97
  rw [if_pos ⟨c87, c97⟩] at he
  repeat first | refine sk fun K hK => ?_ | refine bk ?_ | refine rn fun _ => ?_
  refine xG (PO.build Tryz.underlying83 rfl rfl rfl EvP.nil rfl) ?_
  refine xM ?_
  refine xS ?_
  refine xA ?_
  refine wn [4, 5] ?_
  refine WC.ret (end2 (h' := h) (.inl rfl) rfl (RV.cellA Tryz.underlying83 rfl rfl rfl Me rfl) (RV.tmp rfl) (View.le.refl m) Sb ?_)
  exact ⟨zeroH, by rw [he]; rfl, fun x hx => (by rw [he] at hx; cases hx), rfl⟩
  replace c97 := f_ne c97
  rw [if_neg (fun q => q.2 c97), if_pos (by omega)] at he
  refine WC.skip (meetI [] (h'' := .pt b8 (.cells (hdE hd).toArray 83 (0, 0)) :: .pt b4 (.cells (hdE zeroH).toArray 83 (0, 0)) :: .pt b3 (.cells (exE e).toArray 27 (0, 0)) :: h) ?_ (by (repeat (first | exact Sub.nil | refine Sub.cons rfl ?_ | refine Sub.consE rfl (by simp; done) ?_))) Sb ⟨he, rfl, rfl⟩)
  (repeat (first | exact Sub.nil | refine Sub.cons rfl ?_ | refine Sub.consE rfl (by simp; done) ?_))
  replace c87 := f_eq c87
  rw [if_neg (fun q => c87 q.1), if_pos (by omega)] at he
  refine WC.skip (meetI [] (h'' := .pt b8 (.cells (hdE hd).toArray 83 (0, 0)) :: .pt b4 (.cells (hdE zeroH).toArray 83 (0, 0)) :: .pt b3 (.cells (exE e).toArray 27 (0, 0)) :: h) ?_ (by (repeat (first | exact Sub.nil | refine Sub.cons rfl ?_ | refine Sub.consE rfl (by simp; done) ?_))) Sb ⟨he, rfl, rfl⟩)
  (repeat (first | exact Sub.nil | refine Sub.cons rfl ?_ | refine Sub.consE rfl (by simp; done) ?_))
  rintro _ _ ⟨hq, rfl, rfl⟩
  refine WC.frm rfl ?_
  repeat first | refine sk fun K hK => ?_ | refine bk ?_ | refine rn fun _ => ?_
  refine xF Tryz.underlying27 ?_
  refine xG (pL Tryz.underlying23) ?_
  refine xF Tryz.underlying83 ?_
  refine xG (pA Tryz.underlying30) ?_
  refine xf (E2 Et Et) (oper_ct e.o hd.t _ _) ?_
  refine xM ?_
  refine xE ?_
  refine xE ?_
  refine xW fun b10 => ?_
  refine xS ?_
  refine xA ?_
  refine wn [4, 9, 10] ?_
  repeat first | refine sk fun K hK => ?_ | refine bk ?_ | refine rn fun _ => ?_
  refine xG (pA Tryz.underlying30) ?_
  refine xG (PO.build Tryz.underlying83 rfl rfl rfl (EvP.cons Et (EvP.cons Ev.const EvP.nil)) rfl) ?_
  refine xM ?_
  refine xS ?_
  refine xA ?_
  refine wn [4, 5] ?_
  refine WC.ret (end2 (h' := h) (.inl rfl) rfl (RV.cellA Tryz.underlying83 rfl rfl rfl Me rfl) (RV.tmp rfl) (View.le.refl m) Sb ?_)
  unfold opT at hq; exact ⟨⟨okY (resT e.o hd.t), 0⟩, by rw [hq]; cases resT e.o hd.t <;> rfl, fun x hx => (by rw [hq] at hx; cases hy : resT e.o hd.t <;> rw [hy] at hx <;> cases hx <;> rfl), rfl⟩
theorem ofRV_ct {m : View} {h : List Res} {s : List En} {a : Option Addr} {k c : Nat} (hs : ScR m h a k c s) (e : Ex) (hx : XOk m h e) : CT Tryz.prog 27 [.slice a k c, exV e] h m (fun v _ h' => (∃ hd, v = heldV hd (errT (typX (shL s) e)) ∧ ∀ x, typX (shL s) e = .ok x → hd = x) ∧ h' = h) :=
  (ofR_ct s a k c e h hs hx.t hx.w hx.f).mono (by rintro v _ _ _ ⟨hd, h1, h2, h3⟩; exact ⟨⟨hd, h1, h2⟩, h3⟩)
theorem refOf_ct {m : View} {h : List Res} (e : Ex) (hT : TOk m h e) (hW : Wf e) (l : List Sp) (a : Option Addr) (k c : Nat) (hr : Rd m h a k c 16 (fl spE l)) (hv : VOkE m h l) (hn : l.length ≤ 900000) :
    CT Tryz.prog 9 [exV e, .slice a k c] h m (Pure1 h (.tuple #[tyV (ofX (envX l) e).1, .int .i64 (ofX (envX l) e).2])) := by
  refine CT.body Tryz.call9 Tryz.func9 rfl Tryz.ntmps9 (leB rfl) rfl ?_
  repeat first | refine sk fun K hK => ?_ | refine bk ?_ | refine rn fun _ => ?_
  refine xX fun b2 => ?_
  refine xW fun b4 => ?_
  refine xC ?_
  refine wn [1, 2, 4] ?_
  repeat first | refine sk fun K hK => ?_ | refine bk ?_ | refine rn fun _ => ?_
  refine xG (pA Tryz.underlying27) ?_
  refine xf (E1 Et) (mayR_ct e _ (hT.mono Sb) hW) ?_
  refine xG (PO.not Et) ?_
  refine wn [1, 2, 4, 10] ?_
  repeat first | refine sk fun K hK => ?_ | refine bk ?_
  refine wc (fun c10 => ?_) fun c10 => ?_
  have hm : mayE e = false := by simpa using c10
  have ho : ofX (envX l) e = (Go.Ty.zeroT, 2) := by unfold ofX; rw [hm]; rfl
  repeat first | refine sk fun K hK => ?_ | refine bk ?_ | refine rn fun _ => ?_
  refine xG (PO.build Tryz.underlying30 rfl rfl rfl EvP.nil rfl) ?_
  refine xS ?_
  refine xC ?_
  refine wn [4, 5] ?_
  refine WC.ret (end2 (h' := h) (.inl rfl) rfl (RV.cellA Tryz.underlying30 rfl rfl rfl Me rfl) (RV.tmp rfl) (View.le.refl m) Sb ?_)
  exact ⟨by rw [ho]; rfl, rfl⟩
  have hm : mayE e = true := by simpa using c10
  have hx : XOk m h e := ⟨hT, hW, (may_good hm).1⟩
  have ho : ofX (envX l) e = match typX (envX l) e with | .error w => (Go.Ty.zeroT, w) | .ok h => (h.t, 0) := by unfold ofX; rw [hm]; rfl
  refine WC.skip (kp [1, 2, 4] ?_)
  repeat first | refine sk fun K hK => ?_ | refine bk ?_
  refine WC.drawL [1, 3] (.op 0 (.op 2 (.op 1 (.op 3 (.op 4 (.op 5 (.op 6 .nil))))))) [8, 9] [(7, 6)] _ [] mixed (fun _ _ _ _ _ h => h) [6] (by kernel_rfl) (Fls.cons rfl rfl rfl (leB rfl) rfl Fls.nil) rfl ?_
  refine yG rfl (PO.move Et) ?_
  refine yG rfl (pA Tryz.underlying27) ?_
  refine SR.callF rfl rfl Ev.func (Evs.cons Et Evs.nil) (fun fr => entriesR_ct l a k c (hr.mono (View.le.refl _) Sb) (by omega)) (leB rfl) fun a14 c14 => ?_
  refine SR.callV rfl rfl Ev.func (Evs.cons Et (Evs.cons Et Evs.nil)) (fun fr => CT.knowRow Tryz.call27 (a := a14) (List.mem_append_right _ Me) (fun q1 q2 q3 => ofRV_ct (ScR.env (hv.mono Sb) (Rd.ofRow q3 q1 q2 (List.mem_append_right _ Me))) e (hx.mono Sb))) (leB rfl) ?_
  rintro _ ⟨hd, rfl, hhd⟩
  refine yG rfl (PO.move Et) ?_
  refine yG rfl (PO.extract Et rfl) ?_
  refine yG rfl (PO.extract Et rfl) ?_
  refine SR.nilF rfl rfl fun b6 => ?_
  refine xS ?_
  refine xA ?_
  refine wn [4, 6, 7] ?_
  repeat first | refine sk fun K hK => ?_ | refine bk ?_ | refine rn fun _ => ?_
  refine xM ?_
  refine xG (PO.bin Et Ev.const rfl) ?_
  refine wn [4, 6, 7, 20] ?_
  repeat first | refine sk fun K hK => ?_ | refine bk ?_
  refine wc (fun c20 => ?_) fun c20 => ?_
  replace c20 := t_ne c20
  obtain ⟨w, hw⟩ := err_of c20
  have hw2 : typX (envX l) e = .error w := hw
  rw [hw2] at ho
  repeat first | refine sk fun K hK => ?_ | refine bk ?_ | refine rn fun _ => ?_
  refine xG (PO.build Tryz.underlying30 rfl rfl rfl EvP.nil rfl) ?_
  refine xM ?_
  refine xS ?_
  refine xA ?_
  refine wn [4, 5] ?_
  refine WC.ret (end2 (h' := h) (.inl rfl) rfl (RV.cellA Tryz.underlying30 rfl rfl rfl Me rfl) (RV.tmp rfl) (View.le.refl m) Sb ?_)
  exact ⟨by rw [ho, hw]; rfl, rfl⟩
  replace c20 := f_ne c20
  have hE : typX (envX l) e = .ok hd := okE (typX_err _ e) c20 hhd
  rw [hE] at ho
  refine WC.skip (kp [4, 6] ?_)
  repeat first | refine sk fun K hK => ?_ | refine bk ?_ | refine rn fun _ => ?_
  refine xF Tryz.underlying83 ?_
  refine xG (pA Tryz.underlying30) ?_
  refine xS ?_
  refine xC ?_
  refine wn [4, 5] ?_
  refine WC.ret (end2 (h' := h) (.inl rfl) rfl (RV.cellA Tryz.underlying30 rfl rfl rfl Me rfl) (RV.tmp rfl) (View.le.refl m) Sb ?_)
  exact ⟨by rw [ho]; rfl, rfl⟩
end Go.Proofs.YtdhmplmpbcnojaaGreatDoor
end
/- LwA -/
section
namespace Go.Proofs.YtdhmplmpbcnojaaGreatDoor
open Go.Eng Go.Pc Go.Tg Go
open Go.Xp hiding B nameT zeroT
open Go.Ty (Ty Vr eqT tyV cellT PrOk VOk prL encV encV_len encI encI_len zeroT)
open Go.Lx (encB encB_len)
set_option maxRecDepth 100000
theorem appO_any : ∀ l r : List Res, appO l r = some (l ++ r)
  | [], _ => rfl
  | x :: l, r => by unfold appO; rw [appO_any l r]; rfl
theorem subR (fr l r t : List Res) : r.Sublist (fr ++ ((l ++ r) ++ t)) := ((List.sublist_append_right l r).trans (List.sublist_append_left _ t)).trans (List.sublist_append_right fr _)
def Law : Value → View → List Res → Prop := fun v _ _ => v = .bool true
theorem nameX_ct (s : B) (h : List Res) (m : View) : CT Tryz.prog 19 [str s] h m (Pure1 h (exV (nmX s))) := by
  refine CT.body Tryz.call19 Tryz.func19 rfl Tryz.ntmps19 (leB rfl) rfl ?_
  repeat first | refine sk fun K hK => ?_ | refine bk ?_ | refine rn fun _ => ?_
  refine xW fun b2 => ?_
  refine wn [0, 2] ?_
  repeat first | refine sk fun K hK => ?_ | refine bk ?_ | refine rn fun _ => ?_
  refine xM ?_
  refine xG (PO.build Tryz.underlying27 rfl rfl rfl (EvP.cons Ev.const (EvP.cons Et EvP.nil)) rfl) ?_
  refine xS ?_
  refine wn [2] ?_
  refine WC.ret (end1 (h' := h) (.inl rfl) rfl (RV.cellA Tryz.underlying27 rfl rfl rfl (by (repeat (first | exact mem0 _ | apply memT | apply List.mem_append_right))) rfl) (View.le.refl m) Sb ?_)
  exact ⟨rfl, rfl⟩
theorem numX_ct (n : Int) (h : List Res) (m : View) : CT Tryz.prog 14 [.int .i32 n] h m (Pure1 h (exV (nuX n))) := by
  refine CT.body Tryz.call14 Tryz.func14 rfl Tryz.ntmps14 (leB rfl) rfl ?_
  repeat first | refine sk fun K hK => ?_ | refine bk ?_ | refine rn fun _ => ?_
  refine xW fun b2 => ?_
  refine wn [0, 2] ?_
  repeat first | refine sk fun K hK => ?_ | refine bk ?_ | refine rn fun _ => ?_
  refine xM ?_
  refine xG (PO.build Tryz.underlying27 rfl rfl rfl (EvP.cons Ev.const (EvP.cons Et EvP.nil)) rfl) ?_
  refine xS ?_
  refine wn [2] ?_
  refine WC.ret (end1 (h' := h) (.inl rfl) rfl (RV.cellA Tryz.underlying27 rfl rfl rfl (by (repeat (first | exact mem0 _ | apply memT | apply List.mem_append_right))) rfl) (View.le.refl m) Sb ?_)
  exact ⟨rfl, rfl⟩
abbrev twoR (x y : Ex) (b : Nat) : Res := .pt b (.cells (exE x ++ exE y).toArray 27 (0, 0))
abbrev oneR (x : Ex) (b : Nat) : Res := .pt b (.cells (exE x).toArray 27 (0, 0))
theorem two_ct (o : Int) (x y : Ex) (h : List Res) (m : View) : CT Tryz.prog 18 [.int .u8 o, exV x, exV y] h m (fun v _ h' => ∃ b, v = exV (twoX o x y b) ∧ h' = twoR x y b :: h) := by
  refine CT.body Tryz.call18 Tryz.func18 rfl Tryz.ntmps18 (leB rfl) rfl ?_
  repeat first | refine sk fun K hK => ?_ | refine bk ?_ | refine rn fun _ => ?_
  refine xX fun b4 => ?_
  refine xX fun b5 => ?_
  refine xW fun b6 => ?_
  refine wn [0, 4, 5, 6] ?_
  repeat first | refine sk fun K hK => ?_ | refine bk ?_ | refine rn fun _ => ?_
  refine xM ?_
  refine xG (PO.loadA Tryz.underlying27 rfl rfl Et (by (repeat (first | exact mem0 _ | apply memT | apply List.mem_append_right))) rfl) ?_
  refine xG (PO.loadA Tryz.underlying27 rfl rfl Et (by (repeat (first | exact mem0 _ | apply memT | apply List.mem_append_right))) rfl) ?_
  refine xY EL25 (EvP.cons Et (EvP.cons Et EvP.nil)) fun b10 => ?_
  refine xG (PO.build Tryz.underlying27 rfl rfl rfl (EvP.cons Ev.const (EvP.cons Et (EvP.cons Et EvP.nil))) rfl) ?_
  refine xS ?_
  refine wn [6] ?_
  refine WC.ret (end1 (h' := twoR x y b10 :: h) (.inl rfl) rfl (RV.cellA Tryz.underlying27 rfl rfl rfl (by (repeat (first | exact mem0 _ | apply memT | apply List.mem_append_right))) rfl) (View.le.refl m) Sb ?_)
  exact ⟨b10, rfl, rfl⟩
theorem two_t (l t : List Res) (o : Int) (x y : Ex) (m : View) : CX Tryz.prog 18 [.int .u8 o, exV x, exV y] (l ++ t) m (fun v _ h' => ∃ hp', h' = hp' ++ t ∧ ∃ b, v = exV (twoX o x y b) ∧ hp' = twoR x y b :: l) (fun _ _ => False) :=
  (CX.ofCT (X := fun _ _ => False) (two_ct o x y (l ++ t) m)).mono (fun _ _ _ ⟨b, e1, e2⟩ => ⟨twoR x y b :: l, e2, b, e1, rfl⟩) (fun _ _ h => h)
abbrev nmR (s : B) (b : Nat) : Res := .pt b (.cells (fl encB [s]).toArray 9 (0, 0))
theorem decl_ct (s : B) (t : Ty) (h : List Res) (m : View) : CT Tryz.prog 21 [str s, tyV t] h m (fun v _ h' => ∃ b, v = spV (dclS s t b) ∧ h' = nmR s b :: h) := by
  refine CT.body Tryz.call21 Tryz.func21 rfl Tryz.ntmps21 (leB rfl) rfl ?_
  repeat first | refine sk fun K hK => ?_ | refine bk ?_ | refine rn fun _ => ?_
  refine xX fun b3 => ?_
  refine xW fun b4 => ?_
  refine wn [0, 3, 4] ?_
  repeat first | refine sk fun K hK => ?_ | refine bk ?_ | refine rn fun _ => ?_
  refine xG (PO.loadA Tryz.underlying30 rfl rfl Et (by (repeat (first | exact mem0 _ | apply memT | apply List.mem_append_right))) rfl) ?_
  refine xM ?_
  refine xY EL48 (EvP.cons Et EvP.nil) fun b7 => ?_
  refine xG (PO.build Tryz.underlying54 rfl rfl rfl (EvP.cons Ev.const (EvP.cons Et (EvP.cons Et EvP.nil))) rfl) ?_
  refine xS ?_
  refine wn [4] ?_
  refine WC.ret (end1 (h' := nmR s b7 :: h) (.inl rfl) rfl (RV.cellA Tryz.underlying54 rfl rfl rfl (by (repeat (first | exact mem0 _ | apply memT | apply List.mem_append_right))) rfl) (View.le.refl m) Sb ?_)
  exact ⟨b7, rfl, rfl⟩
/-- An environment whose shape is that of the examples. -/
structure EnvOk (m : View) (r : List Res) (a : Option Addr) (c : Nat) (L : List Sp) : Prop where
  rd : Rd m r a 6 c 16 (fl spE L)
  ok : VOkE m r L
  env : envX L = someE
  len : L.length ≤ 900000
theorem EnvOk.mono {m : View} {r r' : List Res} {a : Option Addr} {c : Nat} {L : List Sp} (q : EnvOk m r a c L) (s : r.Sublist r') : EnvOk m r' a c L := ⟨q.rd.mono (View.le.refl m) s, q.ok.mono s, q.env, q.len⟩
def someR (b2 b4 b6 b10 b11 b12 b14 b18 b19 : Nat) : List Res :=
  [.pt b19 (.cells (fl spE (someL b2 b4 b6 b10 b11 b12 b14 b18)).toArray 54 (0, 0)), nmR [99] b18, .pt b14 (.cells (fl encV [vpr b12]).toArray 102 (0, 0)), .pt b12 (.cells (fl encI [1, 3]).toArray 24 (0, 0)), nmR [112] b11, nmR [116] b10, nmR [107] b6, nmR [118] b4, nmR [120] b2]
theorem some_ok (m : View) (b2 b4 b6 b10 b11 b12 b14 b18 b19 : Nat) : EnvOk m (someR b2 b4 b6 b10 b11 b12 b14 b18 b19) (some ⟨b19, 0, none⟩) 6 (someL b2 b4 b6 b10 b11 b12 b14 b18) where
  rd := Rd.ofPt rfl (by show 6 ≤ _; decide) (List.Mem.head _)
  env := some_env _ _ _ _ _ _ _ _
  len := by show 6 ≤ 900000; decide
  ok := by
    have nm : ∀ (s : B) (b : Nat), nmR s b ∈ someR b2 b4 b6 b10 b11 b12 b14 b18 b19 → Rd m (someR b2 b4 b6 b10 b11 b12 b14 b18 b19) (some ⟨b, 0, none⟩) 1 1 1 (fl encB [s]) := fun s b hb => Rd.ofPt rfl (by decide) hb
    have nv : PrOk m (someR b2 b4 b6 b10 b11 b12 b14 b18 b19) none 0 0 [] := ⟨Rd.nilF encV 2 m _, fun _ hx => (List.not_mem_nil hx).elim, fun _ hx => (List.not_mem_nil hx).elim⟩
    refine ⟨fun x hx => ?_, fun x hx => ?_, fun x hx => ?_⟩
    · unfold someL at hx
      simp only [List.mem_cons, List.not_mem_nil, or_false] at hx
      rcases hx with rfl | rfl | rfl | rfl | rfl | rfl <;> exact nm _ _ (by unfold someR; simp)
    · unfold someL at hx
      simp only [List.mem_cons, List.not_mem_nil, or_false] at hx
      rcases hx with rfl | rfl | rfl | rfl | rfl | rfl <;> exact Rd.nilF foE 6 m _
    · unfold someL at hx
      simp only [List.mem_cons, List.not_mem_nil, or_false] at hx
      rcases hx with rfl | rfl | rfl | rfl | rfl | rfl
      · exact nv
      · exact nv
      · exact nv
      · exact nv
      · have h1 : Rd m (someR b2 b4 b6 b10 b11 b12 b14 b18 b19) (some ⟨b14, 0, none⟩) 1 1 2 (fl encV [vpr b12]) := Rd.ofPt rfl (by decide) (show (.pt b14 (.cells (fl encV [vpr b12]).toArray 102 (0, 0)) : Res) ∈ someR b2 b4 b6 b10 b11 b12 b14 b18 b19 from (by unfold someR; simp))
        have h2 : Rd m (someR b2 b4 b6 b10 b11 b12 b14 b18 b19) (some ⟨b12, 0, none⟩) 2 2 1 (fl encI [1, 3]) := Rd.ofPt rfl (by decide) (show (.pt b12 (.cells (fl encI [1, 3]).toArray 24 (0, 0)) : Res) ∈ someR b2 b4 b6 b10 b11 b12 b14 b18 b19 from (by unfold someR; simp))
        refine ⟨h1, fun v hv => ?_, fun v hv => ?_⟩
        · replace hv : v ∈ [vpr b12] := hv
          rw [List.mem_singleton] at hv
          subst hv
          exact ⟨h2⟩
        · replace hv : v ∈ [vpr b12] := hv
          rw [List.mem_singleton] at hv
          subst hv
          exact Nat.zero_le _
      · exact nv
def Some1 (m : View) (h : List Res) (v : Value) (h' : List Res) : Prop := ∃ (a : Option Addr) (c : Nat) (L : List Sp) (r : List Res), v = .slice a 6 c ∧ h' = r ++ h ∧ EnvOk m r a c L
theorem some_ct (h : List Res) (m : View) : CT Tryz.prog 22 [] h m (fun v _ h' => Some1 m h v h') := by
  refine CT.body Tryz.call22 Tryz.func22 rfl Tryz.ntmps22 (leB rfl) rfl ?_
  repeat first | refine sk fun K hK => ?_ | refine bk ?_ | refine rn fun _ => ?_
  refine xC ?_
  refine wn [] ?_
  repeat first | refine sk fun K hK => ?_ | refine bk ?_ | refine rn fun _ => ?_
  refine xG (PO.build Tryz.underlying30 rfl rfl rfl (EvP.cons Ev.const EvP.nil) rfl) ?_
  refine xg (E2 Ev.const Et) (decl_ct [120] (tyK 1) _ _) ?_
  rintro _ _ ⟨b2, rfl, rfl⟩
  refine xG (PO.build Tryz.underlying30 rfl rfl rfl (EvP.cons Ev.const (EvP.cons Ev.const EvP.nil)) rfl) ?_
  refine xg (E2 Ev.const Et) (decl_ct [118] ⟨1, 4, 0, []⟩ _ _) ?_
  rintro _ _ ⟨b4, rfl, rfl⟩
  refine xG (PO.build Tryz.underlying30 rfl rfl rfl (EvP.cons Ev.const EvP.nil) rfl) ?_
  refine xY EL48 (EvP.cons Ev.const EvP.nil) fun b6 => ?_
  refine xG (PO.build Tryz.underlying27 rfl rfl rfl (EvP.cons Ev.const (EvP.cons Ev.const EvP.nil)) rfl) ?_
  refine xG (PO.build Tryz.underlying54 rfl rfl rfl (EvP.cons Ev.const (EvP.cons Et (EvP.cons Et (EvP.cons Et EvP.nil)))) rfl) ?_
  refine xG (PO.build Tryz.underlying30 rfl rfl rfl (EvP.cons Ev.const EvP.nil) rfl) ?_
  refine xg (E2 Ev.const Et) (decl_ct [116] (tyK 5) _ _) ?_
  rintro _ _ ⟨b10, rfl, rfl⟩
  refine xY EL48 (EvP.cons Ev.const EvP.nil) fun b11 => ?_
  refine xY EL100 (EvP.cons Ev.const (EvP.cons Ev.const EvP.nil)) fun b12 => ?_
  refine xG (PO.build Tryz.underlying102 rfl rfl rfl (EvP.cons Et EvP.nil) rfl) ?_
  refine xY EL49 (EvP.cons Et EvP.nil) fun b14 => ?_
  refine xG (PO.build Tryz.underlying51 rfl rfl rfl (EvP.cons Et EvP.nil) rfl) ?_
  refine xG (PO.build Tryz.underlying54 rfl rfl rfl (EvP.cons Ev.const (EvP.cons Et (EvP.cons Et EvP.nil))) rfl) ?_
  refine xG (PO.build Tryz.underlying30 rfl rfl rfl (EvP.cons Ev.const (EvP.cons Ev.const EvP.nil)) rfl) ?_
  refine xg (E2 Ev.const Et) (decl_ct [99] ⟨4, 0, 0, [112]⟩ _ _) ?_
  rintro _ _ ⟨b18, rfl, rfl⟩
  refine xY EL28 (EvP.cons Et (EvP.cons Et (EvP.cons Et (EvP.cons Et (EvP.cons Et (EvP.cons Et EvP.nil)))))) fun b19 => ?_
  refine xA ?_
  refine wn [0] ?_
  refine WC.ret (wR (someR b2 b4 b6 b10 b11 b12 b14 b18 b19 ++ h) ?_)
  exact ⟨_, _, _, _, rfl, rfl, some_ok m b2 b4 b6 b10 b11 b12 b14 b18 b19⟩
theorem some_t (l t : List Res) (m : View) : CX Tryz.prog 22 [] (l ++ t) m (fun v _ h' => ∃ hp', h' = hp' ++ t ∧ ∃ (a : Option Addr) (c : Nat) (L : List Sp) (r : List Res), v = .slice a 6 c ∧ hp' = l ++ r ∧ EnvOk m r a c L) (fun _ _ => False) :=
  CX.ofCT (X := fun _ _ => False) ((some_ct (l ++ t) m).conv fun v m2 h2 w2 _ st hR => by
    obtain ⟨a, c, L, r, e1, rfl, e3⟩ := hR
    exact ⟨m2, (l ++ r) ++ t, View.le.refl _, st.perm ((perm_mid r l t).trans (by rw [List.append_assoc])), l ++ r, rfl, a, c, L, r, e1, rfl, e3⟩)
/-- An expression that lies in memory, and its shape. -/
structure Lies (m : View) (h : List Res) (e x : Ex) : Prop where
  t : TOk m h e
  w : Wf e
  s : strip e = x
theorem Lies.mono {m : View} {h h' : List Res} {e x : Ex} (q : Lies m h e x) (s : h.Sublist h') : Lies m h' e x := ⟨q.t.mono s, q.w, q.s⟩
theorem lies_leaf {m : View} {h : List Res} {k o t n : Int} {s : B} (hk : 0 ≤ k ∧ k ≤ 255) (ho : 0 ≤ o ∧ o ≤ 255) (ht : 0 ≤ t ∧ t ≤ 255) (hn : -2147483648 ≤ n ∧ n ≤ 2147483647) (hs : s.length ≤ 140737488355328) : Lies m h (sx k o t n s []) (sx k o t n s []) :=
  ⟨.mk (Rd.nilF exE 6 m h) (fun _ hx => (List.not_mem_nil hx).elim), .mk hk ho ht hn hs fun _ hx => (List.not_mem_nil hx).elim, rfl⟩
theorem lies_one {m : View} {h : List Res} {e x : Ex} (q : Lies m h e x) (b : Nat) {k o t n : Int} {s : B} (hb : oneR e b ∈ h) (hk : 0 ≤ k ∧ k ≤ 255) (ho : 0 ≤ o ∧ o ≤ 255) (ht : 0 ≤ t ∧ t ≤ 255) (hn : -2147483648 ≤ n ∧ n ≤ 2147483647) (hs : s.length ≤ 140737488355328) :
    Lies m h (.mk k o t n s (some ⟨b, 0, none⟩) 1 [e]) (sx k o t n s [x]) :=
  ⟨.mk (Rd.ofPt rfl (by show 1 ≤ _; decide) hb) (fun y hy => by rw [List.mem_singleton] at hy; subst hy; exact q.t), .mk hk ho ht hn hs fun y hy => by rw [List.mem_singleton] at hy; subst hy; exact q.w, by rw [← q.s]; rfl⟩
theorem lies_two {m : View} {h : List Res} {e f x y : Ex} (q : Lies m h e x) (r : Lies m h f y) (b : Nat) {o : Int} (hb : twoR e f b ∈ h) (ho : 0 ≤ o ∧ o ≤ 255) :
    Lies m h (twoX o e f b) (sx 7 o 0 0 [] [x, y]) :=
  ⟨.mk (Rd.ofPt rfl (by show 2 ≤ _; decide) hb) (fun z hz => by
    rcases List.mem_cons.1 hz with rfl | hz
    · exact q.t
    · rw [List.mem_singleton] at hz
      subst hz
      exact r.t), .mk (by decide) ho (by decide) (by decide) (by decide) fun z hz => (by
    rcases List.mem_cons.1 hz with rfl | hz
    · exact q.w
    · rw [List.mem_singleton] at hz
      subst hz
      exact r.w), by rw [← q.s, ← r.s]; rfl⟩
theorem hasX_ct {m : View} {h : List Res} (hg : Glob m) {e x : Ex} (q : Lies m h e x) (t : Ty) (w : Int) (hx : ofX someE x = (t, w)) : CT Tryz.prog 20 [exV e, tyV t, .int .i64 w] h m (Pure1 h (.bool true)) := by
  have ho : ofX someE e = (t, w) := by rw [← ofX_strip, q.s, hx]
  refine CT.body Tryz.call20 Tryz.func20 rfl Tryz.ntmps20 (leB rfl) rfl ?_
  repeat first | refine sk fun K hK => ?_ | refine bk ?_ | refine rn fun _ => ?_
  refine xX fun b3 => ?_
  refine xX fun b4 => ?_
  refine xC ?_
  refine wn [2, 3, 4] ?_
  repeat first | refine sk fun K hK => ?_ | refine bk ?_
  refine WC.drawL [1, 2] (.op 0 (.op 1 (.op 2 (.op 3 (.op 4 (.op 5 .nil)))))) [7, 8] [(6, 7)] _ [] mixed (fun _ _ _ _ _ h => h) [5] (by kernel_rfl) (Fls.cons rfl rfl rfl (leB rfl) rfl Fls.nil) rfl ?_
  refine yG rfl (PO.loadA Tryz.underlying27 rfl rfl Et (by (repeat (first | exact mem0 _ | apply memT | apply List.mem_append_right))) rfl) ?_
  refine SR.callX rfl rfl Ev.func Evs.nil (fun fr => some_t [] _ _) (leB rfl) (fun fr v hv hx => ?_) fun v11 h11 hr11 => ?_
  · exact hx.elim
  obtain ⟨a11, c11, L, r, rfl, rfl, hE⟩ := hr11
  refine yf rfl (E2 Et Et) (fun fr => of_ct hg e (q.t.mono Sb) q.w L a11 6 c11 (hE.rd.mono (View.le.refl m) (subR fr [] h11 _)) (hE.ok.mono (subR fr [] h11 _)) hE.len) ?_
  refine yG rfl (PO.move Et) ?_
  refine yG rfl (PO.extract Et rfl) ?_
  refine yG rfl (PO.extract Et rfl) ?_
  refine SR.nilF rfl (appO_any _ _) fun b7 => ?_
  refine xS ?_
  refine xA ?_
  refine wn [2, 4, 7, 8] ?_
  repeat first | refine sk fun K hK => ?_ | refine bk ?_ | refine rg fun ops hG => ?_
  refine xG (PO.loadA Tryz.underlying30 rfl rfl Et (by (repeat (first | exact mem0 _ | apply memT | apply List.mem_append_right))) rfl) ?_
  refine xG (PO.loadA Tryz.underlying30 rfl rfl Et (by (repeat (first | exact mem0 _ | apply memT | apply List.mem_append_right))) rfl) ?_
  refine xG (PO.eqlA Tryz.underlying30 (by kernel_rfl) (by kernel_rfl) Et Et rfl) ?_
  refine xM ?_
  refine zM ?_
  refine zM ?_
  refine zG (fun hc => PO.bin (Eg hc) (Eg hc) rfl) ?_
  refine xP ?_
  refine xA ?_
  refine wn [6] ?_
  try clear hG ops
  refine WC.ret (wR (h) ?_)
  exact ⟨by show Value.bool (eqT (ofX (envX L) e).1 t && ((ofX (envX L) e).2 == w)) = Value.bool true; rw [hE.env, ho]; simp [(Go.Ty.eqT_iff t t).2 rfl], rfl⟩
theorem sends_ct (s : B) (a : Option Addr) (k c : Nat) (l : List Ex) (hk : l.length = k) (h : List Res) (m : View) : CT Tryz.prog 29 [str s, .slice a k c] h m (Pure1 h (prV (flatP 5 [] (nmX s) nilS ⟨a, c, l⟩))) := by
  subst hk
  refine CT.body Tryz.call29 Tryz.func29 rfl Tryz.ntmps29 (leB rfl) rfl ?_
  repeat first | refine sk fun K hK => ?_ | refine bk ?_ | refine rn fun _ => ?_
  refine xW fun b4 => ?_
  refine wn [0, 1, 4] ?_
  repeat first | refine sk fun K hK => ?_ | refine bk ?_ | refine rn fun _ => ?_
  refine xM ?_
  refine xf (E1 Et) (nameX_ct _ _ _) ?_
  refine xM ?_
  refine xG (PO.build Tryz.underlying56 rfl rfl rfl (EvP.cons Ev.const (EvP.cons Et (EvP.cons Et EvP.nil))) rfl) ?_
  refine xS ?_
  refine wn [4] ?_
  refine WC.ret (end1 (h' := h) (.inl rfl) rfl (RV.cellA Tryz.underlying56 rfl rfl rfl (by (repeat (first | exact mem0 _ | apply memT | apply List.mem_append_right))) rfl) (View.le.refl m) Sb ?_)
  exact ⟨rfl, rfl⟩
theorem lok_nil (m : View) (h : List Res) : LOk m h nilS := ⟨Rd.nilF exE 6 m h, fun _ hx => (List.not_mem_nil hx).elim⟩
theorem eok_zero (m : View) (h : List Res) : EOk m h zeroE := ⟨.mk (Rd.nilF exE 6 m h) (fun _ hx => (List.not_mem_nil hx).elim), .mk (by decide) (by decide) (by decide) (by decide) (by decide) fun _ hx => (List.not_mem_nil hx).elim⟩
theorem sok_zero (m : View) (h : List Res) : SOk m h zeroS := ⟨by decide, ⟨by decide, by decide, by decide, by decide⟩, Rd.nilF encB 1 m h, fun _ hx => (List.not_mem_nil hx).elim, eok_zero m h, ⟨Rd.nilF encV 2 m h, fun _ hx => (List.not_mem_nil hx).elim, fun _ hx => (List.not_mem_nil hx).elim⟩, fun _ hx => (List.not_mem_nil hx).elim, Rd.nilF foE 6 m h, fun _ hx => (List.not_mem_nil hx).elim, Rd.nilF prE 42 m h⟩
theorem pok_flat {m : View} {h : List Res} {k : Int} {nm : B} {ch : Ex} {tg ex : Sli Ex} (hk : 0 ≤ k ∧ k ≤ 255) (hn : nm.length ≤ Big) (hc : EOk m h ch) (ht : LOk m h tg) (he : LOk m h ex) : POk m h (flatP k nm ch tg ex) :=
  .mk ⟨hk, hn, hc, ht, he, Nat.zero_le _, eok_zero m h, eok_zero m h, Rd.nilF guE 23 m h, fun _ hx => (List.not_mem_nil hx).elim, Rd.nilF prE 42 m h, Rd.nilF encN 1 m h, fun _ hx => (List.not_mem_nil hx).elim, sok_zero m h⟩
    fun x hx => by cases hx with
      | l q => exact (List.not_mem_nil q).elim
      | s q => exact (List.not_mem_nil q).elim
      | g q _ => exact (List.not_mem_nil q).elim
theorem Lies.e {m : View} {h : List Res} {e x : Ex} (q : Lies m h e x) : EOk m h e := ⟨q.t, q.w⟩
theorem lok_one {m : View} {h : List Res} {e : Ex} (q : EOk m h e) (b : Nat) (hb : oneR e b ∈ h) : LOk m h (oneS b e) := ⟨Rd.ofPt rfl (by show 1 ≤ _; decide) hb, fun y hy => by have hy : y ∈ [e] := hy; rw [List.mem_singleton] at hy; subst hy; exact q⟩
theorem lok_two {m : View} {h : List Res} {e f : Ex} (q : EOk m h e) (r : EOk m h f) (b : Nat) (hb : twoR e f b ∈ h) : LOk m h (twoS b e f) := ⟨Rd.ofPt rfl (by show 2 ≤ _; decide) hb, fun z hz => by
    rcases List.mem_cons.1 (show z ∈ [e, f] from hz) with rfl | hz
    · exact q
    · rw [List.mem_singleton] at hz
      subst hz
      exact r⟩
theorem chk_ct {m : View} {h : List Res} (hg : Glob m) {p : Pr} (hP : POk m h p) {a : Option Addr} {c : Nat} {L : List Sp} (hE : EnvOk m h a c L) (w : Int) (hw : checkE p = w) : CT Tryz.prog 16 [prV p, .slice a 6 c] h m (Pure1 h (.int .i64 w)) := by
  have := check_ct hg p hP L a 6 c hE.rd hE.ok hE.len
  rw [hE.env] at this
  rwa [show checkX (mayP p) someE p = w from hw] at this
theorem lies_nm {m : View} {h : List Res} {s : B} (hs : s.length ≤ 100) : Lies m h (nmX s) (nmX s) := lies_leaf (by decide) (by decide) (by decide) (by decide) (by omega)
theorem lies_nu {m : View} {h : List Res} {n : Int} (hn : 0 ≤ n ∧ n ≤ 100) : Lies m h (nuX n) (nuX n) := lies_leaf (by decide) (by decide) (by decide) (by omega) (by decide)
theorem worksX_ct {m : View} (hg : Glob m) (h : List Res) : CT Tryz.prog 10 [] h m (Pure1 h (.bool true)) := by
  refine CT.body Tryz.call10 Tryz.func10 rfl Tryz.ntmps10 (leB rfl) rfl ?_
  repeat first | refine sk fun K hK => ?_ | refine bk ?_ | refine rn fun _ => ?_
  refine xC ?_
  refine wn [] ?_
  repeat first | refine sk fun K hK => ?_ | refine bk ?_ | refine rn fun _ => ?_
  refine xf (E1 Ev.const) (nameX_ct _ _ _) ?_
  refine xY EL25 (EvP.cons Et EvP.nil) fun b6 => ?_
  refine xG (PO.build Tryz.underlying27 rfl rfl rfl (EvP.cons Ev.const (EvP.cons Ev.const (EvP.cons Et EvP.nil))) rfl) ?_
  refine xW fun b1 => ?_
  refine xS ?_
  refine wn [1] ?_
  repeat first | refine sk fun K hK => ?_ | refine bk ?_
  refine WC.drawS [0, 2, 4, 6, 7, 8, 10, 13] (.op 1 (.op 3 (.op 0 (.op 2 (.op 4 (.op 5 (.op 9 (.op 6 (.op 7 (.op 8 (.op 10 (.op 11 (.op 12 (.op 14 (.op 13 .nil))))))))))))))) [15, 16, 17] _ [] mixed (fun _ _ _ _ _ h => h) [] (by kernel_rfl) ?_
  refine yG rfl (PO.loadA Tryz.underlying27 rfl rfl Et (by (repeat (first | exact mem0 _ | apply memT | apply List.mem_append_right))) rfl) ?_
  refine yG rfl (PO.build Tryz.underlying30 rfl rfl rfl (EvP.cons Ev.const EvP.nil) rfl) ?_
  refine yf rfl (E1 Ev.const) (fun fr => nameX_ct _ _ _) ?_
  refine SR.callX rfl rfl Ev.func (Evs.cons Ev.const (Evs.cons Et (Evs.cons Et Evs.nil))) (fun fr => two_t [] _ 1 (nmX [120]) (.mk 5 0 0 0 [118] (some ⟨b6, 0, none⟩) 1 [nmX [120]]) _) (leB rfl) (fun fr v hv hx => ?_) fun v10 h10 hr10 => ?_
  · exact hx.elim
  obtain ⟨b10, rfl, rfl⟩ := hr10
  refine yf rfl (E3 Et Et Ev.const) (fun fr => hasX_ct hg (lies_two (lies_nm (by decide)) (lies_one (lies_nm (by decide)) b6 (by (repeat (first | exact mem0 _ | apply memT | apply List.mem_append_right))) (by decide) (by decide) (by decide) (by decide) (by decide)) b10 (by (repeat (first | exact mem0 _ | apply memT | apply List.mem_append_right))) (by decide)) (tyK 1) 0 ex1) ?_
  refine yG rfl (PO.move Et) ?_
  refine yU rfl (PO.build Tryz.underlying30 rfl rfl rfl EvP.nil rfl) ?_
  refine SR.callU rfl rfl (GU.t rfl rfl) rfl Ev.func (Evs.cons Ev.const Evs.nil) (fun fr => nameX_ct _ _ _) (leB rfl) ?_
  refine SR.callU rfl rfl (GU.t rfl rfl) rfl Ev.func (Evs.cons Ev.const Evs.nil) (fun fr => nameX_ct _ _ _) (leB rfl) ?_
  refine SR.callXU rfl rfl (GU.t rfl rfl) rfl Ev.func (Evs.cons Ev.const (Evs.cons Et (Evs.cons Et Evs.nil))) (fun fr => two_t [_] _ 1 (nmX [120]) (nmX [107]) _) (leB rfl) (fun fr v hv hx => ?_) fun v16 h16 hr16 => ?_
  · exact hx.elim
  obtain ⟨b16, rfl, rfl⟩ := hr16
  refine SR.callU rfl rfl (GU.t rfl rfl) rfl Ev.func (Evs.cons Et (Evs.cons Et (Evs.cons Ev.const Evs.nil))) (fun fr => hasX_ct hg (lies_two (lies_nm (by decide)) (lies_nm (by decide)) b16 (by (repeat (first | exact mem0 _ | apply memT | apply List.mem_append_right))) (by decide)) zeroT 130 ex2) (leB rfl) ?_
  refine yG rfl (PO.pickAnd rfl rfl) ?_
  refine yG rfl (PO.move Et) ?_
  refine yU rfl (PO.build Tryz.underlying30 rfl rfl rfl EvP.nil rfl) ?_
  refine SR.callU rfl rfl (GU.t rfl rfl) rfl Ev.func (Evs.cons Ev.const Evs.nil) (fun fr => nameX_ct _ _ _) (leB rfl) ?_
  refine SR.nil rfl (appO_any _ _) ?_
  refine zU ?_
  refine xf (E3 Et Et Ev.const) (hasX_ct hg (lies_nm (by decide)) zeroT 120 ex3) ?_
  refine xP ?_
  refine xA ?_
  refine wn [2] ?_
  try clear hG ops
  repeat first | refine sk fun K hK => ?_ | refine bk ?_ | refine rn fun _ => ?_
  refine xf (E1 Ev.const) (nameX_ct _ _ _) ?_
  refine xf (E1 Ev.const) (numX_ct _ _ _) ?_
  refine xg (E3 Ev.const Et Et) (two_ct _ _ _ _ _) ?_
  rintro _ _ ⟨b27, rfl, rfl⟩
  refine xW fun b3 => ?_
  refine xS ?_
  refine wn [2, 3] ?_
  repeat first | refine sk fun K hK => ?_ | refine bk ?_ | refine rn fun _ => ?_
  refine xf (E1 Ev.const) (nameX_ct _ _ _) ?_
  refine xY EL25 (EvP.cons Et EvP.nil) fun b29 => ?_
  refine xf (E1 Ev.const) (nameX_ct _ _ _) ?_
  refine xY EL25 (EvP.cons Et EvP.nil) fun b31 => ?_
  refine xG (PO.build Tryz.underlying56 rfl rfl rfl (EvP.cons Ev.const (EvP.cons Et (EvP.cons Et EvP.nil))) rfl) ?_
  refine xW fun b4 => ?_
  refine xS ?_
  refine wn [2, 3, 4] ?_
  repeat first | refine sk fun K hK => ?_ | refine bk ?_
  refine WC.drawS [2, 4, 5, 6, 7, 11, 12, 13, 14, 15, 20] (.op 0 (.op 1 (.op 3 (.op 2 (.op 4 (.op 5 (.op 6 (.op 7 (.op 8 (.op 9 (.op 10 (.op 11 (.op 12 (.op 13 (.op 14 (.op 15 (.op 16 (.op 17 (.op 18 (.op 19 (.op 20 .nil))))))))))))))))))))) [21, 22, 23, 24] _ [] mixed (fun _ _ _ _ _ h => h) [] (by kernel_rfl) ?_
  refine yG rfl (PO.move Et) ?_
  refine yG rfl (PO.move Et) ?_
  refine yU rfl (PO.loadA Tryz.underlying27 rfl rfl Et (by (repeat (first | exact mem0 _ | apply memT | apply List.mem_append_right))) rfl) ?_
  refine SR.callU rfl rfl (GU.t rfl rfl) rfl Ev.func (Evs.cons Ev.const Evs.nil) (fun fr => nameX_ct _ _ _) (leB rfl) ?_
  refine SR.buildSliceU rfl rfl (GU.t rfl rfl) rfl EL25 rfl (EvP.cons Et (EvP.cons Et EvP.nil)) rfl rfl (by decide) rfl (leB rfl) fun b37 => ?_
  refine SR.callU rfl rfl (GU.t rfl rfl) rfl Ev.func (Evs.cons Ev.const (Evs.cons Et Evs.nil)) (fun fr => sends_ct [99] _ _ _ [nmX [120], twoX 14 (nmX [120]) (nuX 1) b27] rfl _ _) (leB rfl) ?_
  refine SR.callXU rfl rfl (GU.t rfl rfl) rfl Ev.func Evs.nil (fun fr => some_t [_] _ _) (leB rfl) (fun fr v hv hx => ?_) fun v39 h39 hr39 => ?_
  · exact hx.elim
  obtain ⟨a39, c39, L39, r39, rfl, rfl, hE39⟩ := hr39
  refine SR.callU rfl rfl (GU.t rfl rfl) rfl Ev.func (Evs.cons Et (Evs.cons Et Evs.nil)) (fun fr => chk_ct hg (pok_flat (by decide) (by decide) (lies_nm (by decide)).e (lok_nil _ _) (lok_two (lies_nm (by decide)).e (lies_two (lies_nm (by decide)) (lies_nu (by decide)) b27 (by (repeat (first | exact mem0 _ | apply memT | apply List.mem_append_right))) (by decide)).e b37 (by (repeat (first | exact mem0 _ | apply memT | apply List.mem_append_right))))) (hE39.mono (subR fr _ r39 _)) 0 (ck1 _ _)) (leB rfl) ?_
  refine yU rfl (PO.bin Et Ev.const rfl) ?_
  refine yG rfl (PO.pickAnd rfl rfl) ?_
  refine yG rfl (PO.move Et) ?_
  refine SR.callU rfl rfl (GU.t rfl rfl) rfl Ev.func (Evs.cons Ev.const Evs.nil) (fun fr => nameX_ct _ _ _) (leB rfl) ?_
  refine SR.buildSliceU rfl rfl (GU.t rfl rfl) rfl EL25 rfl (EvP.cons Et EvP.nil) rfl rfl (by decide) rfl (leB rfl) fun b45 => ?_
  refine SR.callU rfl rfl (GU.t rfl rfl) rfl Ev.func (Evs.cons Ev.const (Evs.cons Et Evs.nil)) (fun fr => sends_ct [99] _ _ _ [nmX [120]] rfl _ _) (leB rfl) ?_
  refine SR.callXU rfl rfl (GU.t rfl rfl) rfl Ev.func Evs.nil (fun fr => some_t _ _ _) (leB rfl) (fun fr v hv hx => ?_) fun v47 h47 hr47 => ?_
  · exact hx.elim
  obtain ⟨a47, c47, L47, r47, rfl, rfl, hE47⟩ := hr47
  refine SR.callU rfl rfl (GU.t rfl rfl) rfl Ev.func (Evs.cons Et (Evs.cons Et Evs.nil)) (fun fr => chk_ct hg (pok_flat (by decide) (by decide) (lies_nm (by decide)).e (lok_nil _ _) (lok_one (lies_nm (by decide)).e b45 (by (repeat (first | exact mem0 _ | apply memT | apply List.mem_append_right))))) (hE47.mono (subR fr _ r47 _)) 130 (ck2 _)) (leB rfl) ?_
  refine yU rfl (PO.bin Et Ev.const rfl) ?_
  refine yG rfl (PO.pickAnd rfl rfl) ?_
  refine yG rfl (PO.move Et) ?_
  refine yU rfl (PO.loadA Tryz.underlying56 rfl rfl Et (by (repeat (first | exact mem0 _ | apply memT | apply List.mem_append_right))) rfl) ?_
  refine SR.callXU rfl rfl (GU.t rfl rfl) rfl Ev.func Evs.nil (fun fr => some_t _ _ _) (leB rfl) (fun fr v hv hx => ?_) fun v53 h53 hr53 => ?_
  · exact hx.elim
  obtain ⟨a53, c53, L53, r53, rfl, rfl, hE53⟩ := hr53
  refine SR.nil rfl (appO_any _ _) ?_
  refine zU ?_
  refine xf (E2 Et Et) (chk_ct hg (pok_flat (by decide) (by decide) (eok_zero _ _) (lok_one (lies_nm (by decide)).e b29 (by (repeat (first | exact mem0 _ | apply memT | apply List.mem_append_right)))) (lok_one (lies_nm (by decide)).e b31 (by (repeat (first | exact mem0 _ | apply memT | apply List.mem_append_right))))) (hE53.mono ((List.sublist_append_right _ r53).trans (List.sublist_append_left _ _))) 130 (ck3 _ _)) ?_
  refine zU ?_
  refine xG (PO.bin Et Ev.const rfl) ?_
  refine xP ?_
  refine xA ?_
  refine wn [0] ?_
  try clear hG ops
  refine WC.ret (wR (h) ?_)
  exact ⟨rfl, rfl⟩
end Go.Proofs.YtdhmplmpbcnojaaGreatDoor
end
/- LwB -/
section
namespace Go.Proofs.YtdhmplmpbcnojaaGreatDoor
open Go.Eng Go.Pc Go.Tg Go
open Go.Xp hiding B nameT zeroT
open Go.Ty (Ty Vr eqT tyV cellT PrOk VOk prL encV encV_len encI encI_len zeroT)
open Go.Lx (encB encB_len)
set_option maxRecDepth 100000
/-- The environment, cut. -/
theorem env_cut {m : View} {h : List Res} {a : Option Addr} {k c : Nat} {l : List Sp} (hr : Rd m h a k c 16 (fl spE l)) (hv : VOkE m h l) :
    ∃ ls a2, ls.length = min 30 l.length ∧ a2 = sl1 a 0 c 16 ∧ Rd m h a2 ls.length c 16 (fl spE ls) ∧ VOkE m h ls ∧ ls.length ≤ 30 := by
  have hl := hr.lenF spE_len (by decide)
  subst hl
  obtain ⟨ls, hls⟩ : ∃ ls, ls = l.take 30 := ⟨_, rfl⟩
  have hn : ls.length = min 30 l.length := by rw [hls, List.length_take]
  refine ⟨ls, _, hn, rfl, ?_, ?_, by omega⟩
  · have := hr.takeF spE_len (j := min 30 l.length) (by omega)
    rwa [← hn, show l.take ls.length = ls by rw [hn, hls, ← List.take_eq_take_min]] at this
  · have hm : ∀ x ∈ ls, x ∈ l := fun x hx => List.mem_of_mem_take (hls ▸ hx)
    exact ⟨fun x hx => hv.nm x (hm x hx), fun x hx => hv.fr x (hm x hx), fun x hx => hv.pr x (hm x hx)⟩
theorem of_law {m : View} (hg : Glob m) (e : Ex) (a : Option Addr) (k c : Nat) (l : List Sp) (h : List Res) (hT : TOk m h e) (hW : Wf e) (hr : Rd m h a k c 16 (fl spE l)) (hv : VOkE m h l) : CT Tryz.prog 3 [exV e, .slice a k c] h m Law := by
  have hl := hr.lenF spE_len (by decide)
  subst hl
  have hmx := hr.mx
  have hle := hr.le
  obtain ⟨ls, a2, hn, ha2, hr2, hv2, h30⟩ := env_cut (m := m) hr hv
  refine CT.body Tryz.call3 Tryz.func3 rfl Tryz.ntmps3 (leB rfl) rfl ?_
  repeat first | refine sk fun K hK => ?_ | refine bk ?_ | refine rn fun _ => ?_
  refine xX fun b2 => ?_
  refine xC ?_
  refine wn [1, 2] ?_
  repeat first | refine sk fun K hK => ?_ | refine bk ?_ | refine rn fun _ => ?_
  refine xM ?_
  refine xM ?_
  refine xG (PO.lenSl Tryz.underlying28 Et) ?_
  refine xG (PO.min Et Ev.const) ?_
  refine xG (PO.sliceH EL28.und EL28.size Et Et (u := ls.length) (by split <;> omega) (by omega)) ?_
  rw [← ha2]
  refine xA ?_
  refine wn [1, 2] ?_
  repeat first | refine sk fun K hK => ?_ | refine bk ?_ | refine rn fun _ => ?_
  refine xG (PO.loadA Tryz.underlying27 rfl rfl Et (by (repeat (first | exact mem0 _ | apply memT | apply List.mem_append_right))) rfl) ?_
  refine xM ?_
  refine xf (E2 Et Et) (of_ct hg e (hT.mono Sb) hW ls a2 ls.length c (hr2.mono (View.le.refl m) Sb) (hv2.mono Sb) (by omega)) ?_
  refine xM ?_
  refine xE ?_
  refine xE ?_
  refine xW fun b5 => ?_
  refine xS ?_
  refine xA ?_
  refine wn [1, 2, 5, 6] ?_
  repeat first | refine sk fun K hK => ?_ | refine bk ?_ | refine rn fun _ => ?_
  refine xG (PO.loadA Tryz.underlying27 rfl rfl Et (by (repeat (first | exact mem0 _ | apply memT | apply List.mem_append_right))) rfl) ?_
  refine xM ?_
  refine xf (E2 Et Et) (refOf_ct e (hT.mono Sb) hW ls a2 ls.length c (hr2.mono (View.le.refl m) Sb) (hv2.mono Sb) (by omega)) ?_
  refine xM ?_
  refine xE ?_
  refine xE ?_
  refine xW fun b7 => ?_
  refine xS ?_
  refine xA ?_
  refine wn [5, 6, 7, 8] ?_
  repeat first | refine sk fun K hK => ?_ | refine bk ?_ | refine rg fun ops hG => ?_
  refine xG (PO.loadA Tryz.underlying30 rfl rfl Et (by (repeat (first | exact mem0 _ | apply memT | apply List.mem_append_right))) rfl) ?_
  refine xG (PO.loadA Tryz.underlying30 rfl rfl Et (by (repeat (first | exact mem0 _ | apply memT | apply List.mem_append_right))) rfl) ?_
  refine xG (PO.eqlA Tryz.underlying30 (by kernel_rfl) (by kernel_rfl) Et Et rfl) ?_
  refine wV (b' := true) (by simp) ?_
  refine xM ?_
  refine zU ?_
  refine xM ?_
  refine zU ?_
  refine xM ?_
  refine zU ?_
  refine xG (PO.bin Et Et rfl) ?_
  refine wV (b' := true) (by simp) ?_
  refine xP ?_
  refine xM ?_
  refine zU ?_
  refine xf E0 (worksX_ct hg _) ?_
  refine xP ?_
  refine xA ?_
  refine wn [4] ?_
  try clear hG ops
  refine WC.ret (wR (h) ?_)
  rfl
end Go.Proofs.YtdhmplmpbcnojaaGreatDoor
end
/- Door -/
section
namespace Go.Proofs.YtdhmplmpbcnojaaGreatDoor
open Go Go.Eng Go.RowKit Go.ChangeShapes Go.WideShapes Go.ChangeAt Go.Joins
set_option maxRecDepth 100000
theorem Tryz.own : ownKnob Tryz.prog.godebug = none := by kernel_rfl
theorem Tryz.laidOut : laidOutB Tryz.prog = true := by kernel_rfl
theorem cellsPm : Tryz.prog.cellsOf 240 = 3 := by kernel_rfl
abbrev laidL : List (String × DataW Unit) := [("transputer/types.primitive", Rows.laid_transputer_types_primitive), ("transputer/syntax.one", Rows.laid_transputer_syntax_one), ("transputer/syntax.some", Rows.laid_transputer_syntax_some), ("transputer/syntax.all", Rows.laid_transputer_syntax_all)]
theorem prim_at {W : World} {fuel : Nat} {ys : List Value} {kd sz : Int} {wd : List UInt8} {p : List MemPlace}
    (h : DataW.trod (fun _ => ()) Tryz.prog W 0 (fun _ => true) false fuel 240 ys = some (.agg [.lit (.int .u8 kd), .lit (.string wd), .lit (.int .i64 sz)], p)) :
    ys[0]? = some (.int .u8 kd) ∧ ys[1]? = some (str wd) ∧ ys[2]? = some (.int .i64 sz) := by
  obtain ⟨f, hf⟩ := data_struct Tryz.underlying240 h
  obtain ⟨_, h0⟩ := hf 0 _ _ rfl rfl
  obtain ⟨_, h1⟩ := hf 1 _ _ rfl rfl
  obtain ⟨_, h2⟩ := hf 2 _ _ rfl rfl
  exact ⟨Eng.cell_of_cut (data_int Tryz.underlying24 h0), Eng.cell_of_cut (data_str Tryz.underlying9 h1), Eng.cell_of_cut (data_int Tryz.underlying3 h2)⟩
theorem cut_at {cs ys : List Value} {i j : Nat} {v : Value} (e : (cs.drop (i * 3)).take 3 = ys) (h : ys[j]? = some v) : cs[i * 3 + j]? = some v := by
  subst e
  rw [List.getElem?_take] at h
  split at h
  · rwa [List.getElem?_drop] at h
  · cases h
theorem span_at {W : World} {fuel : Nat} {ys : List Value} {a b : Int} {p : List MemPlace} (h : DataW.trod (fun _ => ()) Tryz.prog W 0 (fun _ => true) false fuel 176 ys = some (.agg [.lit (.int .i64 a), .lit (.int .i64 b)], p)) :
    ∀ (j : Nat) (v : Value), ([.int .i64 a, .int .i64 b] : List Value)[j]? = some v → ys[j]? = some v := by
  obtain ⟨f, hf⟩ := data_struct Tryz.underlying176 h
  obtain ⟨_, h0⟩ := hf 0 _ _ rfl rfl
  obtain ⟨_, h1⟩ := hf 1 _ _ rfl rfl
  have e0 := Eng.cell_of_cut (data_int Tryz.underlying3 h0)
  have e1 := Eng.cell_of_cut (data_int Tryz.underlying3 h1)
  intro j v hj
  match j, hj with
  | 0, hj => cases hj; exact e0
  | 1, hj => cases hj; exact e1
theorem glob_of {W : World} (h : laidMet Tryz.prog laidL W) (hsh : W.ShapedOpen Tryz.prog) : Glob (viewOf W) := by
  obtain ⟨_, ⟨g0, t0, cs0, f0, p0, q0, hg0, ht0, hv0, hd0, ⟨g1, t1, cs1, f1, p1, q1, hg1, ht1, hv1, hd1, ⟨g2, t2, cs2, f2, p2, q2, hg2, ht2, hv2, hd2, ⟨g3, t3, cs3, f3, p3, q3, hg3, ht3, hv3, hd3, _, _⟩, _⟩, _⟩, _⟩, _⟩ := h
  obtain rfl := Option.some.inj ((show Tryz.prog.globalNamed "transputer/types.primitive" = some 4 by kernel_rfl).symm.trans hg0)
  obtain rfl := Option.some.inj ((show Tryz.prog.globalNamed "transputer/syntax.one" = some 1 by kernel_rfl).symm.trans hg1)
  obtain rfl := Option.some.inj ((show Tryz.prog.globalNamed "transputer/syntax.some" = some 2 by kernel_rfl).symm.trans hg2)
  obtain rfl := Option.some.inj ((show Tryz.prog.globalNamed "transputer/syntax.all" = some 0 by kernel_rfl).symm.trans hg3)
  obtain rfl := Option.some.inj ((show (Tryz.prog.globals[4]?).map (·.type) = some 241 by kernel_rfl).symm.trans ht0)
  obtain rfl := Option.some.inj ((show (Tryz.prog.globals[1]?).map (·.type) = some 176 by kernel_rfl).symm.trans ht1)
  obtain rfl := Option.some.inj ((show (Tryz.prog.globals[2]?).map (·.type) = some 176 by kernel_rfl).symm.trans ht2)
  obtain rfl := Option.some.inj ((show (Tryz.prog.globals[0]?).map (·.type) = some 176 by kernel_rfl).symm.trans ht3)
  refine ⟨(Tryz.laysM144.s1_3 W hsh).imp fun _ e => start_cell e, fun j v hj => start_cell ?_, fun j v hj => start_cell ?_, fun j v hj => start_cell ?_, fun j v hj => start_cell ?_⟩
  · obtain ⟨f, hf⟩ := data_array Tryz.underlying241 hd0
    obtain ⟨_, h0⟩ := hf 0 _ (by decide) rfl
    obtain ⟨_, h1⟩ := hf 1 _ (by decide) rfl
    obtain ⟨_, h2⟩ := hf 2 _ (by decide) rfl
    rw [cellsPm] at h0 h1 h2
    have a0 := prim_at h0
    have a1 := prim_at h1
    have a2 := prim_at h2
    rw [World.var?_cell hg0 hv0 j, ← Array.getElem?_toList]
    match j, hj with
    | 0, hj => cases hj; exact cut_at (i := 0) rfl a0.1
    | 1, hj => cases hj; exact cut_at (i := 0) rfl a0.2.1
    | 2, hj => cases hj; exact cut_at (i := 0) rfl a0.2.2
    | 3, hj => cases hj; exact cut_at (i := 1) rfl a1.1
    | 4, hj => cases hj; exact cut_at (i := 1) rfl a1.2.1
    | 5, hj => cases hj; exact cut_at (i := 1) rfl a1.2.2
    | 6, hj => cases hj; exact cut_at (i := 2) rfl a2.1
    | 7, hj => cases hj; exact cut_at (i := 2) rfl a2.2.1
    | 8, hj => cases hj; exact cut_at (i := 2) rfl a2.2.2
  · rw [World.var?_cell hg1 hv1 j, ← Array.getElem?_toList]
    exact span_at hd1 j v hj
  · rw [World.var?_cell hg2 hv2 j, ← Array.getElem?_toList]
    exact span_at hd2 j v hj
  · rw [World.var?_cell hg3 hv3 j, ← Array.getElem?_toList]
    exact span_at hd3 j v hj
noncomputable def setC (g : Nat) (l : List Value) (hp : Array Obj) : Array Obj := hp.modify g fun
      | .cells _ t fz => .cells l.toArray t fz
      | o => o
noncomputable def laidWorld (os : Os) : World :=
  { World.holding Tryz.prog os ⟨#[], #[], []⟩ with heap := setC 4 primC (setC 1 oneC (setC 2 someC (setC 0 allC (World.holding Tryz.prog os ⟨#[], #[], []⟩).heap))) }
theorem laidWorld_met (os : Os) (args : Array Value) : laidMet Tryz.prog laidL ((laidWorld os).forCall (fun _ _ => 0) ⟨#[], args, []⟩).memory :=
  laidMet_of_run' 8 (by kernel_rfl) (by kernel_rfl)
end Go.Proofs.YtdhmplmpbcnojaaGreatDoor
end
/- ArgE -/
section
namespace Go.Proofs.YtdhmplmpbcnojaaGreatDoor
open Go Go.Eng Go.Ty Go.Xp Go.RowKit Go.ChangeShapes Go.WideShapes Go.ChangeAt Go.Joins
set_option maxRecDepth 100000
variable {H : Type} {enc : TypeId × Value → H} {W : World}
theorem cellsExpr : Tryz.prog.cellsOf 27 = 6 := by kernel_rfl
theorem ex_read : ∀ (fuel : Nat) {cs : List Value} {x : DataW H × List MemPlace}, RdT enc Tryz.prog W true fuel 27 cs x → (∀ q ∈ x.1.weights Tryz.prog 27, q ≤ reachBytes) → ∃ e : Ex, cs = exE e ∧ TOk (viewOf W) [] e ∧ Wf e := by
  intro fuel
  induction fuel using Nat.strongRecOn with
  | _ fuel ih =>
  intro cs x hr hw
  obtain ⟨hl, f, hfu, hf⟩ := rd_structW Tryz.underlying27 hr
  rw [cellsExpr] at hl
  match cs, hl with
  | [c0, c1, c2, c3, c4, c5], _ =>
    obtain ⟨_, _, h0, _⟩ := hf _ (.head _)
    obtain ⟨_, _, h1, _⟩ := hf _ (.tail _ (.head _))
    obtain ⟨_, _, h2, _⟩ := hf _ (.tail _ (.tail _ (.head _)))
    obtain ⟨_, _, h3, _⟩ := hf _ (.tail _ (.tail _ (.tail _ (.head _))))
    obtain ⟨_, _, h4, k4⟩ := hf _ (.tail _ (.tail _ (.tail _ (.tail _ (.head _)))))
    obtain ⟨d5, p5, h5, k5⟩ := hf _ (.tail _ (.tail _ (.tail _ (.tail _ (.tail _ (.head _))))))
    obtain ⟨n0, e0, w0⟩ := rd_int Tryz.underlying22 h0
    obtain ⟨n1, e1, w1⟩ := rd_int Tryz.underlying23 h1
    obtain ⟨n2, e2, w2⟩ := rd_int Tryz.underlying24 h2
    obtain ⟨n3, e3, w3⟩ := rd_int Tryz.underlying21 h3
    obtain ⟨n4, e4, w4⟩ := rd_strW Tryz.underlying9 h4
    obtain ⟨a, n, c, l, e5, hll, hs, hp⟩ := slice_argF (Pr := fun e : Ex => TOk (viewOf W) [] e ∧ Wf e) (enc' := exE) Tryz.underlying25 cellsExpr (by decide) exE_len (fun g ys y hg hy hk => by
      obtain ⟨e, he1, he2⟩ := ih g (by omega) hy fun q hq => hw q (k5 q (hk q hq))
      exact ⟨e, he1, he2⟩) h5
    obtain rfl : c0 = .int .u8 n0 := List.head_eq_of_cons_eq e0
    obtain rfl : c1 = .int .u8 n1 := List.head_eq_of_cons_eq e1
    obtain rfl : c2 = .int .u8 n2 := List.head_eq_of_cons_eq e2
    obtain rfl : c3 = .int .i32 n3 := List.head_eq_of_cons_eq e3
    obtain rfl : c4 = str n4 := List.head_eq_of_cons_eq e4
    obtain rfl : c5 = .slice a n c := List.head_eq_of_cons_eq e5
    subst hll
    have u0 : 0 ≤ n0 ∧ n0 ≤ 255 := by simpa [Lit.wf, show IntKind.u8.min = 0 from rfl, show IntKind.u8.max = 255 from rfl] using w0
    have u1 : 0 ≤ n1 ∧ n1 ≤ 255 := by simpa [Lit.wf, show IntKind.u8.min = 0 from rfl, show IntKind.u8.max = 255 from rfl] using w1
    have u2 : 0 ≤ n2 ∧ n2 ≤ 255 := by simpa [Lit.wf, show IntKind.u8.min = 0 from rfl, show IntKind.u8.max = 255 from rfl] using w2
    have u3 : -2147483648 ≤ n3 ∧ n3 ≤ 2147483647 := by simp [Lit.wf] at w3; exact w3
    exact ⟨.mk n0 n1 n2 n3 n4 a c l, rfl, .mk (Rd.ofSl hs) fun y hy => (hp y hy).1, .mk u0 u1 u2 u3 (Nat.le_trans (hw _ (k4 _ w4)) (by decide)) fun y hy => (hp y hy).2⟩
theorem ex_arg {r : Reach} {base : Nat} {v : Value} {d : DataW H} {p : List MemPlace} (hv : Value.okWide Tryz.prog W r base 27 v) (h : DataW.Trod enc Tryz.prog W 0 (fun _ => true) true 27 v d p) (hw : ∀ q ∈ d.weights Tryz.prog 27, q ≤ reachBytes) :
    ∃ e : Ex, v = exV e ∧ TOk (viewOf W) [] e ∧ Wf e := by
  obtain ⟨cs, rfl, _⟩ := okWide_struct Tryz.underlying27 hv
  obtain ⟨fuel, hf⟩ := h
  obtain ⟨e, he, ht⟩ := ex_read fuel (x := (d, p)) hf hw
  refine ⟨e, ?_, ht⟩
  unfold exV
  rw [← show cs.toList = exE e from he]
end Go.Proofs.YtdhmplmpbcnojaaGreatDoor
end
/- ArgP -/
section
namespace Go.Proofs.YtdhmplmpbcnojaaGreatDoor
open Go.Xp hiding B
open Go Go.Eng Go.Ty Go.Pc Go.RowKit Go.ChangeShapes Go.WideShapes Go.ChangeAt Go.Joins
open Go.Lx (encB encB_len)
set_option maxRecDepth 100000
variable {H : Type} {enc : TypeId × Value → H} {W : World}
abbrev Wt (x : DataW H × List MemPlace) (t : TypeId) : Prop := ∀ q ∈ x.1.weights Tryz.prog t, q ≤ reachBytes
theorem cut_chain (cs : List Value) (i n : Nat) : cs.drop i = (cs.drop i).take n ++ cs.drop (i + n) := by
  rw [← List.drop_drop, List.take_append_drop]
theorem cellsStr : Tryz.prog.cellsOf 9 = 1 := by kernel_rfl
theorem cellsInt : Tryz.prog.cellsOf 3 = 1 := by kernel_rfl
theorem cellsTy : Tryz.prog.cellsOf 30 = 4 := by kernel_rfl
theorem cellsVr : Tryz.prog.cellsOf 102 = 2 := by kernel_rfl
theorem cellsTk : Tryz.prog.cellsOf 24 = 1 := by kernel_rfl
theorem cellsPo : Tryz.prog.cellsOf 51 = 2 := by kernel_rfl
theorem cellsFo : Tryz.prog.cellsOf 60 = 6 := by kernel_rfl
theorem cellsRp : Tryz.prog.cellsOf 43 = 13 := by kernel_rfl
theorem cellsSp : Tryz.prog.cellsOf 54 = 16 := by kernel_rfl
theorem cellsGu : Tryz.prog.cellsOf 70 = 23 := by kernel_rfl
theorem cellsPr : Tryz.prog.cellsOf 56 = 42 := by kernel_rfl
theorem u8_wf {n : Int} (w : (Lit.int .u8 n).wf = true) : 0 ≤ n ∧ n ≤ 255 := by simpa [Lit.wf, show IntKind.u8.min = 0 from rfl, show IntKind.u8.max = 255 from rfl] using w
theorem i64_wf {n : Int} (w : (Lit.int .i64 n).wf = true) : -9223372036854775808 ≤ n ∧ n ≤ 9223372036854775807 := by
  simp [Lit.wf] at w
  exact w
theorem ty_readW {fuel : Nat} {cs : List Value} {x : DataW H × List MemPlace} (hr : RdT enc Tryz.prog W true fuel 30 cs x) (hw : Wt x 30) : ∃ t : Ty, cs = cellT t ∧ TyW t := by
  obtain ⟨hl, f, _, hf⟩ := rd_structW Tryz.underlying30 hr
  rw [cellsTy] at hl
  match cs, hl with
  | [c0, c1, c2, c3], _ =>
    obtain ⟨_, _, h0, _⟩ := hf _ (.head _)
    obtain ⟨_, _, h1, _⟩ := hf _ (.tail _ (.head _))
    obtain ⟨_, _, h2, _⟩ := hf _ (.tail _ (.tail _ (.head _)))
    obtain ⟨_, _, h3, k3⟩ := hf _ (.tail _ (.tail _ (.tail _ (.head _))))
    obtain ⟨n0, e0, w0⟩ := rd_int Tryz.underlying24 h0
    obtain ⟨n1, e1, w1⟩ := rd_int Tryz.underlying3 h1
    obtain ⟨n2, e2, w2⟩ := rd_int Tryz.underlying24 h2
    obtain ⟨n3, e3, w3⟩ := rd_strW Tryz.underlying9 h3
    obtain rfl : c0 = .int .u8 n0 := List.head_eq_of_cons_eq e0
    obtain rfl : c1 = .int .i64 n1 := List.head_eq_of_cons_eq e1
    obtain rfl : c2 = .int .u8 n2 := List.head_eq_of_cons_eq e2
    obtain rfl : c3 = str n3 := List.head_eq_of_cons_eq e3
    exact ⟨⟨n0, n1, n2, n3⟩, rfl, u8_wf w0, u8_wf w2, i64_wf w1, Nat.le_trans (hw _ (k3 _ w3)) (by decide)⟩
theorem str_readW {fuel : Nat} {cs : List Value} {x : DataW H × List MemPlace} (hr : RdT enc Tryz.prog W true fuel 9 cs x) (hw : Wt x 9) : ∃ s : List UInt8, cs = encB s ∧ s.length ≤ Big := by
  obtain ⟨s, e, w⟩ := rd_strW Tryz.underlying9 hr
  exact ⟨s, e, Nat.le_trans (hw _ w) (by decide)⟩
theorem fo_read {fuel : Nat} {cs : List Value} {x : DataW H × List MemPlace} (hr : RdT enc Tryz.prog W true fuel 60 cs x) (hw : Wt x 60) : ∃ f : Fo, cs = foE f ∧ FoW f := by
  obtain ⟨hl, f, _, hf⟩ := rd_structW Tryz.underlying60 hr
  rw [cellsFo] at hl
  obtain ⟨_, _, h0, _⟩ := hf _ (.head _)
  obtain ⟨_, _, h1, k1⟩ := hf _ (.tail _ (.head _))
  obtain ⟨_, _, h2, k2⟩ := hf _ (.tail _ (.tail _ (.head _)))
  obtain ⟨b, e0⟩ := rd_bool Tryz.underlying4 h0
  obtain ⟨t, e1, w1⟩ := ty_readW h1 fun q hq => hw q (k1 q hq)
  obtain ⟨s, e2, w2⟩ := str_readW h2 fun q hq => hw q (k2 q hq)
  refine ⟨⟨b, t, s⟩, ?_, w1, w2⟩
  have h : cs.drop 6 = [] := List.drop_eq_nil_of_le (by omega)
  rw [show cs = cs.drop 0 from rfl, cut_chain cs 0 1, show (cs.drop 0).take 1 = _ from e0, cut_chain cs 1 4, show (cs.drop (0 + 1)).take 4 = _ from e1, cut_chain cs 5 1, show (cs.drop (1 + 4)).take 1 = _ from e2, h]
  rfl
theorem ex_readE {fuel : Nat} {cs : List Value} {x : DataW H × List MemPlace} (hr : RdT enc Tryz.prog W true fuel 27 cs x) (hw : Wt x 27) : ∃ e : Ex, cs = exE e ∧ EOk (viewOf W) [] e := by
  obtain ⟨e, h1, h2, h3⟩ := ex_read fuel hr hw
  exact ⟨e, h1, h2, h3⟩
theorem exs_read {fuel : Nat} {cs : List Value} {x : DataW H × List MemPlace} (hr : RdT enc Tryz.prog W true fuel 25 cs x) (hw : Wt x 25) : ∃ s : Sli Ex, cs = [.slice s.a s.l.length s.c] ∧ LOk (viewOf W) [] s := by
  obtain ⟨a, n, c, l, e, hl, hs, hp⟩ := slice_argF (Pr := fun e : Ex => EOk (viewOf W) [] e) (enc' := exE) Tryz.underlying25 cellsExpr (by decide) exE_len (fun g ys y _ hy hk => ex_readE hy fun q hq => hw q (hk q hq)) hr
  subst hl
  exact ⟨⟨a, c, l⟩, e, Rd.ofSl hs, hp⟩
theorem strs_read {fuel : Nat} {cs : List Value} {x : DataW H × List MemPlace} (hr : RdT enc Tryz.prog W true fuel 48 cs x) (hw : Wt x 48) : ∃ s : Sli B, cs = [.slice s.a s.l.length s.c] ∧ Rd (viewOf W) [] s.a s.l.length s.c 1 (fl encB s.l) ∧ ∀ x ∈ s.l, x.length ≤ Big := by
  obtain ⟨a, n, c, l, e, hl, hs, hp⟩ := slice_argF (Pr := fun x : B => x.length ≤ Big) (enc' := encB) Tryz.underlying48 cellsStr (by decide) encB_len (fun g ys y _ hy hk => str_readW hy fun q hq => hw q (hk q hq)) hr
  subst hl
  exact ⟨⟨a, c, l⟩, e, Rd.ofSl hs, hp⟩
theorem ints_read {fuel : Nat} {cs : List Value} {x : DataW H × List MemPlace} (hr : RdT enc Tryz.prog W true fuel 46 cs x) : ∃ s : Sli Int, cs = [.slice s.a s.l.length s.c] ∧ Rd (viewOf W) [] s.a s.l.length s.c 1 (fl encN s.l) ∧ ∀ x ∈ s.l, -9223372036854775808 ≤ x ∧ x ≤ 9223372036854775807 := by
  obtain ⟨a, n, c, l, e, hl, hs, hp⟩ := slice_argF (Pr := fun x : Int => -9223372036854775808 ≤ x ∧ x ≤ 9223372036854775807) (enc' := encN) Tryz.underlying46 cellsInt (by decide) encN_len (fun g ys y _ hy _ => by
    obtain ⟨n, e, w⟩ := rd_int Tryz.underlying3 hy
    exact ⟨n, e, i64_wf w⟩) hr
  subst hl
  exact ⟨⟨a, c, l⟩, e, Rd.ofSl hs, hp⟩
theorem fos_read {fuel : Nat} {cs : List Value} {x : DataW H × List MemPlace} (hr : RdT enc Tryz.prog W true fuel 52 cs x) (hw : Wt x 52) : ∃ s : Sli Fo, cs = [.slice s.a s.l.length s.c] ∧ Rd (viewOf W) [] s.a s.l.length s.c 6 (fl foE s.l) ∧ ∀ x ∈ s.l, FoW x := by
  obtain ⟨a, n, c, l, e, hl, hs, hp⟩ := slice_argF (Pr := fun x : Fo => FoW x) (enc' := foE) Tryz.underlying52 cellsFo (by decide) foE_len (fun g ys y _ hy hk => fo_read hy fun q hq => hw q (hk q hq)) hr
  subst hl
  exact ⟨⟨a, c, l⟩, e, Rd.ofSl hs, hp⟩
theorem rp_read {fuel : Nat} {cs : List Value} {x : DataW H × List MemPlace} (hr : RdT enc Tryz.prog W true fuel 43 cs x) (hw : Wt x 43) : ∃ r : Rp, cs = rpE r ∧ r.name.length ≤ Big ∧ EOk (viewOf W) [] r.base ∧ EOk (viewOf W) [] r.count := by
  obtain ⟨hl, f, _, hf⟩ := rd_structW Tryz.underlying43 hr
  rw [cellsRp] at hl
  obtain ⟨_, _, h0, k0⟩ := hf _ (.head _)
  obtain ⟨_, _, h1, k1⟩ := hf _ (.tail _ (.head _))
  obtain ⟨_, _, h2, k2⟩ := hf _ (.tail _ (.tail _ (.head _)))
  obtain ⟨s, e0, w0⟩ := str_readW h0 fun q hq => hw q (k0 q hq)
  obtain ⟨b, e1, w1⟩ := ex_readE h1 fun q hq => hw q (k1 q hq)
  obtain ⟨c, e2, w2⟩ := ex_readE h2 fun q hq => hw q (k2 q hq)
  refine ⟨⟨s, b, c⟩, ?_, w0, w1, w2⟩
  have h : cs.drop 13 = [] := List.drop_eq_nil_of_le (by omega)
  rw [show cs = cs.drop 0 from rfl, cut_chain cs 0 1, show (cs.drop 0).take 1 = _ from e0, cut_chain cs 1 6, show (cs.drop (0 + 1)).take 6 = _ from e1, cut_chain cs 7 6, show (cs.drop (1 + 6)).take 6 = _ from e2, h]
  rfl
theorem vr_readW {fuel : Nat} {cs : List Value} {x : DataW H × List MemPlace} (hr : RdT enc Tryz.prog W true fuel 102 cs x) (hw : Wt x 102) : ∃ v : Vr, cs = encV v ∧ (VOk (viewOf W) [] v ∧ v.tag.length ≤ 9223372036854775807) ∧ v.items.length = v.n := by
  obtain ⟨hl, f, _, hf⟩ := rd_structW Tryz.underlying102 hr
  rw [cellsVr] at hl
  match cs, hl with
  | [c0, c1], _ =>
    obtain ⟨_, _, h0, k0⟩ := hf _ (.head _)
    obtain ⟨_, _, h1, k1⟩ := hf _ (.tail _ (.head _))
    obtain ⟨n0, e0, w0⟩ := str_readW h0 fun q hq => hw q (k0 q hq)
    obtain ⟨a, n, c, l, e1, hll, hs, _⟩ := slice_argF (Pr := fun _ : Int => True) (enc' := encI) Tryz.underlying100 cellsTk (by decide) encI_len (fun g ys y _ hy _ => by
      obtain ⟨n, e, _⟩ := rd_int Tryz.underlying24 hy
      exact ⟨n, e, trivial⟩) h1
    obtain rfl : c0 = str n0 := List.head_eq_of_cons_eq e0
    obtain rfl : c1 = .slice a n c := List.head_eq_of_cons_eq e1
    exact ⟨⟨n0, a, n, c, l⟩, rfl, ⟨⟨Rd.ofSl hs⟩, Nat.le_trans w0 (by decide)⟩, hll⟩
theorem po_read {fuel : Nat} {cs : List Value} {x : DataW H × List MemPlace} (hr : RdT enc Tryz.prog W true fuel 51 cs x) (hw : Wt x 51) : ∃ (b : Bool) (s : Sli Vr), cs = [.bool b, .slice s.a s.l.length s.c] ∧ PrOk (viewOf W) [] s.a s.l.length s.c s.l ∧ ∀ x ∈ s.l, x.items.length = x.n := by
  obtain ⟨hl, f, _, hf⟩ := rd_structW Tryz.underlying51 hr
  rw [cellsPo] at hl
  match cs, hl with
  | [c0, c1], _ =>
    obtain ⟨_, _, h0, _⟩ := hf _ (.head _)
    obtain ⟨_, _, h1, k1⟩ := hf _ (.tail _ (.head _))
    obtain ⟨b, e0⟩ := rd_bool Tryz.underlying4 h0
    obtain ⟨a, n, c, l, e1, hll, hs, hp⟩ := slice_argF (Pr := fun v : Vr => (VOk (viewOf W) [] v ∧ v.tag.length ≤ 9223372036854775807) ∧ v.items.length = v.n) (enc' := encV) Tryz.underlying49 cellsVr (by decide) encV_len (fun g ys y _ hy hk => vr_readW hy fun q hq => hw q (k1 q (hk q hq))) h1
    obtain rfl : c0 = .bool b := List.head_eq_of_cons_eq e0
    obtain rfl : c1 = .slice a n c := List.head_eq_of_cons_eq e1
    subst hll
    exact ⟨b, ⟨a, c, l⟩, rfl, ⟨Rd.ofSl hs, fun v hv => (hp v hv).1.1, fun v hv => (hp v hv).1.2⟩, fun v hv => (hp v hv).2⟩
/-- A list of processes in memory. -/
abbrev PsR (fuel : Nat) : Prop := ∀ g, g < fuel → ∀ {cs : List Value} {x : DataW H × List MemPlace}, RdT enc Tryz.prog W true g 56 cs x → Wt x 56 → ∃ p : Pr, cs = prE p ∧ POk (viewOf W) [] p
theorem prs_read {fuel : Nat} (ih : PsR (enc := enc) (W := W) fuel) {cs : List Value} {x : DataW H × List MemPlace} (hr : RdT enc Tryz.prog W true fuel 45 cs x) (hw : Wt x 45) :
    ∃ a c l, cs = [.slice a l.length c] ∧ Rd (viewOf W) [] a l.length c 42 (fl prE l) ∧ ∀ p ∈ l, POk (viewOf W) [] p := by
  obtain ⟨a, n, c, l, e, hl, hs, hp⟩ := slice_argF (Pr := fun p : Pr => POk (viewOf W) [] p) (enc' := prE) Tryz.underlying45 cellsPr (by decide) prE_len (fun g ys y hg hy hk => ih g hg hy fun q hq => hw q (hk q hq)) hr
  subst hl
  exact ⟨a, c, l, e, Rd.ofSl hs, hp⟩
theorem PsR.less {f g : Nat} (ih : PsR (enc := enc) (W := W) f) (h : g ≤ f) : PsR (enc := enc) (W := W) g := fun k hk => ih k (Nat.lt_of_lt_of_le hk h)
theorem sp_read {fuel : Nat} (ih : PsR (enc := enc) (W := W) fuel) {cs : List Value} {x : DataW H × List MemPlace} (hr : RdT enc Tryz.prog W true fuel 54 cs x) (hw : Wt x 54) :
    ∃ s : Sp, cs = spE s ∧ SOk (viewOf W) [] s ∧ ∀ p ∈ s.bl, POk (viewOf W) [] p := by
  obtain ⟨hl, f, hfu, hf⟩ := rd_structW Tryz.underlying54 hr
  rw [cellsSp] at hl
  obtain ⟨_, _, h0, _⟩ := hf _ (.head _)
  obtain ⟨_, _, h1, k1⟩ := hf _ (.tail _ (.head _))
  obtain ⟨_, _, h2, k2⟩ := hf _ (.tail _ (.tail _ (.head _)))
  obtain ⟨_, _, h3, k3⟩ := hf _ (.tail _ (.tail _ (.tail _ (.head _))))
  obtain ⟨_, _, h4, k4⟩ := hf _ (.tail _ (.tail _ (.tail _ (.tail _ (.head _)))))
  obtain ⟨_, _, h5, k5⟩ := hf _ (.tail _ (.tail _ (.tail _ (.tail _ (.tail _ (.head _))))))
  obtain ⟨_, _, h6, k6⟩ := hf _ (.tail _ (.tail _ (.tail _ (.tail _ (.tail _ (.tail _ (.head _)))))))
  obtain ⟨n0, e0, w0⟩ := rd_int Tryz.underlying47 h0
  obtain ⟨t1, e1, w1⟩ := ty_readW h1 fun q hq => hw q (k1 q hq)
  obtain ⟨s2, e2, r2, w2⟩ := strs_read h2 fun q hq => hw q (k2 q hq)
  obtain ⟨x3, e3, w3⟩ := ex_readE h3 fun q hq => hw q (k3 q hq)
  obtain ⟨b4, s4, e4, r4, w4⟩ := po_read h4 fun q hq => hw q (k4 q hq)
  obtain ⟨s5, e5, r5, w5⟩ := fos_read h5 fun q hq => hw q (k5 q hq)
  obtain ⟨a6, c6, l6, e6, r6, w6⟩ := prs_read (ih.less (by omega)) h6 fun q hq => hw q (k6 q hq)
  refine ⟨.mk n0 t1 s2 x3 b4 s4 s5 a6 c6 l6, ?_, ⟨u8_wf w0, w1, r2, w2, w3, r4, w4, r5, w5, r6⟩, w6⟩
  have h : cs.drop 16 = [] := List.drop_eq_nil_of_le (by omega)
  rw [show cs = cs.drop 0 from rfl, cut_chain cs 0 1, show (cs.drop 0).take 1 = _ from e0, cut_chain cs 1 4, show (cs.drop (0 + 1)).take 4 = _ from e1, cut_chain cs 5 1, show (cs.drop (1 + 4)).take 1 = _ from e2,
    cut_chain cs 6 6, show (cs.drop (5 + 1)).take 6 = _ from e3, cut_chain cs 12 2, show (cs.drop (6 + 6)).take 2 = _ from e4, cut_chain cs 14 1, show (cs.drop (12 + 2)).take 1 = _ from e5, cut_chain cs 15 1, show (cs.drop (14 + 1)).take 1 = _ from e6, h]
  rfl
theorem gu_read {fuel : Nat} (ih : PsR (enc := enc) (W := W) fuel) {cs : List Value} {x : DataW H × List MemPlace} (hr : RdT enc Tryz.prog W true fuel 70 cs x) (hw : Wt x 70) :
    ∃ g : Gu, cs = guE g ∧ GOk (viewOf W) [] g ∧ ∀ p ∈ g.bl, POk (viewOf W) [] p := by
  obtain ⟨hl, f, hfu, hf⟩ := rd_structW Tryz.underlying70 hr
  rw [cellsGu] at hl
  obtain ⟨_, _, h0, _⟩ := hf _ (.head _)
  obtain ⟨_, _, h1, k1⟩ := hf _ (.tail _ (.head _))
  obtain ⟨_, _, h2, k2⟩ := hf _ (.tail _ (.tail _ (.head _)))
  obtain ⟨_, _, h3, k3⟩ := hf _ (.tail _ (.tail _ (.tail _ (.head _))))
  obtain ⟨_, _, h4, k4⟩ := hf _ (.tail _ (.tail _ (.tail _ (.tail _ (.head _)))))
  obtain ⟨_, _, h5, k5⟩ := hf _ (.tail _ (.tail _ (.tail _ (.tail _ (.tail _ (.head _))))))
  obtain ⟨_, _, h6, k6⟩ := hf _ (.tail _ (.tail _ (.tail _ (.tail _ (.tail _ (.tail _ (.head _)))))))
  obtain ⟨_, _, h7, k7⟩ := hf _ (.tail _ (.tail _ (.tail _ (.tail _ (.tail _ (.tail _ (.tail _ (.head _))))))))
  obtain ⟨n0, e0, w0⟩ := rd_int Tryz.underlying68 h0
  obtain ⟨s1, e1, w1⟩ := str_readW h1 fun q hq => hw q (k1 q hq)
  obtain ⟨x2, e2, w2⟩ := ex_readE h2 fun q hq => hw q (k2 q hq)
  obtain ⟨x3, e3, w3⟩ := ex_readE h3 fun q hq => hw q (k3 q hq)
  obtain ⟨s4, e4, w4⟩ := exs_read h4 fun q hq => hw q (k4 q hq)
  obtain ⟨s5, e5, w5⟩ := exs_read h5 fun q hq => hw q (k5 q hq)
  obtain ⟨x6, e6, w6⟩ := ex_readE h6 fun q hq => hw q (k6 q hq)
  obtain ⟨a7, c7, l7, e7, r7, w7⟩ := prs_read (ih.less (by omega)) h7 fun q hq => hw q (k7 q hq)
  refine ⟨.mk n0 s1 x2 x3 s4 s5 x6 a7 c7 l7, ?_, ⟨u8_wf w0, w1, w2, w3, w4, w5, w6, r7⟩, w7⟩
  have h : cs.drop 23 = [] := List.drop_eq_nil_of_le (by omega)
  rw [show cs = cs.drop 0 from rfl, cut_chain cs 0 1, show (cs.drop 0).take 1 = _ from e0, cut_chain cs 1 1, show (cs.drop (0 + 1)).take 1 = _ from e1, cut_chain cs 2 6, show (cs.drop (1 + 1)).take 6 = _ from e2,
    cut_chain cs 8 6, show (cs.drop (2 + 6)).take 6 = _ from e3, cut_chain cs 14 1, show (cs.drop (8 + 6)).take 1 = _ from e4, cut_chain cs 15 1, show (cs.drop (14 + 1)).take 1 = _ from e5, cut_chain cs 16 6, show (cs.drop (15 + 1)).take 6 = _ from e6, cut_chain cs 22 1, show (cs.drop (16 + 6)).take 1 = _ from e7, h]
  rfl
theorem gus_read {fuel : Nat} (ih : PsR (enc := enc) (W := W) fuel) {cs : List Value} {x : DataW H × List MemPlace} (hr : RdT enc Tryz.prog W true fuel 44 cs x) (hw : Wt x 44) :
    ∃ a c l, cs = [.slice a l.length c] ∧ Rd (viewOf W) [] a l.length c 23 (fl guE l) ∧ ∀ g ∈ l, GOk (viewOf W) [] g ∧ ∀ p ∈ g.bl, POk (viewOf W) [] p := by
  obtain ⟨a, n, c, l, e, hl, hs, hp⟩ := slice_argF (Pr := fun g : Gu => GOk (viewOf W) [] g ∧ ∀ p ∈ g.bl, POk (viewOf W) [] p) (enc' := guE) Tryz.underlying44 cellsGu (by decide) guE_len (fun g ys y hg hy hk => gu_read (ih.less (by omega)) hy fun q hq => hw q (hk q hq)) hr
  subst hl
  exact ⟨a, c, l, e, Rd.ofSl hs, hp⟩
theorem pr_read : ∀ (fuel : Nat) {cs : List Value} {x : DataW H × List MemPlace}, RdT enc Tryz.prog W true fuel 56 cs x → Wt x 56 → ∃ p : Pr, cs = prE p ∧ POk (viewOf W) [] p := by
  intro fuel
  induction fuel using Nat.strongRecOn with
  | _ fuel ih =>
  intro cs x hr hw
  replace ih : PsR (enc := enc) (W := W) fuel := fun g hg => ih g hg
  obtain ⟨hl, f, hfu, hf⟩ := rd_structW Tryz.underlying56 hr
  rw [cellsPr] at hl
  obtain ⟨_, _, h0, _⟩ := hf _ (.head _)
  obtain ⟨_, _, h1, k1⟩ := hf _ (.tail _ (.head _))
  obtain ⟨_, _, h2, k2⟩ := hf _ (.tail _ (.tail _ (.head _)))
  obtain ⟨_, _, h3, k3⟩ := hf _ (.tail _ (.tail _ (.tail _ (.head _))))
  obtain ⟨_, _, h4, k4⟩ := hf _ (.tail _ (.tail _ (.tail _ (.tail _ (.head _)))))
  obtain ⟨_, _, h5, k5⟩ := hf _ (.tail _ (.tail _ (.tail _ (.tail _ (.tail _ (.head _))))))
  obtain ⟨_, _, h6, k6⟩ := hf _ (.tail _ (.tail _ (.tail _ (.tail _ (.tail _ (.tail _ (.head _)))))))
  obtain ⟨_, _, h7, k7⟩ := hf _ (.tail _ (.tail _ (.tail _ (.tail _ (.tail _ (.tail _ (.tail _ (.head _))))))))
  obtain ⟨_, _, h8, _⟩ := hf _ (.tail _ (.tail _ (.tail _ (.tail _ (.tail _ (.tail _ (.tail _ (.tail _ (.head _)))))))))
  obtain ⟨_, _, h9, k9⟩ := hf _ (.tail _ (.tail _ (.tail _ (.tail _ (.tail _ (.tail _ (.tail _ (.tail _ (.tail _ (.head _))))))))))
  obtain ⟨n0, e0, w0⟩ := rd_int Tryz.underlying41 h0
  obtain ⟨s1, e1, w1⟩ := str_readW h1 fun q hq => hw q (k1 q hq)
  obtain ⟨x2, e2, w2⟩ := ex_readE h2 fun q hq => hw q (k2 q hq)
  obtain ⟨s3, e3, w3⟩ := exs_read h3 fun q hq => hw q (k3 q hq)
  obtain ⟨s4, e4, w4⟩ := exs_read h4 fun q hq => hw q (k4 q hq)
  obtain ⟨r5, e5, w5, wb5, wc5⟩ := rp_read h5 fun q hq => hw q (k5 q hq)
  obtain ⟨a6, c6, l6, e6, r6, w6⟩ := gus_read (ih.less (by omega)) h6 fun q hq => hw q (k6 q hq)
  obtain ⟨a7, c7, l7, e7, r7, w7⟩ := prs_read (ih.less (by omega)) h7 fun q hq => hw q (k7 q hq)
  obtain ⟨s8, e8, r8, w8⟩ := ints_read h8
  obtain ⟨s9, e9, r9, w9⟩ := sp_read (ih.less (by omega)) h9 fun q hq => hw q (k9 q hq)
  refine ⟨.mk n0 s1 x2 s3 s4 r5 a6 c6 l6 a7 c7 l7 s8 s9, ?_, .mk ⟨u8_wf w0, w1, w2, w3, w4, w5, wb5, wc5, r6, fun g hg => (w6 g hg).1, r7, r8, w8, r9⟩ fun y hy => ?_⟩
  · have h : cs.drop 42 = [] := List.drop_eq_nil_of_le (by omega)
    rw [show cs = cs.drop 0 from rfl, cut_chain cs 0 1, show (cs.drop 0).take 1 = _ from e0, cut_chain cs 1 1, show (cs.drop (0 + 1)).take 1 = _ from e1, cut_chain cs 2 6, show (cs.drop (1 + 1)).take 6 = _ from e2,
      cut_chain cs 8 1, show (cs.drop (2 + 6)).take 1 = _ from e3, cut_chain cs 9 1, show (cs.drop (8 + 1)).take 1 = _ from e4, cut_chain cs 10 13, show (cs.drop (9 + 1)).take 13 = _ from e5, cut_chain cs 23 1, show (cs.drop (10 + 13)).take 1 = _ from e6,
      cut_chain cs 24 1, show (cs.drop (23 + 1)).take 1 = _ from e7, cut_chain cs 25 1, show (cs.drop (24 + 1)).take 1 = _ from e8, cut_chain cs 26 16, show (cs.drop (25 + 1)).take 16 = _ from e9, h]
    rfl
  · cases hy with
    | l h => exact w7 y h
    | s h => exact w9 y h
    | g hg h => exact (w6 _ hg).2 y h
theorem prs_all (fuel : Nat) : PsR (enc := enc) (W := W) fuel := fun g _ => pr_read g
theorem sps_arg {v : Value} {d : DataW H} {p : List MemPlace} {r : Reach} {base : Nat} (hv : Value.okWide Tryz.prog W r base 28 v) (h : DataW.Trod enc Tryz.prog W 0 (fun _ => true) true 28 v d p) (hw : ∀ q ∈ d.weights Tryz.prog 28, q ≤ reachBytes) :
    ∃ a k c l, v = .slice a k c ∧ Rd (viewOf W) [] a k c 16 (fl spE l) ∧ ∀ s ∈ l, SOk (viewOf W) [] s := by
  obtain ⟨a, k, c, rfl⟩ := okWide_slice Tryz.underlying28 hv
  obtain ⟨fuel, hf⟩ := h
  obtain ⟨a', k', c', l, e, hl, hs, hp⟩ := slice_argF (x := (d, p)) (Pr := fun s : Sp => SOk (viewOf W) [] s) (enc' := spE) Tryz.underlying28 cellsSp (by decide) spE_len (fun g ys y _ hy hk => by
    obtain ⟨s, h1, h2, _⟩ := sp_read (prs_all g) hy fun q hq => hw q (hk q hq)
    exact ⟨s, h1, h2⟩) hf
  have e := List.head_eq_of_cons_eq (show [Value.slice a k c] = [.slice a' k' c'] from e)
  cases e
  exact ⟨a, k, c, l, rfl, Rd.ofSl hs, hp⟩
end Go.Proofs.YtdhmplmpbcnojaaGreatDoor
end
/- LOf -/
section
namespace Go.Proofs.YtdhmplmpbcnojaaGreatDoor
open Go Go.Eng Go.RowKit Go.ChangeShapes Go.WideShapes Go.ChangeAt Go.Joins

set_option maxRecDepth 100000 in
theorem typingOf_lifted (os : Os) (started : os.Started) (H : Type) (enc : TypeId × Value → H) :
    ReturnsInHanded {} Tryz.checked os 3 .any (fun w args => (Rows.typingOfSpec.pre enc Tryz.prog Tryz.f3 [] false w args ∧ laidMet Tryz.prog laidL w) ∧ sizedMet enc Tryz.prog Tryz.f3 (OpenSpec.ofChange Rows.typingOfSpec) false w args)
      (Rows.typingOfSpec.post enc Tryz.prog Tryz.f3 false true false false) := by
  refine returnsInHanded_laid (C := Tryz.checked) Tryz.own started (by kernel_rfl) Tryz.func3
    (ChangeSpec.witness_at (enc := enc) (C := Tryz.checked) (os := os) (X := fun w _ => laidMet Tryz.prog laidL w) false (laidWorld os) #[.agg #[.int .u8 0, .int .u8 0, .int .u8 0, .int .i32 0, .string ⟨#[]⟩, .slice none 0 0], .slice none 0 0] 8 rfl (by kernel_rfl) (by kernel_rfl) (by kernel_rfl) (by kernel_rfl) (by kernel_rfl) (laidWorld_met os _)) ?_
  intro W base args ds gs before hval hW hsz hL hsh
  have hg := glob_of hL hsh
  refine law_post (C := Tryz.checked) Tryz.laidOut (by kernel_rfl) rfl rfl Tryz.underlying4 (fun ds hd => ?_) hW ?_
  · match ds, hd with
    | [d0, d1], _ => rfl
  · obtain ⟨p, q, hA, hV, rfl, -, -⟩ := hW
    obtain ⟨rfl, rfl⟩ := trodVars_none (show DataW.TrodVars enc Tryz.prog W (fun _ => true) [] gs q from hV)
    rw [show Tryz.checked.prog = Tryz.prog from rfl, Tryz.params3] at hA hsz
    obtain ⟨v0, v1, d0, d1, p0, p1, rfl, rfl, rfl, h0, h1⟩ := trodAll_two hA
    obtain ⟨e0, rfl, hT0, hW0⟩ := ex_arg (hval 0 27 v0 rfl rfl) h0 (fun q hq => by simpa using List.all_eq_true.1 hsz q (DataW.weights_mem_each (j := 0) (t := 27) rfl rfl q hq))
    obtain ⟨a, k, c, l, rfl, hr, hS⟩ := sps_arg (hval 1 28 v1 rfl rfl) h1 (fun q hq => by simpa using List.all_eq_true.1 hsz q (DataW.weights_mem_each (j := 1) (t := 28) rfl rfl q hq))
    have hv : VOkE (viewOf W) [] l := ⟨fun x hx => (hS x hx).nr, fun x hx => (hS x hx).fr, fun x hx => (hS x hx).v⟩
    exact of_law hg e0 a k c l _ hT0 hW0 hr hv

theorem typingOf_holds : Rows.TypingOfSaid :=
  OpenClaim.holds_of_wide 3 Tryz.f3 rfl rfl rfl rfl rfl rfl rfl ⟨rfl, rfl, rfl, rfl, rfl⟩ rfl rfl rfl rfl rfl (by kernel_rfl) Tryz.func3 (by kernel_rfl)
    (of_decide_eq_true (by kernel_rfl)) (by unfold Func.isWrapper; rw [if_neg (by decide +kernel)]; exact ⟨rfl, rfl⟩)
    (fun os started H enc _ => typingOf_lifted os started H enc)

theorem typingOf_card : Rows.TypingOfCardSaid :=
  Claim7.holds_tied_plain_at .later [] [.data, .data, .data, .data] true (true, "bc84e5f55452caa94bec5d9f10acfbe12ea07e9c19f3114bcca25cfb5a91555f") false
    typingOf_holds (fun _ h => by cases h) (by kernel_rfl) (fun _ h => by cases h) typingOf_row_tie rfl ⟨rfl, rfl⟩ (by kernel_rfl) rfl
    (fun f fn hf hfn => by
      obtain rfl : f = 3 := Option.some.inj ((show Tryz.prog.funcNamed "transputer/transputerlaw13.TypingOf" = some 3 by kernel_rfl).symm.trans hf) |>.symm
      obtain rfl : fn = Tryz.f3 := (Option.some.inj (Tryz.func3.symm.trans hfn)).symm
      exact ⟨by kernel_rfl, fun j t ht => by
        rw [Tryz.params3] at ht
        match j, ht with
        | 0, ht => cases ht; exact (show Tryz.prog.wantsStandIn 27 = false by kernel_rfl)
        | 1, ht => cases ht; exact (show Tryz.prog.wantsStandIn 28 = false by kernel_rfl)
        | j + 2, ht => simp at ht⟩)
    (by kernel_rfl)
end Go.Proofs.YtdhmplmpbcnojaaGreatDoor
end

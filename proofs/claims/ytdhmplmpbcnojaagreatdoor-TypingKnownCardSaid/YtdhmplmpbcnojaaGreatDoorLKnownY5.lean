/- TpP ExpC SyA SyB SyC SyD TpQ ExpF TpR TpS -/
import Derived.Test.YtdhmplmpbcnojaaGreatDoorLKnownY4
/- TpP -/
section
namespace Go.Proofs.YtdhmplmpbcnojaaGreatDoor
open Go.Eng Go.Pc Go.Tg Go
open Go.Xp hiding B nameT
open Go.Ty (Ty Vr eqT tyV cellT zeroT PrOk VOk prL encV encV_len encI encI_len)
open Go.Lx (encB encB_len)
set_option maxRecDepth 100000
theorem chkP_eq (p : Pr) (S : List Ent) : chkP p S =
    if p.k = 3 then asgX S p.tg.l p.ex.l
    else if p.k = 4 then inX S p.ch p.tg.l
    else if p.k = 5 then outX S p.ch p.ex.l
    else if p.k = 6 then afterX S p.ch (hdX p.ex.l)
    else if p.k = 7 then (match chanX S p.ch 4 with
      | .error w => w
      | .ok q => chkV p.gl S q [])
    else if p.k = 12 ∨ p.k = 13 ∨ p.k = 14 then (if repX S p.rep ≠ 0 then repX S p.rep else chkG p.gl (repS S p.rep))
    else if p.k = 15 then (match typX S (hdX p.ex.l) with
      | .error w => w
      | .ok h => if eqT h.t (tyK 1) = false ∧ eqT h.t (tyK 2) = false then 130 else chkC p.gl S h.t 0)
    else if p.k = 16 then (if isX S (hdX p.ex.l) (tyK 3) ≠ 0 then isX S (hdX p.ex.l) (tyK 3) else chkH p.ll S)
    else if p.k = 17 then callX S p.name p.ex.l
    else if p.k = 18 then (if chkS p.sp S ≠ 0 then chkS p.sp S else chkH p.ll (S ++ [shS p.sp S.length]))
    else if repX S p.rep ≠ 0 then repX S p.rep else chkL p.ll (repS S p.rep) := by cases p; rfl
theorem norep {p : Pr} (hV : Pl p) (h : (fieldsP p.k).1.rep = false) : p.rep.name = [] := by
  by_cases hn : p.rep.name = []
  · exact hn
  · rw [hV.rp hn] at h; cases h
set_option maxHeartbeats 2000000 in
theorem process_ct {m : View} (hg : Glob m) (p : Pr) : Vld p → ProcC m p := by
  refine Pr.ind (q := fun p => Vld p → ProcC m p) (fun p ihp hv h s a k c hs hP hn => ?_) p
  have hV := hv.own
  have ih : ∀ x, In x p → ProcC m x := fun x hx => ihp x hx (hv.sub hx)
  have hC := chkP_eq p (shL s)
  have hO := hP.own
  have hex := lxk hO.ex hV.ex
  have htg := lxk hO.tg fun x hx => elem_may (hV.tg x hx)
  have hen := hV.en
  refine CT.body Tryz.call35 Tryz.func35 rfl Tryz.ntmps35 (leB rfl) rfl ?_
  repeat first | refine sk fun K hK => ?_ | refine bk ?_ | refine rn fun _ => ?_
  refine xX fun b3 => ?_
  refine xC ?_
  refine wn [0, 3] ?_
  repeat first | refine sk fun K hK => ?_ | refine bk ?_ | refine rn fun _ => ?_
  refine xM ?_
  refine xG (PO.makeFunc (Evs.cons Et Evs.nil) Evs.nil) ?_
  refine xA ?_
  refine wn [0, 3, 5] ?_
  repeat first | refine sk fun K hK => ?_ | refine bk ?_ | refine rn fun _ => ?_
  refine xF Tryz.underlying56 ?_
  refine xG (pL Tryz.underlying41) ?_
  refine wn [0, 3, 5, 9] ?_
  repeat first | refine sk fun K hK => ?_ | refine bk ?_ | refine rn fun _ => ?_
  refine xG (PO.bin Et Ev.const rfl) ?_
  refine xA ?_
  refine wn [0, 3, 5, 9, 10] ?_
  repeat first | refine sk fun K hK => ?_ | refine bk ?_
  refine wc (fun c10 => ?_) fun c10 => ?_
  replace c10 := t_eq c10
  rw [if_pos c10] at hC
  repeat first | refine sk fun K hK => ?_ | refine bk ?_ | refine rn fun _ => ?_
  refine xM ?_
  refine xG (PO.makeFunc (Evs.cons Et Evs.nil) Evs.nil) ?_
  refine xA ?_
  refine wn [3, 5] ?_
  repeat first | refine sk fun K hK => ?_ | refine bk ?_ | refine rn fun _ => ?_
  refine xM ?_
  refine xG (pA Tryz.underlying56) ?_
  refine WL.callP (Ev.tmp rfl) (Evs.cons (Ev.tmp rfl) Evs.nil) (assign_ct (hs.mono Sb) p (htg.mono Sb) (hex.mono Sb)) (leB rfl) ?_
  refine xA ?_
  refine wn [4] ?_
  refine WC.ret (wR (h) ?_)
  exact ⟨by rw [hC], rfl⟩
  replace c10 := f_eq c10
  rw [if_neg c10] at hC
  repeat first | refine sk fun K hK => ?_ | refine bk ?_ | refine rn fun _ => ?_
  refine xG (PO.bin Et Ev.const rfl) ?_
  refine xA ?_
  refine wn [0, 3, 5, 9, 14] ?_
  repeat first | refine sk fun K hK => ?_ | refine bk ?_
  refine wc (fun c14 => ?_) fun c14 => ?_
  replace c14 := t_eq c14
  rw [if_pos c14] at hC
  have hch := xok hO.ch (elem_may (hV.ch (by rw [c14]; rfl)))
  repeat first | refine sk fun K hK => ?_ | refine bk ?_ | refine rn fun _ => ?_
  refine xM ?_
  refine xG (PO.makeFunc (Evs.cons Et Evs.nil) Evs.nil) ?_
  refine xA ?_
  refine wn [3, 5] ?_
  repeat first | refine sk fun K hK => ?_ | refine bk ?_ | refine rn fun _ => ?_
  refine xM ?_
  refine xG (pA Tryz.underlying56) ?_
  refine WL.callP (Ev.tmp rfl) (Evs.cons (Ev.tmp rfl) Evs.nil) (input_ct hg (hs.mono Sb) p (hch.mono Sb) (htg.mono Sb)) (leB rfl) ?_
  refine xA ?_
  refine wn [4] ?_
  refine WC.ret (wR (h) ?_)
  exact ⟨by rw [hC], rfl⟩
  replace c14 := f_eq c14
  rw [if_neg c14] at hC
  repeat first | refine sk fun K hK => ?_ | refine bk ?_ | refine rn fun _ => ?_
  refine xG (PO.bin Et Ev.const rfl) ?_
  refine xA ?_
  refine wn [0, 3, 5, 9, 18] ?_
  repeat first | refine sk fun K hK => ?_ | refine bk ?_
  refine wc (fun c18 => ?_) fun c18 => ?_
  replace c18 := t_eq c18
  rw [if_pos c18] at hC
  have hch := xok hO.ch (elem_may (hV.ch (by rw [c18]; rfl)))
  rw [c18] at hen
  have he0 : (1 : Int) ≤ p.ex.l.length := hen.1
  repeat first | refine sk fun K hK => ?_ | refine bk ?_ | refine rn fun _ => ?_
  refine xM ?_
  refine xG (PO.makeFunc (Evs.cons Et Evs.nil) Evs.nil) ?_
  refine xA ?_
  refine wn [3, 5] ?_
  repeat first | refine sk fun K hK => ?_ | refine bk ?_ | refine rn fun _ => ?_
  refine xM ?_
  refine xG (pA Tryz.underlying56) ?_
  refine WL.callP (Ev.tmp rfl) (Evs.cons (Ev.tmp rfl) Evs.nil) (output_ct hg (hs.mono Sb) p (hch.mono Sb) (hex.mono Sb) (by omega)) (leB rfl) ?_
  refine xA ?_
  refine wn [4] ?_
  refine WC.ret (wR (h) ?_)
  exact ⟨by rw [hC], rfl⟩
  replace c18 := f_eq c18
  rw [if_neg c18] at hC
  repeat first | refine sk fun K hK => ?_ | refine bk ?_ | refine rn fun _ => ?_
  refine xG (PO.bin Et Ev.const rfl) ?_
  refine xA ?_
  refine wn [0, 3, 5, 9, 22] ?_
  repeat first | refine sk fun K hK => ?_ | refine bk ?_
  refine wc (fun c22 => ?_) fun c22 => ?_
  replace c22 := t_eq c22
  rw [if_pos c22] at hC
  have hch := xok hO.ch (elem_may (hV.ch (by rw [c22]; rfl)))
  rw [c22] at hen
  have he0 : (1 : Int) ≤ p.ex.l.length := hen.1
  repeat first | refine sk fun K hK => ?_ | refine bk ?_ | refine rn fun _ => ?_
  refine xM ?_
  refine xG (PO.makeFunc (Evs.cons Et Evs.nil) Evs.nil) ?_
  refine xA ?_
  refine wn [3, 5] ?_
  repeat first | refine sk fun K hK => ?_ | refine bk ?_ | refine rn fun _ => ?_
  refine xM ?_
  refine xG (pA Tryz.underlying56) ?_
  refine WL.callP (Ev.tmp rfl) (Evs.cons (Ev.tmp rfl) Evs.nil) (wait_ct hg (hs.mono Sb) p (hch.mono Sb) (hex.mono Sb) (by omega)) (leB rfl) ?_
  refine xA ?_
  refine wn [4] ?_
  refine WC.ret (wR (h) ?_)
  exact ⟨by rw [hC], rfl⟩
  replace c22 := f_eq c22
  rw [if_neg c22] at hC
  repeat first | refine sk fun K hK => ?_ | refine bk ?_ | refine rn fun _ => ?_
  refine xG (PO.bin Et Ev.const rfl) ?_
  refine xA ?_
  refine wn [0, 3, 5, 9, 26] ?_
  repeat first | refine sk fun K hK => ?_ | refine bk ?_
  refine wc (fun c26 => ?_) fun c26 => ?_
  replace c26 := t_eq c26
  rw [if_pos c26] at hC
  have hch := xok hO.ch (elem_may (hV.ch (by rw [c26]; rfl)))
  repeat first | refine sk fun K hK => ?_ | refine bk ?_ | refine rn fun _ => ?_
  refine xM ?_
  refine xG (PO.makeFunc (Evs.cons Et Evs.nil) Evs.nil) ?_
  refine xA ?_
  refine wn [3, 5] ?_
  repeat first | refine sk fun K hK => ?_ | refine bk ?_ | refine rn fun _ => ?_
  refine xM ?_
  refine xG (pA Tryz.underlying56) ?_
  refine WL.callP (Ev.tmp rfl) (Evs.cons (Ev.tmp rfl) Evs.nil) (variants_ct hg (hs.mono Sb) p (hP.mono Sb) hV (hch.mono Sb) hn ih) (leB rfl) ?_
  refine xA ?_
  refine wn [4] ?_
  refine WC.ret (wR (h) ?_)
  exact ⟨by rw [hC]; rfl, rfl⟩
  replace c26 := f_eq c26
  rw [if_neg c26] at hC
  repeat first | refine sk fun K hK => ?_ | refine bk ?_ | refine rn fun _ => ?_
  refine xG (PO.bin Et Ev.const rfl) ?_
  refine xA ?_
  refine wn [0, 3, 5, 9, 30] ?_
  (repeat refine WC.seqK fun K hK => ?_)
  refine WC.cutK (by assumption) [0, 3, 5, 9] rfl (fun F' h' => ∃ bb : Bool, (bb = true ↔ (p.k = 12 ∨ p.k = 13 ∨ p.k = 14)) ∧ F' = [(30, .bool bb)] ∧ .pt b3 (.cells (prE p).toArray 56 (0, 0)) :: h = h') ?_ ?_
  repeat first | refine sk fun K hK => ?_ | refine bk ?_
  refine wc (fun c30 => ?_) fun c30 => ?_
  have ca : (p.k == 12) = true := c30
  refine WC.skip (meetI [(30, .bool ((p.k == 12)))] (h'' := .pt b3 (.cells (prE p).toArray 56 (0, 0)) :: h) ?_ (by (repeat (first | exact Sub.nil | refine Sub.cons rfl ?_ | refine Sub.consE rfl (by simp; done) ?_))) Sb ⟨(p.k == 12), ⟨fun _ => .inl (by simpa using ca), fun _ => ca⟩, rfl, rfl⟩)
  (repeat (first | exact Sub.nil | refine Sub.cons rfl ?_ | refine Sub.consE rfl (by simp; done) ?_))
  have ca : (p.k == 12) = false := c30
  repeat first | refine sk fun K hK => ?_ | refine bk ?_ | refine rn fun _ => ?_
  refine xG (PO.bin Et Ev.const rfl) ?_
  refine xA ?_
  refine wn [0, 3, 5, 9, 30] ?_
  repeat first | refine sk fun K hK => ?_ | refine bk ?_
  refine wc (fun c30 => ?_) fun c30 => ?_
  have cb : (p.k == 13) = true := c30
  refine WC.skip (meetI [(30, .bool ((p.k == 13)))] (h'' := .pt b3 (.cells (prE p).toArray 56 (0, 0)) :: h) ?_ (by (repeat (first | exact Sub.nil | refine Sub.cons rfl ?_ | refine Sub.consE rfl (by simp; done) ?_))) Sb ⟨(p.k == 13), ⟨fun _ => .inr (.inl (by simpa using cb)), fun _ => cb⟩, rfl, rfl⟩)
  (repeat (first | exact Sub.nil | refine Sub.cons rfl ?_ | refine Sub.consE rfl (by simp; done) ?_))
  have cb : (p.k == 13) = false := c30
  repeat first | refine sk fun K hK => ?_ | refine bk ?_ | refine rn fun _ => ?_
  refine xG (PO.bin Et Ev.const rfl) ?_
  refine xA ?_
  refine WL.nil (meetI [(30, .bool ((p.k == 14)))] (h'' := .pt b3 (.cells (prE p).toArray 56 (0, 0)) :: h) ?_ (by (repeat (first | exact Sub.nil | refine Sub.cons rfl ?_ | refine Sub.consE rfl (by simp; done) ?_))) Sb ⟨(p.k == 14), ⟨fun hk => .inr (.inr (by simpa using hk)), fun hk => hk.elim (fun h1 => absurd h1 (by simpa using ca)) (fun h1 => h1.elim (fun h2 => absurd h2 (by simpa using cb)) (fun h2 => by simpa using h2))⟩, rfl, rfl⟩)
  (repeat (first | exact Sub.nil | refine Sub.cons rfl ?_ | refine Sub.consE rfl (by simp; done) ?_))
  rintro _ _ ⟨bb, hbb, rfl, rfl⟩
  refine WC.frm rfl ?_
  repeat first | refine sk fun K hK => ?_ | refine bk ?_
  refine wc (fun c30 => ?_) fun c30 => ?_
  have hk := hbb.1 c30
  rw [if_pos hk] at hC
  have hlh : 1 ≤ (fieldsP p.k).1.lo ∧ (fieldsP p.k).1.hi ≤ 4 := by rcases hk with hk | hk | hk <;> (rw [hk]; decide)
  repeat first | refine sk fun K hK => ?_ | refine bk ?_ | refine rn fun _ => ?_
  refine xM ?_
  refine xG (PO.makeFunc (Evs.cons Et Evs.nil) Evs.nil) ?_
  refine xA ?_
  refine wn [3, 5] ?_
  repeat first | refine sk fun K hK => ?_ | refine bk ?_ | refine rn fun _ => ?_
  refine xM ?_
  refine xG (pA Tryz.underlying56) ?_
  refine WL.callP (Ev.tmp rfl) (Evs.cons (Ev.tmp rfl) Evs.nil) (choice_ct hg (hs.mono Sb) p (hP.mono Sb) hV hlh hn ih) (leB rfl) ?_
  refine xA ?_
  refine wn [4] ?_
  refine WC.ret (wR (h) ?_)
  exact ⟨by rw [hC], rfl⟩
  rw [if_neg (fun q => by rw [hbb.2 q] at c30; cases c30)] at hC
  repeat first | refine sk fun K hK => ?_ | refine bk ?_ | refine rn fun _ => ?_
  refine xG (PO.bin Et Ev.const rfl) ?_
  refine xA ?_
  refine wn [0, 3, 5, 9, 36] ?_
  repeat first | refine sk fun K hK => ?_ | refine bk ?_
  refine wc (fun c36 => ?_) fun c36 => ?_
  replace c36 := t_eq c36
  rw [if_pos c36] at hC
  rw [c36] at hen
  have he0 : (1 : Int) ≤ p.ex.l.length := hen.1
  repeat first | refine sk fun K hK => ?_ | refine bk ?_ | refine rn fun _ => ?_
  refine xM ?_
  refine xG (PO.makeFunc (Evs.cons Et Evs.nil) Evs.nil) ?_
  refine xA ?_
  refine wn [3, 5] ?_
  repeat first | refine sk fun K hK => ?_ | refine bk ?_ | refine rn fun _ => ?_
  refine xM ?_
  refine xG (pA Tryz.underlying56) ?_
  refine WL.callP (Ev.tmp rfl) (Evs.cons (Ev.tmp rfl) Evs.nil) (selection_ct (hs.mono Sb) p (hP.mono Sb) hV (by omega) hn ih) (leB rfl) ?_
  refine xA ?_
  refine wn [4] ?_
  refine WC.ret (wR (h) ?_)
  exact ⟨by rw [hC]; rfl, rfl⟩
  replace c36 := f_eq c36
  rw [if_neg c36] at hC
  repeat first | refine sk fun K hK => ?_ | refine bk ?_ | refine rn fun _ => ?_
  refine xG (PO.bin Et Ev.const rfl) ?_
  refine xA ?_
  refine wn [0, 3, 5, 9, 40] ?_
  repeat first | refine sk fun K hK => ?_ | refine bk ?_
  refine wc (fun c40 => ?_) fun c40 => ?_
  replace c40 := t_eq c40
  rw [if_pos c40] at hC
  have hpn := hV.pn (norep hV (by rw [c40]; rfl))
  rw [c40] at hen hpn
  have he0 : (1 : Int) ≤ p.ex.l.length := hen.1
  have hp0 : (1 : Int) ≤ p.ll.length := hpn.1
  repeat first | refine sk fun K hK => ?_ | refine bk ?_ | refine rn fun _ => ?_
  refine xM ?_
  refine xG (PO.makeFunc (Evs.cons Et Evs.nil) Evs.nil) ?_
  refine xA ?_
  refine wn [3, 5] ?_
  repeat first | refine sk fun K hK => ?_ | refine bk ?_ | refine rn fun _ => ?_
  refine xM ?_
  refine xG (pA Tryz.underlying56) ?_
  refine WL.callP (Ev.tmp rfl) (Evs.cons (Ev.tmp rfl) Evs.nil) (loop_ct (hs.mono Sb) p (hP.mono Sb) hV (by omega) (by omega) hn ih) (leB rfl) ?_
  refine xA ?_
  refine wn [4] ?_
  refine WC.ret (wR (h) ?_)
  exact ⟨by rw [hC], rfl⟩
  replace c40 := f_eq c40
  rw [if_neg c40] at hC
  repeat first | refine sk fun K hK => ?_ | refine bk ?_ | refine rn fun _ => ?_
  refine xG (PO.bin Et Ev.const rfl) ?_
  refine xA ?_
  refine wn [0, 3, 5, 9, 44] ?_
  repeat first | refine sk fun K hK => ?_ | refine bk ?_
  refine wc (fun c44 => ?_) fun c44 => ?_
  replace c44 := t_eq c44
  rw [if_pos c44] at hC
  repeat first | refine sk fun K hK => ?_ | refine bk ?_ | refine rn fun _ => ?_
  refine xM ?_
  refine xG (PO.makeFunc (Evs.cons Et Evs.nil) Evs.nil) ?_
  refine xA ?_
  refine wn [3, 5] ?_
  repeat first | refine sk fun K hK => ?_ | refine bk ?_ | refine rn fun _ => ?_
  refine xM ?_
  refine xG (pA Tryz.underlying56) ?_
  refine WL.callP (Ev.tmp rfl) (Evs.cons (Ev.tmp rfl) Evs.nil) (call_ct (hs.mono Sb) p (hex.mono Sb)) (leB rfl) ?_
  refine xA ?_
  refine wn [4] ?_
  refine WC.ret (wR (h) ?_)
  exact ⟨by rw [hC], rfl⟩
  replace c44 := f_eq c44
  rw [if_neg c44] at hC
  repeat first | refine sk fun K hK => ?_ | refine bk ?_ | refine rn fun _ => ?_
  refine xG (PO.bin Et Ev.const rfl) ?_
  refine xA ?_
  refine wn [0, 3, 5, 48] ?_
  repeat first | refine sk fun K hK => ?_ | refine bk ?_
  refine wc (fun c48 => ?_) fun c48 => ?_
  replace c48 := t_eq c48
  rw [if_pos c48] at hC
  have hpn := hV.pn (norep hV (by rw [c48]; rfl))
  rw [c48] at hpn
  have hp0 : (1 : Int) ≤ p.ll.length := hpn.1
  have hsp := sp_spec (hV.sp (by rw [c48]; rfl))
  repeat first | refine sk fun K hK => ?_ | refine bk ?_ | refine rn fun _ => ?_
  refine xM ?_
  refine xG (PO.makeFunc (Evs.cons Et Evs.nil) Evs.nil) ?_
  refine xA ?_
  refine wn [3, 5] ?_
  repeat first | refine sk fun K hK => ?_ | refine bk ?_ | refine rn fun _ => ?_
  refine xM ?_
  refine xG (pA Tryz.underlying56) ?_
  refine WL.callP (Ev.tmp rfl) (Evs.cons (Ev.tmp rfl) Evs.nil) (specified_ct hg (hs.mono Sb) p (hP.mono Sb) hsp (by omega) hn ih) (leB rfl) ?_
  refine xA ?_
  refine wn [4] ?_
  refine WC.ret (wR (h) ?_)
  exact ⟨by rw [hC], rfl⟩
  replace c48 := f_eq c48
  rw [if_neg c48] at hC
  refine WC.skip (kp [3, 5] ?_)
  repeat first | refine sk fun K hK => ?_ | refine bk ?_ | refine rn fun _ => ?_
  refine xM ?_
  refine xG (pA Tryz.underlying56) ?_
  refine WL.callP (Ev.tmp rfl) (Evs.cons (Ev.tmp rfl) Evs.nil) (block_ct (hs.mono Sb) p (hP.mono Sb) hV hn ih) (leB rfl) ?_
  refine xA ?_
  refine wn [4] ?_
  refine WC.ret (wR (h) ?_)
  exact ⟨by rw [hC], rfl⟩
/-- An environment that lies in memory. -/
structure VOkE (m : View) (h : List Res) (l : List Sp) : Prop where
  nm : ∀ x ∈ l, Rd m h x.names.a x.names.l.length x.names.c 1 (fl encB x.names.l)
  fr : ∀ x ∈ l, Rd m h x.fs.a x.fs.l.length x.fs.c 6 (fl foE x.fs.l)
  pr : ∀ x ∈ l, PrOk m h x.vs.a x.vs.l.length x.vs.c x.vs.l
theorem VOkE.mono {m : View} {h h' : List Res} {l : List Sp} (q : VOkE m h l) (r : h.Sublist h') : VOkE m h' l :=
  ⟨fun x hx => (q.nm x hx).mono (View.le.refl m) r, fun x hx => (q.fr x hx).mono (View.le.refl m) r, fun x hx => (q.pr x hx).mono (View.le.refl m) r⟩
theorem envS_get : ∀ (l : List Sp) (i q : Nat) (x : En), (envS l i)[q]? = some x → x.ar = ((i + q : Nat) : Int) ∧ x.sp ∈ l
  | y :: r, i, 0, x, h => by cases h; exact ⟨rfl, List.Mem.head _⟩
  | y :: r, i, q + 1, x, h => by
    have h' : (envS r (i + 1))[q]? = some x := h
    have := envS_get r (i + 1) q x h'
    exact ⟨by rw [this.1]; omega, List.Mem.tail _ this.2⟩
theorem envS_mem {l : List Sp} {i : Nat} {x : En} (h : x ∈ envS l i) : x.sp ∈ l := by
  obtain ⟨q, hq⟩ := List.getElem?_of_mem h
  exact (envS_get l i q x hq).2
theorem ScR.env {m : View} {h : List Res} {l : List Sp} {a : Option Addr} {k c : Nat} (q : VOkE m h l) (hr : Rd m h a k c 17 (fl enE (envS l 0))) : ScR m h a k c (envS l 0) :=
  ⟨hr, fun x hx => q.nm _ (envS_mem hx), fun x hx => q.fr _ (envS_mem hx), fun x hx => q.pr _ (envS_mem hx), fun i x hx => by
    have := (envS_get l 0 i x hx).1
    omega⟩
/-- The shapes of an environment. -/
def envX (l : List Sp) : List Ent := shL (envS l 0)
theorem typeOfV_ct {m : View} {h : List Res} {s : List En} {a : Option Addr} {k c : Nat} (hs : ScR m h a k c s) (e : Ex) (hx : XOk m h e) : CT Tryz.prog 26 [.slice a k c, exV e] h m (fun v _ h' => (∃ hd, v = heldV hd (errT (typX (shL s) e)) ∧ ∀ x, typX (shL s) e = .ok x → hd = x) ∧ h' = h) :=
  (typeOfR_ct hs e hx).mono (by rintro v _ _ _ ⟨hd, h1, h2, h3⟩; exact ⟨⟨hd, h1, h2⟩, h3⟩)
theorem of_ct {m : View} {h : List Res} (hg : Glob m) (e : Ex) (hT : TOk m h e) (hW : Wf e) (l : List Sp) (a : Option Addr) (k c : Nat) (hr : Rd m h a k c 16 (fl spE l)) (hv : VOkE m h l) (hn : l.length ≤ 900000) :
    CT Tryz.prog 8 [exV e, .slice a k c] h m (Pure1 h (.tuple #[tyV (ofX (envX l) e).1, .int .i64 (ofX (envX l) e).2])) := by
  refine CT.body Tryz.call8 Tryz.func8 rfl Tryz.ntmps8 (leB rfl) rfl ?_
  repeat first | refine sk fun K hK => ?_ | refine bk ?_ | refine rn fun _ => ?_
  refine xX fun b2 => ?_
  refine xW fun b4 => ?_
  refine xC ?_
  refine wn [1, 2, 4] ?_
  repeat first | refine sk fun K hK => ?_ | refine bk ?_ | refine rn fun _ => ?_
  refine xG (pA Tryz.underlying27) ?_
  refine xf (E1 Et) (may_ct hg e _ (hT.mono Sb) hW) ?_
  refine xG (PO.not Et) ?_
  refine wn [1, 2, 4, 10] ?_
  repeat first | refine sk fun K hK => ?_ | refine bk ?_
  refine wc (fun c10 => ?_) fun c10 => ?_
  have hm : mayE e = false := by simpa using c10
  have ho : ofX (envX l) e = (Go.Ty.zeroT, 2) := by unfold ofX; rw [hm]; rfl
  repeat first | refine sk fun K hK => ?_ | refine bk ?_ | refine rn fun _ => ?_
  refine xG (PO.build Tryz.underlying30 rfl rfl rfl EvP.nil rfl) ?_
  refine xS ?_
  refine xC ?_
  refine wn [4, 5] ?_
  refine WC.ret (end2 (h' := h) (.inl rfl) rfl (RV.cellA Tryz.underlying30 rfl rfl rfl Me rfl) (RV.tmp rfl) (View.le.refl m) Sb ?_)
  exact ⟨by rw [ho]; rfl, rfl⟩
  have hm : mayE e = true := by simpa using c10
  have hx : XOk m h e := ⟨hT, hW, (may_good hm).1⟩
  have ho : ofX (envX l) e = match typX (envX l) e with | .error w => (Go.Ty.zeroT, w) | .ok h => (h.t, 0) := by unfold ofX; rw [hm]; rfl
  refine WC.skip (kp [1, 2, 4] ?_)
  repeat first | refine sk fun K hK => ?_ | refine bk ?_
  refine WC.drawL [1, 3] (.op 0 (.op 2 (.op 1 (.op 3 (.op 4 (.op 5 (.op 6 .nil))))))) [8, 9] [(7, 6)] _ [] mixed (fun _ _ _ _ _ h => h) [6] (by kernel_rfl) (Fls.cons rfl rfl rfl (leB rfl) rfl Fls.nil) rfl ?_
  refine yG rfl (PO.move Et) ?_
  refine yG rfl (pA Tryz.underlying27) ?_
  refine SR.callF rfl rfl Ev.func (Evs.cons Et Evs.nil) (fun fr => environment_ct l a k c (hr.mono (View.le.refl _) Sb) (by omega)) (leB rfl) fun a14 c14 => ?_
  refine SR.callV rfl rfl Ev.func (Evs.cons Et (Evs.cons Et Evs.nil)) (fun fr => CT.knowRow Tryz.call26 (a := a14) (List.mem_append_right _ Me) (fun q1 q2 q3 => typeOfV_ct (ScR.env (hv.mono Sb) (Rd.ofRow q3 q1 q2 (List.mem_append_right _ Me))) e (hx.mono Sb))) (leB rfl) ?_
  rintro _ ⟨hd, rfl, hhd⟩
  refine yG rfl (PO.move Et) ?_
  refine yG rfl (PO.extract Et rfl) ?_
  refine yG rfl (PO.extract Et rfl) ?_
  refine SR.nilF rfl rfl fun b6 => ?_
  refine xS ?_
  refine xA ?_
  refine wn [4, 6, 7] ?_
  repeat first | refine sk fun K hK => ?_ | refine bk ?_ | refine rn fun _ => ?_
  refine xM ?_
  refine xG (PO.bin Et Ev.const rfl) ?_
  refine wn [4, 6, 7, 20] ?_
  repeat first | refine sk fun K hK => ?_ | refine bk ?_
  refine wc (fun c20 => ?_) fun c20 => ?_
  replace c20 := t_ne c20
  obtain ⟨w, hw⟩ := err_of c20
  have hw2 : typX (envX l) e = .error w := hw
  rw [hw2] at ho
  repeat first | refine sk fun K hK => ?_ | refine bk ?_ | refine rn fun _ => ?_
  refine xG (PO.build Tryz.underlying30 rfl rfl rfl EvP.nil rfl) ?_
  refine xM ?_
  refine xS ?_
  refine xA ?_
  refine wn [4, 5] ?_
  refine WC.ret (end2 (h' := h) (.inl rfl) rfl (RV.cellA Tryz.underlying30 rfl rfl rfl Me rfl) (RV.tmp rfl) (View.le.refl m) Sb ?_)
  exact ⟨by rw [ho, hw]; rfl, rfl⟩
  replace c20 := f_ne c20
  have hE : typX (envX l) e = .ok hd := okE (typX_err _ e) c20 hhd
  rw [hE] at ho
  refine WC.skip (kp [4, 6] ?_)
  repeat first | refine sk fun K hK => ?_ | refine bk ?_ | refine rn fun _ => ?_
  refine xF Tryz.underlying76 ?_
  refine xG (pA Tryz.underlying30) ?_
  refine xS ?_
  refine xC ?_
  refine wn [4, 5] ?_
  refine WC.ret (end2 (h' := h) (.inl rfl) rfl (RV.cellA Tryz.underlying30 rfl rfl rfl Me rfl) (RV.tmp rfl) (View.le.refl m) Sb ?_)
  exact ⟨by rw [ho]; rfl, rfl⟩
end Go.Proofs.YtdhmplmpbcnojaaGreatDoor
end
/- ExpC -/
section
namespace Go.Proofs.YtdhmplmpbcnojaaGreatDoor
open Go.Eng Go.Xp Go
open Go.Lx (encB encB_len)
set_option maxRecDepth 100000
theorem same_ct (x : Ex) : ∀ (y : Ex) (h : List Res) (m : View), TOk m h x → TOk m h y → CT Tryz.prog 165 [exV x, exV y] h m (Pure1 h (.bool (sameE x y))) := by
  refine Ex.ind (p := fun x => ∀ (y : Ex) (h : List Res) (m : View), TOk m h x → TOk m h y → CT Tryz.prog 165 [exV x, exV y] h m (Pure1 h (.bool (sameE x y)))) (fun x ih y h m hx hy => ?_) x
  have r1 := hx.rd
  have r2 := hy.rd
  have mx := r1.mx
  have kx := r1.le
  have he := sameE_eq x y
  refine CT.body Tryz.call165 Tryz.func165 rfl Tryz.ntmps165 (leB rfl) rfl ?_
  repeat first | refine sk fun K hK => ?_ | refine bk ?_ | refine rn fun _ => ?_
  refine xX fun b2 => ?_
  refine xX fun b3 => ?_
  refine xC ?_
  refine wn [2, 3] ?_
  repeat first | refine sk fun K hK => ?_ | refine bk ?_ | refine rg fun ops hG => ?_
  refine xF Tryz.underlying27 ?_
  refine xG (pL Tryz.underlying22) ?_
  refine xF Tryz.underlying27 ?_
  refine xG (pL Tryz.underlying22) ?_
  refine xG (PO.bin Et Et rfl) ?_
  refine xM ?_
  refine zG (fun _ => pF Tryz.underlying27) ?_
  refine zG (fun hc => PO.load1 Tryz.underlying23 rfl (Eg hc) Me rfl) ?_
  refine zG (fun _ => pF Tryz.underlying27) ?_
  refine zG (fun hc => PO.load1 Tryz.underlying23 rfl (Eg hc) Me rfl) ?_
  refine zG (fun hc => PO.bin (Eg hc) (Eg hc) rfl) ?_
  refine xQ ?_
  refine xM ?_
  refine zG (fun _ => pF Tryz.underlying27) ?_
  refine zG (fun hc => PO.load1 Tryz.underlying24 rfl (Eg hc) Me rfl) ?_
  refine zG (fun _ => pF Tryz.underlying27) ?_
  refine zG (fun hc => PO.load1 Tryz.underlying24 rfl (Eg hc) Me rfl) ?_
  refine zG (fun hc => PO.bin (Eg hc) (Eg hc) rfl) ?_
  refine xQ ?_
  refine xM ?_
  refine zG (fun _ => pF Tryz.underlying27) ?_
  refine zG (fun hc => PO.load1 Tryz.underlying21 rfl (Eg hc) Me rfl) ?_
  refine zG (fun _ => pF Tryz.underlying27) ?_
  refine zG (fun hc => PO.load1 Tryz.underlying21 rfl (Eg hc) Me rfl) ?_
  refine zG (fun hc => PO.bin (Eg hc) (Eg hc) rfl) ?_
  refine xQ ?_
  refine xM ?_
  refine zG (fun _ => pF Tryz.underlying27) ?_
  refine zG (fun hc => PO.load1 Tryz.underlying9 rfl (Eg hc) Me rfl) ?_
  refine zG (fun _ => pF Tryz.underlying27) ?_
  refine zG (fun hc => PO.load1 Tryz.underlying9 rfl (Eg hc) Me rfl) ?_
  refine zG (fun hc => PO.neqS (Eg hc) (Eg hc)) ?_
  refine xQ ?_
  refine xM ?_
  refine zG (fun _ => pF Tryz.underlying27) ?_
  refine zG (fun hc => PO.load1 Tryz.underlying25 rfl (Eg hc) Me rfl) ?_
  refine zG (fun hc => PO.lenSl Tryz.underlying25 (Eg hc)) ?_
  refine zG (fun _ => pF Tryz.underlying27) ?_
  refine zG (fun hc => PO.load1 Tryz.underlying25 rfl (Eg hc) Me rfl) ?_
  refine zG (fun hc => PO.lenSl Tryz.underlying25 (Eg hc)) ?_
  refine zG (fun hc => PO.bin (Eg hc) (Eg hc) rfl) ?_
  refine xQ ?_
  refine wn [2, 3, 47] ?_
  try clear hG ops
  repeat first | refine sk fun K hK => ?_ | refine bk ?_
  refine wc (fun c47 => ?_) fun c47 => ?_
  replace c47 : badE x y = true := c47
  rw [c47] at he
  repeat first | refine sk fun K hK => ?_ | refine bk ?_ | refine rn fun _ => ?_
  refine xC ?_
  refine wn [4] ?_
  refine WC.ret (wR (h) ?_)
  exact ⟨by rw [he]; rfl, rfl⟩
  replace c47 : badE x y = false := c47
  rw [c47] at he
  have hl : x.l.length = y.l.length := by
    unfold badE at c47
    simp only [Bool.or_eq_false_iff, bne_eq_false_iff_eq] at c47
    omega
  refine WC.skip (kp [2, 3] ?_)
  repeat first | refine sk fun K hK => ?_ | refine bk ?_ | refine rn fun _ => ?_
  refine xF Tryz.underlying27 ?_
  refine xG (pL Tryz.underlying25) ?_
  refine xG (PO.lenSl Tryz.underlying25 Et) ?_
  refine xK ?_
  refine wn [2, 3, 50, 51] ?_
  repeat first | refine sk fun K hK => ?_ | refine bk ?_
  refine WC.loopI [2, 3, 50] rfl (fun μ F' h' => ∃ k : Nat, (k ≤ x.l.length ∧ sameE x y = sameL (x.l.drop k) (y.l.drop k)) ∧ x.l.length - k = μ ∧ F' = [(51, .int .i64 k)] ∧ .pt b3 (.cells (exE y).toArray 27 (0, 0)) :: .pt b2 (.cells (exE x).toArray 27 (0, 0)) :: h = h') (x.l.length - 0) [(51, .int .i64 0)] (h0 := .pt b3 (.cells (exE y).toArray 27 (0, 0)) :: .pt b2 (.cells (exE x).toArray 27 (0, 0)) :: h) ?_ Sb ⟨0, ⟨by omega, by rw [he]; rfl⟩, rfl, rfl, rfl⟩ ?_
  (repeat (first | exact Sub.nil | refine Sub.cons rfl ?_ | refine Sub.consE rfl (by simp; done) ?_))
  rintro _ _ _ ⟨k, ⟨hk, hJ⟩, rfl, rfl, rfl⟩
  refine WC.frm rfl ?_
  have q1 : Rd m (.pt b3 (.cells (exE y).toArray 27 (0, 0)) :: .pt b2 (.cells (exE x).toArray 27 (0, 0)) :: h) x.a x.l.length x.c 6 (fl exE x.l) := r1.mono (View.le.refl m) Sb
  have q2 : Rd m (.pt b3 (.cells (exE y).toArray 27 (0, 0)) :: .pt b2 (.cells (exE x).toArray 27 (0, 0)) :: h) y.a y.l.length y.c 6 (fl exE y.l) := r2.mono (View.le.refl m) Sb
  repeat first | refine sk fun K hK => ?_ | refine bk ?_ | refine rn fun _ => ?_
  refine xG (PO.bin Et Et rfl) ?_
  refine wn [2, 3, 50, 51, 52] ?_
  repeat first | refine sk fun K hK => ?_ | refine bk ?_
  refine wc (fun c52 => ?_) fun c52 => ?_
  replace c52 := of_decide_eq_true c52
  obtain ⟨u, hu⟩ := get_some (l := x.l) (k := k) (by omega)
  obtain ⟨v, hv⟩ := get_some (l := y.l) (k := k) (by omega)
  rw [sameL_at hu hv] at hJ
  have mu := List.mem_of_getElem? hu
  have mv := List.mem_of_getElem? hv
  refine WC.skip (kp [2, 3, 50, 51] ?_)
  repeat first | refine sk fun K hK => ?_ | refine bk ?_ | refine rn fun _ => ?_
  refine xM ?_
  refine xA ?_
  refine wn [2, 3, 5, 50, 51] ?_
  repeat first | refine sk fun K hK => ?_ | refine bk ?_
  refine WC.drawS [] (.op 0 (.op 1 (.op 2 (.op 3 (.op 4 (.op 5 (.op 6 (.op 7 (.op 8 (.op 9 .nil)))))))))) [10, 11] _ [] mixed (fun _ _ _ _ _ h => h) [] (by kernel_rfl) ?_
  refine yG rfl (pF Tryz.underlying27) ?_
  refine yG rfl (pL Tryz.underlying25) ?_
  refine yG rfl (PO.move Et) ?_
  refine yG rfl (PO.idx EL25.und EL25.size EL25.posz (Ev.tmp rfl) (Ev.tmp rfl) Rr rfl (by omega)) ?_
  refine yG rfl (PO.loadFA Tryz.underlying27 rfl rfl exE_len Rr (Ev.tmp rfl) (by assumption) rfl rfl (Nat.succ_pos _)) ?_
  refine yG rfl (pF Tryz.underlying27) ?_
  refine yG rfl (pL Tryz.underlying25) ?_
  refine yG rfl (PO.move Et) ?_
  refine yG rfl (PO.idx EL25.und EL25.size EL25.posz (Ev.tmp rfl) (Ev.tmp rfl) Rr rfl (by omega)) ?_
  refine yG rfl (PO.loadFA Tryz.underlying27 rfl rfl exE_len Rr (Ev.tmp rfl) (by assumption) rfl rfl (Nat.succ_pos _)) ?_
  refine SR.nil rfl rfl ?_
  refine xf (E2 Et Et) (ih u mu v _ _ ((hx.part mu).mono Sb) ((hy.part mv).mono Sb)) ?_
  refine xG (PO.not Et) ?_
  refine wn [2, 3, 50, 51, 65] ?_
  repeat first | refine sk fun K hK => ?_ | refine bk ?_
  refine wc (fun c65 => ?_) fun c65 => ?_
  have d65 : sameE u v = false := by simpa using c65
  rw [d65] at hJ
  repeat first | refine sk fun K hK => ?_ | refine bk ?_ | refine rn fun _ => ?_
  refine xC ?_
  refine wn [4] ?_
  refine WC.ret (wR (h) ?_)
  exact ⟨by rw [hJ]; rfl, rfl⟩
  have d65 : sameE u v = true := by simpa using c65
  rw [d65] at hJ
  refine WC.skip (kp [2, 3, 50, 51] ?_)
  repeat first | refine sk fun K hK => ?_ | refine bk ?_ | refine rn fun _ => ?_
  refine xG (PO.addI Et Ev.const (by omega)) ?_
  refine xM ?_
  refine WL.nil (loopBackI (x.l.length - (k + 1)) [(51, .int .i64 (k + 1))] (h'' := .pt b3 (.cells (exE y).toArray 27 (0, 0)) :: .pt b2 (.cells (exE x).toArray 27 (0, 0)) :: h) (by omega) ?_ (by (repeat (first | exact Sub.nil | refine Sub.cons rfl ?_ | refine Sub.consE rfl (by simp; done) ?_))) Sb ⟨k + 1, ⟨by omega, by rw [hJ]; rfl⟩, rfl, rfl, rfl⟩)
  (repeat (first | exact Sub.nil | refine Sub.cons rfl ?_ | refine Sub.consE rfl (by simp; done) ?_))
  replace c52 := of_decide_eq_false c52
  rw [List.drop_eq_nil_of_le (by omega)] at hJ
  refine WC.exit (kp [] ?_)
  repeat first | refine sk fun K hK => ?_ | refine bk ?_ | refine rn fun _ => ?_
  refine xC ?_
  refine wn [4] ?_
  refine WC.ret (wR (h) ?_)
  exact ⟨by rw [hJ]; rfl, rfl⟩
end Go.Proofs.YtdhmplmpbcnojaaGreatDoor
end
/- SyA -/
section
namespace Go.Proofs.YtdhmplmpbcnojaaGreatDoor
open Go.Eng Go.Pc Go
open Go.Xp hiding B nameT
open Go.Ty (Ty Vr eqT tyV cellT PrOk VOk prL encV encV_len encI encI_len)
open Go.Lx (encB encB_len)
set_option maxRecDepth 100000
theorem has_ct (lo hi n : Int) (h : List Res) (m : View) : CT Tryz.prog 125 [.agg #[.int .i64 lo, .int .i64 hi], .int .i64 n] h m (Pure1 h (.bool (span lo hi n))) := by
  refine CT.body Tryz.call125 Tryz.func125 rfl Tryz.ntmps125 (leB rfl) rfl ?_
  repeat first | refine sk fun K hK => ?_ | refine bk ?_ | refine rn fun _ => ?_
  refine xX fun b2 => ?_
  refine xC ?_
  refine wn [1, 2] ?_
  repeat first | refine sk fun K hK => ?_ | refine bk ?_ | refine rg fun ops hG => ?_
  refine xM ?_
  refine xF Tryz.underlying176 ?_
  refine xG (pL Tryz.underlying3) ?_
  refine xG (PO.bin Et Et rfl) ?_
  refine xM ?_
  refine zM ?_
  refine zG (fun _ => pF Tryz.underlying176) ?_
  refine zG (fun hc => PO.load1 Tryz.underlying3 rfl (Eg hc) Me rfl) ?_
  refine zG (fun hc => PO.bin (Eg hc) (Eg hc) rfl) ?_
  refine xP ?_
  refine xA ?_
  refine wn [4] ?_
  try clear hG ops
  refine WC.ret (wR (h) ?_)
  exact ⟨rfl, rfl⟩
theorem idxEx_ct (q : FuncId) (cap : List Value) (pr : Ex → Bool) (a : Option Addr) (k c : Nat) (l : List Ex) (h : List Res) (m : View) (hq : ∀ x ∈ l, CT Tryz.prog q ([exV x] ++ cap) h m (Pure1 h (.bool (pr x)))) (hs : Rd m h a k c 6 (fl exE l)) :
    CT Tryz.prog 187 [.slice a k c, .func (.func q) #[] cap.toArray] h m (Pure1 h (.int .i64 (Go.Ty.idxF pr l 0))) := by
  have hl := hs.lenF exE_len (by decide)
  have hmx := hs.mx
  have hle := hs.le
  refine CT.body Tryz.call187 Tryz.func187 rfl Tryz.ntmps187 (leB rfl) rfl ?_
  repeat first | refine sk fun K hK => ?_ | refine bk ?_ | refine rn fun _ => ?_
  refine xC ?_
  refine wn [0, 1] ?_
  repeat first | refine sk fun K hK => ?_ | refine bk ?_ | refine rn fun _ => ?_
  refine xM ?_
  refine xG (PO.lenSl Tryz.underlying25 Et) ?_
  refine xK ?_
  refine wn [0, 1, 7, 8] ?_
  repeat first | refine sk fun K hK => ?_ | refine bk ?_
  refine WC.loopI [0, 1, 7] rfl (fun μ F' h' => ∃ j : Nat, (j ≤ k ∧ Go.Ty.idxF pr l 0 = Go.Ty.idxF pr (l.drop j) j) ∧ k - j = μ ∧ F' = [(8, .int .i64 j)] ∧ h = h') (k - 0) [(8, .int .i64 0)] (h0 := h) ?_ Sb ⟨0, ⟨by omega, rfl⟩, rfl, rfl, rfl⟩ ?_
  (repeat (first | exact Sub.nil | refine Sub.cons rfl ?_ | refine Sub.consE rfl (by simp; done) ?_))
  rintro _ _ _ ⟨j, ⟨hk, hJ⟩, rfl, rfl, rfl⟩
  refine WC.frm rfl ?_
  repeat first | refine sk fun K hK => ?_ | refine bk ?_ | refine rn fun _ => ?_
  refine xG (PO.bin Et Et rfl) ?_
  refine wn [0, 1, 7, 8, 9] ?_
  repeat first | refine sk fun K hK => ?_ | refine bk ?_
  refine wc (fun c9 => ?_) fun c9 => ?_
  replace c9 := of_decide_eq_true c9
  obtain ⟨x, hx⟩ := get_some (l := l) (k := j) (by omega)
  rw [Go.Ty.idxF_drop pr hx] at hJ
  refine WC.skip (kp [0, 1, 7, 8] ?_)
  repeat first | refine sk fun K hK => ?_ | refine bk ?_ | refine rn fun _ => ?_
  refine xM ?_
  refine xA ?_
  refine wn [0, 1, 5, 7, 8] ?_
  repeat first | refine sk fun K hK => ?_ | refine bk ?_ | refine rn fun _ => ?_
  refine xM ?_
  refine xM ?_
  refine xM ?_
  refine xG (PO.idx EL25.und EL25.size EL25.posz (Ev.tmp rfl) (Ev.tmp rfl) Rr rfl (by omega)) ?_
  refine xG (PO.loadFA Tryz.underlying27 rfl rfl exE_len Rr (Ev.tmp rfl) (by assumption) rfl rfl (Nat.succ_pos _)) ?_
  refine WL.callP (Ev.tmp rfl) (Evs.cons (Ev.tmp rfl) Evs.nil) (hq x (List.mem_of_getElem? hx)) (leB rfl) ?_
  refine wn [0, 1, 5, 7, 8, 16] ?_
  repeat first | refine sk fun K hK => ?_ | refine bk ?_
  refine wc (fun c16 => ?_) fun c16 => ?_
  rw [c16] at hJ
  repeat first | refine sk fun K hK => ?_ | refine bk ?_ | refine rn fun _ => ?_
  refine xM ?_
  refine xA ?_
  refine wn [4] ?_
  refine WC.ret (wR (h) ?_)
  exact ⟨by rw [hJ]; rfl, rfl⟩
  rw [c16] at hJ
  refine WC.skip (kp [0, 1, 7, 8] ?_)
  repeat first | refine sk fun K hK => ?_ | refine bk ?_ | refine rn fun _ => ?_
  refine xG (PO.addI Et Ev.const (by omega)) ?_
  refine xM ?_
  refine WL.nil (loopBackI (k - (j + 1)) [(8, .int .i64 (j + 1))] (h'' := h) (by omega) ?_ (by (repeat (first | exact Sub.nil | refine Sub.cons rfl ?_ | refine Sub.consE rfl (by simp; done) ?_))) Sb ⟨j + 1, ⟨by omega, by simpa using hJ⟩, rfl, rfl, rfl⟩)
  (repeat (first | exact Sub.nil | refine Sub.cons rfl ?_ | refine Sub.consE rfl (by simp; done) ?_))
  replace c9 := of_decide_eq_false c9
  rw [List.drop_eq_nil_of_le (by omega)] at hJ
  refine WC.exit (kp [] ?_)
  repeat first | refine sk fun K hK => ?_ | refine bk ?_ | refine rn fun _ => ?_
  refine xC ?_
  refine wn [4] ?_
  refine WC.ret (wR (h) ?_)
  exact ⟨by rw [hJ]; rfl, rfl⟩
theorem anyEx_ct (q : FuncId) (cap : List Value) (pr : Ex → Bool) (a : Option Addr) (k c : Nat) (l : List Ex) (h : List Res) (m : View) (hq : ∀ x ∈ l, CT Tryz.prog q ([exV x] ++ cap) h m (Pure1 h (.bool (pr x)))) (hs : Rd m h a k c 6 (fl exE l)) :
    CT Tryz.prog 166 [.slice a k c, .func (.func q) #[] cap.toArray] h m (Pure1 h (.bool (l.any pr))) := by
  refine CT.body Tryz.call166 Tryz.func166 rfl Tryz.ntmps166 (leB rfl) rfl ?_
  repeat first | refine sk fun K hK => ?_ | refine bk ?_ | refine rn fun _ => ?_
  refine xC ?_
  refine wn [0, 1] ?_
  repeat first | refine sk fun K hK => ?_ | refine bk ?_ | refine rn fun _ => ?_
  refine xM ?_
  refine xM ?_
  refine xf (E2 Et Et) (idxEx_ct q cap pr _ _ _ l _ _ hq hs) ?_
  refine xG (PO.bin Et Ev.const rfl) ?_
  refine xA ?_
  refine wn [4] ?_
  refine WC.ret (wR (h) ?_)
  exact ⟨congrArg Value.bool (Go.Ty.idxF_any pr l 0 (by decide)), rfl⟩
theorem eachcEx_ct (q0 : FuncId) (c0 : List Value) (b : Nat) (x : Ex) (v : Bool) (h : List Res) (m : View) (hb : Res.pt b (.cells [.func (.func q0) #[] c0.toArray].toArray 39 (0, 0)) ∈ h) (hq : ∀ h', h.Sublist h' → CT Tryz.prog q0 ([exV x] ++ c0) h' m (Pure1 h' (.bool v))) :
    CT Tryz.prog 167 [exV x, .pointer (some ⟨b, 0, none⟩)] h m (Pure1 h (.bool (!v))) := by
  refine CT.body Tryz.call167 Tryz.func167 rfl Tryz.ntmps167 (leB rfl) rfl ?_
  repeat first | refine sk fun K hK => ?_ | refine bk ?_ | refine rn fun _ => ?_
  refine xX fun b2 => ?_
  refine xC ?_
  refine wn [1, 2] ?_
  repeat first | refine sk fun K hK => ?_ | refine bk ?_ | refine rn fun _ => ?_
  refine xG (PO.load1 Tryz.underlying39 rfl Et (List.Mem.tail _ hb) rfl) ?_
  refine xG (pA Tryz.underlying27) ?_
  refine WL.callP (Ev.tmp rfl) (Evs.cons (Ev.tmp rfl) Evs.nil) (hq _ Sb) (leB rfl) ?_
  refine xG (PO.not Et) ?_
  refine xA ?_
  refine wn [3] ?_
  refine WC.ret (wR (h) ?_)
  exact ⟨rfl, rfl⟩
theorem eachEx_ct (q0 : FuncId) (c0 : List Value) (pr : Ex → Bool) (lo hi : Int) (a : Option Addr) (k c : Nat) (l : List Ex) (h : List Res) (m : View) (hq : ∀ x ∈ l, ∀ h', h.Sublist h' → CT Tryz.prog q0 ([exV x] ++ c0) h' m (Pure1 h' (.bool (pr x)))) (hs : Rd m h a k c 6 (fl exE l)) :
    CT Tryz.prog 130 [.slice a k c, .agg #[.int .i64 lo, .int .i64 hi], .func (.func q0) #[] c0.toArray] h m (Pure1 h (.bool (each l lo hi pr))) := by
  have hl := hs.lenF exE_len (by decide)
  subst hl
  refine CT.body Tryz.call130 Tryz.func130 rfl Tryz.ntmps130 (leB rfl) rfl ?_
  repeat first | refine sk fun K hK => ?_ | refine bk ?_ | refine rn fun _ => ?_
  refine xX fun b4 => ?_
  refine xX fun b5 => ?_
  refine xC ?_
  refine wn [0, 4, 5] ?_
  repeat first | refine sk fun K hK => ?_ | refine bk ?_ | refine rg fun ops hG => ?_
  refine xG (pA Tryz.underlying176) ?_
  refine xM ?_
  refine xG (PO.lenSl Tryz.underlying25 Et) ?_
  refine xf (E2 Et Et) (has_ct lo hi l.length _ _) ?_
  refine xM ?_
  refine zM ?_
  refine zG (fun _ => PO.makeFunc Evs.nil (Evs.cons Et Evs.nil)) ?_
  refine WL.callG (GU.t (hG _ _ rfl) rfl) (fun hc => ⟨Ev.func, (Evs.cons (Eg hc) (Evs.cons (Eg hc) Evs.nil)), anyEx_ct 167 [.pointer (some ⟨b5, 0, none⟩)] (fun x => !pr x) _ _ _ l _ _ (fun x hx => eachcEx_ct q0 c0 b5 x (pr x) _ _ Me (fun h' hh => hq x hx h' (List.Sublist.trans Sb hh))) (hs.mono (View.le.refl _) Sb)⟩) (leB rfl) ?_
  refine zG (fun hc => PO.not (Eg hc)) ?_
  refine xP ?_
  refine xA ?_
  refine wn [6] ?_
  try clear hG ops
  refine WC.ret (wR (h) ?_)
  exact ⟨rfl, rfl⟩
theorem idxGu_ct (q : FuncId) (cap : List Value) (pr : Gu → Bool) (a : Option Addr) (k c : Nat) (l : List Gu) (h : List Res) (m : View) (hq : ∀ x ∈ l, CT Tryz.prog q ([guV x] ++ cap) h m (Pure1 h (.bool (pr x)))) (hs : Rd m h a k c 23 (fl guE l)) :
    CT Tryz.prog 186 [.slice a k c, .func (.func q) #[] cap.toArray] h m (Pure1 h (.int .i64 (Go.Ty.idxF pr l 0))) := by
  have hl := hs.lenF guE_len (by decide)
  have hmx := hs.mx
  have hle := hs.le
  refine CT.body Tryz.call186 Tryz.func186 rfl Tryz.ntmps186 (leB rfl) rfl ?_
  repeat first | refine sk fun K hK => ?_ | refine bk ?_ | refine rn fun _ => ?_
  refine xC ?_
  refine wn [0, 1] ?_
  repeat first | refine sk fun K hK => ?_ | refine bk ?_ | refine rn fun _ => ?_
  refine xM ?_
  refine xG (PO.lenSl Tryz.underlying44 Et) ?_
  refine xK ?_
  refine wn [0, 1, 7, 8] ?_
  repeat first | refine sk fun K hK => ?_ | refine bk ?_
  refine WC.loopI [0, 1, 7] rfl (fun μ F' h' => ∃ j : Nat, (j ≤ k ∧ Go.Ty.idxF pr l 0 = Go.Ty.idxF pr (l.drop j) j) ∧ k - j = μ ∧ F' = [(8, .int .i64 j)] ∧ h = h') (k - 0) [(8, .int .i64 0)] (h0 := h) ?_ Sb ⟨0, ⟨by omega, rfl⟩, rfl, rfl, rfl⟩ ?_
  (repeat (first | exact Sub.nil | refine Sub.cons rfl ?_ | refine Sub.consE rfl (by simp; done) ?_))
  rintro _ _ _ ⟨j, ⟨hk, hJ⟩, rfl, rfl, rfl⟩
  refine WC.frm rfl ?_
  repeat first | refine sk fun K hK => ?_ | refine bk ?_ | refine rn fun _ => ?_
  refine xG (PO.bin Et Et rfl) ?_
  refine wn [0, 1, 7, 8, 9] ?_
  repeat first | refine sk fun K hK => ?_ | refine bk ?_
  refine wc (fun c9 => ?_) fun c9 => ?_
  replace c9 := of_decide_eq_true c9
  obtain ⟨x, hx⟩ := get_some (l := l) (k := j) (by omega)
  rw [Go.Ty.idxF_drop pr hx] at hJ
  refine WC.skip (kp [0, 1, 7, 8] ?_)
  repeat first | refine sk fun K hK => ?_ | refine bk ?_ | refine rn fun _ => ?_
  refine xM ?_
  refine xA ?_
  refine wn [0, 1, 5, 7, 8] ?_
  repeat first | refine sk fun K hK => ?_ | refine bk ?_ | refine rn fun _ => ?_
  refine xM ?_
  refine xM ?_
  refine xM ?_
  refine xG (PO.idx EL44.und EL44.size EL44.posz (Ev.tmp rfl) (Ev.tmp rfl) Rr rfl (by omega)) ?_
  refine xG (PO.loadFA Tryz.underlying70 rfl rfl guE_len Rr (Ev.tmp rfl) (by assumption) rfl rfl (Nat.succ_pos _)) ?_
  refine WL.callP (Ev.tmp rfl) (Evs.cons (Ev.tmp rfl) Evs.nil) (hq x (List.mem_of_getElem? hx)) (leB rfl) ?_
  refine wn [0, 1, 5, 7, 8, 16] ?_
  repeat first | refine sk fun K hK => ?_ | refine bk ?_
  refine wc (fun c16 => ?_) fun c16 => ?_
  rw [c16] at hJ
  repeat first | refine sk fun K hK => ?_ | refine bk ?_ | refine rn fun _ => ?_
  refine xM ?_
  refine xA ?_
  refine wn [4] ?_
  refine WC.ret (wR (h) ?_)
  exact ⟨by rw [hJ]; rfl, rfl⟩
  rw [c16] at hJ
  refine WC.skip (kp [0, 1, 7, 8] ?_)
  repeat first | refine sk fun K hK => ?_ | refine bk ?_ | refine rn fun _ => ?_
  refine xG (PO.addI Et Ev.const (by omega)) ?_
  refine xM ?_
  refine WL.nil (loopBackI (k - (j + 1)) [(8, .int .i64 (j + 1))] (h'' := h) (by omega) ?_ (by (repeat (first | exact Sub.nil | refine Sub.cons rfl ?_ | refine Sub.consE rfl (by simp; done) ?_))) Sb ⟨j + 1, ⟨by omega, by simpa using hJ⟩, rfl, rfl, rfl⟩)
  (repeat (first | exact Sub.nil | refine Sub.cons rfl ?_ | refine Sub.consE rfl (by simp; done) ?_))
  replace c9 := of_decide_eq_false c9
  rw [List.drop_eq_nil_of_le (by omega)] at hJ
  refine WC.exit (kp [] ?_)
  repeat first | refine sk fun K hK => ?_ | refine bk ?_ | refine rn fun _ => ?_
  refine xC ?_
  refine wn [4] ?_
  refine WC.ret (wR (h) ?_)
  exact ⟨by rw [hJ]; rfl, rfl⟩
theorem anyGu_ct (q : FuncId) (cap : List Value) (pr : Gu → Bool) (a : Option Addr) (k c : Nat) (l : List Gu) (h : List Res) (m : View) (hq : ∀ x ∈ l, CT Tryz.prog q ([guV x] ++ cap) h m (Pure1 h (.bool (pr x)))) (hs : Rd m h a k c 23 (fl guE l)) :
    CT Tryz.prog 163 [.slice a k c, .func (.func q) #[] cap.toArray] h m (Pure1 h (.bool (l.any pr))) := by
  refine CT.body Tryz.call163 Tryz.func163 rfl Tryz.ntmps163 (leB rfl) rfl ?_
  repeat first | refine sk fun K hK => ?_ | refine bk ?_ | refine rn fun _ => ?_
  refine xC ?_
  refine wn [0, 1] ?_
  repeat first | refine sk fun K hK => ?_ | refine bk ?_ | refine rn fun _ => ?_
  refine xM ?_
  refine xM ?_
  refine xf (E2 Et Et) (idxGu_ct q cap pr _ _ _ l _ _ hq hs) ?_
  refine xG (PO.bin Et Ev.const rfl) ?_
  refine xA ?_
  refine wn [4] ?_
  refine WC.ret (wR (h) ?_)
  exact ⟨congrArg Value.bool (Go.Ty.idxF_any pr l 0 (by decide)), rfl⟩
theorem eachcGu_ct (q0 : FuncId) (c0 : List Value) (b : Nat) (x : Gu) (v : Bool) (h : List Res) (m : View) (hb : Res.pt b (.cells [.func (.func q0) #[] c0.toArray].toArray 181 (0, 0)) ∈ h) (hq : ∀ h', h.Sublist h' → CT Tryz.prog q0 ([guV x] ++ c0) h' m (Pure1 h' (.bool v))) :
    CT Tryz.prog 164 [guV x, .pointer (some ⟨b, 0, none⟩)] h m (Pure1 h (.bool (!v))) := by
  refine CT.body Tryz.call164 Tryz.func164 rfl Tryz.ntmps164 (leB rfl) rfl ?_
  repeat first | refine sk fun K hK => ?_ | refine bk ?_ | refine rn fun _ => ?_
  refine xX fun b2 => ?_
  refine xC ?_
  refine wn [1, 2] ?_
  repeat first | refine sk fun K hK => ?_ | refine bk ?_ | refine rn fun _ => ?_
  refine xG (PO.load1 Tryz.underlying181 rfl Et (List.Mem.tail _ hb) rfl) ?_
  refine xG (pA Tryz.underlying70) ?_
  refine WL.callP (Ev.tmp rfl) (Evs.cons (Ev.tmp rfl) Evs.nil) (hq _ Sb) (leB rfl) ?_
  refine xG (PO.not Et) ?_
  refine xA ?_
  refine wn [3] ?_
  refine WC.ret (wR (h) ?_)
  exact ⟨rfl, rfl⟩
theorem eachGu_ct (q0 : FuncId) (c0 : List Value) (pr : Gu → Bool) (lo hi : Int) (a : Option Addr) (k c : Nat) (l : List Gu) (h : List Res) (m : View) (hq : ∀ x ∈ l, ∀ h', h.Sublist h' → CT Tryz.prog q0 ([guV x] ++ c0) h' m (Pure1 h' (.bool (pr x)))) (hs : Rd m h a k c 23 (fl guE l)) :
    CT Tryz.prog 126 [.slice a k c, .agg #[.int .i64 lo, .int .i64 hi], .func (.func q0) #[] c0.toArray] h m (Pure1 h (.bool (each l lo hi pr))) := by
  have hl := hs.lenF guE_len (by decide)
  subst hl
  refine CT.body Tryz.call126 Tryz.func126 rfl Tryz.ntmps126 (leB rfl) rfl ?_
  repeat first | refine sk fun K hK => ?_ | refine bk ?_ | refine rn fun _ => ?_
  refine xX fun b4 => ?_
  refine xX fun b5 => ?_
  refine xC ?_
  refine wn [0, 4, 5] ?_
  repeat first | refine sk fun K hK => ?_ | refine bk ?_ | refine rg fun ops hG => ?_
  refine xG (pA Tryz.underlying176) ?_
  refine xM ?_
  refine xG (PO.lenSl Tryz.underlying44 Et) ?_
  refine xf (E2 Et Et) (has_ct lo hi l.length _ _) ?_
  refine xM ?_
  refine zM ?_
  refine zG (fun _ => PO.makeFunc Evs.nil (Evs.cons Et Evs.nil)) ?_
  refine WL.callG (GU.t (hG _ _ rfl) rfl) (fun hc => ⟨Ev.func, (Evs.cons (Eg hc) (Evs.cons (Eg hc) Evs.nil)), anyGu_ct 164 [.pointer (some ⟨b5, 0, none⟩)] (fun x => !pr x) _ _ _ l _ _ (fun x hx => eachcGu_ct q0 c0 b5 x (pr x) _ _ Me (fun h' hh => hq x hx h' (List.Sublist.trans Sb hh))) (hs.mono (View.le.refl _) Sb)⟩) (leB rfl) ?_
  refine zG (fun hc => PO.not (Eg hc)) ?_
  refine xP ?_
  refine xA ?_
  refine wn [6] ?_
  try clear hG ops
  refine WC.ret (wR (h) ?_)
  exact ⟨rfl, rfl⟩
theorem idxNn_ct (q : FuncId) (cap : List Value) (pr : Int → Bool) (a : Option Addr) (k c : Nat) (l : List Int) (h : List Res) (m : View) (hq : ∀ x ∈ l, CT Tryz.prog q ([.int .i64 x] ++ cap) h m (Pure1 h (.bool (pr x)))) (hs : Rd m h a k c 1 (fl encN l)) :
    CT Tryz.prog 188 [.slice a k c, .func (.func q) #[] cap.toArray] h m (Pure1 h (.int .i64 (Go.Ty.idxF pr l 0))) := by
  have hl := hs.lenF encN_len (by decide)
  have hmx := hs.mx
  have hle := hs.le
  refine CT.body Tryz.call188 Tryz.func188 rfl Tryz.ntmps188 (leB rfl) rfl ?_
  repeat first | refine sk fun K hK => ?_ | refine bk ?_ | refine rn fun _ => ?_
  refine xC ?_
  refine wn [0, 1] ?_
  repeat first | refine sk fun K hK => ?_ | refine bk ?_ | refine rn fun _ => ?_
  refine xM ?_
  refine xG (PO.lenSl Tryz.underlying46 Et) ?_
  refine xK ?_
  refine wn [0, 1, 7, 8] ?_
  repeat first | refine sk fun K hK => ?_ | refine bk ?_
  refine WC.loopI [0, 1, 7] rfl (fun μ F' h' => ∃ j : Nat, (j ≤ k ∧ Go.Ty.idxF pr l 0 = Go.Ty.idxF pr (l.drop j) j) ∧ k - j = μ ∧ F' = [(8, .int .i64 j)] ∧ h = h') (k - 0) [(8, .int .i64 0)] (h0 := h) ?_ Sb ⟨0, ⟨by omega, rfl⟩, rfl, rfl, rfl⟩ ?_
  (repeat (first | exact Sub.nil | refine Sub.cons rfl ?_ | refine Sub.consE rfl (by simp; done) ?_))
  rintro _ _ _ ⟨j, ⟨hk, hJ⟩, rfl, rfl, rfl⟩
  refine WC.frm rfl ?_
  repeat first | refine sk fun K hK => ?_ | refine bk ?_ | refine rn fun _ => ?_
  refine xG (PO.bin Et Et rfl) ?_
  refine wn [0, 1, 7, 8, 9] ?_
  repeat first | refine sk fun K hK => ?_ | refine bk ?_
  refine wc (fun c9 => ?_) fun c9 => ?_
  replace c9 := of_decide_eq_true c9
  obtain ⟨x, hx⟩ := get_some (l := l) (k := j) (by omega)
  rw [Go.Ty.idxF_drop pr hx] at hJ
  refine WC.skip (kp [0, 1, 7, 8] ?_)
  repeat first | refine sk fun K hK => ?_ | refine bk ?_ | refine rn fun _ => ?_
  refine xM ?_
  refine xA ?_
  refine wn [0, 1, 5, 7, 8] ?_
  repeat first | refine sk fun K hK => ?_ | refine bk ?_ | refine rn fun _ => ?_
  refine xM ?_
  refine xM ?_
  refine xM ?_
  refine xG (PO.idx EL46.und EL46.size EL46.posz (Ev.tmp rfl) (Ev.tmp rfl) Rr rfl (by omega)) ?_
  refine xG (PO.loadF1 Tryz.underlying3 rfl encN_len Rr (Ev.tmp rfl) (by assumption) rfl) ?_
  refine WL.callP (Ev.tmp rfl) (Evs.cons (Ev.tmp rfl) Evs.nil) (hq x (List.mem_of_getElem? hx)) (leB rfl) ?_
  refine wn [0, 1, 5, 7, 8, 16] ?_
  repeat first | refine sk fun K hK => ?_ | refine bk ?_
  refine wc (fun c16 => ?_) fun c16 => ?_
  rw [c16] at hJ
  repeat first | refine sk fun K hK => ?_ | refine bk ?_ | refine rn fun _ => ?_
  refine xM ?_
  refine xA ?_
  refine wn [4] ?_
  refine WC.ret (wR (h) ?_)
  exact ⟨by rw [hJ]; rfl, rfl⟩
  rw [c16] at hJ
  refine WC.skip (kp [0, 1, 7, 8] ?_)
  repeat first | refine sk fun K hK => ?_ | refine bk ?_ | refine rn fun _ => ?_
  refine xG (PO.addI Et Ev.const (by omega)) ?_
  refine xM ?_
  refine WL.nil (loopBackI (k - (j + 1)) [(8, .int .i64 (j + 1))] (h'' := h) (by omega) ?_ (by (repeat (first | exact Sub.nil | refine Sub.cons rfl ?_ | refine Sub.consE rfl (by simp; done) ?_))) Sb ⟨j + 1, ⟨by omega, by simpa using hJ⟩, rfl, rfl, rfl⟩)
  (repeat (first | exact Sub.nil | refine Sub.cons rfl ?_ | refine Sub.consE rfl (by simp; done) ?_))
  replace c9 := of_decide_eq_false c9
  rw [List.drop_eq_nil_of_le (by omega)] at hJ
  refine WC.exit (kp [] ?_)
  repeat first | refine sk fun K hK => ?_ | refine bk ?_ | refine rn fun _ => ?_
  refine xC ?_
  refine wn [4] ?_
  refine WC.ret (wR (h) ?_)
  exact ⟨by rw [hJ]; rfl, rfl⟩
theorem anyNn_ct (q : FuncId) (cap : List Value) (pr : Int → Bool) (a : Option Addr) (k c : Nat) (l : List Int) (h : List Res) (m : View) (hq : ∀ x ∈ l, CT Tryz.prog q ([.int .i64 x] ++ cap) h m (Pure1 h (.bool (pr x)))) (hs : Rd m h a k c 1 (fl encN l)) :
    CT Tryz.prog 168 [.slice a k c, .func (.func q) #[] cap.toArray] h m (Pure1 h (.bool (l.any pr))) := by
  refine CT.body Tryz.call168 Tryz.func168 rfl Tryz.ntmps168 (leB rfl) rfl ?_
  repeat first | refine sk fun K hK => ?_ | refine bk ?_ | refine rn fun _ => ?_
  refine xC ?_
  refine wn [0, 1] ?_
  repeat first | refine sk fun K hK => ?_ | refine bk ?_ | refine rn fun _ => ?_
  refine xM ?_
  refine xM ?_
  refine xf (E2 Et Et) (idxNn_ct q cap pr _ _ _ l _ _ hq hs) ?_
  refine xG (PO.bin Et Ev.const rfl) ?_
  refine xA ?_
  refine wn [4] ?_
  refine WC.ret (wR (h) ?_)
  exact ⟨congrArg Value.bool (Go.Ty.idxF_any pr l 0 (by decide)), rfl⟩
theorem eachcNn_ct (q0 : FuncId) (c0 : List Value) (b : Nat) (x : Int) (v : Bool) (h : List Res) (m : View) (hb : Res.pt b (.cells [.func (.func q0) #[] c0.toArray].toArray 182 (0, 0)) ∈ h) (hq : ∀ h', h.Sublist h' → CT Tryz.prog q0 ([.int .i64 x] ++ c0) h' m (Pure1 h' (.bool v))) :
    CT Tryz.prog 169 [.int .i64 x, .pointer (some ⟨b, 0, none⟩)] h m (Pure1 h (.bool (!v))) := by
  refine CT.body Tryz.call169 Tryz.func169 rfl Tryz.ntmps169 (leB rfl) rfl ?_
  repeat first | refine sk fun K hK => ?_ | refine bk ?_ | refine rn fun _ => ?_
  refine xC ?_
  refine wn [0, 1] ?_
  repeat first | refine sk fun K hK => ?_ | refine bk ?_ | refine rn fun _ => ?_
  refine xG (PO.load1 Tryz.underlying182 rfl Et hb rfl) ?_
  refine xM ?_
  refine WL.callP (Ev.tmp rfl) (Evs.cons (Ev.tmp rfl) Evs.nil) (hq _ Sb) (leB rfl) ?_
  refine xG (PO.not Et) ?_
  refine xA ?_
  refine wn [3] ?_
  refine WC.ret (wR (h) ?_)
  exact ⟨rfl, rfl⟩
theorem eachNn_ct (q0 : FuncId) (c0 : List Value) (pr : Int → Bool) (lo hi : Int) (a : Option Addr) (k c : Nat) (l : List Int) (h : List Res) (m : View) (hq : ∀ x ∈ l, ∀ h', h.Sublist h' → CT Tryz.prog q0 ([.int .i64 x] ++ c0) h' m (Pure1 h' (.bool (pr x)))) (hs : Rd m h a k c 1 (fl encN l)) :
    CT Tryz.prog 131 [.slice a k c, .agg #[.int .i64 lo, .int .i64 hi], .func (.func q0) #[] c0.toArray] h m (Pure1 h (.bool (each l lo hi pr))) := by
  have hl := hs.lenF encN_len (by decide)
  subst hl
  refine CT.body Tryz.call131 Tryz.func131 rfl Tryz.ntmps131 (leB rfl) rfl ?_
  repeat first | refine sk fun K hK => ?_ | refine bk ?_ | refine rn fun _ => ?_
  refine xX fun b4 => ?_
  refine xX fun b5 => ?_
  refine xC ?_
  refine wn [0, 4, 5] ?_
  repeat first | refine sk fun K hK => ?_ | refine bk ?_ | refine rg fun ops hG => ?_
  refine xG (pA Tryz.underlying176) ?_
  refine xM ?_
  refine xG (PO.lenSl Tryz.underlying46 Et) ?_
  refine xf (E2 Et Et) (has_ct lo hi l.length _ _) ?_
  refine xM ?_
  refine zM ?_
  refine zG (fun _ => PO.makeFunc Evs.nil (Evs.cons Et Evs.nil)) ?_
  refine WL.callG (GU.t (hG _ _ rfl) rfl) (fun hc => ⟨Ev.func, (Evs.cons (Eg hc) (Evs.cons (Eg hc) Evs.nil)), anyNn_ct 169 [.pointer (some ⟨b5, 0, none⟩)] (fun x => !pr x) _ _ _ l _ _ (fun x hx => eachcNn_ct q0 c0 b5 x (pr x) _ _ Me (fun h' hh => hq x hx h' (List.Sublist.trans Sb hh))) (hs.mono (View.le.refl _) Sb)⟩) (leB rfl) ?_
  refine zG (fun hc => PO.not (Eg hc)) ?_
  refine xP ?_
  refine xA ?_
  refine wn [6] ?_
  try clear hG ops
  refine WC.ret (wR (h) ?_)
  exact ⟨rfl, rfl⟩
theorem idxFo_ct (q : FuncId) (cap : List Value) (pr : Fo → Bool) (a : Option Addr) (k c : Nat) (l : List Fo) (h : List Res) (m : View) (hq : ∀ x ∈ l, CT Tryz.prog q ([foV x] ++ cap) h m (Pure1 h (.bool (pr x)))) (hs : Rd m h a k c 6 (fl foE l)) :
    CT Tryz.prog 212 [.slice a k c, .func (.func q) #[] cap.toArray] h m (Pure1 h (.int .i64 (Go.Ty.idxF pr l 0))) := by
  have hl := hs.lenF foE_len (by decide)
  have hmx := hs.mx
  have hle := hs.le
  refine CT.body Tryz.call212 Tryz.func212 rfl Tryz.ntmps212 (leB rfl) rfl ?_
  repeat first | refine sk fun K hK => ?_ | refine bk ?_ | refine rn fun _ => ?_
  refine xC ?_
  refine wn [0, 1] ?_
  repeat first | refine sk fun K hK => ?_ | refine bk ?_ | refine rn fun _ => ?_
  refine xM ?_
  refine xG (PO.lenSl Tryz.underlying52 Et) ?_
  refine xK ?_
  refine wn [0, 1, 7, 8] ?_
  repeat first | refine sk fun K hK => ?_ | refine bk ?_
  refine WC.loopI [0, 1, 7] rfl (fun μ F' h' => ∃ j : Nat, (j ≤ k ∧ Go.Ty.idxF pr l 0 = Go.Ty.idxF pr (l.drop j) j) ∧ k - j = μ ∧ F' = [(8, .int .i64 j)] ∧ h = h') (k - 0) [(8, .int .i64 0)] (h0 := h) ?_ Sb ⟨0, ⟨by omega, rfl⟩, rfl, rfl, rfl⟩ ?_
  (repeat (first | exact Sub.nil | refine Sub.cons rfl ?_ | refine Sub.consE rfl (by simp; done) ?_))
  rintro _ _ _ ⟨j, ⟨hk, hJ⟩, rfl, rfl, rfl⟩
  refine WC.frm rfl ?_
  repeat first | refine sk fun K hK => ?_ | refine bk ?_ | refine rn fun _ => ?_
  refine xG (PO.bin Et Et rfl) ?_
  refine wn [0, 1, 7, 8, 9] ?_
  repeat first | refine sk fun K hK => ?_ | refine bk ?_
  refine wc (fun c9 => ?_) fun c9 => ?_
  replace c9 := of_decide_eq_true c9
  obtain ⟨x, hx⟩ := get_some (l := l) (k := j) (by omega)
  rw [Go.Ty.idxF_drop pr hx] at hJ
  refine WC.skip (kp [0, 1, 7, 8] ?_)
  repeat first | refine sk fun K hK => ?_ | refine bk ?_ | refine rn fun _ => ?_
  refine xM ?_
  refine xA ?_
  refine wn [0, 1, 5, 7, 8] ?_
  repeat first | refine sk fun K hK => ?_ | refine bk ?_ | refine rn fun _ => ?_
  refine xM ?_
  refine xM ?_
  refine xM ?_
  refine xG (PO.idx EL52.und EL52.size EL52.posz (Ev.tmp rfl) (Ev.tmp rfl) Rr rfl (by omega)) ?_
  refine xG (PO.loadFA Tryz.underlying60 rfl rfl foE_len Rr (Ev.tmp rfl) (by assumption) rfl rfl (Nat.succ_pos _)) ?_
  refine WL.callP (Ev.tmp rfl) (Evs.cons (Ev.tmp rfl) Evs.nil) (hq x (List.mem_of_getElem? hx)) (leB rfl) ?_
  refine wn [0, 1, 5, 7, 8, 16] ?_
  repeat first | refine sk fun K hK => ?_ | refine bk ?_
  refine wc (fun c16 => ?_) fun c16 => ?_
  rw [c16] at hJ
  repeat first | refine sk fun K hK => ?_ | refine bk ?_ | refine rn fun _ => ?_
  refine xM ?_
  refine xA ?_
  refine wn [4] ?_
  refine WC.ret (wR (h) ?_)
  exact ⟨by rw [hJ]; rfl, rfl⟩
  rw [c16] at hJ
  refine WC.skip (kp [0, 1, 7, 8] ?_)
  repeat first | refine sk fun K hK => ?_ | refine bk ?_ | refine rn fun _ => ?_
  refine xG (PO.addI Et Ev.const (by omega)) ?_
  refine xM ?_
  refine WL.nil (loopBackI (k - (j + 1)) [(8, .int .i64 (j + 1))] (h'' := h) (by omega) ?_ (by (repeat (first | exact Sub.nil | refine Sub.cons rfl ?_ | refine Sub.consE rfl (by simp; done) ?_))) Sb ⟨j + 1, ⟨by omega, by simpa using hJ⟩, rfl, rfl, rfl⟩)
  (repeat (first | exact Sub.nil | refine Sub.cons rfl ?_ | refine Sub.consE rfl (by simp; done) ?_))
  replace c9 := of_decide_eq_false c9
  rw [List.drop_eq_nil_of_le (by omega)] at hJ
  refine WC.exit (kp [] ?_)
  repeat first | refine sk fun K hK => ?_ | refine bk ?_ | refine rn fun _ => ?_
  refine xC ?_
  refine wn [4] ?_
  refine WC.ret (wR (h) ?_)
  exact ⟨by rw [hJ]; rfl, rfl⟩
theorem anyFo_ct (q : FuncId) (cap : List Value) (pr : Fo → Bool) (a : Option Addr) (k c : Nat) (l : List Fo) (h : List Res) (m : View) (hq : ∀ x ∈ l, CT Tryz.prog q ([foV x] ++ cap) h m (Pure1 h (.bool (pr x)))) (hs : Rd m h a k c 6 (fl foE l)) :
    CT Tryz.prog 193 [.slice a k c, .func (.func q) #[] cap.toArray] h m (Pure1 h (.bool (l.any pr))) := by
  refine CT.body Tryz.call193 Tryz.func193 rfl Tryz.ntmps193 (leB rfl) rfl ?_
  repeat first | refine sk fun K hK => ?_ | refine bk ?_ | refine rn fun _ => ?_
  refine xC ?_
  refine wn [0, 1] ?_
  repeat first | refine sk fun K hK => ?_ | refine bk ?_ | refine rn fun _ => ?_
  refine xM ?_
  refine xM ?_
  refine xf (E2 Et Et) (idxFo_ct q cap pr _ _ _ l _ _ hq hs) ?_
  refine xG (PO.bin Et Ev.const rfl) ?_
  refine xA ?_
  refine wn [4] ?_
  refine WC.ret (wR (h) ?_)
  exact ⟨congrArg Value.bool (Go.Ty.idxF_any pr l 0 (by decide)), rfl⟩
theorem eachcFo_ct (q0 : FuncId) (c0 : List Value) (b : Nat) (x : Fo) (v : Bool) (h : List Res) (m : View) (hb : Res.pt b (.cells [.func (.func q0) #[] c0.toArray].toArray 197 (0, 0)) ∈ h) (hq : ∀ h', h.Sublist h' → CT Tryz.prog q0 ([foV x] ++ c0) h' m (Pure1 h' (.bool v))) :
    CT Tryz.prog 194 [foV x, .pointer (some ⟨b, 0, none⟩)] h m (Pure1 h (.bool (!v))) := by
  refine CT.body Tryz.call194 Tryz.func194 rfl Tryz.ntmps194 (leB rfl) rfl ?_
  repeat first | refine sk fun K hK => ?_ | refine bk ?_ | refine rn fun _ => ?_
  refine xX fun b2 => ?_
  refine xC ?_
  refine wn [1, 2] ?_
  repeat first | refine sk fun K hK => ?_ | refine bk ?_ | refine rn fun _ => ?_
  refine xG (PO.load1 Tryz.underlying197 rfl Et (List.Mem.tail _ hb) rfl) ?_
  refine xG (pA Tryz.underlying60) ?_
  refine WL.callP (Ev.tmp rfl) (Evs.cons (Ev.tmp rfl) Evs.nil) (hq _ Sb) (leB rfl) ?_
  refine xG (PO.not Et) ?_
  refine xA ?_
  refine wn [3] ?_
  refine WC.ret (wR (h) ?_)
  exact ⟨rfl, rfl⟩
theorem eachFo_ct (q0 : FuncId) (c0 : List Value) (pr : Fo → Bool) (lo hi : Int) (a : Option Addr) (k c : Nat) (l : List Fo) (h : List Res) (m : View) (hq : ∀ x ∈ l, ∀ h', h.Sublist h' → CT Tryz.prog q0 ([foV x] ++ c0) h' m (Pure1 h' (.bool (pr x)))) (hs : Rd m h a k c 6 (fl foE l)) :
    CT Tryz.prog 173 [.slice a k c, .agg #[.int .i64 lo, .int .i64 hi], .func (.func q0) #[] c0.toArray] h m (Pure1 h (.bool (each l lo hi pr))) := by
  have hl := hs.lenF foE_len (by decide)
  subst hl
  refine CT.body Tryz.call173 Tryz.func173 rfl Tryz.ntmps173 (leB rfl) rfl ?_
  repeat first | refine sk fun K hK => ?_ | refine bk ?_ | refine rn fun _ => ?_
  refine xX fun b4 => ?_
  refine xX fun b5 => ?_
  refine xC ?_
  refine wn [0, 4, 5] ?_
  repeat first | refine sk fun K hK => ?_ | refine bk ?_ | refine rg fun ops hG => ?_
  refine xG (pA Tryz.underlying176) ?_
  refine xM ?_
  refine xG (PO.lenSl Tryz.underlying52 Et) ?_
  refine xf (E2 Et Et) (has_ct lo hi l.length _ _) ?_
  refine xM ?_
  refine zM ?_
  refine zG (fun _ => PO.makeFunc Evs.nil (Evs.cons Et Evs.nil)) ?_
  refine WL.callG (GU.t (hG _ _ rfl) rfl) (fun hc => ⟨Ev.func, (Evs.cons (Eg hc) (Evs.cons (Eg hc) Evs.nil)), anyFo_ct 194 [.pointer (some ⟨b5, 0, none⟩)] (fun x => !pr x) _ _ _ l _ _ (fun x hx => eachcFo_ct q0 c0 b5 x (pr x) _ _ Me (fun h' hh => hq x hx h' (List.Sublist.trans Sb hh))) (hs.mono (View.le.refl _) Sb)⟩) (leB rfl) ?_
  refine zG (fun hc => PO.not (Eg hc)) ?_
  refine xP ?_
  refine xA ?_
  refine wn [6] ?_
  try clear hG ops
  refine WC.ret (wR (h) ?_)
  exact ⟨rfl, rfl⟩
theorem idxSs_ct (q : FuncId) (cap : List Value) (pr : B → Bool) (a : Option Addr) (k c : Nat) (l : List B) (h : List Res) (m : View) (hq : ∀ x ∈ l, CT Tryz.prog q ([str x] ++ cap) h m (Pure1 h (.bool (pr x)))) (hs : Rd m h a k c 1 (fl encB l)) :
    CT Tryz.prog 213 [.slice a k c, .func (.func q) #[] cap.toArray] h m (Pure1 h (.int .i64 (Go.Ty.idxF pr l 0))) := by
  have hl := hs.lenF encB_len (by decide)
  have hmx := hs.mx
  have hle := hs.le
  refine CT.body Tryz.call213 Tryz.func213 rfl Tryz.ntmps213 (leB rfl) rfl ?_
  repeat first | refine sk fun K hK => ?_ | refine bk ?_ | refine rn fun _ => ?_
  refine xC ?_
  refine wn [0, 1] ?_
  repeat first | refine sk fun K hK => ?_ | refine bk ?_ | refine rn fun _ => ?_
  refine xM ?_
  refine xG (PO.lenSl Tryz.underlying48 Et) ?_
  refine xK ?_
  refine wn [0, 1, 7, 8] ?_
  repeat first | refine sk fun K hK => ?_ | refine bk ?_
  refine WC.loopI [0, 1, 7] rfl (fun μ F' h' => ∃ j : Nat, (j ≤ k ∧ Go.Ty.idxF pr l 0 = Go.Ty.idxF pr (l.drop j) j) ∧ k - j = μ ∧ F' = [(8, .int .i64 j)] ∧ h = h') (k - 0) [(8, .int .i64 0)] (h0 := h) ?_ Sb ⟨0, ⟨by omega, rfl⟩, rfl, rfl, rfl⟩ ?_
  (repeat (first | exact Sub.nil | refine Sub.cons rfl ?_ | refine Sub.consE rfl (by simp; done) ?_))
  rintro _ _ _ ⟨j, ⟨hk, hJ⟩, rfl, rfl, rfl⟩
  refine WC.frm rfl ?_
  repeat first | refine sk fun K hK => ?_ | refine bk ?_ | refine rn fun _ => ?_
  refine xG (PO.bin Et Et rfl) ?_
  refine wn [0, 1, 7, 8, 9] ?_
  repeat first | refine sk fun K hK => ?_ | refine bk ?_
  refine wc (fun c9 => ?_) fun c9 => ?_
  replace c9 := of_decide_eq_true c9
  obtain ⟨x, hx⟩ := get_some (l := l) (k := j) (by omega)
  rw [Go.Ty.idxF_drop pr hx] at hJ
  refine WC.skip (kp [0, 1, 7, 8] ?_)
  repeat first | refine sk fun K hK => ?_ | refine bk ?_ | refine rn fun _ => ?_
  refine xM ?_
  refine xA ?_
  refine wn [0, 1, 5, 7, 8] ?_
  repeat first | refine sk fun K hK => ?_ | refine bk ?_ | refine rn fun _ => ?_
  refine xM ?_
  refine xM ?_
  refine xM ?_
  refine xG (PO.idx EL48.und EL48.size EL48.posz (Ev.tmp rfl) (Ev.tmp rfl) Rr rfl (by omega)) ?_
  refine xG (PO.loadF1 Tryz.underlying9 rfl encB_len Rr (Ev.tmp rfl) (by assumption) rfl) ?_
  refine WL.callP (Ev.tmp rfl) (Evs.cons (Ev.tmp rfl) Evs.nil) (hq x (List.mem_of_getElem? hx)) (leB rfl) ?_
  refine wn [0, 1, 5, 7, 8, 16] ?_
  repeat first | refine sk fun K hK => ?_ | refine bk ?_
  refine wc (fun c16 => ?_) fun c16 => ?_
  rw [c16] at hJ
  repeat first | refine sk fun K hK => ?_ | refine bk ?_ | refine rn fun _ => ?_
  refine xM ?_
  refine xA ?_
  refine wn [4] ?_
  refine WC.ret (wR (h) ?_)
  exact ⟨by rw [hJ]; rfl, rfl⟩
  rw [c16] at hJ
  refine WC.skip (kp [0, 1, 7, 8] ?_)
  repeat first | refine sk fun K hK => ?_ | refine bk ?_ | refine rn fun _ => ?_
  refine xG (PO.addI Et Ev.const (by omega)) ?_
  refine xM ?_
  refine WL.nil (loopBackI (k - (j + 1)) [(8, .int .i64 (j + 1))] (h'' := h) (by omega) ?_ (by (repeat (first | exact Sub.nil | refine Sub.cons rfl ?_ | refine Sub.consE rfl (by simp; done) ?_))) Sb ⟨j + 1, ⟨by omega, by simpa using hJ⟩, rfl, rfl, rfl⟩)
  (repeat (first | exact Sub.nil | refine Sub.cons rfl ?_ | refine Sub.consE rfl (by simp; done) ?_))
  replace c9 := of_decide_eq_false c9
  rw [List.drop_eq_nil_of_le (by omega)] at hJ
  refine WC.exit (kp [] ?_)
  repeat first | refine sk fun K hK => ?_ | refine bk ?_ | refine rn fun _ => ?_
  refine xC ?_
  refine wn [4] ?_
  refine WC.ret (wR (h) ?_)
  exact ⟨by rw [hJ]; rfl, rfl⟩
theorem anySs_ct (q : FuncId) (cap : List Value) (pr : B → Bool) (a : Option Addr) (k c : Nat) (l : List B) (h : List Res) (m : View) (hq : ∀ x ∈ l, CT Tryz.prog q ([str x] ++ cap) h m (Pure1 h (.bool (pr x)))) (hs : Rd m h a k c 1 (fl encB l)) :
    CT Tryz.prog 195 [.slice a k c, .func (.func q) #[] cap.toArray] h m (Pure1 h (.bool (l.any pr))) := by
  refine CT.body Tryz.call195 Tryz.func195 rfl Tryz.ntmps195 (leB rfl) rfl ?_
  repeat first | refine sk fun K hK => ?_ | refine bk ?_ | refine rn fun _ => ?_
  refine xC ?_
  refine wn [0, 1] ?_
  repeat first | refine sk fun K hK => ?_ | refine bk ?_ | refine rn fun _ => ?_
  refine xM ?_
  refine xM ?_
  refine xf (E2 Et Et) (idxSs_ct q cap pr _ _ _ l _ _ hq hs) ?_
  refine xG (PO.bin Et Ev.const rfl) ?_
  refine xA ?_
  refine wn [4] ?_
  refine WC.ret (wR (h) ?_)
  exact ⟨congrArg Value.bool (Go.Ty.idxF_any pr l 0 (by decide)), rfl⟩
theorem eachcSs_ct (q0 : FuncId) (c0 : List Value) (b : Nat) (x : B) (v : Bool) (h : List Res) (m : View) (hb : Res.pt b (.cells [.func (.func q0) #[] c0.toArray].toArray 123 (0, 0)) ∈ h) (hq : ∀ h', h.Sublist h' → CT Tryz.prog q0 ([str x] ++ c0) h' m (Pure1 h' (.bool v))) :
    CT Tryz.prog 196 [str x, .pointer (some ⟨b, 0, none⟩)] h m (Pure1 h (.bool (!v))) := by
  refine CT.body Tryz.call196 Tryz.func196 rfl Tryz.ntmps196 (leB rfl) rfl ?_
  repeat first | refine sk fun K hK => ?_ | refine bk ?_ | refine rn fun _ => ?_
  refine xC ?_
  refine wn [0, 1] ?_
  repeat first | refine sk fun K hK => ?_ | refine bk ?_ | refine rn fun _ => ?_
  refine xG (PO.load1 Tryz.underlying123 rfl Et hb rfl) ?_
  refine xM ?_
  refine WL.callP (Ev.tmp rfl) (Evs.cons (Ev.tmp rfl) Evs.nil) (hq _ Sb) (leB rfl) ?_
  refine xG (PO.not Et) ?_
  refine xA ?_
  refine wn [3] ?_
  refine WC.ret (wR (h) ?_)
  exact ⟨rfl, rfl⟩
theorem eachSs_ct (q0 : FuncId) (c0 : List Value) (pr : B → Bool) (lo hi : Int) (a : Option Addr) (k c : Nat) (l : List B) (h : List Res) (m : View) (hq : ∀ x ∈ l, ∀ h', h.Sublist h' → CT Tryz.prog q0 ([str x] ++ c0) h' m (Pure1 h' (.bool (pr x)))) (hs : Rd m h a k c 1 (fl encB l)) :
    CT Tryz.prog 175 [.slice a k c, .agg #[.int .i64 lo, .int .i64 hi], .func (.func q0) #[] c0.toArray] h m (Pure1 h (.bool (each l lo hi pr))) := by
  have hl := hs.lenF encB_len (by decide)
  subst hl
  refine CT.body Tryz.call175 Tryz.func175 rfl Tryz.ntmps175 (leB rfl) rfl ?_
  repeat first | refine sk fun K hK => ?_ | refine bk ?_ | refine rn fun _ => ?_
  refine xX fun b4 => ?_
  refine xX fun b5 => ?_
  refine xC ?_
  refine wn [0, 4, 5] ?_
  repeat first | refine sk fun K hK => ?_ | refine bk ?_ | refine rg fun ops hG => ?_
  refine xG (pA Tryz.underlying176) ?_
  refine xM ?_
  refine xG (PO.lenSl Tryz.underlying48 Et) ?_
  refine xf (E2 Et Et) (has_ct lo hi l.length _ _) ?_
  refine xM ?_
  refine zM ?_
  refine zG (fun _ => PO.makeFunc Evs.nil (Evs.cons Et Evs.nil)) ?_
  refine WL.callG (GU.t (hG _ _ rfl) rfl) (fun hc => ⟨Ev.func, (Evs.cons (Eg hc) (Evs.cons (Eg hc) Evs.nil)), anySs_ct 196 [.pointer (some ⟨b5, 0, none⟩)] (fun x => !pr x) _ _ _ l _ _ (fun x hx => eachcSs_ct q0 c0 b5 x (pr x) _ _ Me (fun h' hh => hq x hx h' (List.Sublist.trans Sb hh))) (hs.mono (View.le.refl _) Sb)⟩) (leB rfl) ?_
  refine zG (fun hc => PO.not (Eg hc)) ?_
  refine xP ?_
  refine xA ?_
  refine wn [6] ?_
  try clear hG ops
  refine WC.ret (wR (h) ?_)
  exact ⟨rfl, rfl⟩
end Go.Proofs.YtdhmplmpbcnojaaGreatDoor
end
/- SyB -/
section
namespace Go.Proofs.YtdhmplmpbcnojaaGreatDoor
open Go.Eng Go.Pc Go
open Go.Xp hiding B nameT
open Go.Ty (Ty Vr eqT tyV cellT PrOk VOk prL encV encV_len encI encI_len)
open Go.Lx (encB encB_len)
set_option maxRecDepth 100000
theorem either_ct (u a z : Bool) (h : List Res) (m : View) : CT Tryz.prog 127 [.bool u, .bool a, .bool z] h m (Pure1 h (.bool (either u a z))) := by
  refine CT.body Tryz.call127 Tryz.func127 rfl Tryz.ntmps127 (leB rfl) rfl ?_
  repeat first | refine sk fun K hK => ?_ | refine bk ?_ | refine rn fun _ => ?_
  refine xC ?_
  refine wn [0, 1, 2] ?_
  repeat first | refine sk fun K hK => ?_ | refine bk ?_ | refine rn fun _ => ?_
  refine xM ?_
  refine wn [1, 2, 7] ?_
  repeat first | refine sk fun K hK => ?_ | refine bk ?_
  refine wc (fun c7 => ?_) fun c7 => ?_
  repeat first | refine sk fun K hK => ?_ | refine bk ?_ | refine rn fun _ => ?_
  refine xM ?_
  refine xA ?_
  refine wn [6] ?_
  refine WC.ret (wR (h) ?_)
  exact ⟨by rw [c7]; rfl, rfl⟩
  refine WC.skip (kp [2] ?_)
  repeat first | refine sk fun K hK => ?_ | refine bk ?_ | refine rn fun _ => ?_
  refine xM ?_
  refine xA ?_
  refine wn [6] ?_
  refine WC.ret (wR (h) ?_)
  exact ⟨by rw [c7]; rfl, rfl⟩
theorem tok_zero (m : View) (h : List Res) : TOk m h zeroE := .mk (Rd.nilF exE 6 m h) (fun _ hx => by cases hx)
theorem none_ct {m : View} {h : List Res} (e : Ex) (hT : TOk m h e) : CT Tryz.prog 129 [exV e] h m (Pure1 h (.bool (noneE e))) := by
  refine CT.body Tryz.call129 Tryz.func129 rfl Tryz.ntmps129 (leB rfl) rfl ?_
  repeat first | refine sk fun K hK => ?_ | refine bk ?_ | refine rn fun _ => ?_
  refine xX fun b1 => ?_
  refine xC ?_
  refine wn [1] ?_
  repeat first | refine sk fun K hK => ?_ | refine bk ?_ | refine rn fun _ => ?_
  refine xG (pA Tryz.underlying27) ?_
  refine xG (PO.build Tryz.underlying27 rfl rfl rfl EvP.nil rfl) ?_
  refine xf (E2 Et Et) (same_ct e zeroE _ _ (hT.mono Sb) (tok_zero _ _)) ?_
  refine xA ?_
  refine wn [2] ?_
  refine WC.ret (wR (h) ?_)
  exact ⟨rfl, rfl⟩
theorem elem_ct {m : View} {h : List Res} (hg : Glob m) (e : Ex) (hE : EOk m h e) : CT Tryz.prog 128 [exV e] h m (Pure1 h (.bool (elemE e))) := by
  have hT := hE.t
  have hW := hE.w
  refine CT.body Tryz.call128 Tryz.func128 rfl Tryz.ntmps128 (leB rfl) rfl ?_
  repeat first | refine sk fun K hK => ?_ | refine bk ?_ | refine rn fun _ => ?_
  refine xX fun b1 => ?_
  refine xC ?_
  refine wn [1] ?_
  repeat first | refine sk fun K hK => ?_ | refine bk ?_ | refine rg fun ops hG => ?_
  refine xF Tryz.underlying27 ?_
  refine xG (pL Tryz.underlying22) ?_
  refine xG (PO.bin Et Ev.const rfl) ?_
  refine xM ?_
  refine zG (fun _ => pF Tryz.underlying27) ?_
  refine zG (fun hc => PO.load1 Tryz.underlying22 rfl (Eg hc) Me rfl) ?_
  refine zG (fun hc => PO.bin (Eg hc) Ev.const rfl) ?_
  refine xQ ?_
  refine xM ?_
  refine zG (fun _ => pA Tryz.underlying27) ?_
  refine WL.callG (GU.t (hG _ _ rfl) rfl) (fun hc => ⟨Ev.func, (Evs.cons (Eg hc) Evs.nil), may_ct hg e _ (hT.mono Sb) hW⟩) (leB rfl) ?_
  refine xP ?_
  refine xA ?_
  refine wn [2] ?_
  try clear hG ops
  refine WC.ret (wR (h) ?_)
  exact ⟨rfl, rfl⟩
theorem prim_ct0 (t : Ty) (h : List Res) (m : View) (hg : Glob m) (hs : t.proto.length ≤ 9223372036854775807) : CT Tryz.prog 171 [tyV t] h m (Pure1 h (.bool (primT t))) := by
  refine CT.body Tryz.call171 Tryz.func171 rfl Tryz.ntmps171 (leB rfl) rfl ?_
  repeat first | refine sk fun K hK => ?_ | refine bk ?_ | refine rn fun _ => ?_
  refine xX fun b1 => ?_
  refine xC ?_
  refine wn [1] ?_
  repeat first | refine sk fun K hK => ?_ | refine bk ?_ | refine rg fun ops hG => ?_
  refine xG (pA Tryz.underlying30) ?_
  refine xf (E1 Et) (Ty9.may_ct t _ _ hg hs) ?_
  refine xM ?_
  refine zG (fun _ => pF Tryz.underlying30) ?_
  refine zG (fun hc => PO.load1 Tryz.underlying3 rfl (Eg hc) Me rfl) ?_
  refine zG (fun hc => PO.bin (Eg hc) Ev.const rfl) ?_
  refine xP ?_
  refine xM ?_
  refine zG (fun _ => pF Tryz.underlying30) ?_
  refine zG (fun hc => PO.load1 Tryz.underlying24 rfl (Eg hc) Me rfl) ?_
  refine zG (fun hc => PO.bin (Eg hc) Ev.const rfl) ?_
  refine xP ?_
  refine xA ?_
  refine wn [2] ?_
  try clear hG ops
  refine WC.ret (wR (h) ?_)
  exact ⟨rfl, rfl⟩
theorem rep_ct {m : View} {h : List Res} (hg : Glob m) (r : Rp) (hn : r.name.length ≤ Big) (hb : EOk m h r.base) (hcn : EOk m h r.count) : CT Tryz.prog 122 [rpV r] h m (Pure1 h (.bool (repP r))) := by
  have hn2 : r.name.length ≤ 9223372036854775807 := Nat.le_trans hn (by decide)
  refine CT.body Tryz.call122 Tryz.func122 rfl Tryz.ntmps122 (leB rfl) rfl ?_
  repeat first | refine sk fun K hK => ?_ | refine bk ?_ | refine rn fun _ => ?_
  refine xX fun b1 => ?_
  refine xC ?_
  refine wn [1] ?_
  repeat first | refine sk fun K hK => ?_ | refine bk ?_ | refine rn fun _ => ?_
  refine xF Tryz.underlying43 ?_
  refine xG (pL Tryz.underlying9) ?_
  refine xG (PO.eqlS Et Ev.const) ?_
  refine wn [1, 5] ?_
  repeat first | refine sk fun K hK => ?_ | refine bk ?_
  refine wc (fun c5 => ?_) fun c5 => ?_
  have hR : repP r = (noneE r.base && noneE r.count) := by unfold repP; rw [if_pos c5]
  repeat first | refine sk fun K hK => ?_ | refine bk ?_ | refine rg fun ops hG => ?_
  refine xF Tryz.underlying43 ?_
  refine xG (pA Tryz.underlying27) ?_
  refine xf (E1 Et) (none_ct r.base (hb.t.mono Sb)) ?_
  refine xM ?_
  refine zG (fun _ => pF Tryz.underlying43) ?_
  refine zG (fun hc => PO.loadA Tryz.underlying27 rfl rfl (Eg hc) Me rfl) ?_
  refine WL.callG (GU.t (hG _ _ rfl) rfl) (fun hc => ⟨Ev.func, (Evs.cons (Eg hc) Evs.nil), none_ct r.count (hcn.t.mono Sb)⟩) (leB rfl) ?_
  refine xP ?_
  refine xA ?_
  refine wn [2] ?_
  try clear hG ops
  refine WC.ret (wR (h) ?_)
  exact ⟨by rw [hR], rfl⟩
  have hR : repP r = (Go.Lx.name r.name && mayE r.base && mayE r.count) := by unfold repP; rw [if_neg (by rw [c5]; decide)]
  refine WC.skip (kp [1] ?_)
  repeat first | refine sk fun K hK => ?_ | refine bk ?_ | refine rg fun ops hG => ?_
  refine xF Tryz.underlying43 ?_
  refine xG (pL Tryz.underlying9) ?_
  refine xf (E1 Et) (name_ct r.name _ _ hg hn2) ?_
  refine xM ?_
  refine zG (fun _ => pF Tryz.underlying43) ?_
  refine zG (fun hc => PO.loadA Tryz.underlying27 rfl rfl (Eg hc) Me rfl) ?_
  refine WL.callG (GU.t (hG _ _ rfl) rfl) (fun hc => ⟨Ev.func, (Evs.cons (Eg hc) Evs.nil), may_ct hg r.base _ (hb.t.mono Sb) hb.w⟩) (leB rfl) ?_
  refine xP ?_
  refine xM ?_
  refine zG (fun _ => pF Tryz.underlying43) ?_
  refine zG (fun hc => PO.loadA Tryz.underlying27 rfl rfl (Eg hc) Me rfl) ?_
  refine WL.callG (GU.t (hG _ _ rfl) rfl) (fun hc => ⟨Ev.func, (Evs.cons (Eg hc) Evs.nil), may_ct hg r.count _ (hcn.t.mono Sb) hcn.w⟩) (leB rfl) ?_
  refine xP ?_
  refine xA ?_
  refine wn [2] ?_
  try clear hG ops
  refine WC.ret (wR (h) ?_)
  exact ⟨by rw [hR], rfl⟩
theorem foE_ct {m : View} {h : List Res} (hg : Glob m) (f : Fo) (hw : FoW f) : CT Tryz.prog 174 [foV f] h m (Pure1 h (.bool (foP f))) := by
  have hn2 : f.name.length ≤ 9223372036854775807 := Nat.le_trans hw.n (by decide)
  have hp2 : f.ty.proto.length ≤ 9223372036854775807 := Nat.le_trans hw.t.p (by decide)
  refine CT.body Tryz.call174 Tryz.func174 rfl Tryz.ntmps174 (leB rfl) rfl ?_
  repeat first | refine sk fun K hK => ?_ | refine bk ?_ | refine rn fun _ => ?_
  refine xX fun b1 => ?_
  refine xC ?_
  refine wn [1] ?_
  repeat first | refine sk fun K hK => ?_ | refine bk ?_ | refine rg fun ops hG => ?_
  refine xF Tryz.underlying60 ?_
  refine xG (pL Tryz.underlying9) ?_
  refine xf (E1 Et) (name_ct f.name _ _ hg hn2) ?_
  refine xM ?_
  refine zG (fun _ => pF Tryz.underlying60) ?_
  refine zG (fun hc => PO.loadA Tryz.underlying30 rfl rfl (Eg hc) Me rfl) ?_
  refine WL.callG (GU.t (hG _ _ rfl) rfl) (fun hc => ⟨Ev.func, (Evs.cons (Eg hc) Evs.nil), Ty9.may_ct f.ty _ _ hg hp2⟩) (leB rfl) ?_
  refine xP ?_
  refine xM ?_
  refine zG (fun _ => pF Tryz.underlying60) ?_
  refine zG (fun hc => PO.load1 Tryz.underlying4 rfl (Eg hc) Me rfl) ?_
  refine zG (fun hc => PO.not (Eg hc)) ?_
  refine zV ?_
  refine zG (fun _ => pF Tryz.underlying60) ?_
  refine zG (fun hc => PO.loadA Tryz.underlying30 rfl rfl (Eg hc) Me rfl) ?_
  refine WL.callG (GU.nf (hG _ _ rfl) rfl) (fun hc => ⟨Ev.func, (Evs.cons (Eg hc) Evs.nil), prim_ct0 f.ty _ _ hg hp2⟩) (leB rfl) ?_
  refine zG (fun hc => PO.pickOrN hc rfl rfl) ?_
  refine xP ?_
  refine xA ?_
  refine wn [2] ?_
  try clear hG ops
  refine WC.ret (wR (h) ?_)
  exact ⟨rfl, rfl⟩
theorem idxG_ct (v : Int) (a : Option Addr) (k c : Nat) (l : List Int) (h : List Res) (m : View) (hs : Rd m h a k c 1 (fl encI l)) :
    CT Tryz.prog 185 [.slice a k c, .int .u8 v] h m (Pure1 h (.int .i64 (Go.Ty.idxF (v == ·) l 0))) := by
  have hl := hs.lenF encI_len (by decide)
  have hmx := hs.mx
  have hle := hs.le
  refine CT.body Tryz.call185 Tryz.func185 rfl Tryz.ntmps185 (leB rfl) rfl ?_
  repeat first | refine sk fun K hK => ?_ | refine bk ?_ | refine rn fun _ => ?_
  refine xC ?_
  refine wn [0, 1] ?_
  repeat first | refine sk fun K hK => ?_ | refine bk ?_ | refine rn fun _ => ?_
  refine xM ?_
  refine xG (PO.lenSl Tryz.underlying203 Et) ?_
  refine xK ?_
  refine wn [0, 1, 7, 8] ?_
  repeat first | refine sk fun K hK => ?_ | refine bk ?_
  refine WC.loopI [0, 1, 7] rfl (fun μ F' h' => ∃ j : Nat, (j ≤ k ∧ Go.Ty.idxF (v == ·) l 0 = Go.Ty.idxF (v == ·) (l.drop j) j) ∧ k - j = μ ∧ F' = [(8, .int .i64 j)] ∧ h = h') (k - 0) [(8, .int .i64 0)] (h0 := h) ?_ Sb ⟨0, ⟨by omega, rfl⟩, rfl, rfl, rfl⟩ ?_
  (repeat (first | exact Sub.nil | refine Sub.cons rfl ?_ | refine Sub.consE rfl (by simp; done) ?_))
  rintro _ _ _ ⟨j, ⟨hk, hJ⟩, rfl, rfl, rfl⟩
  refine WC.frm rfl ?_
  repeat first | refine sk fun K hK => ?_ | refine bk ?_ | refine rn fun _ => ?_
  refine xG (PO.bin Et Et rfl) ?_
  refine wn [0, 1, 7, 8, 9] ?_
  repeat first | refine sk fun K hK => ?_ | refine bk ?_
  refine wc (fun c9 => ?_) fun c9 => ?_
  replace c9 := of_decide_eq_true c9
  obtain ⟨x, hx⟩ := get_some (l := l) (k := j) (by omega)
  rw [Go.Ty.idxF_drop _ hx] at hJ
  refine WC.skip (kp [0, 1, 7, 8] ?_)
  repeat first | refine sk fun K hK => ?_ | refine bk ?_ | refine rn fun _ => ?_
  refine xM ?_
  refine xA ?_
  refine wn [0, 1, 5, 7, 8] ?_
  repeat first | refine sk fun K hK => ?_ | refine bk ?_ | refine rn fun _ => ?_
  refine xM ?_
  refine xM ?_
  refine xM ?_
  refine xG (PO.idx EL203.und EL203.size EL203.posz (Ev.tmp rfl) (Ev.tmp rfl) Rr rfl (by omega)) ?_
  refine xG (PO.loadF1 Tryz.underlying68 rfl encI_len Rr (Ev.tmp rfl) (by assumption) rfl) ?_
  refine xG (PO.bin Et Et rfl) ?_
  refine wn [0, 1, 5, 7, 8, 16] ?_
  repeat first | refine sk fun K hK => ?_ | refine bk ?_
  refine wc (fun c16 => ?_) fun c16 => ?_
  replace c16 : (v == x) = true := c16
  rw [c16] at hJ
  repeat first | refine sk fun K hK => ?_ | refine bk ?_ | refine rn fun _ => ?_
  refine xM ?_
  refine xA ?_
  refine wn [4] ?_
  refine WC.ret (wR (h) ?_)
  exact ⟨by rw [hJ]; rfl, rfl⟩
  replace c16 : (v == x) = false := c16
  rw [c16] at hJ
  refine WC.skip (kp [0, 1, 7, 8] ?_)
  repeat first | refine sk fun K hK => ?_ | refine bk ?_ | refine rn fun _ => ?_
  refine xG (PO.addI Et Ev.const (by omega)) ?_
  refine xM ?_
  refine WL.nil (loopBackI (k - (j + 1)) [(8, .int .i64 (j + 1))] (h'' := h) (by omega) ?_ (by (repeat (first | exact Sub.nil | refine Sub.cons rfl ?_ | refine Sub.consE rfl (by simp; done) ?_))) Sb ⟨j + 1, ⟨by omega, by simpa using hJ⟩, rfl, rfl, rfl⟩)
  (repeat (first | exact Sub.nil | refine Sub.cons rfl ?_ | refine Sub.consE rfl (by simp; done) ?_))
  replace c9 := of_decide_eq_false c9
  rw [List.drop_eq_nil_of_le (by omega)] at hJ
  refine WC.exit (kp [] ?_)
  repeat first | refine sk fun K hK => ?_ | refine bk ?_ | refine rn fun _ => ?_
  refine xC ?_
  refine wn [4] ?_
  refine WC.ret (wR (h) ?_)
  exact ⟨by rw [hJ]; rfl, rfl⟩
theorem hasG_ct (v : Int) (a : Option Addr) (k c : Nat) (l : List Int) (h : List Res) (m : View) (hs : Rd m h a k c 1 (fl encI l)) :
    CT Tryz.prog 162 [.slice a k c, .int .u8 v] h m (Pure1 h (.bool (l.any (v == ·)))) := by
  refine CT.body Tryz.call162 Tryz.func162 rfl Tryz.ntmps162 (leB rfl) rfl ?_
  repeat first | refine sk fun K hK => ?_ | refine bk ?_ | refine rn fun _ => ?_
  refine xC ?_
  refine wn [0, 1] ?_
  repeat first | refine sk fun K hK => ?_ | refine bk ?_ | refine rn fun _ => ?_
  refine xM ?_
  refine xM ?_
  refine xf (E2 Et Et) (idxG_ct v _ _ _ l _ _ hs) ?_
  refine xG (PO.bin Et Ev.const rfl) ?_
  refine xA ?_
  refine wn [4] ?_
  refine WC.ret (wR (h) ?_)
  exact ⟨congrArg Value.bool (Go.Ty.idxF_any _ l 0 (by decide)), rfl⟩
theorem kind_ct {m : View} {h : List Res} (b1 : Nat) (g : Gu) (hb1 : Res.pt b1 (.cells (guE g).toArray 70 (0, 0)) ∈ h) (a : Option Addr) (k c : Nat) (l : List Int) (hs : Rd m h a k c 1 (fl encI l)) :
    CT Tryz.prog 161 [.slice a k c, .pointer (some ⟨b1, 0, none⟩)] h m (Pure1 h (.bool (l.any (g.k == ·)))) := by
  refine CT.body Tryz.call161 Tryz.func161 rfl Tryz.ntmps161 (leB rfl) rfl ?_
  repeat first | refine sk fun K hK => ?_ | refine bk ?_ | refine rn fun _ => ?_
  refine xC ?_
  refine wn [0, 1] ?_
  repeat first | refine sk fun K hK => ?_ | refine bk ?_ | refine rn fun _ => ?_
  refine xM ?_
  refine xF Tryz.underlying70 ?_
  refine xG (PO.load1 Tryz.underlying68 rfl Et hb1 rfl) ?_
  refine xf (E2 Et Et) (hasG_ct g.k _ _ _ l _ _ hs) ?_
  refine xA ?_
  refine wn [3] ?_
  refine WC.ret (wR (h) ?_)
  exact ⟨rfl, rfl⟩
theorem any4 (k : Int) : ([1, 2, 3, 4] : List Int).any (k == ·) = ((k == 1) || (k == 2) || (k == 3) || (k == 4)) := by simp [Bool.or_assoc]
theorem any2 (k : Int) : ([3, 4] : List Int).any (k == ·) = ((k == 3) || (k == 4)) := by simp
theorem any1 (k q : Int) : ([q] : List Int).any (k == ·) = (k == q) := by simp
set_option maxHeartbeats 2000000 in
theorem guard_ct0 {m : View} {h : List Res} (hg : Glob m) (g : Gu) (hO : GOk m h g) : CT Tryz.prog 124 [guV g] h m (Pure1 h (.bool (guP g))) := by
  have hn2 : g.name.length ≤ 9223372036854775807 := Nat.le_trans hO.n (by decide)
  have htr := hO.tg.rd
  have hvr := hO.vl.rd
  refine CT.body Tryz.call124 Tryz.func124 rfl Tryz.ntmps124 (leB rfl) rfl ?_
  repeat first | refine sk fun K hK => ?_ | refine bk ?_ | refine rn fun _ => ?_
  refine xX fun b1 => ?_
  refine xC ?_
  refine wn [1] ?_
  repeat first | refine sk fun K hK => ?_ | refine bk ?_ | refine rn fun _ => ?_
  refine xG (PO.makeFunc Evs.nil (Evs.cons Et Evs.nil)) ?_
  refine xA ?_
  refine wn [1, 3] ?_
  repeat first | refine sk fun K hK => ?_ | refine bk ?_ | refine rn fun _ => ?_
  refine xF Tryz.underlying70 ?_
  refine xG (pA Tryz.underlying27) ?_
  refine xf (E1 Et) (may_ct hg g.cond _ (hO.cond.t.mono Sb) hO.cond.w) ?_
  refine xA ?_
  refine wn [1, 3, 4] ?_
  repeat first | refine sk fun K hK => ?_ | refine bk ?_ | refine rn fun _ => ?_
  refine xM ?_
  refine xY EL203 (EvP.cons Ev.const (EvP.cons Ev.const EvP.nil)) fun b12 => ?_
  refine WL.callP (Ev.tmp rfl) (Evs.cons (Ev.tmp rfl) Evs.nil) (CT.val (kind_ct b1 g Me _ _ _ [3, 4] (Rd.ofPt rfl (leB rfl) Me)) (congrArg Value.bool (any2 g.k))) (leB rfl) ?_
  refine wn [1, 3, 4, 13] ?_
  (repeat refine WC.seqK fun K hK => ?_)
  refine WC.cutK (by assumption) [1, 3] rfl (fun F' h' => ∃ cb : Bool, (cb = condP g) ∧ F' = [(4, .bool cb)] ∧ .pt b1 (.cells (guE g).toArray 70 (0, 0)) :: h = h') ?_ ?_
  repeat first | refine sk fun K hK => ?_ | refine bk ?_
  refine wc (fun c13 => ?_) fun c13 => ?_
  repeat first | refine sk fun K hK => ?_ | refine bk ?_ | refine rg fun ops hG => ?_
  refine xM ?_
  refine xM ?_
  refine zG (fun _ => pF Tryz.underlying70) ?_
  refine zG (fun hc => PO.loadA Tryz.underlying27 rfl rfl (Eg hc) Me rfl) ?_
  refine WL.callG (GU.f (hG _ _ rfl) rfl) (fun hc => ⟨Ev.func, (Evs.cons (Eg hc) Evs.nil), none_ct g.cond (hO.cond.t.mono Sb)⟩) (leB rfl) ?_
  refine xQ ?_
  refine xA ?_
  refine WL.nil (meetI [(4, .bool (mayE g.cond || noneE g.cond))] (h'' := .pt b1 (.cells (guE g).toArray 70 (0, 0)) :: h) ?_ (by (repeat (first | exact Sub.nil | refine Sub.cons rfl ?_ | refine Sub.consE rfl (by simp; done) ?_))) Sb ⟨mayE g.cond || noneE g.cond, by unfold condP; rw [if_pos c13], rfl, rfl⟩)
  (repeat (first | exact Sub.nil | refine Sub.cons rfl ?_ | refine Sub.consE rfl (by simp; done) ?_))
  refine WC.skip (meetI [(4, .bool (mayE g.cond))] (h'' := .pt b1 (.cells (guE g).toArray 70 (0, 0)) :: h) ?_ (by (repeat (first | exact Sub.nil | refine Sub.cons rfl ?_ | refine Sub.consE rfl (by simp; done) ?_))) Sb ⟨mayE g.cond, by unfold condP; rw [if_neg (by rw [c13]; decide)], rfl, rfl⟩)
  (repeat (first | exact Sub.nil | refine Sub.cons rfl ?_ | refine Sub.consE rfl (by simp; done) ?_))
  rintro _ _ ⟨cb, hcb, rfl, rfl⟩
  refine WC.frm rfl ?_
  repeat first | refine sk fun K hK => ?_ | refine bk ?_ | refine rn fun _ => ?_
  refine xG (PO.build Tryz.underlying176 rfl rfl rfl EvP.nil rfl) ?_
  refine xW fun b5 => ?_
  refine xS ?_
  refine wn [1, 3, 4, 5] ?_
  repeat first | refine sk fun K hK => ?_ | refine bk ?_ | refine rn fun _ => ?_
  refine xF Tryz.underlying70 ?_
  refine xG (pL Tryz.underlying68) ?_
  refine wn [1, 3, 4, 5, 22] ?_
  (repeat refine WC.seqK fun K hK => ?_)
  refine WC.cutK (by assumption) [1, 3, 4, 5] rfl (fun F' h' => ∃ lo : Int, ∃ hi : Int, (lo = (if g.k = 3 then 1 else 0) ∧ hi = (if g.k = 3 then 8 else if g.k = 7 then 8 else 0)) ∧ F' = [] ∧ .pt b5 (.cells [.int .i64 lo, .int .i64 hi].toArray 176 (0, 0)) :: .pt b1 (.cells (guE g).toArray 70 (0, 0)) :: h = h') ?_ ?_
  repeat first | refine sk fun K hK => ?_ | refine bk ?_ | refine rn fun _ => ?_
  refine xG (PO.bin Et Ev.const rfl) ?_
  refine xA ?_
  refine wn [1, 3, 4, 5, 22, 23] ?_
  repeat first | refine sk fun K hK => ?_ | refine bk ?_
  refine wc (fun c23 => ?_) fun c23 => ?_
  replace c23 := t_eq c23
  repeat first | refine sk fun K hK => ?_ | refine bk ?_ | refine rn fun _ => ?_
  refine xG (PO.loadAV (vs := someC) Tryz.underlying176 rfl rfl Ev.global rfl (fun j v hj => by rw [Nat.zero_add]; exact hg.sSome j v hj)) ?_
  refine xS ?_
  refine WL.nil (meetI [] (h'' := .pt b5 (.cells [.int .i64 1, .int .i64 8].toArray 176 (0, 0)) :: .pt b1 (.cells (guE g).toArray 70 (0, 0)) :: h) ?_ (by (repeat (first | exact Sub.nil | refine Sub.cons rfl ?_ | refine Sub.consE rfl (by simp; done) ?_))) Sb ⟨1, 8, ⟨by rw [if_pos c23], by rw [if_pos c23]⟩, rfl, rfl⟩)
  (repeat (first | exact Sub.nil | refine Sub.cons rfl ?_ | refine Sub.consE rfl (by simp; done) ?_))
  replace c23 := f_eq c23
  repeat first | refine sk fun K hK => ?_ | refine bk ?_ | refine rn fun _ => ?_
  refine xG (PO.bin Et Ev.const rfl) ?_
  refine xA ?_
  refine wn [1, 3, 4, 5, 26] ?_
  repeat first | refine sk fun K hK => ?_ | refine bk ?_
  refine wc (fun c26 => ?_) fun c26 => ?_
  replace c26 := t_eq c26
  repeat first | refine sk fun K hK => ?_ | refine bk ?_ | refine rn fun _ => ?_
  refine xG (PO.build Tryz.underlying176 rfl rfl rfl (EvP.cons Ev.const (EvP.cons Ev.const EvP.nil)) rfl) ?_
  refine xS ?_
  refine WL.nil (meetI [] (h'' := .pt b5 (.cells [.int .i64 0, .int .i64 8].toArray 176 (0, 0)) :: .pt b1 (.cells (guE g).toArray 70 (0, 0)) :: h) ?_ (by (repeat (first | exact Sub.nil | refine Sub.cons rfl ?_ | refine Sub.consE rfl (by simp; done) ?_))) Sb ⟨0, 8, ⟨by rw [if_neg c23], by rw [if_neg c23, if_pos c26]⟩, rfl, rfl⟩)
  (repeat (first | exact Sub.nil | refine Sub.cons rfl ?_ | refine Sub.consE rfl (by simp; done) ?_))
  replace c26 := f_eq c26
  refine WC.skip (meetI [] (h'' := .pt b5 (.cells [.int .i64 0, .int .i64 0].toArray 176 (0, 0)) :: .pt b1 (.cells (guE g).toArray 70 (0, 0)) :: h) ?_ (by (repeat (first | exact Sub.nil | refine Sub.cons rfl ?_ | refine Sub.consE rfl (by simp; done) ?_))) Sb ⟨0, 0, ⟨by rw [if_neg c23], by rw [if_neg c23, if_neg c26]⟩, rfl, rfl⟩)
  (repeat (first | exact Sub.nil | refine Sub.cons rfl ?_ | refine Sub.consE rfl (by simp; done) ?_))
  rintro _ _ ⟨lo, hi, ⟨hlo, hhi⟩, rfl, rfl⟩
  refine WC.frm rfl ?_
  repeat first | refine sk fun K hK => ?_ | refine bk ?_ | refine rn fun _ => ?_
  refine xG (PO.build Tryz.underlying176 rfl rfl rfl EvP.nil rfl) ?_
  refine xW fun b6 => ?_
  refine xS ?_
  refine wn [1, 3, 4, 5, 6] ?_
  repeat first | refine sk fun K hK => ?_ | refine bk ?_ | refine rn fun _ => ?_
  refine xF Tryz.underlying70 ?_
  refine xG (pL Tryz.underlying68) ?_
  refine xG (PO.bin Et Ev.const rfl) ?_
  refine wn [1, 3, 4, 5, 6, 32] ?_
  (repeat refine WC.seqK fun K hK => ?_)
  refine WC.cutK (by assumption) [1, 3, 4, 5, 6] rfl (fun F' h' => ∃ lo2 : Int, ∃ hi2 : Int, (lo2 = (if g.k = 5 then 1 else 0) ∧ hi2 = (if g.k = 5 then 8 else 0)) ∧ F' = [] ∧ .pt b6 (.cells [.int .i64 lo2, .int .i64 hi2].toArray 176 (0, 0)) :: .pt b5 (.cells [.int .i64 lo, .int .i64 hi].toArray 176 (0, 0)) :: .pt b1 (.cells (guE g).toArray 70 (0, 0)) :: h = h') ?_ ?_
  repeat first | refine sk fun K hK => ?_ | refine bk ?_
  refine wc (fun c32 => ?_) fun c32 => ?_
  replace c32 := t_eq c32
  repeat first | refine sk fun K hK => ?_ | refine bk ?_ | refine rn fun _ => ?_
  refine xG (PO.loadAV (vs := someC) Tryz.underlying176 rfl rfl Ev.global rfl (fun j v hj => by rw [Nat.zero_add]; exact hg.sSome j v hj)) ?_
  refine xS ?_
  refine WL.nil (meetI [] (h'' := .pt b6 (.cells [.int .i64 1, .int .i64 8].toArray 176 (0, 0)) :: .pt b5 (.cells [.int .i64 lo, .int .i64 hi].toArray 176 (0, 0)) :: .pt b1 (.cells (guE g).toArray 70 (0, 0)) :: h) ?_ (by (repeat (first | exact Sub.nil | refine Sub.cons rfl ?_ | refine Sub.consE rfl (by simp; done) ?_))) Sb ⟨1, 8, ⟨by rw [if_pos c32], by rw [if_pos c32]⟩, rfl, rfl⟩)
  (repeat (first | exact Sub.nil | refine Sub.cons rfl ?_ | refine Sub.consE rfl (by simp; done) ?_))
  replace c32 := f_eq c32
  refine WC.skip (meetI [] (h'' := .pt b6 (.cells [.int .i64 0, .int .i64 0].toArray 176 (0, 0)) :: .pt b5 (.cells [.int .i64 lo, .int .i64 hi].toArray 176 (0, 0)) :: .pt b1 (.cells (guE g).toArray 70 (0, 0)) :: h) ?_ (by (repeat (first | exact Sub.nil | refine Sub.cons rfl ?_ | refine Sub.consE rfl (by simp; done) ?_))) Sb ⟨0, 0, ⟨by rw [if_neg c32], by rw [if_neg c32]⟩, rfl, rfl⟩)
  (repeat (first | exact Sub.nil | refine Sub.cons rfl ?_ | refine Sub.consE rfl (by simp; done) ?_))
  rintro _ _ ⟨lo2, hi2, ⟨hlo2, hhi2⟩, rfl, rfl⟩
  refine WC.frm rfl ?_
  repeat first | refine sk fun K hK => ?_ | refine bk ?_
  refine WC.drawS [16, 17, 21, 22, 26, 27, 30, 34, 38, 39, 42, 45, 46, 50, 51, 54, 57, 58, 64] (.op 0 (.op 1 (.op 2 (.op 3 (.op 4 (.op 5 (.op 6 (.op 7 (.op 8 (.op 9 (.op 10 (.op 11 (.op 12 (.op 13 (.op 14 (.op 15 (.op 18 (.op 19 (.op 20 (.op 16 (.op 17 (.op 21 (.op 22 (.op 23 (.op 24 (.op 25 (.op 28 (.op 29 (.op 31 (.op 32 (.op 33 (.op 26 (.op 27 (.op 30 (.op 34 (.op 35 (.op 36 (.op 37 (.op 40 (.op 41 (.op 43 (.op 44 (.op 38 (.op 39 (.op 42 (.op 45 (.op 46 (.op 47 (.op 48 (.op 49 (.op 52 (.op 53 (.op 55 (.op 56 (.op 50 (.op 51 (.op 54 (.op 57 (.op 58 (.op 59 (.op 60 (.op 61 (.op 62 (.op 63 (.op 64 (.op 65 (.op 66 (.op 67 (.op 68 (.op 69 .nil)))))))))))))))))))))))))))))))))))))))))))))))))))))))))))))))))))))) [70, 71, 72] _ [] mixed (fun _ _ _ _ _ h => h) [] (by kernel_rfl) ?_
  refine yG rfl (pF Tryz.underlying70) ?_
  refine yG rfl (pL Tryz.underlying68) ?_
  refine yG rfl (PO.bin Et Ev.const rfl) ?_
  refine yG rfl (PO.move Et) ?_
  refine SR.poG rfl rfl (GU.t rfl rfl) (fun hc => PO.fieldAddr Tryz.underlying70 rfl (Nat.ne_of_beq_eq_false rfl) Et) (leB rfl) ?_
  refine SR.poG rfl rfl (GU.t rfl rfl) (fun hc => PO.load1 Tryz.underlying68 rfl (Eg hc) Me rfl) (leB rfl) ?_
  refine SR.poG rfl rfl (GU.t rfl rfl) (fun hc => PO.bin (Eg hc) Ev.const rfl) (leB rfl) ?_
  refine yG rfl (PO.pickAnd rfl rfl) ?_
  refine yG rfl (PO.move Et) ?_
  refine SR.poG rfl rfl (GU.t rfl rfl) (fun hc => PO.fieldAddr Tryz.underlying70 rfl (Nat.ne_of_beq_eq_false rfl) Et) (leB rfl) ?_
  refine SR.poG rfl rfl (GU.t rfl rfl) (fun hc => PO.load1 Tryz.underlying45 rfl (Eg hc) Me rfl) (leB rfl) ?_
  refine SR.poG rfl rfl (GU.t rfl rfl) (fun hc => PO.lenSl Tryz.underlying45 (Eg hc)) (leB rfl) ?_
  refine SR.poG rfl rfl (GU.t rfl rfl) (fun hc => PO.bin (Eg hc) Ev.const rfl) (leB rfl) ?_
  refine yG rfl (PO.pickAnd rfl rfl) ?_
  refine yG rfl (PO.move Et) ?_
  refine SR.poG rfl rfl (GU.t rfl rfl) (fun hc => PO.move Et) (leB rfl) ?_
  refine SR.poG rfl rfl (GU.t rfl rfl) (fun hc => PO.move Et) (leB rfl) ?_
  refine SR.poG rfl rfl (GU.t rfl rfl) (fun hc => PO.fieldAddr Tryz.underlying70 rfl (Nat.ne_of_beq_eq_false rfl) Et) (leB rfl) ?_
  refine SR.poG rfl rfl (GU.t rfl rfl) (fun hc => PO.loadA Tryz.underlying27 rfl rfl (Eg hc) Me rfl) (leB rfl) ?_
  refine SR.buildSliceG rfl rfl (GU.t rfl rfl) EL203 rfl (fun hc => (EvP.cons Ev.const (EvP.cons Ev.const (EvP.cons Ev.const (EvP.cons Ev.const EvP.nil))))) rfl rfl (by decide) rfl (leB rfl) fun b50 r50 hr50 => ?_
  refine SR.callG rfl rfl (GU.t rfl rfl) (fun hc => ⟨(Ev.gv rfl hc), (Evs.cons (Ev.gv rfl hc) Evs.nil), fun fr => CT.val (kind_ct b1 g (List.mem_append_right _ Me) _ _ _ [1, 2, 3, 4] (Rd.ofPt rfl (leB rfl) (by rw [hr50 hc]; exact List.mem_append_right _ (List.Mem.head _)))) (congrArg Value.bool (any4 g.k))⟩) (leB rfl) ?_
  refine SR.callG rfl rfl (GU.t rfl rfl) (fun hc => ⟨Ev.func, (Evs.cons (Eg hc) Evs.nil), fun fr => none_ct g.cond (hO.cond.t.mono Sb)⟩) (leB rfl) ?_
  refine SR.callG rfl rfl (GU.t rfl rfl) (fun hc => ⟨Ev.func, (Evs.cons (Eg hc) (Evs.cons (Eg hc) (Evs.cons (Eg hc) Evs.nil))), fun fr => either_ct _ _ _ _ _⟩) (leB rfl) ?_
  refine yG rfl (PO.pickAnd rfl rfl) ?_
  refine yG rfl (PO.move Et) ?_
  refine SR.poG rfl rfl (GU.t rfl rfl) (fun hc => PO.move Et) (leB rfl) ?_
  refine SR.poG rfl rfl (GU.t rfl rfl) (fun hc => PO.fieldAddr Tryz.underlying70 rfl (Nat.ne_of_beq_eq_false rfl) Et) (leB rfl) ?_
  refine SR.poG rfl rfl (GU.t rfl rfl) (fun hc => PO.load1 Tryz.underlying9 rfl (Eg hc) Me rfl) (leB rfl) ?_
  refine SR.poG rfl rfl (GU.t rfl rfl) (fun hc => PO.fieldAddr Tryz.underlying70 rfl (Nat.ne_of_beq_eq_false rfl) Et) (leB rfl) ?_
  refine SR.poG rfl rfl (GU.t rfl rfl) (fun hc => PO.load1 Tryz.underlying9 rfl (Eg hc) Me rfl) (leB rfl) ?_
  refine SR.poG rfl rfl (GU.t rfl rfl) (fun hc => PO.eqlS (Eg hc) Ev.const) (leB rfl) ?_
  refine SR.buildSliceG rfl rfl (GU.t rfl rfl) EL203 rfl (fun hc => (EvP.cons Ev.const EvP.nil)) rfl rfl (by decide) rfl (leB rfl) fun b60 r60 hr60 => ?_
  refine SR.callG rfl rfl (GU.t rfl rfl) (fun hc => ⟨(Ev.gv rfl hc), (Evs.cons (Ev.gv rfl hc) Evs.nil), fun fr => CT.val (kind_ct b1 g (List.mem_append_right _ Me) _ _ _ [7] (Rd.ofPt rfl (leB rfl) (by rw [hr60 hc]; exact List.mem_append_right _ (List.Mem.head _)))) (congrArg Value.bool (any1 g.k 7))⟩) (leB rfl) ?_
  refine SR.callG rfl rfl (GU.t rfl rfl) (fun hc => ⟨Ev.func, (Evs.cons (Eg hc) Evs.nil), fun fr => name_ct g.name _ _ hg hn2⟩) (leB rfl) ?_
  refine SR.callG rfl rfl (GU.t rfl rfl) (fun hc => ⟨Ev.func, (Evs.cons (Eg hc) (Evs.cons (Eg hc) (Evs.cons (Eg hc) Evs.nil))), fun fr => either_ct _ _ _ _ _⟩) (leB rfl) ?_
  refine yG rfl (PO.pickAnd rfl rfl) ?_
  refine yG rfl (PO.move Et) ?_
  refine SR.poG rfl rfl (GU.t rfl rfl) (fun hc => PO.move Et) (leB rfl) ?_
  refine SR.poG rfl rfl (GU.t rfl rfl) (fun hc => PO.fieldAddr Tryz.underlying70 rfl (Nat.ne_of_beq_eq_false rfl) Et) (leB rfl) ?_
  refine SR.poG rfl rfl (GU.t rfl rfl) (fun hc => PO.loadA Tryz.underlying27 rfl rfl (Eg hc) Me rfl) (leB rfl) ?_
  refine SR.poG rfl rfl (GU.t rfl rfl) (fun hc => PO.fieldAddr Tryz.underlying70 rfl (Nat.ne_of_beq_eq_false rfl) Et) (leB rfl) ?_
  refine SR.poG rfl rfl (GU.t rfl rfl) (fun hc => PO.loadA Tryz.underlying27 rfl rfl (Eg hc) Me rfl) (leB rfl) ?_
  refine SR.buildSliceG rfl rfl (GU.t rfl rfl) EL203 rfl (fun hc => (EvP.cons Ev.const (EvP.cons Ev.const EvP.nil))) rfl rfl (by decide) rfl (leB rfl) fun b72 r72 hr72 => ?_
  refine SR.callG rfl rfl (GU.t rfl rfl) (fun hc => ⟨(Ev.gv rfl hc), (Evs.cons (Ev.gv rfl hc) Evs.nil), fun fr => CT.val (kind_ct b1 g (List.mem_append_right _ Me) _ _ _ [3, 4] (Rd.ofPt rfl (leB rfl) (by rw [hr72 hc]; exact List.mem_append_right _ (List.Mem.head _)))) (congrArg Value.bool (any2 g.k))⟩) (leB rfl) ?_
  refine SR.callG rfl rfl (GU.t rfl rfl) (fun hc => ⟨Ev.func, (Evs.cons (Eg hc) Evs.nil), fun fr => elem_ct hg g.ch (hO.ch.mono Sb)⟩) (leB rfl) ?_
  refine SR.callG rfl rfl (GU.t rfl rfl) (fun hc => ⟨Ev.func, (Evs.cons (Eg hc) Evs.nil), fun fr => none_ct g.ch (hO.ch.t.mono Sb)⟩) (leB rfl) ?_
  refine SR.callG rfl rfl (GU.t rfl rfl) (fun hc => ⟨Ev.func, (Evs.cons (Eg hc) (Evs.cons (Eg hc) (Evs.cons (Eg hc) Evs.nil))), fun fr => either_ct _ _ _ _ _⟩) (leB rfl) ?_
  refine yG rfl (PO.pickAnd rfl rfl) ?_
  refine yG rfl (PO.move Et) ?_
  refine SR.poG rfl rfl (GU.t rfl rfl) (fun hc => PO.move Et) (leB rfl) ?_
  refine SR.poG rfl rfl (GU.t rfl rfl) (fun hc => PO.fieldAddr Tryz.underlying70 rfl (Nat.ne_of_beq_eq_false rfl) Et) (leB rfl) ?_
  refine SR.poG rfl rfl (GU.t rfl rfl) (fun hc => PO.loadA Tryz.underlying27 rfl rfl (Eg hc) Me rfl) (leB rfl) ?_
  refine SR.poG rfl rfl (GU.t rfl rfl) (fun hc => PO.fieldAddr Tryz.underlying70 rfl (Nat.ne_of_beq_eq_false rfl) Et) (leB rfl) ?_
  refine SR.poG rfl rfl (GU.t rfl rfl) (fun hc => PO.loadA Tryz.underlying27 rfl rfl (Eg hc) Me rfl) (leB rfl) ?_
  refine SR.buildSliceG rfl rfl (GU.t rfl rfl) EL203 rfl (fun hc => (EvP.cons Ev.const EvP.nil)) rfl rfl (by decide) rfl (leB rfl) fun b84 r84 hr84 => ?_
  refine SR.callG rfl rfl (GU.t rfl rfl) (fun hc => ⟨(Ev.gv rfl hc), (Evs.cons (Ev.gv rfl hc) Evs.nil), fun fr => CT.val (kind_ct b1 g (List.mem_append_right _ Me) _ _ _ [4] (Rd.ofPt rfl (leB rfl) (by rw [hr84 hc]; exact List.mem_append_right _ (List.Mem.head _)))) (congrArg Value.bool (any1 g.k 4))⟩) (leB rfl) ?_
  refine SR.callG rfl rfl (GU.t rfl rfl) (fun hc => ⟨Ev.func, (Evs.cons (Eg hc) Evs.nil), fun fr => may_ct hg g.time _ (hO.time.t.mono Sb) hO.time.w⟩) (leB rfl) ?_
  refine SR.callG rfl rfl (GU.t rfl rfl) (fun hc => ⟨Ev.func, (Evs.cons (Eg hc) Evs.nil), fun fr => none_ct g.time (hO.time.t.mono Sb)⟩) (leB rfl) ?_
  refine SR.callG rfl rfl (GU.t rfl rfl) (fun hc => ⟨Ev.func, (Evs.cons (Eg hc) (Evs.cons (Eg hc) (Evs.cons (Eg hc) Evs.nil))), fun fr => either_ct _ _ _ _ _⟩) (leB rfl) ?_
  refine yG rfl (PO.pickAnd rfl rfl) ?_
  refine yG rfl (PO.move Et) ?_
  refine SR.poG rfl rfl (GU.t rfl rfl) (fun hc => PO.fieldAddr Tryz.underlying70 rfl (Nat.ne_of_beq_eq_false rfl) Et) (leB rfl) ?_
  refine SR.poG rfl rfl (GU.t rfl rfl) (fun hc => PO.load1 Tryz.underlying25 rfl (Eg hc) Me rfl) (leB rfl) ?_
  refine SR.poG rfl rfl (GU.t rfl rfl) (fun hc => PO.loadA Tryz.underlying176 rfl rfl Et Me rfl) (leB rfl) ?_
  refine SR.callG rfl rfl (GU.t rfl rfl) (fun hc => ⟨Ev.func, (Evs.cons (Eg hc) (Evs.cons (Eg hc) (Evs.cons Ev.func Evs.nil))), fun fr => eachEx_ct 128 [] elemE lo hi _ _ _ g.tg.l _ _ (fun x hx h' hh => elem_ct hg x ((hO.tg.ok x hx).mono (List.Sublist.trans Sb hh))) (htr.mono (View.le.refl _) Sb)⟩) (leB rfl) ?_
  refine yG rfl (PO.pickAnd rfl rfl) ?_
  refine yG rfl (PO.move Et) ?_
  refine SR.poG rfl rfl (GU.t rfl rfl) (fun hc => PO.fieldAddr Tryz.underlying70 rfl (Nat.ne_of_beq_eq_false rfl) Et) (leB rfl) ?_
  refine SR.poG rfl rfl (GU.t rfl rfl) (fun hc => PO.load1 Tryz.underlying25 rfl (Eg hc) Me rfl) (leB rfl) ?_
  refine SR.poG rfl rfl (GU.t rfl rfl) (fun hc => PO.loadA Tryz.underlying176 rfl rfl Et Me rfl) (leB rfl) ?_
  refine SR.nil rfl rfl ?_
  refine WL.callG (GU.t rfl rfl) (fun hc => ⟨Ev.func, (Evs.cons (Eg hc) (Evs.cons (Eg hc) (Evs.cons Ev.func Evs.nil))), eachEx_ct 17 [] mayE lo2 hi2 _ _ _ g.vl.l _ _ (fun x hx h' hh => may_ct hg x _ ((hO.vl.ok x hx).t.mono (List.Sublist.trans Sb hh)) (hO.vl.ok x hx).w) (hvr.mono (View.le.refl _) Sb)⟩) (leB rfl) ?_
  refine xP ?_
  refine xA ?_
  refine wn [2] ?_
  try clear hG ops
  refine WC.ret (wR (h) ?_)
  exact ⟨by unfold guP; rw [← hcb, ← hlo, ← hhi, ← hlo2, ← hhi2], rfl⟩
end Go.Proofs.YtdhmplmpbcnojaaGreatDoor
end
/- SyC -/
section
namespace Go.Proofs.YtdhmplmpbcnojaaGreatDoor
open Go.Eng Go.Pc Go
open Go.Xp hiding B nameT
open Go.Ty (Ty Vr eqT tyV cellT PrOk VOk prL encV encV_len encI encI_len eqI eqI_ne eqI_eq eqI_iff)
open Go.Lx (encB encB_len)
set_option maxRecDepth 100000
theorem fields_ct {m : View} {h : List Res} (hg : Glob m) (k : Int) : CT Tryz.prog 121 [.int .u8 k] h m (Pure1 h (.tuple #[.agg (usE (fieldsP k).1).toArray, .bool (fieldsP k).2])) := by
  refine CT.body Tryz.call121 Tryz.func121 rfl Tryz.ntmps121 (leB rfl) rfl ?_
  repeat first | refine sk fun K hK => ?_ | refine bk ?_ | refine rn fun _ => ?_
  refine xW fun b2 => ?_
  refine xC ?_
  refine wn [0, 2] ?_
  repeat first | refine sk fun K hK => ?_ | refine bk ?_ | refine rn fun _ => ?_
  refine xM ?_
  refine wn [2, 4] ?_
  repeat first | refine sk fun K hK => ?_ | refine bk ?_ | refine rn fun _ => ?_
  refine xG (PO.bin Et Ev.const rfl) ?_
  refine xA ?_
  refine wn [2, 4, 5] ?_
  (repeat refine WC.seqK fun K hK => ?_)
  refine WC.cutK (by assumption) [2, 4] rfl (fun F' h' => ∃ q1 : Bool, (q1 = true ↔ (k = 1 ∨ k = 2)) ∧ F' = [(5, .bool q1)] ∧ .pt b2 (.cells (usE us0).toArray 178 (0, 0)) :: h = h') ?_ ?_
  repeat first | refine sk fun K hK => ?_ | refine bk ?_
  refine wc (fun c5 => ?_) fun c5 => ?_
  have ca : (k == 1) = true := c5
  refine WC.skip (meetI [(5, .bool ((k == 1)))] (h'' := .pt b2 (.cells (usE us0).toArray 178 (0, 0)) :: h) ?_ (by (repeat (first | exact Sub.nil | refine Sub.cons rfl ?_ | refine Sub.consE rfl (by simp; done) ?_))) Sb ⟨(k == 1), ⟨fun _ => .inl (by simpa using ca), fun _ => ca⟩, rfl, rfl⟩)
  (repeat (first | exact Sub.nil | refine Sub.cons rfl ?_ | refine Sub.consE rfl (by simp; done) ?_))
  have ca : (k == 1) = false := c5
  repeat first | refine sk fun K hK => ?_ | refine bk ?_ | refine rn fun _ => ?_
  refine xG (PO.bin Et Ev.const rfl) ?_
  refine xA ?_
  refine WL.nil (meetI [(5, .bool ((k == 2)))] (h'' := .pt b2 (.cells (usE us0).toArray 178 (0, 0)) :: h) ?_ (by (repeat (first | exact Sub.nil | refine Sub.cons rfl ?_ | refine Sub.consE rfl (by simp; done) ?_))) Sb ⟨(k == 2), ⟨fun hk => .inr (by simpa using hk), fun hk => hk.elim (fun h1 => absurd h1 (by simpa using ca)) (fun h1 => by simpa using h1)⟩, rfl, rfl⟩)
  (repeat (first | exact Sub.nil | refine Sub.cons rfl ?_ | refine Sub.consE rfl (by simp; done) ?_))
  rintro _ _ ⟨q1, hb1, rfl, rfl⟩
  refine WC.frm rfl ?_
  repeat first | refine sk fun K hK => ?_ | refine bk ?_
  refine wc (fun c5 => ?_) fun c5 => ?_
  have hk := hb1.1 c5
  repeat first | refine sk fun K hK => ?_ | refine bk ?_ | refine rn fun _ => ?_
  refine xG (PO.build Tryz.underlying178 rfl rfl rfl EvP.nil rfl) ?_
  refine xS ?_
  refine xC ?_
  refine wn [2, 3] ?_
  refine WC.ret (end2 (h' := h) (.inl rfl) rfl (RV.cellA Tryz.underlying178 rfl rfl rfl Me rfl) (RV.tmp rfl) (View.le.refl m) Sb ?_)
  exact ⟨by rcases hk with hk | hk <;> (rw [hk]; rfl), rfl⟩
  have hk12 : ¬ (k = 1 ∨ k = 2) := fun q => by rw [hb1.2 q] at c5; cases c5
  repeat first | refine sk fun K hK => ?_ | refine bk ?_ | refine rn fun _ => ?_
  refine xG (PO.bin Et Ev.const rfl) ?_
  refine xA ?_
  refine wn [2, 4, 9] ?_
  repeat first | refine sk fun K hK => ?_ | refine bk ?_
  refine wc (fun c9 => ?_) fun c9 => ?_
  replace c9 := t_eq c9
  repeat first | refine sk fun K hK => ?_ | refine bk ?_ | refine rn fun _ => ?_
  refine xG (PO.loadAV (vs := someC) Tryz.underlying176 rfl rfl Ev.global rfl (fun j v hj => by rw [Nat.zero_add]; exact hg.sSome j v hj)) ?_
  refine xG (PO.loadAV (vs := someC) Tryz.underlying176 rfl rfl Ev.global rfl (fun j v hj => by rw [Nat.zero_add]; exact hg.sSome j v hj)) ?_
  refine xG (PO.build Tryz.underlying178 rfl rfl rfl (EvP.cons Et (EvP.cons Et EvP.nil)) rfl) ?_
  refine xS ?_
  refine xC ?_
  refine wn [2, 3] ?_
  refine WC.ret (end2 (h' := h) (.inl rfl) rfl (RV.cellA Tryz.underlying178 rfl rfl rfl Me rfl) (RV.tmp rfl) (View.le.refl m) Sb ?_)
  exact ⟨by rw [c9]; rfl, rfl⟩
  replace c9 := f_eq c9
  repeat first | refine sk fun K hK => ?_ | refine bk ?_ | refine rn fun _ => ?_
  refine xG (PO.bin Et Ev.const rfl) ?_
  refine xA ?_
  refine wn [2, 4, 14] ?_
  repeat first | refine sk fun K hK => ?_ | refine bk ?_
  refine wc (fun c14 => ?_) fun c14 => ?_
  replace c14 := t_eq c14
  repeat first | refine sk fun K hK => ?_ | refine bk ?_ | refine rn fun _ => ?_
  refine xG (PO.loadAV (vs := someC) Tryz.underlying176 rfl rfl Ev.global rfl (fun j v hj => by rw [Nat.zero_add]; exact hg.sSome j v hj)) ?_
  refine xG (PO.build Tryz.underlying178 rfl rfl rfl (EvP.cons Ev.const (EvP.cons Et EvP.nil)) rfl) ?_
  refine xS ?_
  refine xC ?_
  refine wn [2, 3] ?_
  refine WC.ret (end2 (h' := h) (.inl rfl) rfl (RV.cellA Tryz.underlying178 rfl rfl rfl Me rfl) (RV.tmp rfl) (View.le.refl m) Sb ?_)
  exact ⟨by rw [c14]; rfl, rfl⟩
  replace c14 := f_eq c14
  repeat first | refine sk fun K hK => ?_ | refine bk ?_ | refine rn fun _ => ?_
  refine xG (PO.bin Et Ev.const rfl) ?_
  refine xA ?_
  refine wn [2, 4, 18] ?_
  repeat first | refine sk fun K hK => ?_ | refine bk ?_
  refine wc (fun c18 => ?_) fun c18 => ?_
  replace c18 := t_eq c18
  repeat first | refine sk fun K hK => ?_ | refine bk ?_ | refine rn fun _ => ?_
  refine xG (PO.build Tryz.underlying176 rfl rfl rfl (EvP.cons Ev.const (EvP.cons Ev.const EvP.nil)) rfl) ?_
  refine xG (PO.build Tryz.underlying178 rfl rfl rfl (EvP.cons Ev.const (EvP.cons Et EvP.nil)) rfl) ?_
  refine xS ?_
  refine xC ?_
  refine wn [2, 3] ?_
  refine WC.ret (end2 (h' := h) (.inl rfl) rfl (RV.cellA Tryz.underlying178 rfl rfl rfl Me rfl) (RV.tmp rfl) (View.le.refl m) Sb ?_)
  exact ⟨by rw [c18]; rfl, rfl⟩
  replace c18 := f_eq c18
  repeat first | refine sk fun K hK => ?_ | refine bk ?_ | refine rn fun _ => ?_
  refine xG (PO.bin Et Ev.const rfl) ?_
  refine xA ?_
  refine wn [2, 4, 22] ?_
  repeat first | refine sk fun K hK => ?_ | refine bk ?_
  refine wc (fun c22 => ?_) fun c22 => ?_
  replace c22 := t_eq c22
  repeat first | refine sk fun K hK => ?_ | refine bk ?_ | refine rn fun _ => ?_
  refine xG (PO.loadAV (vs := oneC) Tryz.underlying176 rfl rfl Ev.global rfl (fun j v hj => by rw [Nat.zero_add]; exact hg.sOne j v hj)) ?_
  refine xG (PO.build Tryz.underlying178 rfl rfl rfl (EvP.cons Ev.const (EvP.cons Et EvP.nil)) rfl) ?_
  refine xS ?_
  refine xC ?_
  refine wn [2, 3] ?_
  refine WC.ret (end2 (h' := h) (.inl rfl) rfl (RV.cellA Tryz.underlying178 rfl rfl rfl Me rfl) (RV.tmp rfl) (View.le.refl m) Sb ?_)
  exact ⟨by rw [c22]; rfl, rfl⟩
  replace c22 := f_eq c22
  repeat first | refine sk fun K hK => ?_ | refine bk ?_ | refine rn fun _ => ?_
  refine xG (PO.bin Et Ev.const rfl) ?_
  refine xA ?_
  refine wn [2, 4, 26] ?_
  repeat first | refine sk fun K hK => ?_ | refine bk ?_
  refine wc (fun c26 => ?_) fun c26 => ?_
  replace c26 := t_eq c26
  repeat first | refine sk fun K hK => ?_ | refine bk ?_ | refine rn fun _ => ?_
  refine xG (PO.build Tryz.underlying176 rfl rfl rfl (EvP.cons Ev.const (EvP.cons Ev.const EvP.nil)) rfl) ?_
  refine xG (PO.build Tryz.underlying178 rfl rfl rfl (EvP.cons Ev.const (EvP.cons Et (EvP.cons Ev.const (EvP.cons Ev.const EvP.nil)))) rfl) ?_
  refine xS ?_
  refine xC ?_
  refine wn [2, 3] ?_
  refine WC.ret (end2 (h' := h) (.inl rfl) rfl (RV.cellA Tryz.underlying178 rfl rfl rfl Me rfl) (RV.tmp rfl) (View.le.refl m) Sb ?_)
  exact ⟨by rw [c26]; rfl, rfl⟩
  replace c26 := f_eq c26
  repeat first | refine sk fun K hK => ?_ | refine bk ?_ | refine rn fun _ => ?_
  refine xG (PO.bin Et Ev.const rfl) ?_
  refine xA ?_
  refine wn [2, 4, 30] ?_
  (repeat refine WC.seqK fun K hK => ?_)
  refine WC.cutK (by assumption) [2, 4] rfl (fun F' h' => ∃ q2 : Bool, (q2 = true ↔ (k = 8 ∨ k = 9)) ∧ F' = [(30, .bool q2)] ∧ .pt b2 (.cells (usE us0).toArray 178 (0, 0)) :: h = h') ?_ ?_
  repeat first | refine sk fun K hK => ?_ | refine bk ?_
  refine wc (fun c30 => ?_) fun c30 => ?_
  have ca : (k == 8) = true := c30
  refine WC.skip (meetI [(30, .bool ((k == 8)))] (h'' := .pt b2 (.cells (usE us0).toArray 178 (0, 0)) :: h) ?_ (by (repeat (first | exact Sub.nil | refine Sub.cons rfl ?_ | refine Sub.consE rfl (by simp; done) ?_))) Sb ⟨(k == 8), ⟨fun _ => .inl (by simpa using ca), fun _ => ca⟩, rfl, rfl⟩)
  (repeat (first | exact Sub.nil | refine Sub.cons rfl ?_ | refine Sub.consE rfl (by simp; done) ?_))
  have ca : (k == 8) = false := c30
  repeat first | refine sk fun K hK => ?_ | refine bk ?_ | refine rn fun _ => ?_
  refine xG (PO.bin Et Ev.const rfl) ?_
  refine xA ?_
  refine WL.nil (meetI [(30, .bool ((k == 9)))] (h'' := .pt b2 (.cells (usE us0).toArray 178 (0, 0)) :: h) ?_ (by (repeat (first | exact Sub.nil | refine Sub.cons rfl ?_ | refine Sub.consE rfl (by simp; done) ?_))) Sb ⟨(k == 9), ⟨fun hk => .inr (by simpa using hk), fun hk => hk.elim (fun h1 => absurd h1 (by simpa using ca)) (fun h1 => by simpa using h1)⟩, rfl, rfl⟩)
  (repeat (first | exact Sub.nil | refine Sub.cons rfl ?_ | refine Sub.consE rfl (by simp; done) ?_))
  rintro _ _ ⟨q2, hb2, rfl, rfl⟩
  refine WC.frm rfl ?_
  repeat first | refine sk fun K hK => ?_ | refine bk ?_
  refine wc (fun c30 => ?_) fun c30 => ?_
  have hk := hb2.1 c30
  repeat first | refine sk fun K hK => ?_ | refine bk ?_ | refine rn fun _ => ?_
  refine xG (PO.loadAV (vs := allC) Tryz.underlying176 rfl rfl Ev.global rfl (fun j v hj => by rw [Nat.zero_add]; exact hg.sAll j v hj)) ?_
  refine xG (PO.build Tryz.underlying178 rfl rfl rfl (EvP.cons Ev.const (EvP.cons Et EvP.nil)) rfl) ?_
  refine xS ?_
  refine xC ?_
  refine wn [2, 3] ?_
  refine WC.ret (end2 (h' := h) (.inl rfl) rfl (RV.cellA Tryz.underlying178 rfl rfl rfl Me rfl) (RV.tmp rfl) (View.le.refl m) Sb ?_)
  exact ⟨by rcases hk with hk | hk <;> (rw [hk]; rfl), rfl⟩
  have hk89 : ¬ (k = 8 ∨ k = 9) := fun q => by rw [hb2.2 q] at c30; cases c30
  repeat first | refine sk fun K hK => ?_ | refine bk ?_ | refine rn fun _ => ?_
  refine xG (PO.bin Et Ev.const rfl) ?_
  refine xA ?_
  refine wn [2, 4, 35] ?_
  repeat first | refine sk fun K hK => ?_ | refine bk ?_
  refine wc (fun c35 => ?_) fun c35 => ?_
  replace c35 := t_eq c35
  repeat first | refine sk fun K hK => ?_ | refine bk ?_ | refine rn fun _ => ?_
  refine xG (PO.build Tryz.underlying176 rfl rfl rfl (EvP.cons Ev.const (EvP.cons Ev.const EvP.nil)) rfl) ?_
  refine xG (PO.build Tryz.underlying178 rfl rfl rfl (EvP.cons Et EvP.nil) rfl) ?_
  refine xS ?_
  refine xC ?_
  refine wn [2, 3] ?_
  refine WC.ret (end2 (h' := h) (.inl rfl) rfl (RV.cellA Tryz.underlying178 rfl rfl rfl Me rfl) (RV.tmp rfl) (View.le.refl m) Sb ?_)
  exact ⟨by rw [c35]; rfl, rfl⟩
  replace c35 := f_eq c35
  repeat first | refine sk fun K hK => ?_ | refine bk ?_ | refine rn fun _ => ?_
  refine xG (PO.bin Et Ev.const rfl) ?_
  refine xA ?_
  refine wn [2, 4, 39] ?_
  repeat first | refine sk fun K hK => ?_ | refine bk ?_
  refine wc (fun c39 => ?_) fun c39 => ?_
  replace c39 := t_eq c39
  repeat first | refine sk fun K hK => ?_ | refine bk ?_ | refine rn fun _ => ?_
  refine xG (PO.build Tryz.underlying176 rfl rfl rfl (EvP.cons Ev.const (EvP.cons Ev.const EvP.nil)) rfl) ?_
  refine xG (PO.build Tryz.underlying178 rfl rfl rfl (EvP.cons Ev.const (EvP.cons Et EvP.nil)) rfl) ?_
  refine xS ?_
  refine xC ?_
  refine wn [2, 3] ?_
  refine WC.ret (end2 (h' := h) (.inl rfl) rfl (RV.cellA Tryz.underlying178 rfl rfl rfl Me rfl) (RV.tmp rfl) (View.le.refl m) Sb ?_)
  exact ⟨by rw [c39]; rfl, rfl⟩
  replace c39 := f_eq c39
  repeat first | refine sk fun K hK => ?_ | refine bk ?_ | refine rn fun _ => ?_
  refine xG (PO.bin Et Ev.const rfl) ?_
  refine xA ?_
  refine wn [2, 4, 43] ?_
  (repeat refine WC.seqK fun K hK => ?_)
  refine WC.cutK (by assumption) [2, 4] rfl (fun F' h' => ∃ q3 : Bool, (q3 = true ↔ (k = 12 ∨ k = 13)) ∧ F' = [(43, .bool q3)] ∧ .pt b2 (.cells (usE us0).toArray 178 (0, 0)) :: h = h') ?_ ?_
  repeat first | refine sk fun K hK => ?_ | refine bk ?_
  refine wc (fun c43 => ?_) fun c43 => ?_
  have ca : (k == 12) = true := c43
  refine WC.skip (meetI [(43, .bool ((k == 12)))] (h'' := .pt b2 (.cells (usE us0).toArray 178 (0, 0)) :: h) ?_ (by (repeat (first | exact Sub.nil | refine Sub.cons rfl ?_ | refine Sub.consE rfl (by simp; done) ?_))) Sb ⟨(k == 12), ⟨fun _ => .inl (by simpa using ca), fun _ => ca⟩, rfl, rfl⟩)
  (repeat (first | exact Sub.nil | refine Sub.cons rfl ?_ | refine Sub.consE rfl (by simp; done) ?_))
  have ca : (k == 12) = false := c43
  repeat first | refine sk fun K hK => ?_ | refine bk ?_ | refine rn fun _ => ?_
  refine xG (PO.bin Et Ev.const rfl) ?_
  refine xA ?_
  refine WL.nil (meetI [(43, .bool ((k == 13)))] (h'' := .pt b2 (.cells (usE us0).toArray 178 (0, 0)) :: h) ?_ (by (repeat (first | exact Sub.nil | refine Sub.cons rfl ?_ | refine Sub.consE rfl (by simp; done) ?_))) Sb ⟨(k == 13), ⟨fun hk => .inr (by simpa using hk), fun hk => hk.elim (fun h1 => absurd h1 (by simpa using ca)) (fun h1 => by simpa using h1)⟩, rfl, rfl⟩)
  (repeat (first | exact Sub.nil | refine Sub.cons rfl ?_ | refine Sub.consE rfl (by simp; done) ?_))
  rintro _ _ ⟨q3, hb3, rfl, rfl⟩
  refine WC.frm rfl ?_
  repeat first | refine sk fun K hK => ?_ | refine bk ?_
  refine wc (fun c43 => ?_) fun c43 => ?_
  have hk := hb3.1 c43
  repeat first | refine sk fun K hK => ?_ | refine bk ?_ | refine rn fun _ => ?_
  refine xG (PO.build Tryz.underlying176 rfl rfl rfl (EvP.cons Ev.const (EvP.cons Ev.const EvP.nil)) rfl) ?_
  refine xG (PO.build Tryz.underlying178 rfl rfl rfl (EvP.cons Ev.const (EvP.cons Et (EvP.cons Ev.const (EvP.cons Ev.const EvP.nil)))) rfl) ?_
  refine xS ?_
  refine xC ?_
  refine wn [2, 3] ?_
  refine WC.ret (end2 (h' := h) (.inl rfl) rfl (RV.cellA Tryz.underlying178 rfl rfl rfl Me rfl) (RV.tmp rfl) (View.le.refl m) Sb ?_)
  exact ⟨by rcases hk with hk | hk <;> (rw [hk]; rfl), rfl⟩
  have hk1213 : ¬ (k = 12 ∨ k = 13) := fun q => by rw [hb3.2 q] at c43; cases c43
  repeat first | refine sk fun K hK => ?_ | refine bk ?_ | refine rn fun _ => ?_
  refine xG (PO.bin Et Ev.const rfl) ?_
  refine xA ?_
  refine wn [2, 4, 48] ?_
  repeat first | refine sk fun K hK => ?_ | refine bk ?_
  refine wc (fun c48 => ?_) fun c48 => ?_
  replace c48 := t_eq c48
  repeat first | refine sk fun K hK => ?_ | refine bk ?_ | refine rn fun _ => ?_
  refine xG (PO.build Tryz.underlying176 rfl rfl rfl (EvP.cons Ev.const (EvP.cons Ev.const EvP.nil)) rfl) ?_
  refine xG (PO.build Tryz.underlying178 rfl rfl rfl (EvP.cons Ev.const (EvP.cons Et (EvP.cons Ev.const (EvP.cons Ev.const EvP.nil)))) rfl) ?_
  refine xS ?_
  refine xC ?_
  refine wn [2, 3] ?_
  refine WC.ret (end2 (h' := h) (.inl rfl) rfl (RV.cellA Tryz.underlying178 rfl rfl rfl Me rfl) (RV.tmp rfl) (View.le.refl m) Sb ?_)
  exact ⟨by rw [c48]; rfl, rfl⟩
  replace c48 := f_eq c48
  repeat first | refine sk fun K hK => ?_ | refine bk ?_ | refine rn fun _ => ?_
  refine xG (PO.bin Et Ev.const rfl) ?_
  refine xA ?_
  refine wn [2, 4, 52] ?_
  repeat first | refine sk fun K hK => ?_ | refine bk ?_
  refine wc (fun c52 => ?_) fun c52 => ?_
  replace c52 := t_eq c52
  repeat first | refine sk fun K hK => ?_ | refine bk ?_ | refine rn fun _ => ?_
  refine xG (PO.loadAV (vs := oneC) Tryz.underlying176 rfl rfl Ev.global rfl (fun j v hj => by rw [Nat.zero_add]; exact hg.sOne j v hj)) ?_
  refine xG (PO.build Tryz.underlying176 rfl rfl rfl (EvP.cons Ev.const (EvP.cons Ev.const EvP.nil)) rfl) ?_
  refine xG (PO.build Tryz.underlying178 rfl rfl rfl (EvP.cons Et (EvP.cons Et (EvP.cons Ev.const (EvP.cons Ev.const EvP.nil)))) rfl) ?_
  refine xS ?_
  refine xC ?_
  refine wn [2, 3] ?_
  refine WC.ret (end2 (h' := h) (.inl rfl) rfl (RV.cellA Tryz.underlying178 rfl rfl rfl Me rfl) (RV.tmp rfl) (View.le.refl m) Sb ?_)
  exact ⟨by rw [c52]; rfl, rfl⟩
  replace c52 := f_eq c52
  repeat first | refine sk fun K hK => ?_ | refine bk ?_ | refine rn fun _ => ?_
  refine xG (PO.bin Et Ev.const rfl) ?_
  refine xA ?_
  refine wn [2, 4, 57] ?_
  repeat first | refine sk fun K hK => ?_ | refine bk ?_
  refine wc (fun c57 => ?_) fun c57 => ?_
  replace c57 := t_eq c57
  repeat first | refine sk fun K hK => ?_ | refine bk ?_ | refine rn fun _ => ?_
  refine xG (PO.loadAV (vs := oneC) Tryz.underlying176 rfl rfl Ev.global rfl (fun j v hj => by rw [Nat.zero_add]; exact hg.sOne j v hj)) ?_
  refine xG (PO.loadAV (vs := oneC) Tryz.underlying176 rfl rfl Ev.global rfl (fun j v hj => by rw [Nat.zero_add]; exact hg.sOne j v hj)) ?_
  refine xG (PO.build Tryz.underlying178 rfl rfl rfl (EvP.cons Et (EvP.cons Et EvP.nil)) rfl) ?_
  refine xS ?_
  refine xC ?_
  refine wn [2, 3] ?_
  refine WC.ret (end2 (h' := h) (.inl rfl) rfl (RV.cellA Tryz.underlying178 rfl rfl rfl Me rfl) (RV.tmp rfl) (View.le.refl m) Sb ?_)
  exact ⟨by rw [c57]; rfl, rfl⟩
  replace c57 := f_eq c57
  repeat first | refine sk fun K hK => ?_ | refine bk ?_ | refine rn fun _ => ?_
  refine xG (PO.bin Et Ev.const rfl) ?_
  refine xA ?_
  refine wn [2, 4, 62] ?_
  repeat first | refine sk fun K hK => ?_ | refine bk ?_
  refine wc (fun c62 => ?_) fun c62 => ?_
  replace c62 := t_eq c62
  repeat first | refine sk fun K hK => ?_ | refine bk ?_ | refine rn fun _ => ?_
  refine xG (PO.build Tryz.underlying176 rfl rfl rfl (EvP.cons Ev.const (EvP.cons Ev.const EvP.nil)) rfl) ?_
  refine xG (PO.build Tryz.underlying178 rfl rfl rfl (EvP.cons Ev.const (EvP.cons Et EvP.nil)) rfl) ?_
  refine xS ?_
  refine xC ?_
  refine wn [2, 3] ?_
  refine WC.ret (end2 (h' := h) (.inl rfl) rfl (RV.cellA Tryz.underlying178 rfl rfl rfl Me rfl) (RV.tmp rfl) (View.le.refl m) Sb ?_)
  exact ⟨by rw [c62]; rfl, rfl⟩
  replace c62 := f_eq c62
  repeat first | refine sk fun K hK => ?_ | refine bk ?_ | refine rn fun _ => ?_
  refine xG (PO.bin Et Ev.const rfl) ?_
  refine xA ?_
  refine wn [2, 66] ?_
  repeat first | refine sk fun K hK => ?_ | refine bk ?_
  refine wc (fun c66 => ?_) fun c66 => ?_
  replace c66 := t_eq c66
  repeat first | refine sk fun K hK => ?_ | refine bk ?_ | refine rn fun _ => ?_
  refine xG (PO.loadAV (vs := oneC) Tryz.underlying176 rfl rfl Ev.global rfl (fun j v hj => by rw [Nat.zero_add]; exact hg.sOne j v hj)) ?_
  refine xG (PO.build Tryz.underlying178 rfl rfl rfl (EvP.cons Ev.const (EvP.cons Et EvP.nil)) rfl) ?_
  refine xS ?_
  refine xC ?_
  refine wn [2, 3] ?_
  refine WC.ret (end2 (h' := h) (.inl rfl) rfl (RV.cellA Tryz.underlying178 rfl rfl rfl Me rfl) (RV.tmp rfl) (View.le.refl m) Sb ?_)
  exact ⟨by rw [c66]; rfl, rfl⟩
  replace c66 := f_eq c66
  have hF : fieldsP k = (us0, false) := by
    unfold fieldsP
    repeat rw [if_neg (by omega)]
  refine WC.skip (kp [2] ?_)
  repeat first | refine sk fun K hK => ?_ | refine bk ?_ | refine rn fun _ => ?_
  refine xG (PO.build Tryz.underlying178 rfl rfl rfl EvP.nil rfl) ?_
  refine xS ?_
  refine xC ?_
  refine wn [2, 3] ?_
  refine WC.ret (end2 (h' := h) (.inl rfl) rfl (RV.cellA Tryz.underlying178 rfl rfl rfl Me rfl) (RV.tmp rfl) (View.le.refl m) Sb ?_)
  exact ⟨by rw [hF]; rfl, rfl⟩
def eqS (x y : B) : Bool := x == y
theorem eqS_ne {x y : B} (h : (!(x == y)) = true) : eqS x y = false := by simpa [eqS] using h
theorem eqS_eq {x y : B} (h : (!(x == y)) = false) : eqS x y = true := by simpa [eqS] using h
theorem eqS_iff (x y : B) : eqS x y = true ↔ x = y := by simp [eqS]
theorem eqFo_ne {x y : Fo} (h : (!(eqFo x y)) = true) : eqFo x y = false := by simpa using h
theorem eqFo_eq {x y : Fo} (h : (!(eqFo x y)) = false) : eqFo x y = true := by simpa using h
theorem eqL_beq {α : Type} [BEq α] [LawfulBEq α] {e : α → α → Bool} (he : ∀ x y, e x y = true ↔ x = y) (xs ys : List α) : eqL e xs ys = (xs == ys) := by
  rw [Bool.eq_iff_iff, eqL_iff he]
  simp
theorem equal198_ct (s1 s2 : Option Addr) (n1 c1 n2 c2 : Nat) (xs ys : List _) (h : List Res) (m : View) (h1 : Rd m h s1 n1 c1 1 (fl encI xs)) (h2 : Rd m h s2 n2 c2 1 (fl encI ys)) :
    CT Tryz.prog 198 [.slice s1 n1 c1, .slice s2 n2 c2] h m (Pure1 h (.bool (eqL eqI xs ys))) := by
  have l1 := h1.lenF encI_len (by decide)
  have l2 := h2.lenF encI_len (by decide)
  have m1 := h1.mx
  have m2 := h2.mx
  have k1 := h1.le
  have k2 := h2.le
  refine CT.body Tryz.call198 Tryz.func198 rfl Tryz.ntmps198 (leB rfl) rfl ?_
  repeat first | refine sk fun K hK => ?_ | refine bk ?_ | refine rn fun _ => ?_
  refine xC ?_
  refine wn [0, 1] ?_
  repeat first | refine sk fun K hK => ?_ | refine bk ?_ | refine rn fun _ => ?_
  refine xM ?_
  refine xG (PO.lenSl Tryz.underlying100 Et) ?_
  refine xM ?_
  refine xG (PO.lenSl Tryz.underlying100 Et) ?_
  refine xG (PO.bin Et Et rfl) ?_
  refine wn [0, 1, 10] ?_
  repeat first | refine sk fun K hK => ?_ | refine bk ?_
  refine wc (fun c10 => ?_) fun c10 => ?_
  replace c10 := t_ne c10
  repeat first | refine sk fun K hK => ?_ | refine bk ?_ | refine rn fun _ => ?_
  refine xC ?_
  refine wn [4] ?_
  refine WC.ret (wR (h) ?_)
  exact ⟨by rw [eqL_len _ _ _ (by omega)], rfl⟩
  replace c10 := f_ne c10
  refine WC.skip (kp [0, 1] ?_)
  repeat first | refine sk fun K hK => ?_ | refine bk ?_ | refine rn fun _ => ?_
  refine xM ?_
  refine xG (PO.lenSl Tryz.underlying100 Et) ?_
  refine xK ?_
  refine wn [0, 1, 12, 13] ?_
  repeat first | refine sk fun K hK => ?_ | refine bk ?_
  refine WC.loopI [0, 1, 12] rfl (fun μ F' h' => ∃ k : Nat, (k ≤ n1 ∧ eqL eqI xs ys = eqL eqI (xs.drop k) (ys.drop k)) ∧ n1 - k = μ ∧ F' = [(13, .int .i64 k)] ∧ h = h') (n1 - 0) [(13, .int .i64 0)] (h0 := h) ?_ Sb ⟨0, ⟨by omega, by simp⟩, rfl, rfl, rfl⟩ ?_
  (repeat (first | exact Sub.nil | refine Sub.cons rfl ?_ | refine Sub.consE rfl (by simp; done) ?_))
  rintro _ _ _ ⟨k, ⟨hk, hJ⟩, rfl, rfl, rfl⟩
  refine WC.frm rfl ?_
  repeat first | refine sk fun K hK => ?_ | refine bk ?_ | refine rn fun _ => ?_
  refine xG (PO.bin Et Et rfl) ?_
  refine wn [0, 1, 12, 13, 14] ?_
  repeat first | refine sk fun K hK => ?_ | refine bk ?_
  refine wc (fun c14 => ?_) fun c14 => ?_
  replace c14 := of_decide_eq_true c14
  obtain ⟨x, hx⟩ := get_some (l := xs) (k := k) (by omega)
  obtain ⟨y, hy⟩ := get_some (l := ys) (k := k) (by omega)
  rw [eqL_drop _ hx hy] at hJ
  refine WC.skip (kp [0, 1, 12, 13] ?_)
  repeat first | refine sk fun K hK => ?_ | refine bk ?_ | refine rn fun _ => ?_
  refine xM ?_
  refine xA ?_
  refine wn [0, 1, 5, 12, 13] ?_
  repeat first | refine sk fun K hK => ?_ | refine bk ?_
  refine WC.drawS [] (.op 0 (.op 1 (.op 2 (.op 3 (.op 4 (.op 5 (.op 6 (.op 7 .nil)))))))) [8] _ [] mixed (fun _ _ _ _ _ h => h) [] (by kernel_rfl) ?_
  refine yG rfl (PO.move Et) ?_
  refine yG rfl (PO.move Et) ?_
  refine yG rfl (PO.idx EL100.und EL100.size EL100.posz (Ev.tmp rfl) (Ev.tmp rfl) Rr rfl (by omega)) ?_
  refine yG rfl (PO.loadF1 Tryz.underlying24 rfl encI_len Rr (Ev.tmp rfl) (by assumption) rfl) ?_
  refine yG rfl (PO.move Et) ?_
  refine yG rfl (PO.move Et) ?_
  refine yG rfl (PO.idx EL100.und EL100.size EL100.posz (Ev.tmp rfl) (Ev.tmp rfl) Rr rfl (by omega)) ?_
  refine yG rfl (PO.loadF1 Tryz.underlying24 rfl encI_len Rr (Ev.tmp rfl) (by assumption) rfl) ?_
  refine SR.nil rfl rfl ?_
  refine xG (PO.bin Et Et rfl) ?_
  refine wn [0, 1, 12, 13, 24] ?_
  repeat first | refine sk fun K hK => ?_ | refine bk ?_
  refine wc (fun c24 => ?_) fun c24 => ?_
  repeat first | refine sk fun K hK => ?_ | refine bk ?_ | refine rn fun _ => ?_
  refine xC ?_
  refine wn [4] ?_
  refine WC.ret (wR (h) ?_)
  exact ⟨by rw [hJ, eqI_ne c24]; rfl, rfl⟩
  rw [eqI_eq c24, Bool.true_and] at hJ
  refine WC.skip (kp [0, 1, 12, 13] ?_)
  repeat first | refine sk fun K hK => ?_ | refine bk ?_ | refine rn fun _ => ?_
  refine xG (PO.addI Et Ev.const (by omega)) ?_
  refine xM ?_
  refine WL.nil (loopBackI (n1 - (k + 1)) [(13, .int .i64 (k + 1))] (h'' := h) (by omega) ?_ (by (repeat (first | exact Sub.nil | refine Sub.cons rfl ?_ | refine Sub.consE rfl (by simp; done) ?_))) Sb ⟨k + 1, ⟨by omega, hJ⟩, rfl, rfl, rfl⟩)
  (repeat (first | exact Sub.nil | refine Sub.cons rfl ?_ | refine Sub.consE rfl (by simp; done) ?_))
  replace c14 := of_decide_eq_false c14
  refine WC.exit (kp [] ?_)
  repeat first | refine sk fun K hK => ?_ | refine bk ?_ | refine rn fun _ => ?_
  refine xC ?_
  refine wn [4] ?_
  refine WC.ret (wR (h) ?_)
  exact ⟨by rw [hJ, List.drop_eq_nil_of_le (by omega), List.drop_eq_nil_of_le (by omega)]; rfl, rfl⟩
theorem equal199_ct (s1 s2 : Option Addr) (n1 c1 n2 c2 : Nat) (xs ys : List _) (h : List Res) (m : View) (h1 : Rd m h s1 n1 c1 1 (fl encB xs)) (h2 : Rd m h s2 n2 c2 1 (fl encB ys)) :
    CT Tryz.prog 199 [.slice s1 n1 c1, .slice s2 n2 c2] h m (Pure1 h (.bool (eqL eqS xs ys))) := by
  have l1 := h1.lenF encB_len (by decide)
  have l2 := h2.lenF encB_len (by decide)
  have m1 := h1.mx
  have m2 := h2.mx
  have k1 := h1.le
  have k2 := h2.le
  refine CT.body Tryz.call199 Tryz.func199 rfl Tryz.ntmps199 (leB rfl) rfl ?_
  repeat first | refine sk fun K hK => ?_ | refine bk ?_ | refine rn fun _ => ?_
  refine xC ?_
  refine wn [0, 1] ?_
  repeat first | refine sk fun K hK => ?_ | refine bk ?_ | refine rn fun _ => ?_
  refine xM ?_
  refine xG (PO.lenSl Tryz.underlying48 Et) ?_
  refine xM ?_
  refine xG (PO.lenSl Tryz.underlying48 Et) ?_
  refine xG (PO.bin Et Et rfl) ?_
  refine wn [0, 1, 10] ?_
  repeat first | refine sk fun K hK => ?_ | refine bk ?_
  refine wc (fun c10 => ?_) fun c10 => ?_
  replace c10 := t_ne c10
  repeat first | refine sk fun K hK => ?_ | refine bk ?_ | refine rn fun _ => ?_
  refine xC ?_
  refine wn [4] ?_
  refine WC.ret (wR (h) ?_)
  exact ⟨by rw [eqL_len _ _ _ (by omega)], rfl⟩
  replace c10 := f_ne c10
  refine WC.skip (kp [0, 1] ?_)
  repeat first | refine sk fun K hK => ?_ | refine bk ?_ | refine rn fun _ => ?_
  refine xM ?_
  refine xG (PO.lenSl Tryz.underlying48 Et) ?_
  refine xK ?_
  refine wn [0, 1, 12, 13] ?_
  repeat first | refine sk fun K hK => ?_ | refine bk ?_
  refine WC.loopI [0, 1, 12] rfl (fun μ F' h' => ∃ k : Nat, (k ≤ n1 ∧ eqL eqS xs ys = eqL eqS (xs.drop k) (ys.drop k)) ∧ n1 - k = μ ∧ F' = [(13, .int .i64 k)] ∧ h = h') (n1 - 0) [(13, .int .i64 0)] (h0 := h) ?_ Sb ⟨0, ⟨by omega, by simp⟩, rfl, rfl, rfl⟩ ?_
  (repeat (first | exact Sub.nil | refine Sub.cons rfl ?_ | refine Sub.consE rfl (by simp; done) ?_))
  rintro _ _ _ ⟨k, ⟨hk, hJ⟩, rfl, rfl, rfl⟩
  refine WC.frm rfl ?_
  repeat first | refine sk fun K hK => ?_ | refine bk ?_ | refine rn fun _ => ?_
  refine xG (PO.bin Et Et rfl) ?_
  refine wn [0, 1, 12, 13, 14] ?_
  repeat first | refine sk fun K hK => ?_ | refine bk ?_
  refine wc (fun c14 => ?_) fun c14 => ?_
  replace c14 := of_decide_eq_true c14
  obtain ⟨x, hx⟩ := get_some (l := xs) (k := k) (by omega)
  obtain ⟨y, hy⟩ := get_some (l := ys) (k := k) (by omega)
  rw [eqL_drop _ hx hy] at hJ
  refine WC.skip (kp [0, 1, 12, 13] ?_)
  repeat first | refine sk fun K hK => ?_ | refine bk ?_ | refine rn fun _ => ?_
  refine xM ?_
  refine xA ?_
  refine wn [0, 1, 5, 12, 13] ?_
  repeat first | refine sk fun K hK => ?_ | refine bk ?_
  refine WC.drawS [] (.op 0 (.op 1 (.op 2 (.op 3 (.op 4 (.op 5 (.op 6 (.op 7 .nil)))))))) [8] _ [] mixed (fun _ _ _ _ _ h => h) [] (by kernel_rfl) ?_
  refine yG rfl (PO.move Et) ?_
  refine yG rfl (PO.move Et) ?_
  refine yG rfl (PO.idx EL48.und EL48.size EL48.posz (Ev.tmp rfl) (Ev.tmp rfl) Rr rfl (by omega)) ?_
  refine yG rfl (PO.loadF1 Tryz.underlying9 rfl encB_len Rr (Ev.tmp rfl) (by assumption) rfl) ?_
  refine yG rfl (PO.move Et) ?_
  refine yG rfl (PO.move Et) ?_
  refine yG rfl (PO.idx EL48.und EL48.size EL48.posz (Ev.tmp rfl) (Ev.tmp rfl) Rr rfl (by omega)) ?_
  refine yG rfl (PO.loadF1 Tryz.underlying9 rfl encB_len Rr (Ev.tmp rfl) (by assumption) rfl) ?_
  refine SR.nil rfl rfl ?_
  refine xG (PO.neqS Et Et) ?_
  refine wn [0, 1, 12, 13, 24] ?_
  repeat first | refine sk fun K hK => ?_ | refine bk ?_
  refine wc (fun c24 => ?_) fun c24 => ?_
  repeat first | refine sk fun K hK => ?_ | refine bk ?_ | refine rn fun _ => ?_
  refine xC ?_
  refine wn [4] ?_
  refine WC.ret (wR (h) ?_)
  exact ⟨by rw [hJ, eqS_ne c24]; rfl, rfl⟩
  rw [eqS_eq c24, Bool.true_and] at hJ
  refine WC.skip (kp [0, 1, 12, 13] ?_)
  repeat first | refine sk fun K hK => ?_ | refine bk ?_ | refine rn fun _ => ?_
  refine xG (PO.addI Et Ev.const (by omega)) ?_
  refine xM ?_
  refine WL.nil (loopBackI (n1 - (k + 1)) [(13, .int .i64 (k + 1))] (h'' := h) (by omega) ?_ (by (repeat (first | exact Sub.nil | refine Sub.cons rfl ?_ | refine Sub.consE rfl (by simp; done) ?_))) Sb ⟨k + 1, ⟨by omega, hJ⟩, rfl, rfl, rfl⟩)
  (repeat (first | exact Sub.nil | refine Sub.cons rfl ?_ | refine Sub.consE rfl (by simp; done) ?_))
  replace c14 := of_decide_eq_false c14
  refine WC.exit (kp [] ?_)
  repeat first | refine sk fun K hK => ?_ | refine bk ?_ | refine rn fun _ => ?_
  refine xC ?_
  refine wn [4] ?_
  refine WC.ret (wR (h) ?_)
  exact ⟨by rw [hJ, List.drop_eq_nil_of_le (by omega), List.drop_eq_nil_of_le (by omega)]; rfl, rfl⟩
theorem equal201_ct (s1 s2 : Option Addr) (n1 c1 n2 c2 : Nat) (xs ys : List _) (h : List Res) (m : View) (h1 : Rd m h s1 n1 c1 6 (fl foE xs)) (h2 : Rd m h s2 n2 c2 6 (fl foE ys)) :
    CT Tryz.prog 201 [.slice s1 n1 c1, .slice s2 n2 c2] h m (Pure1 h (.bool (eqL eqFo xs ys))) := by
  have l1 := h1.lenF foE_len (by decide)
  have l2 := h2.lenF foE_len (by decide)
  have m1 := h1.mx
  have m2 := h2.mx
  have k1 := h1.le
  have k2 := h2.le
  refine CT.body Tryz.call201 Tryz.func201 rfl Tryz.ntmps201 (leB rfl) rfl ?_
  repeat first | refine sk fun K hK => ?_ | refine bk ?_ | refine rn fun _ => ?_
  refine xC ?_
  refine wn [0, 1] ?_
  repeat first | refine sk fun K hK => ?_ | refine bk ?_ | refine rn fun _ => ?_
  refine xM ?_
  refine xG (PO.lenSl Tryz.underlying52 Et) ?_
  refine xM ?_
  refine xG (PO.lenSl Tryz.underlying52 Et) ?_
  refine xG (PO.bin Et Et rfl) ?_
  refine wn [0, 1, 10] ?_
  repeat first | refine sk fun K hK => ?_ | refine bk ?_
  refine wc (fun c10 => ?_) fun c10 => ?_
  replace c10 := t_ne c10
  repeat first | refine sk fun K hK => ?_ | refine bk ?_ | refine rn fun _ => ?_
  refine xC ?_
  refine wn [4] ?_
  refine WC.ret (wR (h) ?_)
  exact ⟨by rw [eqL_len _ _ _ (by omega)], rfl⟩
  replace c10 := f_ne c10
  refine WC.skip (kp [0, 1] ?_)
  repeat first | refine sk fun K hK => ?_ | refine bk ?_ | refine rn fun _ => ?_
  refine xM ?_
  refine xG (PO.lenSl Tryz.underlying52 Et) ?_
  refine xK ?_
  refine wn [0, 1, 12, 13] ?_
  repeat first | refine sk fun K hK => ?_ | refine bk ?_
  refine WC.loopI [0, 1, 12] rfl (fun μ F' h' => ∃ k : Nat, (k ≤ n1 ∧ eqL eqFo xs ys = eqL eqFo (xs.drop k) (ys.drop k)) ∧ n1 - k = μ ∧ F' = [(13, .int .i64 k)] ∧ h = h') (n1 - 0) [(13, .int .i64 0)] (h0 := h) ?_ Sb ⟨0, ⟨by omega, by simp⟩, rfl, rfl, rfl⟩ ?_
  (repeat (first | exact Sub.nil | refine Sub.cons rfl ?_ | refine Sub.consE rfl (by simp; done) ?_))
  rintro _ _ _ ⟨k, ⟨hk, hJ⟩, rfl, rfl, rfl⟩
  refine WC.frm rfl ?_
  repeat first | refine sk fun K hK => ?_ | refine bk ?_ | refine rn fun _ => ?_
  refine xG (PO.bin Et Et rfl) ?_
  refine wn [0, 1, 12, 13, 14] ?_
  repeat first | refine sk fun K hK => ?_ | refine bk ?_
  refine wc (fun c14 => ?_) fun c14 => ?_
  replace c14 := of_decide_eq_true c14
  obtain ⟨x, hx⟩ := get_some (l := xs) (k := k) (by omega)
  obtain ⟨y, hy⟩ := get_some (l := ys) (k := k) (by omega)
  rw [eqL_drop _ hx hy] at hJ
  refine WC.skip (kp [0, 1, 12, 13] ?_)
  repeat first | refine sk fun K hK => ?_ | refine bk ?_ | refine rn fun _ => ?_
  refine xM ?_
  refine xA ?_
  refine wn [0, 1, 5, 12, 13] ?_
  repeat first | refine sk fun K hK => ?_ | refine bk ?_
  refine WC.drawS [] (.op 0 (.op 1 (.op 2 (.op 3 (.op 4 (.op 5 (.op 6 (.op 7 .nil)))))))) [8] _ [] mixed (fun _ _ _ _ _ h => h) [] (by kernel_rfl) ?_
  refine yG rfl (PO.move Et) ?_
  refine yG rfl (PO.move Et) ?_
  refine yG rfl (PO.idx EL52.und EL52.size EL52.posz (Ev.tmp rfl) (Ev.tmp rfl) Rr rfl (by omega)) ?_
  refine yG rfl (PO.loadFA Tryz.underlying60 rfl rfl foE_len Rr (Ev.tmp rfl) (by assumption) rfl rfl (Nat.succ_pos _)) ?_
  refine yG rfl (PO.move Et) ?_
  refine yG rfl (PO.move Et) ?_
  refine yG rfl (PO.idx EL52.und EL52.size EL52.posz (Ev.tmp rfl) (Ev.tmp rfl) Rr rfl (by omega)) ?_
  refine yG rfl (PO.loadFA Tryz.underlying60 rfl rfl foE_len Rr (Ev.tmp rfl) (by assumption) rfl rfl (Nat.succ_pos _)) ?_
  refine SR.nil rfl rfl ?_
  refine xG (PO.neqA2 (o := 30) Tryz.underlying60 (by kernel_rfl) (by kernel_rfl) Et Et (by kernel_rfl) rfl) ?_
  refine wn [0, 1, 12, 13, 24] ?_
  repeat first | refine sk fun K hK => ?_ | refine bk ?_
  refine wc (fun c24 => ?_) fun c24 => ?_
  repeat first | refine sk fun K hK => ?_ | refine bk ?_ | refine rn fun _ => ?_
  refine xC ?_
  refine wn [4] ?_
  refine WC.ret (wR (h) ?_)
  exact ⟨by rw [hJ, eqFo_ne c24]; rfl, rfl⟩
  rw [eqFo_eq c24, Bool.true_and] at hJ
  refine WC.skip (kp [0, 1, 12, 13] ?_)
  repeat first | refine sk fun K hK => ?_ | refine bk ?_ | refine rn fun _ => ?_
  refine xG (PO.addI Et Ev.const (by omega)) ?_
  refine xM ?_
  refine WL.nil (loopBackI (n1 - (k + 1)) [(13, .int .i64 (k + 1))] (h'' := h) (by omega) ?_ (by (repeat (first | exact Sub.nil | refine Sub.cons rfl ?_ | refine Sub.consE rfl (by simp; done) ?_))) Sb ⟨k + 1, ⟨by omega, hJ⟩, rfl, rfl, rfl⟩)
  (repeat (first | exact Sub.nil | refine Sub.cons rfl ?_ | refine Sub.consE rfl (by simp; done) ?_))
  replace c14 := of_decide_eq_false c14
  refine WC.exit (kp [] ?_)
  repeat first | refine sk fun K hK => ?_ | refine bk ?_ | refine rn fun _ => ?_
  refine xC ?_
  refine wn [4] ?_
  refine WC.ret (wR (h) ?_)
  exact ⟨by rw [hJ, List.drop_eq_nil_of_le (by omega), List.drop_eq_nil_of_le (by omega)]; rfl, rfl⟩
theorem vr_ct {m : View} {h : List Res} (x y : Vr) (hx : VOk m h x) (hy : VOk m h y) : CT Tryz.prog 197 [.agg (encV x).toArray, .agg (encV y).toArray] h m (Pure1 h (.bool (sameVr x y))) := by
  have r1 := hx.rd
  have r2 := hy.rd
  have hi := eqL_beq eqI_iff x.items y.items
  refine CT.body Tryz.call197 Tryz.func197 rfl Tryz.ntmps197 (leB rfl) rfl ?_
  repeat first | refine sk fun K hK => ?_ | refine bk ?_ | refine rn fun _ => ?_
  refine xX fun b2 => ?_
  refine xX fun b3 => ?_
  refine xC ?_
  refine wn [2, 3] ?_
  repeat first | refine sk fun K hK => ?_ | refine bk ?_ | refine rg fun ops hG => ?_
  refine xF Tryz.underlying102 ?_
  refine xG (pL Tryz.underlying9) ?_
  refine xF Tryz.underlying102 ?_
  refine xG (pL Tryz.underlying9) ?_
  refine xG (PO.eqlS Et Et) ?_
  refine xM ?_
  refine zG (fun _ => pF Tryz.underlying102) ?_
  refine zG (fun hc => PO.load1 Tryz.underlying100 rfl (Eg hc) Me rfl) ?_
  refine zG (fun _ => pF Tryz.underlying102) ?_
  refine zG (fun hc => PO.load1 Tryz.underlying100 rfl (Eg hc) Me rfl) ?_
  refine WL.callG (GU.t (hG _ _ rfl) rfl) (fun hc => ⟨Ev.func, (Evs.cons (Eg hc) (Evs.cons (Eg hc) Evs.nil)), equal198_ct _ _ _ _ _ _ _ _ _ _ Rr Rr⟩) (leB rfl) ?_
  refine xP ?_
  refine xA ?_
  refine wn [4] ?_
  try clear hG ops
  refine WC.ret (wR (h) ?_)
  exact ⟨by unfold sameVr; rw [← hi], rfl⟩
theorem eqfV_ct (q : FuncId) (pr : Vr → Vr → Bool) (s1 s2 : Option Addr) (n1 c1 n2 c2 : Nat) (xs ys : List Vr) (h : List Res) (m : View) (h1 : Rd m h s1 n1 c1 2 (fl encV xs)) (h2 : Rd m h s2 n2 c2 2 (fl encV ys))
    (hq : ∀ x ∈ xs, ∀ y ∈ ys, ∀ h', h.Sublist h' → CT Tryz.prog q ([] ++ [.agg (encV x).toArray, .agg (encV y).toArray] ++ []) h' m (Pure1 h' (.bool (pr x y)))) :
    CT Tryz.prog 200 [.slice s1 n1 c1, .slice s2 n2 c2, .func (.func q) #[] #[]] h m (Pure1 h (.bool (eqL pr xs ys))) := by
  have l1 := h1.lenF encV_len (by decide)
  have l2 := h2.lenF encV_len (by decide)
  have m1 := h1.mx
  have m2 := h2.mx
  have k1 := h1.le
  have k2 := h2.le
  refine CT.body Tryz.call200 Tryz.func200 rfl Tryz.ntmps200 (leB rfl) rfl ?_
  repeat first | refine sk fun K hK => ?_ | refine bk ?_ | refine rn fun _ => ?_
  refine xC ?_
  refine wn [0, 1, 2] ?_
  repeat first | refine sk fun K hK => ?_ | refine bk ?_ | refine rn fun _ => ?_
  refine xM ?_
  refine xG (PO.lenSl Tryz.underlying49 Et) ?_
  refine xM ?_
  refine xG (PO.lenSl Tryz.underlying49 Et) ?_
  refine xG (PO.bin Et Et rfl) ?_
  refine wn [0, 1, 2, 14] ?_
  repeat first | refine sk fun K hK => ?_ | refine bk ?_
  refine wc (fun c14 => ?_) fun c14 => ?_
  replace c14 := t_ne c14
  repeat first | refine sk fun K hK => ?_ | refine bk ?_ | refine rn fun _ => ?_
  refine xC ?_
  refine wn [6] ?_
  refine WC.ret (wR (h) ?_)
  exact ⟨by rw [eqL_len _ _ _ (by omega)], rfl⟩
  replace c14 := f_ne c14
  refine WC.skip (kp [0, 1, 2] ?_)
  repeat first | refine sk fun K hK => ?_ | refine bk ?_ | refine rn fun _ => ?_
  refine xM ?_
  refine xG (PO.lenSl Tryz.underlying49 Et) ?_
  refine xK ?_
  refine wn [1, 2, 15, 16, 17] ?_
  repeat first | refine sk fun K hK => ?_ | refine bk ?_
  refine WC.loopI [1, 2, 15, 16] rfl (fun μ F' h' => ∃ k : Nat, (k ≤ n1 ∧ eqL pr xs ys = eqL pr (xs.drop k) (ys.drop k)) ∧ n1 - k = μ ∧ F' = [(17, .int .i64 k)] ∧ h = h') (n1 - 0) [(17, .int .i64 0)] (h0 := h) ?_ Sb ⟨0, ⟨by omega, by simp⟩, rfl, rfl, rfl⟩ ?_
  (repeat (first | exact Sub.nil | refine Sub.cons rfl ?_ | refine Sub.consE rfl (by simp; done) ?_))
  rintro _ _ _ ⟨k, ⟨hk, hJ⟩, rfl, rfl, rfl⟩
  refine WC.frm rfl ?_
  repeat first | refine sk fun K hK => ?_ | refine bk ?_ | refine rn fun _ => ?_
  refine xG (PO.bin Et Et rfl) ?_
  refine wn [1, 2, 15, 16, 17, 18] ?_
  repeat first | refine sk fun K hK => ?_ | refine bk ?_
  refine wc (fun c18 => ?_) fun c18 => ?_
  replace c18 := of_decide_eq_true c18
  obtain ⟨x, hx⟩ := get_some (l := xs) (k := k) (by omega)
  obtain ⟨y, hy⟩ := get_some (l := ys) (k := k) (by omega)
  rw [eqL_drop _ hx hy] at hJ
  refine WC.skip (kp [1, 2, 15, 16, 17] ?_)
  repeat first | refine sk fun K hK => ?_ | refine bk ?_ | refine rn fun _ => ?_
  refine xM ?_
  refine xG (PO.idx EL49.und EL49.size EL49.posz (Ev.tmp rfl) (Ev.tmp rfl) Rr rfl (by omega)) ?_
  refine xG (PO.loadFA Tryz.underlying102 rfl rfl encV_len Rr (Ev.tmp rfl) (by assumption) rfl rfl (Nat.succ_pos _)) ?_
  refine xW fun b8 => ?_
  refine xA ?_
  refine xS ?_
  refine wn [1, 2, 7, 8, 15, 16, 17] ?_
  repeat first | refine sk fun K hK => ?_ | refine bk ?_ | refine rn fun _ => ?_
  refine xM ?_
  refine xM ?_
  refine xG (PO.idx EL49.und EL49.size EL49.posz (Ev.tmp rfl) (Ev.tmp rfl) Rr rfl (by omega)) ?_
  refine xG (PO.loadFA Tryz.underlying102 rfl rfl encV_len Rr (Ev.tmp rfl) (by assumption) rfl rfl (Nat.succ_pos _)) ?_
  refine xW fun b9 => ?_
  refine xS ?_
  refine wn [1, 2, 8, 9, 15, 16, 17] ?_
  repeat first | refine sk fun K hK => ?_ | refine bk ?_ | refine rn fun _ => ?_
  refine xM ?_
  refine xG (pA Tryz.underlying102) ?_
  refine xG (pA Tryz.underlying102) ?_
  refine WL.callP (Ev.tmp rfl) (Evs.cons (Ev.tmp rfl) (Evs.cons (Ev.tmp rfl) Evs.nil)) (hq x (List.mem_of_getElem? hx) y (List.mem_of_getElem? hy) _ Sb) (leB rfl) ?_
  refine xG (PO.not Et) ?_
  refine wn [1, 2, 15, 16, 17, 30] ?_
  repeat first | refine sk fun K hK => ?_ | refine bk ?_
  refine wc (fun c30 => ?_) fun c30 => ?_
  have d30 : pr x y = false := by simpa using c30
  rw [d30] at hJ
  repeat first | refine sk fun K hK => ?_ | refine bk ?_ | refine rn fun _ => ?_
  refine xC ?_
  refine wn [6] ?_
  refine WC.ret (wR (h) ?_)
  exact ⟨by rw [hJ]; rfl, rfl⟩
  have d30 : pr x y = true := by simpa using c30
  rw [d30, Bool.true_and] at hJ
  refine WC.skip (kp [1, 2, 15, 16, 17] ?_)
  repeat first | refine sk fun K hK => ?_ | refine bk ?_ | refine rn fun _ => ?_
  refine xG (PO.addI Et Ev.const (by omega)) ?_
  refine xM ?_
  refine WL.nil (loopBackI (n1 - (k + 1)) [(17, .int .i64 (k + 1))] (h'' := h) (by omega) ?_ (by (repeat (first | exact Sub.nil | refine Sub.cons rfl ?_ | refine Sub.consE rfl (by simp; done) ?_))) Sb ⟨k + 1, ⟨by omega, hJ⟩, rfl, rfl, rfl⟩)
  (repeat (first | exact Sub.nil | refine Sub.cons rfl ?_ | refine Sub.consE rfl (by simp; done) ?_))
  replace c18 := of_decide_eq_false c18
  refine WC.exit (kp [] ?_)
  repeat first | refine sk fun K hK => ?_ | refine bk ?_ | refine rn fun _ => ?_
  refine xC ?_
  refine wn [6] ?_
  refine WC.ret (wR (h) ?_)
  exact ⟨by rw [hJ, List.drop_eq_nil_of_le (by omega), List.drop_eq_nil_of_le (by omega)]; rfl, rfl⟩
theorem eqfP_ct (q : FuncId) (pr : Pr → Pr → Bool) (s1 s2 : Option Addr) (n1 c1 n2 c2 : Nat) (xs ys : List Pr) (h : List Res) (m : View) (h1 : Rd m h s1 n1 c1 42 (fl prE xs)) (h2 : Rd m h s2 n2 c2 42 (fl prE ys))
    (hq : ∀ x ∈ xs, ∀ y ∈ ys, ∀ h', h.Sublist h' → CT Tryz.prog q ([] ++ [prV x, prV y] ++ []) h' m (Pure1 h' (.bool (pr x y)))) :
    CT Tryz.prog 177 [.slice s1 n1 c1, .slice s2 n2 c2, .func (.func q) #[] #[]] h m (Pure1 h (.bool (eqL pr xs ys))) := by
  have l1 := h1.lenF prE_len (by decide)
  have l2 := h2.lenF prE_len (by decide)
  have m1 := h1.mx
  have m2 := h2.mx
  have k1 := h1.le
  have k2 := h2.le
  refine CT.body Tryz.call177 Tryz.func177 rfl Tryz.ntmps177 (leB rfl) rfl ?_
  repeat first | refine sk fun K hK => ?_ | refine bk ?_ | refine rn fun _ => ?_
  refine xC ?_
  refine wn [0, 1, 2] ?_
  repeat first | refine sk fun K hK => ?_ | refine bk ?_ | refine rn fun _ => ?_
  refine xM ?_
  refine xG (PO.lenSl Tryz.underlying45 Et) ?_
  refine xM ?_
  refine xG (PO.lenSl Tryz.underlying45 Et) ?_
  refine xG (PO.bin Et Et rfl) ?_
  refine wn [0, 1, 2, 14] ?_
  repeat first | refine sk fun K hK => ?_ | refine bk ?_
  refine wc (fun c14 => ?_) fun c14 => ?_
  replace c14 := t_ne c14
  repeat first | refine sk fun K hK => ?_ | refine bk ?_ | refine rn fun _ => ?_
  refine xC ?_
  refine wn [6] ?_
  refine WC.ret (wR (h) ?_)
  exact ⟨by rw [eqL_len _ _ _ (by omega)], rfl⟩
  replace c14 := f_ne c14
  refine WC.skip (kp [0, 1, 2] ?_)
  repeat first | refine sk fun K hK => ?_ | refine bk ?_ | refine rn fun _ => ?_
  refine xM ?_
  refine xG (PO.lenSl Tryz.underlying45 Et) ?_
  refine xK ?_
  refine wn [1, 2, 15, 16, 17] ?_
  repeat first | refine sk fun K hK => ?_ | refine bk ?_
  refine WC.loopI [1, 2, 15, 16] rfl (fun μ F' h' => ∃ k : Nat, (k ≤ n1 ∧ eqL pr xs ys = eqL pr (xs.drop k) (ys.drop k)) ∧ n1 - k = μ ∧ F' = [(17, .int .i64 k)] ∧ h = h') (n1 - 0) [(17, .int .i64 0)] (h0 := h) ?_ Sb ⟨0, ⟨by omega, by simp⟩, rfl, rfl, rfl⟩ ?_
  (repeat (first | exact Sub.nil | refine Sub.cons rfl ?_ | refine Sub.consE rfl (by simp; done) ?_))
  rintro _ _ _ ⟨k, ⟨hk, hJ⟩, rfl, rfl, rfl⟩
  refine WC.frm rfl ?_
  repeat first | refine sk fun K hK => ?_ | refine bk ?_ | refine rn fun _ => ?_
  refine xG (PO.bin Et Et rfl) ?_
  refine wn [1, 2, 15, 16, 17, 18] ?_
  repeat first | refine sk fun K hK => ?_ | refine bk ?_
  refine wc (fun c18 => ?_) fun c18 => ?_
  replace c18 := of_decide_eq_true c18
  obtain ⟨x, hx⟩ := get_some (l := xs) (k := k) (by omega)
  obtain ⟨y, hy⟩ := get_some (l := ys) (k := k) (by omega)
  rw [eqL_drop _ hx hy] at hJ
  refine WC.skip (kp [1, 2, 15, 16, 17] ?_)
  repeat first | refine sk fun K hK => ?_ | refine bk ?_ | refine rn fun _ => ?_
  refine xM ?_
  refine xG (PO.idx EL45.und EL45.size EL45.posz (Ev.tmp rfl) (Ev.tmp rfl) Rr rfl (by omega)) ?_
  refine xG (PO.loadFA Tryz.underlying56 rfl rfl prE_len Rr (Ev.tmp rfl) (by assumption) rfl rfl (Nat.succ_pos _)) ?_
  refine xW fun b8 => ?_
  refine xA ?_
  refine xS ?_
  refine wn [1, 2, 7, 8, 15, 16, 17] ?_
  repeat first | refine sk fun K hK => ?_ | refine bk ?_ | refine rn fun _ => ?_
  refine xM ?_
  refine xM ?_
  refine xG (PO.idx EL45.und EL45.size EL45.posz (Ev.tmp rfl) (Ev.tmp rfl) Rr rfl (by omega)) ?_
  refine xG (PO.loadFA Tryz.underlying56 rfl rfl prE_len Rr (Ev.tmp rfl) (by assumption) rfl rfl (Nat.succ_pos _)) ?_
  refine xW fun b9 => ?_
  refine xS ?_
  refine wn [1, 2, 8, 9, 15, 16, 17] ?_
  repeat first | refine sk fun K hK => ?_ | refine bk ?_ | refine rn fun _ => ?_
  refine xM ?_
  refine xG (pA Tryz.underlying56) ?_
  refine xG (pA Tryz.underlying56) ?_
  refine WL.callP (Ev.tmp rfl) (Evs.cons (Ev.tmp rfl) (Evs.cons (Ev.tmp rfl) Evs.nil)) (hq x (List.mem_of_getElem? hx) y (List.mem_of_getElem? hy) _ Sb) (leB rfl) ?_
  refine xG (PO.not Et) ?_
  refine wn [1, 2, 15, 16, 17, 30] ?_
  repeat first | refine sk fun K hK => ?_ | refine bk ?_
  refine wc (fun c30 => ?_) fun c30 => ?_
  have d30 : pr x y = false := by simpa using c30
  rw [d30] at hJ
  repeat first | refine sk fun K hK => ?_ | refine bk ?_ | refine rn fun _ => ?_
  refine xC ?_
  refine wn [6] ?_
  refine WC.ret (wR (h) ?_)
  exact ⟨by rw [hJ]; rfl, rfl⟩
  have d30 : pr x y = true := by simpa using c30
  rw [d30, Bool.true_and] at hJ
  refine WC.skip (kp [1, 2, 15, 16, 17] ?_)
  repeat first | refine sk fun K hK => ?_ | refine bk ?_ | refine rn fun _ => ?_
  refine xG (PO.addI Et Ev.const (by omega)) ?_
  refine xM ?_
  refine WL.nil (loopBackI (n1 - (k + 1)) [(17, .int .i64 (k + 1))] (h'' := h) (by omega) ?_ (by (repeat (first | exact Sub.nil | refine Sub.cons rfl ?_ | refine Sub.consE rfl (by simp; done) ?_))) Sb ⟨k + 1, ⟨by omega, hJ⟩, rfl, rfl, rfl⟩)
  (repeat (first | exact Sub.nil | refine Sub.cons rfl ?_ | refine Sub.consE rfl (by simp; done) ?_))
  replace c18 := of_decide_eq_false c18
  refine WC.exit (kp [] ?_)
  repeat first | refine sk fun K hK => ?_ | refine bk ?_ | refine rn fun _ => ?_
  refine xC ?_
  refine wn [6] ?_
  refine WC.ret (wR (h) ?_)
  exact ⟨by rw [hJ, List.drop_eq_nil_of_le (by omega), List.drop_eq_nil_of_le (by omega)]; rfl, rfl⟩
/-- What of a specification is read to compare it. -/
structure SRd (m : View) (h : List Res) (s : Sp) : Prop where
  b : Rd m h s.ba s.bl.length s.bc 42 (fl prE s.bl)
  nr : Rd m h s.names.a s.names.l.length s.names.c 1 (fl encB s.names.l)
  e : TOk m h s.e
  v : PrOk m h s.vs.a s.vs.l.length s.vs.c s.vs.l
  fr : Rd m h s.fs.a s.fs.l.length s.fs.c 6 (fl foE s.fs.l)
theorem SRd.mono {m : View} {h h' : List Res} {s : Sp} (q : SRd m h s) (r : h.Sublist h') : SRd m h' s := ⟨q.b.mono (View.le.refl m) r, q.nr.mono (View.le.refl m) r, q.e.mono r, q.v.mono (View.le.refl m) r, q.fr.mono (View.le.refl m) r⟩
theorem SRd.of {m : View} {h : List Res} {s : Sp} (q : SOk m h s) : SRd m h s := ⟨q.b, q.nr, q.e.t, q.v, q.fr⟩
set_option maxHeartbeats 1000000 in
theorem sameSF_ct {m : View} {h : List Res} (x y : Sp) (hx : SRd m h x) (hy : SRd m h y) : CT Tryz.prog 176 [spV x, spV y] h m (Pure1 h (.bool (sameSF x y))) := by
  have n1 := hx.nr
  have n2 := hy.nr
  have f1 := hx.fr
  have f2 := hy.fr
  have v1 := hx.v.rd
  have v2 := hy.v.rd
  refine CT.body Tryz.call176 Tryz.func176 rfl Tryz.ntmps176 (leB rfl) rfl ?_
  repeat first | refine sk fun K hK => ?_ | refine bk ?_ | refine rn fun _ => ?_
  refine xX fun b2 => ?_
  refine xX fun b3 => ?_
  refine xC ?_
  refine wn [2, 3] ?_
  repeat first | refine sk fun K hK => ?_ | refine bk ?_ | refine rn fun _ => ?_
  refine xG (PO.assign Ev.func) ?_
  refine wn [2, 3, 5] ?_
  repeat first | refine sk fun K hK => ?_ | refine bk ?_ | refine rg fun ops hG => ?_
  refine xF Tryz.underlying54 ?_
  refine xG (pL Tryz.underlying47) ?_
  refine xF Tryz.underlying54 ?_
  refine xG (pL Tryz.underlying47) ?_
  refine xG (PO.bin Et Et rfl) ?_
  refine xM ?_
  refine zG (fun _ => pF Tryz.underlying54) ?_
  refine zG (fun hc => PO.loadA Tryz.underlying30 rfl rfl (Eg hc) Me rfl) ?_
  refine zG (fun _ => pF Tryz.underlying54) ?_
  refine zG (fun hc => PO.loadA Tryz.underlying30 rfl rfl (Eg hc) Me rfl) ?_
  refine WL.poG (GU.t (hG _ _ rfl) rfl) (fun hc => PO.eqlA Tryz.underlying30 (by kernel_rfl) (by kernel_rfl) (Eg hc) (Eg hc) rfl) (leB rfl) ?_
  refine xP ?_
  refine xM ?_
  refine zG (fun _ => pF Tryz.underlying54) ?_
  refine zG (fun hc => PO.load1 Tryz.underlying48 rfl (Eg hc) Me rfl) ?_
  refine zG (fun _ => pF Tryz.underlying54) ?_
  refine zG (fun hc => PO.load1 Tryz.underlying48 rfl (Eg hc) Me rfl) ?_
  refine WL.callG (GU.t (hG _ _ rfl) rfl) (fun hc => ⟨Ev.func, (Evs.cons (Eg hc) (Evs.cons (Eg hc) Evs.nil)), CT.val (equal199_ct _ _ _ _ _ _ x.names.l y.names.l _ _ (n1.mono (View.le.refl _) Sb) (n2.mono (View.le.refl _) Sb)) (congrArg Value.bool (eqL_beq eqS_iff x.names.l y.names.l))⟩) (leB rfl) ?_
  refine xP ?_
  refine xM ?_
  refine zG (fun _ => pF Tryz.underlying54) ?_
  refine zG (fun hc => PO.loadA Tryz.underlying27 rfl rfl (Eg hc) Me rfl) ?_
  refine zG (fun _ => pF Tryz.underlying54) ?_
  refine zG (fun hc => PO.loadA Tryz.underlying27 rfl rfl (Eg hc) Me rfl) ?_
  refine WL.callG (GU.t (hG _ _ rfl) rfl) (fun hc => ⟨Ev.func, (Evs.cons (Eg hc) (Evs.cons (Eg hc) Evs.nil)), same_ct x.e y.e _ _ (hx.e.mono Sb) (hy.e.mono Sb)⟩) (leB rfl) ?_
  refine xP ?_
  refine xM ?_
  refine zG (fun _ => pF Tryz.underlying54) ?_
  refine zG (fun hc => PO.fieldAddr Tryz.underlying51 rfl (Nat.ne_of_beq_eq_false rfl) (Eg hc)) ?_
  refine zG (fun hc => PO.load1 Tryz.underlying4 rfl (Eg hc) Me rfl) ?_
  refine zG (fun _ => pF Tryz.underlying54) ?_
  refine zG (fun hc => PO.fieldAddr Tryz.underlying51 rfl (Nat.ne_of_beq_eq_false rfl) (Eg hc)) ?_
  refine zG (fun hc => PO.load1 Tryz.underlying4 rfl (Eg hc) Me rfl) ?_
  refine zG (fun hc => PO.eqlB Tryz.underlying4 (Eg hc) (Eg hc)) ?_
  refine xP ?_
  refine xM ?_
  refine zG (fun _ => pF Tryz.underlying54) ?_
  refine zG (fun hc => PO.fieldAddr Tryz.underlying51 rfl (Nat.ne_of_beq_eq_false rfl) (Eg hc)) ?_
  refine zG (fun hc => PO.load1 Tryz.underlying49 rfl (Eg hc) Me rfl) ?_
  refine zG (fun _ => pF Tryz.underlying54) ?_
  refine zG (fun hc => PO.fieldAddr Tryz.underlying51 rfl (Nat.ne_of_beq_eq_false rfl) (Eg hc)) ?_
  refine zG (fun hc => PO.load1 Tryz.underlying49 rfl (Eg hc) Me rfl) ?_
  refine zM ?_
  refine WL.callG (GU.t (hG _ _ rfl) rfl) (fun hc => ⟨Ev.func, (Evs.cons (Eg hc) (Evs.cons (Eg hc) (Evs.cons (Eg hc) Evs.nil))), eqfV_ct 197 sameVr _ _ _ _ _ _ x.vs.l y.vs.l _ _ (v1.mono (View.le.refl _) Sb) (v2.mono (View.le.refl _) Sb) (fun u hu w hw h' hh => vr_ct u w ((hx.v.ok u hu).mono (View.le.refl _) (List.Sublist.trans Sb hh)) ((hy.v.ok w hw).mono (View.le.refl _) (List.Sublist.trans Sb hh)))⟩) (leB rfl) ?_
  refine xP ?_
  refine xM ?_
  refine zG (fun _ => pF Tryz.underlying54) ?_
  refine zG (fun hc => PO.load1 Tryz.underlying52 rfl (Eg hc) Me rfl) ?_
  refine zG (fun _ => pF Tryz.underlying54) ?_
  refine zG (fun hc => PO.load1 Tryz.underlying52 rfl (Eg hc) Me rfl) ?_
  refine WL.callG (GU.t (hG _ _ rfl) rfl) (fun hc => ⟨Ev.func, (Evs.cons (Eg hc) (Evs.cons (Eg hc) Evs.nil)), equal201_ct _ _ _ _ _ _ _ _ _ _ Rr Rr⟩) (leB rfl) ?_
  refine xP ?_
  refine xM ?_
  refine zG (fun _ => pF Tryz.underlying54) ?_
  refine zG (fun hc => PO.load1 Tryz.underlying45 rfl (Eg hc) Me rfl) ?_
  refine zG (fun hc => PO.lenSl Tryz.underlying45 (Eg hc)) ?_
  refine zG (fun _ => pF Tryz.underlying54) ?_
  refine zG (fun hc => PO.load1 Tryz.underlying45 rfl (Eg hc) Me rfl) ?_
  refine zG (fun hc => PO.lenSl Tryz.underlying45 (Eg hc)) ?_
  refine zG (fun hc => PO.bin (Eg hc) (Eg hc) rfl) ?_
  refine xP ?_
  refine xA ?_
  refine wn [4] ?_
  try clear hG ops
  refine WC.ret (wR (h) ?_)
  exact ⟨rfl, rfl⟩
theorem srd_zero (m : View) (h : List Res) : SRd m h zeroS := ⟨Rd.nilF prE 42 m h, Rd.nilF encB 1 m h, tok_zero m h, ⟨Rd.nilF encV 2 m h, fun _ hv => (by cases hv), fun _ hv => (by cases hv)⟩, Rd.nilF foE 6 m h⟩
theorem sameZ_ct {m : View} {h : List Res} (x : Sp) (hx : SRd m h x) : CT Tryz.prog 134 [spV x, spV zeroS] h m (Pure1 h (.bool (sameSF x zeroS))) := by
  refine CT.body Tryz.call134 Tryz.func134 rfl Tryz.ntmps134 (leB rfl) rfl ?_
  repeat first | refine sk fun K hK => ?_ | refine bk ?_ | refine rn fun _ => ?_
  refine xX fun b2 => ?_
  refine xX fun b3 => ?_
  refine xC ?_
  refine wn [2, 3] ?_
  repeat first | refine sk fun K hK => ?_ | refine bk ?_ | refine rg fun ops hG => ?_
  refine xG (pA Tryz.underlying54) ?_
  refine xG (pA Tryz.underlying54) ?_
  refine xf (E2 Et Et) (sameSF_ct x zeroS (hx.mono Sb) (srd_zero _ _)) ?_
  refine xM ?_
  refine zG (fun _ => pF Tryz.underlying54) ?_
  refine zG (fun hc => PO.load1 Tryz.underlying45 rfl (Eg hc) Me rfl) ?_
  refine zG (fun _ => pF Tryz.underlying54) ?_
  refine zG (fun hc => PO.load1 Tryz.underlying45 rfl (Eg hc) Me rfl) ?_
  refine WL.callG (GU.t (hG _ _ rfl) rfl) (fun hc => ⟨Ev.func, (Evs.cons (Eg hc) (Evs.cons (Eg hc) (Evs.cons Ev.func Evs.nil))), CT.val (eqfP_ct 178 (fun _ _ => true) _ _ _ _ _ _ x.bl [] _ _ (hx.b.mono (View.le.refl _) Sb) (Rd.nilF prE 42 _ _) (fun _ _ y hy => by cases hy)) (congrArg Value.bool (by rw [ns_bl hc]))⟩) (leB rfl) ?_
  refine xP ?_
  refine xA ?_
  refine wn [4] ?_
  try clear hG ops
  refine WC.ret (wR (h) ?_)
  exact ⟨congrArg Value.bool (Bool.and_true _), rfl⟩
end Go.Proofs.YtdhmplmpbcnojaaGreatDoor
end
/- SyD -/
section
namespace Go.Proofs.YtdhmplmpbcnojaaGreatDoor
open Go.Eng Go.Pc Go
open Go.Xp hiding B nameT
open Go.Ty (Ty Vr eqT tyV cellT PrOk VOk prL encV encV_len encI encI_len eqI eqI_ne eqI_eq eqI_iff)
open Go.Lx (encB encB_len)
set_option maxRecDepth 100000
set_option maxHeartbeats 2000000 in
theorem spec_ct {m : View} {h : List Res} (hg : Glob m) (x : Sp) (hO : SOk m h x) : CT Tryz.prog 133 [spV x] h m (Pure1 h (.bool (spP x))) := by
  have hp2 : x.ty.proto.length ≤ 9223372036854775807 := Nat.le_trans hO.ty.p (by decide)
  have hnr := hO.nr
  have hfr := hO.fr
  have hsr := SRd.of hO
  have hET := hO.e.t
  have hEW := hO.e.w
  have zr : ∀ h', SRd m h' zeroS := fun h' => srd_zero m h'
  refine CT.body Tryz.call133 Tryz.func133 rfl Tryz.ntmps133 (leB rfl) rfl ?_
  repeat first | refine sk fun K hK => ?_ | refine bk ?_ | refine rn fun _ => ?_
  refine xX fun b1 => ?_
  refine xC ?_
  refine wn [1] ?_
  repeat first | refine sk fun K hK => ?_ | refine bk ?_ | refine rn fun _ => ?_
  refine xF Tryz.underlying54 ?_
  refine xG (pL Tryz.underlying47) ?_
  refine xF Tryz.underlying54 ?_
  refine xG (pL Tryz.underlying48) ?_
  refine xG (PO.build Tryz.underlying54 rfl rfl rfl (EvP.cons Et (EvP.cons Et EvP.nil)) rfl) ?_
  refine xW fun b3 => ?_
  refine xS ?_
  refine wn [1, 3] ?_
  repeat first | refine sk fun K hK => ?_ | refine bk ?_ | refine rn fun _ => ?_
  refine xG (PO.loadAV (vs := oneC) Tryz.underlying176 rfl rfl Ev.global rfl (fun j v hj => by rw [Nat.zero_add]; exact hg.sOne j v hj)) ?_
  refine xW fun b4 => ?_
  refine xS ?_
  refine xC ?_
  refine wn [1, 3, 4] ?_
  repeat first | refine sk fun K hK => ?_ | refine bk ?_ | refine rn fun _ => ?_
  refine xF Tryz.underlying54 ?_
  refine xG (pL Tryz.underlying47) ?_
  refine wn [1, 3, 4, 13] ?_
  (repeat refine WC.seqK fun K hK => ?_)
  refine WC.cutK (by assumption) [1, 3, 4] rfl (fun F' h' => ∃ w : Sp, ∃ fb : Bool, ∃ lo : Int, ∃ hi : Int, (((1 ≤ x.k ∧ x.k ≤ 5) ∧ w = wantS x ∧ SRd m h w) ∧ (fb = fineS x ∧ (lo = 1 ∧ hi = if x.k = 1 then 8 else 1))) ∧ F' = [(5, .bool fb)] ∧ .pt b4 (.cells [.int .i64 lo, .int .i64 hi].toArray 176 (0, 0)) :: .pt b3 (.cells (spE w).toArray 54 (0, 0)) :: .pt b1 (.cells (spE x).toArray 54 (0, 0)) :: h = h') ?_ ?_
  repeat first | refine sk fun K hK => ?_ | refine bk ?_ | refine rn fun _ => ?_
  refine xG (PO.bin Et Ev.const rfl) ?_
  refine xA ?_
  refine wn [1, 3, 4, 13, 14] ?_
  repeat first | refine sk fun K hK => ?_ | refine bk ?_
  refine wc (fun c14 => ?_) fun c14 => ?_
  replace c14 := t_eq c14
  repeat first | refine sk fun K hK => ?_ | refine bk ?_
  refine WC.take (r := .pt b4 _) De ?_
  refine WC.drawS [3] (.op 0 (.op 1 (.op 2 (.op 3 .nil)))) [4, 5] _ [_] mixed (fun _ _ _ _ _ h => h) [] (by kernel_rfl) ?_
  refine yG rfl (PO.loadAV (vs := someC) Tryz.underlying176 rfl rfl Ev.global rfl (fun j v hj => by rw [Nat.zero_add]; exact hg.sSome j v hj)) ?_
  refine yG rfl (pF Tryz.underlying54) ?_
  refine yG rfl (pA Tryz.underlying30) ?_
  refine SR.store rfl rfl rfl Et Et rfl rfl rfl rfl Up ?_
  refine SR.nil rfl rfl ?_
  refine xF Tryz.underlying54 ?_
  refine xS ?_
  refine wn [1, 3, 4] ?_
  repeat first | refine sk fun K hK => ?_ | refine bk ?_ | refine rn fun _ => ?_
  refine xF Tryz.underlying54 ?_
  refine xG (pA Tryz.underlying30) ?_
  refine xf (E1 Et) (Ty9.may_ct x.ty _ _ hg hp2) ?_
  refine xA ?_
  refine WL.nil (meetI [(5, .bool (Go.Ty.may x.ty))] (h'' := .pt b4 (.cells [.int .i64 1, .int .i64 8].toArray 176 (0, 0)) :: .pt b3 (.cells (spE (.mk x.k x.ty x.names zeroE false nilS nilS none 0 [])).toArray 54 (0, 0)) :: .pt b1 (.cells (spE x).toArray 54 (0, 0)) :: h) ?_ (by (repeat (first | exact Sub.nil | refine Sub.cons rfl ?_ | refine Sub.consE rfl (by simp; done) ?_))) Sb ⟨.mk x.k x.ty x.names zeroE false nilS nilS none 0 [], Go.Ty.may x.ty, 1, 8, ⟨⟨by omega, by unfold wantS; rw [if_pos c14], ⟨(zr h).b, hsr.nr, (zr h).e, (zr h).v, (zr h).fr⟩⟩, by unfold fineS; rw [if_pos c14], rfl, by rw [if_pos c14]⟩, rfl, rfl⟩)
  (repeat (first | exact Sub.nil | refine Sub.cons rfl ?_ | refine Sub.consE rfl (by simp; done) ?_))
  replace c14 := f_eq c14
  repeat first | refine sk fun K hK => ?_ | refine bk ?_ | refine rn fun _ => ?_
  refine xG (PO.bin Et Ev.const rfl) ?_
  refine xA ?_
  refine wn [1, 3, 4, 13, 23] ?_
  repeat first | refine sk fun K hK => ?_ | refine bk ?_
  refine wc (fun c23 => ?_) fun c23 => ?_
  replace c23 := t_eq c23
  repeat first | refine sk fun K hK => ?_ | refine bk ?_
  refine WC.take (r := .pt b3 _) De ?_
  refine WC.drawS [5] (.op 0 (.op 1 (.op 2 (.op 3 (.op 4 (.op 5 .nil)))))) [6, 7] _ [_] mixed (fun _ _ _ _ _ h => h) [] (by kernel_rfl) ?_
  refine yG rfl (pF Tryz.underlying54) ?_
  refine yG rfl (pA Tryz.underlying30) ?_
  refine yG rfl (pF Tryz.underlying54) ?_
  refine yG rfl (pA Tryz.underlying27) ?_
  refine yG rfl (pF Tryz.underlying54) ?_
  refine SR.store rfl rfl rfl Et Et rfl rfl rfl rfl Up ?_
  refine SR.nilP (H := _) rfl (List.Perm.swap _ _ _) ?_
  refine xF Tryz.underlying54 ?_
  refine xS ?_
  refine wn [1, 3, 4] ?_
  repeat first | refine sk fun K hK => ?_ | refine bk ?_ | refine rg fun ops hG => ?_
  refine xF Tryz.underlying54 ?_
  refine xG (pA Tryz.underlying30) ?_
  refine xf (E1 Et) (prim_ct0 x.ty _ _ hg hp2) ?_
  refine xM ?_
  refine zG (fun _ => pF Tryz.underlying54) ?_
  refine zG (fun hc => PO.loadA Tryz.underlying27 rfl rfl (Eg hc) Me rfl) ?_
  refine WL.callG (GU.t (hG _ _ rfl) rfl) (fun hc => ⟨Ev.func, (Evs.cons (Eg hc) Evs.nil), may_ct hg x.e _ (hET.mono Sb) hEW⟩) (leB rfl) ?_
  refine xP ?_
  refine xA ?_
  refine WL.nil (meetI [(5, .bool (primT x.ty && mayE x.e))] (h'' := .pt b4 (.cells [.int .i64 1, .int .i64 1].toArray 176 (0, 0)) :: .pt b3 (.cells (spE (.mk x.k x.ty x.names x.e false nilS nilS none 0 [])).toArray 54 (0, 0)) :: .pt b1 (.cells (spE x).toArray 54 (0, 0)) :: h) ?_ (by (repeat (first | exact Sub.nil | refine Sub.cons rfl ?_ | refine Sub.consE rfl (by simp; done) ?_))) Sb ⟨.mk x.k x.ty x.names x.e false nilS nilS none 0 [], primT x.ty && mayE x.e, 1, 1, ⟨⟨by omega, by unfold wantS; rw [if_neg c14, if_pos c23], ⟨(zr h).b, hsr.nr, hsr.e, (zr h).v, (zr h).fr⟩⟩, by unfold fineS; rw [if_neg c14, if_pos c23], rfl, by rw [if_neg c14]⟩, rfl, rfl⟩)
  (repeat (first | exact Sub.nil | refine Sub.cons rfl ?_ | refine Sub.consE rfl (by simp; done) ?_))
  replace c23 := f_eq c23
  repeat first | refine sk fun K hK => ?_ | refine bk ?_ | refine rn fun _ => ?_
  refine xG (PO.bin Et Ev.const rfl) ?_
  refine xA ?_
  refine wn [1, 3, 4, 13, 39] ?_
  repeat first | refine sk fun K hK => ?_ | refine bk ?_
  refine wc (fun c39 => ?_) fun c39 => ?_
  replace c39 := t_eq c39
  repeat first | refine sk fun K hK => ?_ | refine bk ?_
  refine WC.take (r := .pt b3 _) De ?_
  refine WC.drawS [5] (.op 0 (.op 1 (.op 2 (.op 3 (.op 4 (.op 5 .nil)))))) [6, 7] _ [_] mixed (fun _ _ _ _ _ h => h) [] (by kernel_rfl) ?_
  refine yG rfl (pF Tryz.underlying54) ?_
  refine yG rfl (pA Tryz.underlying30) ?_
  refine yG rfl (pF Tryz.underlying54) ?_
  refine yG rfl (pA Tryz.underlying27) ?_
  refine yG rfl (pF Tryz.underlying54) ?_
  refine SR.store rfl rfl rfl Et Et rfl rfl rfl rfl Up ?_
  refine SR.nilP (H := _) rfl (List.Perm.swap _ _ _) ?_
  refine xF Tryz.underlying54 ?_
  refine xS ?_
  refine wn [1, 3, 4] ?_
  repeat first | refine sk fun K hK => ?_ | refine bk ?_ | refine rg fun ops hG => ?_
  refine xF Tryz.underlying54 ?_
  refine xG (pA Tryz.underlying30) ?_
  refine xf (E1 Et) (prim_ct0 x.ty _ _ hg hp2) ?_
  refine xM ?_
  refine zG (fun _ => pF Tryz.underlying54) ?_
  refine zG (fun hc => PO.loadA Tryz.underlying27 rfl rfl (Eg hc) Me rfl) ?_
  refine WL.callG (GU.t (hG _ _ rfl) rfl) (fun hc => ⟨Ev.func, (Evs.cons (Eg hc) Evs.nil), elem_ct hg x.e (hO.e.mono Sb)⟩) (leB rfl) ?_
  refine xP ?_
  refine xA ?_
  refine WL.nil (meetI [(5, .bool (primT x.ty && elemE x.e))] (h'' := .pt b4 (.cells [.int .i64 1, .int .i64 1].toArray 176 (0, 0)) :: .pt b3 (.cells (spE (.mk x.k x.ty x.names x.e false nilS nilS none 0 [])).toArray 54 (0, 0)) :: .pt b1 (.cells (spE x).toArray 54 (0, 0)) :: h) ?_ (by (repeat (first | exact Sub.nil | refine Sub.cons rfl ?_ | refine Sub.consE rfl (by simp; done) ?_))) Sb ⟨.mk x.k x.ty x.names x.e false nilS nilS none 0 [], primT x.ty && elemE x.e, 1, 1, ⟨⟨by omega, by unfold wantS; rw [if_neg c14, if_neg c23, if_pos c39], ⟨(zr h).b, hsr.nr, hsr.e, (zr h).v, (zr h).fr⟩⟩, by unfold fineS; rw [if_neg c14, if_neg c23, if_pos c39], rfl, by rw [if_neg c14]⟩, rfl, rfl⟩)
  (repeat (first | exact Sub.nil | refine Sub.cons rfl ?_ | refine Sub.consE rfl (by simp; done) ?_))
  replace c39 := f_eq c39
  repeat first | refine sk fun K hK => ?_ | refine bk ?_ | refine rn fun _ => ?_
  refine xG (PO.bin Et Ev.const rfl) ?_
  refine xA ?_
  refine wn [1, 3, 4, 13, 55] ?_
  repeat first | refine sk fun K hK => ?_ | refine bk ?_
  refine wc (fun c55 => ?_) fun c55 => ?_
  replace c55 := t_eq c55
  repeat first | refine sk fun K hK => ?_ | refine bk ?_ | refine rn fun _ => ?_
  refine xF Tryz.underlying54 ?_
  refine xG (pA Tryz.underlying51) ?_
  refine xF Tryz.underlying54 ?_
  refine xS ?_
  refine wn [1, 3, 4] ?_
  repeat first | refine sk fun K hK => ?_ | refine bk ?_ | refine rn fun _ => ?_
  refine xF Tryz.underlying54 ?_
  refine xG (pA Tryz.underlying51) ?_
  refine xf (E1 Et) (Ty9.mayProto_ct x.cs x.vs.a x.vs.l.length x.vs.c x.vs.l _ _ hg (hO.v.mono (View.le.refl _) Sb)) ?_
  refine xA ?_
  refine WL.nil (meetI [(5, .bool (Go.Ty.mayPr x.cs x.vs.l))] (h'' := .pt b4 (.cells [.int .i64 1, .int .i64 1].toArray 176 (0, 0)) :: .pt b3 (.cells (spE (.mk x.k Go.Ty.zeroT x.names zeroE x.cs x.vs nilS none 0 [])).toArray 54 (0, 0)) :: .pt b1 (.cells (spE x).toArray 54 (0, 0)) :: h) ?_ (by (repeat (first | exact Sub.nil | refine Sub.cons rfl ?_ | refine Sub.consE rfl (by simp; done) ?_))) Sb ⟨.mk x.k Go.Ty.zeroT x.names zeroE x.cs x.vs nilS none 0 [], Go.Ty.mayPr x.cs x.vs.l, 1, 1, ⟨⟨by omega, by unfold wantS; rw [if_neg c14, if_neg c23, if_neg c39, if_pos c55], ⟨(zr h).b, hsr.nr, (zr h).e, hsr.v, (zr h).fr⟩⟩, by unfold fineS; rw [if_neg c14, if_neg c23, if_neg c39, if_pos c55], rfl, by rw [if_neg c14]⟩, rfl, rfl⟩)
  (repeat (first | exact Sub.nil | refine Sub.cons rfl ?_ | refine Sub.consE rfl (by simp; done) ?_))
  replace c55 := f_eq c55
  repeat first | refine sk fun K hK => ?_ | refine bk ?_ | refine rn fun _ => ?_
  refine xG (PO.bin Et Ev.const rfl) ?_
  refine xA ?_
  refine wn [1, 3, 4, 63] ?_
  repeat first | refine sk fun K hK => ?_ | refine bk ?_
  refine wc (fun c63 => ?_) fun c63 => ?_
  replace c63 := t_eq c63
  repeat first | refine sk fun K hK => ?_ | refine bk ?_
  refine WC.take (r := .pt b3 _) De ?_
  refine WC.drawS [5] (.op 0 (.op 1 (.op 2 (.op 3 (.op 4 (.op 5 .nil)))))) [6, 7] _ [_] mixed (fun _ _ _ _ _ h => h) [] (by kernel_rfl) ?_
  refine yG rfl (pF Tryz.underlying54) ?_
  refine yG rfl (pL Tryz.underlying52) ?_
  refine yG rfl (pF Tryz.underlying54) ?_
  refine yG rfl (pL Tryz.underlying45) ?_
  refine yG rfl (pF Tryz.underlying54) ?_
  refine SR.store rfl rfl rfl Et Et rfl rfl rfl rfl Up ?_
  refine SR.nilP (H := _) rfl (List.Perm.swap _ _ _) ?_
  refine xF Tryz.underlying54 ?_
  refine xS ?_
  refine wn [1, 3, 4] ?_
  repeat first | refine sk fun K hK => ?_ | refine bk ?_ | refine rg fun ops hG => ?_
  refine xF Tryz.underlying54 ?_
  refine xG (pL Tryz.underlying45) ?_
  refine xG (PO.lenSl Tryz.underlying45 Et) ?_
  refine xG (PO.bin Et Ev.const rfl) ?_
  refine xM ?_
  refine zG (fun _ => pF Tryz.underlying54) ?_
  refine zG (fun hc => PO.load1 Tryz.underlying52 rfl (Eg hc) Me rfl) ?_
  refine zG (fun _ => PO.build Tryz.underlying176 rfl rfl rfl (EvP.cons Ev.const (EvP.cons Ev.const EvP.nil)) rfl) ?_
  refine WL.callG (GU.t (hG _ _ rfl) rfl) (fun hc => ⟨Ev.func, (Evs.cons (Eg hc) (Evs.cons (Eg hc) (Evs.cons Ev.func Evs.nil))), eachFo_ct 174 [] foP 0 8 _ _ _ x.fs.l _ _ (fun f hf h' hh => foE_ct hg f (hO.fw f hf)) (hfr.mono (View.le.refl _) Sb)⟩) (leB rfl) ?_
  refine xP ?_
  refine xA ?_
  refine WL.nil (meetI [(5, .bool (((x.bl.length : Int) == 1) && each x.fs.l 0 8 foP))] (h'' := .pt b4 (.cells [.int .i64 1, .int .i64 1].toArray 176 (0, 0)) :: .pt b3 (.cells (spE (.mk x.k Go.Ty.zeroT x.names zeroE false nilS x.fs x.ba x.bc x.bl)).toArray 54 (0, 0)) :: .pt b1 (.cells (spE x).toArray 54 (0, 0)) :: h) ?_ (by (repeat (first | exact Sub.nil | refine Sub.cons rfl ?_ | refine Sub.consE rfl (by simp; done) ?_))) Sb ⟨.mk x.k Go.Ty.zeroT x.names zeroE false nilS x.fs x.ba x.bc x.bl, ((x.bl.length : Int) == 1) && each x.fs.l 0 8 foP, 1, 1, ⟨⟨by omega, by unfold wantS; rw [if_neg c14, if_neg c23, if_neg c39, if_neg c55], ⟨hsr.b, hsr.nr, (zr h).e, (zr h).v, hsr.fr⟩⟩, by unfold fineS; rw [if_neg c14, if_neg c23, if_neg c39, if_neg c55], rfl, by rw [if_neg c14]⟩, rfl, rfl⟩)
  (repeat (first | exact Sub.nil | refine Sub.cons rfl ?_ | refine Sub.consE rfl (by simp; done) ?_))
  replace c63 := f_eq c63
  repeat first | refine sk fun K hK => ?_ | refine bk ?_ | refine rn fun _ => ?_
  refine xC ?_
  refine wn [2] ?_
  refine WC.ret (wR (h) ?_)
  exact ⟨by unfold spP; rw [if_neg (by omega)], rfl⟩
  rintro _ _ ⟨w, fb, lo, hi, ⟨⟨hkk, hw, hwr⟩, hfb, hlo, hhi⟩, rfl, rfl⟩
  refine WC.frm rfl ?_
  subst hlo
  repeat first | refine sk fun K hK => ?_ | refine bk ?_ | refine rg fun ops hG => ?_
  refine xM ?_
  refine xM ?_
  refine zG (fun _ => pF Tryz.underlying54) ?_
  refine zG (fun hc => PO.load1 Tryz.underlying48 rfl (Eg hc) Me rfl) ?_
  refine zG (fun _ => pA Tryz.underlying176) ?_
  refine WL.callG (GU.t (hG _ _ rfl) rfl) (fun hc => ⟨Ev.func, (Evs.cons (Eg hc) (Evs.cons (Eg hc) (Evs.cons Ev.func Evs.nil))), eachSs_ct 65 [] Go.Lx.name 1 hi _ _ _ x.names.l _ _ (fun s hs h' hh => name_ct s _ _ hg (Nat.le_trans (hO.nw s hs) (by decide))) (hnr.mono (View.le.refl _) Sb)⟩) (leB rfl) ?_
  refine xP ?_
  refine xM ?_
  refine zG (fun _ => pA Tryz.underlying54) ?_
  refine zG (fun _ => pA Tryz.underlying54) ?_
  refine WL.callG (GU.t (hG _ _ rfl) rfl) (fun hc => ⟨Ev.func, (Evs.cons (Eg hc) (Evs.cons (Eg hc) Evs.nil)), sameSF_ct x w (hsr.mono Sb) (hwr.mono Sb)⟩) (leB rfl) ?_
  refine xP ?_
  refine xA ?_
  refine wn [2] ?_
  try clear hG ops
  refine WC.ret (wR (h) ?_)
  exact ⟨by unfold spP; rw [if_pos hkk, ← hfb, ← hw, ← hhi], rfl⟩
theorem plain1_ct {m : View} {h : List Res} (hg : Glob m) (b3 : Nat) (u : Us) (x : Gu) (hb : Res.pt b3 (.cells (usE u).toArray 178 (0, 0)) ∈ h) (hO : GOk m h x) : CT Tryz.prog 123 [guV x, .pointer (some ⟨b3, 0, none⟩)] h m (Pure1 h (.bool (inG u x))) := by
  refine CT.body Tryz.call123 Tryz.func123 rfl Tryz.ntmps123 (leB rfl) rfl ?_
  repeat first | refine sk fun K hK => ?_ | refine bk ?_ | refine rn fun _ => ?_
  refine xX fun b2 => ?_
  refine xC ?_
  refine wn [1, 2] ?_
  repeat first | refine sk fun K hK => ?_ | refine bk ?_ | refine rg fun ops hG => ?_
  refine xF Tryz.underlying70 ?_
  refine xG (pL Tryz.underlying68) ?_
  refine xF Tryz.underlying178 ?_
  refine xG (PO.load1 Tryz.underlying68 rfl Et (List.Mem.tail _ hb) rfl) ?_
  refine xG (PO.bin Et Et rfl) ?_
  refine xM ?_
  refine zG (fun _ => pF Tryz.underlying70) ?_
  refine zG (fun hc => PO.load1 Tryz.underlying68 rfl (Eg hc) Me rfl) ?_
  refine zG (fun _ => pF Tryz.underlying178) ?_
  refine zG (fun hc => PO.load1 Tryz.underlying68 rfl (Eg hc) (List.Mem.tail _ hb) rfl) ?_
  refine zG (fun hc => PO.bin (Eg hc) (Eg hc) rfl) ?_
  refine xP ?_
  refine xM ?_
  refine zG (fun _ => pA Tryz.underlying70) ?_
  refine WL.callG (GU.t (hG _ _ rfl) rfl) (fun hc => ⟨Ev.func, (Evs.cons (Eg hc) Evs.nil), guard_ct0 hg x (hO.mono Sb)⟩) (leB rfl) ?_
  refine xP ?_
  refine xA ?_
  refine wn [3] ?_
  try clear hG ops
  refine WC.ret (wR (h) ?_)
  exact ⟨rfl, rfl⟩
theorem plain2_ct {m : View} {h : List Res} (n : Int) : CT Tryz.prog 132 [.int .i64 n] h m (Pure1 h (.bool (decide (n ≥ 0) && decide (n < 8)))) := by
  refine CT.body Tryz.call132 Tryz.func132 rfl Tryz.ntmps132 (leB rfl) rfl ?_
  repeat first | refine sk fun K hK => ?_ | refine bk ?_ | refine rn fun _ => ?_
  refine xC ?_
  refine wn [0] ?_
  repeat first | refine sk fun K hK => ?_ | refine bk ?_ | refine rg fun ops hG => ?_
  refine xM ?_
  refine xG (PO.bin Et Ev.const rfl) ?_
  refine xM ?_
  refine zM ?_
  refine zG (fun hc => PO.bin (Eg hc) Ev.const rfl) ?_
  refine xP ?_
  refine xA ?_
  refine wn [2] ?_
  try clear hG ops
  refine WC.ret (wR (h) ?_)
  exact ⟨rfl, rfl⟩
set_option maxHeartbeats 4000000 in
theorem plain_ct {m : View} {h : List Res} (hg : Glob m) (p : Pr) (hO : P1 m h p) : CT Tryz.prog 81 [prV p] h m (Pure1 h (.bool (plainP p))) := by
  have hn2 : p.name.length ≤ 9223372036854775807 := Nat.le_trans hO.n (by decide)
  have htg := hO.tg.rd
  have hex := hO.ex.rd
  have hgr := hO.g
  have hpn := hO.pn
  have hsr := SRd.of hO.sp
  refine CT.body Tryz.call81 Tryz.func81 rfl Tryz.ntmps81 (leB rfl) rfl ?_
  repeat first | refine sk fun K hK => ?_ | refine bk ?_ | refine rn fun _ => ?_
  refine xX fun b1 => ?_
  refine xC ?_
  refine wn [1] ?_
  repeat first | refine sk fun K hK => ?_ | refine bk ?_ | refine rn fun _ => ?_
  refine xF Tryz.underlying56 ?_
  refine xG (pL Tryz.underlying41) ?_
  refine xf (E1 Et) (fields_ct hg p.k) ?_
  refine xM ?_
  refine xE ?_
  refine xE ?_
  refine xW fun b3 => ?_
  refine xS ?_
  refine xA ?_
  refine wn [1, 3, 4] ?_
  repeat first | refine sk fun K hK => ?_ | refine bk ?_ | refine rg fun ops hG => ?_
  refine xM ?_
  refine xG (PO.not Et) ?_
  refine xM ?_
  refine zG (fun _ => pF Tryz.underlying56) ?_
  refine zG (fun hc => PO.loadA Tryz.underlying43 rfl rfl (Eg hc) Me rfl) ?_
  refine WL.callG (GU.f (hG _ _ rfl) rfl) (fun hc => ⟨Ev.func, (Evs.cons (Eg hc) Evs.nil), rep_ct hg p.rep hO.rn (hO.rb.mono Sb) (hO.rc.mono Sb)⟩) (leB rfl) ?_
  refine zG (fun hc => PO.not (Eg hc)) ?_
  refine xQ ?_
  refine wn [1, 3, 20] ?_
  try clear hG ops
  repeat first | refine sk fun K hK => ?_ | refine bk ?_
  refine wc (fun c20 => ?_) fun c20 => ?_
  have hR : plainP p = false := by unfold plainP; rw [if_pos (show (!(fieldsP p.k).2 || !repP p.rep) = true from c20)]
  repeat first | refine sk fun K hK => ?_ | refine bk ?_ | refine rn fun _ => ?_
  refine xC ?_
  refine wn [2] ?_
  refine WC.ret (wR (h) ?_)
  exact ⟨by rw [hR], rfl⟩
  have hR : plainP p = if p.rep.name != [] then (if !(fieldsP p.k).1.rep then false else plainU p (repU (fieldsP p.k).1)) else plainU p (fieldsP p.k).1 := by
    unfold plainP
    rw [if_neg (by rw [show (!(fieldsP p.k).2 || !repP p.rep) = false from c20]; decide)]
  refine WC.skip (kp [1, 3] ?_)
  repeat first | refine sk fun K hK => ?_ | refine bk ?_ | refine rn fun _ => ?_
  refine xF Tryz.underlying56 ?_
  refine xF Tryz.underlying43 ?_
  refine xG (pL Tryz.underlying9) ?_
  refine xG (PO.neqS Et Ev.const) ?_
  refine wn [1, 3, 24] ?_
  (repeat refine WC.seqK fun K hK => ?_)
  refine WC.cutK (by assumption) [1, 3] rfl (fun F' h' => ∃ u : Us, (plainP p = plainU p u) ∧ F' = [] ∧ .pt b3 (.cells (usE u).toArray 178 (0, 0)) :: .pt b1 (.cells (prE p).toArray 56 (0, 0)) :: h = h') ?_ ?_
  repeat first | refine sk fun K hK => ?_ | refine bk ?_
  refine wc (fun c24 => ?_) fun c24 => ?_
  rw [if_pos (show (p.rep.name != []) = true from c24)] at hR
  repeat first | refine sk fun K hK => ?_ | refine bk ?_ | refine rn fun _ => ?_
  refine xF Tryz.underlying178 ?_
  refine xG (pL Tryz.underlying4) ?_
  refine xG (PO.not Et) ?_
  refine wn [1, 3, 27] ?_
  repeat first | refine sk fun K hK => ?_ | refine bk ?_
  refine wc (fun c27 => ?_) fun c27 => ?_
  rw [if_pos (show (!(fieldsP p.k).1.rep) = true from c27)] at hR
  repeat first | refine sk fun K hK => ?_ | refine bk ?_ | refine rn fun _ => ?_
  refine xC ?_
  refine wn [2] ?_
  refine WC.ret (wR (h) ?_)
  exact ⟨by rw [hR], rfl⟩
  rw [if_neg (by rw [show (!(fieldsP p.k).1.rep) = false from c27]; decide)] at hR
  refine WC.skip (kp [1, 3] ?_)
  repeat first | refine sk fun K hK => ?_ | refine bk ?_ | refine rn fun _ => ?_
  refine xF Tryz.underlying178 ?_
  refine xG (pA Tryz.underlying176) ?_
  refine xG (PO.loadAV (vs := allC) Tryz.underlying176 rfl rfl Ev.global rfl (fun j v hj => by rw [Nat.zero_add]; exact hg.sAll j v hj)) ?_
  refine xG (PO.eqlA Tryz.underlying176 (by kernel_rfl) (by kernel_rfl) Et Et rfl) ?_
  refine wn [1, 3, 31] ?_
  repeat first | refine sk fun K hK => ?_ | refine bk ?_
  refine wc (fun c31 => ?_) fun c31 => ?_
  have hA : allU (fieldsP p.k).1 = true := by unfold allU; simpa using c31
  have hR : plainP p = plainU p { (fieldsP p.k).1 with p0 := 1, p1 := 1 } := by rw [hR]; unfold repU; rw [if_pos hA]
  repeat first | refine sk fun K hK => ?_ | refine bk ?_ | refine rn fun _ => ?_
  refine xG (PO.loadAV (vs := oneC) Tryz.underlying176 rfl rfl Ev.global rfl (fun j v hj => by rw [Nat.zero_add]; exact hg.sOne j v hj)) ?_
  refine xF Tryz.underlying178 ?_
  refine xS ?_
  refine WL.nil (meetI [] (h'' := .pt b3 (.cells (usE ({ (fieldsP p.k).1 with p0 := 1, p1 := 1 })).toArray 178 (0, 0)) :: .pt b1 (.cells (prE p).toArray 56 (0, 0)) :: h) ?_ (by (repeat (first | exact Sub.nil | refine Sub.cons rfl ?_ | refine Sub.consE rfl (by simp; done) ?_))) Sb ⟨{ (fieldsP p.k).1 with p0 := 1, p1 := 1 }, hR, rfl, rfl⟩)
  (repeat (first | exact Sub.nil | refine Sub.cons rfl ?_ | refine Sub.consE rfl (by simp; done) ?_))
  have hA : ¬ allU (fieldsP p.k).1 = true := by unfold allU; simpa using c31
  have hR : plainP p = plainU p { (fieldsP p.k).1 with g0 := 1, g1 := 1 } := by rw [hR]; unfold repU; rw [if_neg hA]
  repeat first | refine sk fun K hK => ?_ | refine bk ?_ | refine rn fun _ => ?_
  refine xG (PO.loadAV (vs := oneC) Tryz.underlying176 rfl rfl Ev.global rfl (fun j v hj => by rw [Nat.zero_add]; exact hg.sOne j v hj)) ?_
  refine xF Tryz.underlying178 ?_
  refine xS ?_
  refine WL.nil (meetI [] (h'' := .pt b3 (.cells (usE ({ (fieldsP p.k).1 with g0 := 1, g1 := 1 })).toArray 178 (0, 0)) :: .pt b1 (.cells (prE p).toArray 56 (0, 0)) :: h) ?_ (by (repeat (first | exact Sub.nil | refine Sub.cons rfl ?_ | refine Sub.consE rfl (by simp; done) ?_))) Sb ⟨{ (fieldsP p.k).1 with g0 := 1, g1 := 1 }, hR, rfl, rfl⟩)
  (repeat (first | exact Sub.nil | refine Sub.cons rfl ?_ | refine Sub.consE rfl (by simp; done) ?_))
  rw [if_neg (by rw [show (p.rep.name != []) = false from c24]; decide)] at hR
  refine WC.skip (meetI [] (h'' := .pt b3 (.cells (usE ((fieldsP p.k).1)).toArray 178 (0, 0)) :: .pt b1 (.cells (prE p).toArray 56 (0, 0)) :: h) ?_ (by (repeat (first | exact Sub.nil | refine Sub.cons rfl ?_ | refine Sub.consE rfl (by simp; done) ?_))) Sb ⟨(fieldsP p.k).1, hR, rfl, rfl⟩)
  (repeat (first | exact Sub.nil | refine Sub.cons rfl ?_ | refine Sub.consE rfl (by simp; done) ?_))
  rintro _ _ ⟨u, hu, rfl, rfl⟩
  refine WC.frm rfl ?_
  repeat first | refine sk fun K hK => ?_ | refine bk ?_ | refine rn fun _ => ?_
  refine xG (PO.build Tryz.underlying176 rfl rfl rfl EvP.nil rfl) ?_
  refine xW fun b5 => ?_
  refine xS ?_
  refine wn [1, 3, 5] ?_
  repeat first | refine sk fun K hK => ?_ | refine bk ?_ | refine rn fun _ => ?_
  refine xF Tryz.underlying178 ?_
  refine xG (pL Tryz.underlying4) ?_
  refine wn [1, 3, 5, 38] ?_
  (repeat refine WC.seqK fun K hK => ?_)
  refine WC.cutK (by assumption) [1, 3, 5] rfl (fun F' h' => ∃ lo : Int, ∃ hi : Int, (lo = (if u.procs then (p.ll.length : Int) else 0) ∧ hi = (if u.procs then (p.ll.length : Int) else 0)) ∧ F' = [] ∧ .pt b5 (.cells [.int .i64 lo, .int .i64 hi].toArray 176 (0, 0)) :: .pt b3 (.cells (usE u).toArray 178 (0, 0)) :: .pt b1 (.cells (prE p).toArray 56 (0, 0)) :: h = h') ?_ ?_
  repeat first | refine sk fun K hK => ?_ | refine bk ?_
  refine wc (fun c38 => ?_) fun c38 => ?_
  repeat first | refine sk fun K hK => ?_ | refine bk ?_ | refine rn fun _ => ?_
  refine xF Tryz.underlying56 ?_
  refine xG (pL Tryz.underlying45) ?_
  refine xG (PO.lenSl Tryz.underlying45 Et) ?_
  refine xF Tryz.underlying56 ?_
  refine xG (pL Tryz.underlying45) ?_
  refine xG (PO.lenSl Tryz.underlying45 Et) ?_
  refine xG (PO.build Tryz.underlying176 rfl rfl rfl (EvP.cons Et (EvP.cons Et EvP.nil)) rfl) ?_
  refine xS ?_
  refine WL.nil (meetI [] (h'' := .pt b5 (.cells [.int .i64 ((p.ll.length : Int)), .int .i64 ((p.ll.length : Int))].toArray 176 (0, 0)) :: .pt b3 (.cells (usE u).toArray 178 (0, 0)) :: .pt b1 (.cells (prE p).toArray 56 (0, 0)) :: h) ?_ (by (repeat (first | exact Sub.nil | refine Sub.cons rfl ?_ | refine Sub.consE rfl (by simp; done) ?_))) Sb ⟨(p.ll.length : Int), (p.ll.length : Int), ⟨by rw [if_pos c38], by rw [if_pos c38]⟩, rfl, rfl⟩)
  (repeat (first | exact Sub.nil | refine Sub.cons rfl ?_ | refine Sub.consE rfl (by simp; done) ?_))
  refine WC.skip (meetI [] (h'' := .pt b5 (.cells [.int .i64 0, .int .i64 0].toArray 176 (0, 0)) :: .pt b3 (.cells (usE u).toArray 178 (0, 0)) :: .pt b1 (.cells (prE p).toArray 56 (0, 0)) :: h) ?_ (by (repeat (first | exact Sub.nil | refine Sub.cons rfl ?_ | refine Sub.consE rfl (by simp; done) ?_))) Sb ⟨0, 0, ⟨by rw [if_neg (by rw [c38]; decide)], by rw [if_neg (by rw [c38]; decide)]⟩, rfl, rfl⟩)
  (repeat (first | exact Sub.nil | refine Sub.cons rfl ?_ | refine Sub.consE rfl (by simp; done) ?_))
  rintro _ _ ⟨lo, hi, ⟨hlo, hhi⟩, rfl, rfl⟩
  refine WC.frm rfl ?_
  repeat first | refine sk fun K hK => ?_ | refine bk ?_ | refine rn fun _ => ?_
  refine xG (PO.makeFunc Evs.nil (Evs.cons Et Evs.nil)) ?_
  refine xA ?_
  refine wn [1, 3, 5, 6] ?_
  repeat first | refine sk fun K hK => ?_ | refine bk ?_
  refine WC.drawS [5, 12, 19, 23, 30, 33, 34, 41, 48, 54, 62] (.op 0 (.op 1 (.op 2 (.op 3 (.op 4 (.op 5 (.op 6 (.op 7 (.op 8 (.op 9 (.op 10 (.op 11 (.op 12 (.op 13 (.op 14 (.op 15 (.op 16 (.op 17 (.op 18 (.op 20 (.op 21 (.op 22 (.op 19 (.op 23 (.op 24 (.op 25 (.op 26 (.op 27 (.op 28 (.op 29 (.op 31 (.op 32 (.op 30 (.op 33 (.op 34 (.op 35 (.op 36 (.op 37 (.op 38 (.op 39 (.op 40 (.op 41 (.op 42 (.op 43 (.op 44 (.op 45 (.op 46 (.op 47 (.op 48 (.op 49 (.op 50 (.op 51 (.op 52 (.op 53 (.op 54 (.op 55 (.op 56 (.op 57 (.op 58 (.op 59 (.op 60 (.op 61 (.op 62 (.op 63 (.op 64 (.op 65 (.op 66 (.op 67 (.op 68 (.op 69 (.op 70 (.op 71 .nil)))))))))))))))))))))))))))))))))))))))))))))))))))))))))))))))))))))))) [72, 73, 74, 75, 76] _ [] mixed (fun _ _ _ _ _ h => h) [] (by kernel_rfl) ?_
  refine yG rfl (pF Tryz.underlying178) ?_
  refine yG rfl (pA Tryz.underlying176) ?_
  refine yG rfl (pF Tryz.underlying56) ?_
  refine yG rfl (pL Tryz.underlying45) ?_
  refine yG rfl (PO.lenSl Tryz.underlying45 Et) ?_
  refine yf rfl (E2 Et Et) (fun fr => has_ct u.p0 u.p1 p.ll.length _ _) ?_
  refine yG rfl (PO.move Et) ?_
  refine SR.poG rfl rfl (GU.t rfl rfl) (fun hc => PO.fieldAddr Tryz.underlying56 rfl (Nat.ne_of_beq_eq_false rfl) Et) (leB rfl) ?_
  refine SR.poG rfl rfl (GU.t rfl rfl) (fun hc => PO.load1 Tryz.underlying44 rfl (Eg hc) Me rfl) (leB rfl) ?_
  refine SR.poG rfl rfl (GU.t rfl rfl) (fun hc => PO.fieldAddr Tryz.underlying178 rfl (Nat.ne_of_beq_eq_false rfl) Et) (leB rfl) ?_
  refine SR.poG rfl rfl (GU.t rfl rfl) (fun hc => PO.loadA Tryz.underlying176 rfl rfl (Eg hc) Me rfl) (leB rfl) ?_
  refine SR.poG rfl rfl (GU.t rfl rfl) (fun hc => PO.move Et) (leB rfl) ?_
  refine SR.callG rfl rfl (GU.t rfl rfl) (fun hc => ⟨Ev.func, (Evs.cons (Eg hc) (Evs.cons (Eg hc) (Evs.cons (Eg hc) Evs.nil))), fun fr => eachGu_ct 123 [.pointer (some ⟨b3, 0, none⟩)] (inG u) u.g0 u.g1 _ _ _ p.gl _ _ (fun x hx h' hh => plain1_ct hg b3 u x (hh.subset (List.mem_append_right _ Me)) ((hO.gs x hx).mono (List.Sublist.trans Sb hh))) (hgr.mono (View.le.refl _) Sb)⟩) (leB rfl) ?_
  refine yG rfl (PO.pickAnd rfl rfl) ?_
  refine yG rfl (PO.move Et) ?_
  refine SR.poG rfl rfl (GU.t rfl rfl) (fun hc => PO.fieldAddr Tryz.underlying178 rfl (Nat.ne_of_beq_eq_false rfl) Et) (leB rfl) ?_
  refine SR.poG rfl rfl (GU.t rfl rfl) (fun hc => PO.load1 Tryz.underlying4 rfl (Eg hc) Me rfl) (leB rfl) ?_
  refine SR.poG rfl rfl (GU.t rfl rfl) (fun hc => PO.fieldAddr Tryz.underlying56 rfl (Nat.ne_of_beq_eq_false rfl) Et) (leB rfl) ?_
  refine SR.poG rfl rfl (GU.t rfl rfl) (fun hc => PO.load1 Tryz.underlying9 rfl (Eg hc) Me rfl) (leB rfl) ?_
  refine SR.poG rfl rfl (GU.t rfl rfl) (fun hc => PO.fieldAddr Tryz.underlying56 rfl (Nat.ne_of_beq_eq_false rfl) Et) (leB rfl) ?_
  refine SR.poG rfl rfl (GU.t rfl rfl) (fun hc => PO.load1 Tryz.underlying9 rfl (Eg hc) Me rfl) (leB rfl) ?_
  refine SR.poG rfl rfl (GU.t rfl rfl) (fun hc => PO.eqlS (Eg hc) Ev.const) (leB rfl) ?_
  refine SR.callG rfl rfl (GU.t rfl rfl) (fun hc => ⟨Ev.func, (Evs.cons (Eg hc) Evs.nil), fun fr => name_ct p.name _ _ hg hn2⟩) (leB rfl) ?_
  refine SR.callG rfl rfl (GU.t rfl rfl) (fun hc => ⟨Ev.func, (Evs.cons (Eg hc) (Evs.cons (Eg hc) (Evs.cons (Eg hc) Evs.nil))), fun fr => either_ct _ _ _ _ _⟩) (leB rfl) ?_
  refine yG rfl (PO.pickAnd rfl rfl) ?_
  refine yG rfl (PO.move Et) ?_
  refine SR.poG rfl rfl (GU.t rfl rfl) (fun hc => PO.fieldAddr Tryz.underlying178 rfl (Nat.ne_of_beq_eq_false rfl) Et) (leB rfl) ?_
  refine SR.poG rfl rfl (GU.t rfl rfl) (fun hc => PO.load1 Tryz.underlying4 rfl (Eg hc) Me rfl) (leB rfl) ?_
  refine SR.poG rfl rfl (GU.t rfl rfl) (fun hc => PO.fieldAddr Tryz.underlying56 rfl (Nat.ne_of_beq_eq_false rfl) Et) (leB rfl) ?_
  refine SR.poG rfl rfl (GU.t rfl rfl) (fun hc => PO.loadA Tryz.underlying27 rfl rfl (Eg hc) Me rfl) (leB rfl) ?_
  refine SR.poG rfl rfl (GU.t rfl rfl) (fun hc => PO.fieldAddr Tryz.underlying56 rfl (Nat.ne_of_beq_eq_false rfl) Et) (leB rfl) ?_
  refine SR.poG rfl rfl (GU.t rfl rfl) (fun hc => PO.loadA Tryz.underlying27 rfl rfl (Eg hc) Me rfl) (leB rfl) ?_
  refine SR.callG rfl rfl (GU.t rfl rfl) (fun hc => ⟨Ev.func, (Evs.cons (Eg hc) Evs.nil), fun fr => elem_ct hg p.ch (hO.ch.mono Sb)⟩) (leB rfl) ?_
  refine SR.callG rfl rfl (GU.t rfl rfl) (fun hc => ⟨Ev.func, (Evs.cons (Eg hc) Evs.nil), fun fr => none_ct p.ch (hO.ch.t.mono Sb)⟩) (leB rfl) ?_
  refine SR.callG rfl rfl (GU.t rfl rfl) (fun hc => ⟨Ev.func, (Evs.cons (Eg hc) (Evs.cons (Eg hc) (Evs.cons (Eg hc) Evs.nil))), fun fr => either_ct _ _ _ _ _⟩) (leB rfl) ?_
  refine yG rfl (PO.pickAnd rfl rfl) ?_
  refine yG rfl (PO.move Et) ?_
  refine SR.poG rfl rfl (GU.t rfl rfl) (fun hc => PO.fieldAddr Tryz.underlying56 rfl (Nat.ne_of_beq_eq_false rfl) Et) (leB rfl) ?_
  refine SR.poG rfl rfl (GU.t rfl rfl) (fun hc => PO.load1 Tryz.underlying25 rfl (Eg hc) Me rfl) (leB rfl) ?_
  refine SR.poG rfl rfl (GU.t rfl rfl) (fun hc => PO.fieldAddr Tryz.underlying178 rfl (Nat.ne_of_beq_eq_false rfl) Et) (leB rfl) ?_
  refine SR.poG rfl rfl (GU.t rfl rfl) (fun hc => PO.loadA Tryz.underlying176 rfl rfl (Eg hc) Me rfl) (leB rfl) ?_
  refine SR.callG rfl rfl (GU.t rfl rfl) (fun hc => ⟨Ev.func, (Evs.cons (Eg hc) (Evs.cons (Eg hc) (Evs.cons Ev.func Evs.nil))), fun fr => eachEx_ct 128 [] elemE u.t0 u.t1 _ _ _ p.tg.l _ _ (fun x hx h' hh => elem_ct hg x ((hO.tg.ok x hx).mono (List.Sublist.trans Sb hh))) (htg.mono (View.le.refl _) Sb)⟩) (leB rfl) ?_
  refine yG rfl (PO.pickAnd rfl rfl) ?_
  refine yG rfl (PO.move Et) ?_
  refine SR.poG rfl rfl (GU.t rfl rfl) (fun hc => PO.fieldAddr Tryz.underlying56 rfl (Nat.ne_of_beq_eq_false rfl) Et) (leB rfl) ?_
  refine SR.poG rfl rfl (GU.t rfl rfl) (fun hc => PO.load1 Tryz.underlying25 rfl (Eg hc) Me rfl) (leB rfl) ?_
  refine SR.poG rfl rfl (GU.t rfl rfl) (fun hc => PO.fieldAddr Tryz.underlying178 rfl (Nat.ne_of_beq_eq_false rfl) Et) (leB rfl) ?_
  refine SR.poG rfl rfl (GU.t rfl rfl) (fun hc => PO.loadA Tryz.underlying176 rfl rfl (Eg hc) Me rfl) (leB rfl) ?_
  refine SR.callG rfl rfl (GU.t rfl rfl) (fun hc => ⟨Ev.func, (Evs.cons (Eg hc) (Evs.cons (Eg hc) (Evs.cons Ev.func Evs.nil))), fun fr => eachEx_ct 17 [] mayE u.e0 u.e1 _ _ _ p.ex.l _ _ (fun x hx h' hh => may_ct hg x _ ((hO.ex.ok x hx).t.mono (List.Sublist.trans Sb hh)) (hO.ex.ok x hx).w) (hex.mono (View.le.refl _) Sb)⟩) (leB rfl) ?_
  refine yG rfl (PO.pickAnd rfl rfl) ?_
  refine yG rfl (PO.move Et) ?_
  refine SR.poG rfl rfl (GU.t rfl rfl) (fun hc => PO.fieldAddr Tryz.underlying56 rfl (Nat.ne_of_beq_eq_false rfl) Et) (leB rfl) ?_
  refine SR.poG rfl rfl (GU.t rfl rfl) (fun hc => PO.load1 Tryz.underlying46 rfl (Eg hc) Me rfl) (leB rfl) ?_
  refine SR.poG rfl rfl (GU.t rfl rfl) (fun hc => PO.loadA Tryz.underlying176 rfl rfl Et Me rfl) (leB rfl) ?_
  refine SR.callG rfl rfl (GU.t rfl rfl) (fun hc => ⟨Ev.func, (Evs.cons (Eg hc) (Evs.cons (Eg hc) (Evs.cons Ev.func Evs.nil))), fun fr => eachNn_ct 132 [] (fun n => decide (n ≥ 0) && decide (n < 8)) lo hi _ _ _ p.pn.l _ _ (fun x _ _ _ => plain2_ct x) (hpn.mono (View.le.refl _) Sb)⟩) (leB rfl) ?_
  refine yG rfl (PO.pickAnd rfl rfl) ?_
  refine yG rfl (PO.move Et) ?_
  refine SR.poG rfl rfl (GU.t rfl rfl) (fun hc => PO.fieldAddr Tryz.underlying178 rfl (Nat.ne_of_beq_eq_false rfl) Et) (leB rfl) ?_
  refine SR.poG rfl rfl (GU.t rfl rfl) (fun hc => PO.load1 Tryz.underlying4 rfl (Eg hc) Me rfl) (leB rfl) ?_
  refine SR.poG rfl rfl (GU.t rfl rfl) (fun hc => PO.move (Eg hc)) (leB rfl) ?_
  refine SR.poG rfl rfl (GU.nt rfl rfl) (fun hc => PO.fieldAddr Tryz.underlying56 rfl (Nat.ne_of_beq_eq_false rfl) Et) (leB rfl) ?_
  refine SR.poG rfl rfl (GU.nt rfl rfl) (fun hc => PO.loadA Tryz.underlying54 rfl rfl (Eg hc) Me rfl) (leB rfl) ?_
  refine SR.callG rfl rfl (GU.nt rfl rfl) (fun hc => ⟨Ev.func, (Evs.cons (Eg hc) Evs.nil), fun fr => spec_ct hg p.sp (hO.sp.mono Sb)⟩) (leB rfl) ?_
  refine SR.poG rfl rfl (GU.t rfl rfl) (fun hc => PO.pickAndN hc rfl rfl) (leB rfl) ?_
  refine SR.poG rfl rfl (GU.t rfl rfl) (fun hc => PO.move (Eg hc)) (leB rfl) ?_
  refine SR.poG rfl rfl (GU.nf rfl rfl) (fun hc => PO.fieldAddr Tryz.underlying178 rfl (Nat.ne_of_beq_eq_false rfl) Et) (leB rfl) ?_
  refine SR.poG rfl rfl (GU.nf rfl rfl) (fun hc => PO.load1 Tryz.underlying4 rfl (Eg hc) Me rfl) (leB rfl) ?_
  refine SR.poG rfl rfl (GU.nf rfl rfl) (fun hc => PO.not (Eg hc)) (leB rfl) ?_
  refine SR.poG rfl rfl (GU.nf rfl rfl) (fun hc => PO.move (Eg hc)) (leB rfl) ?_
  refine SR.poG rfl rfl (GU.nt rfl rfl) (fun hc => PO.fieldAddr Tryz.underlying56 rfl (Nat.ne_of_beq_eq_false rfl) Et) (leB rfl) ?_
  refine SR.poG rfl rfl (GU.nt rfl rfl) (fun hc => PO.loadA Tryz.underlying54 rfl rfl (Eg hc) Me rfl) (leB rfl) ?_
  refine SR.poG rfl rfl (GU.nt rfl rfl) (fun hc => PO.build Tryz.underlying54 rfl rfl rfl EvP.nil rfl) (leB rfl) ?_
  refine SR.nil rfl rfl ?_
  refine WL.callG (GU.nt rfl rfl) (fun hc => ⟨Ev.func, (Evs.cons (Eg hc) (Evs.cons (Eg hc) Evs.nil)), sameZ_ct p.sp (hsr.mono Sb)⟩) (leB rfl) ?_
  refine WL.poG (GU.nf rfl rfl) (fun hc => PO.pickAndN hc rfl rfl) (leB rfl) ?_
  refine zG (fun hc => PO.pickOrN hc rfl rfl) ?_
  refine xP ?_
  refine xA ?_
  refine wn [2] ?_
  try clear hG ops
  refine WC.ret (wR (h) ?_)
  exact ⟨by rw [hu]; unfold plainU; rw [← hlo, show hi = lo from hhi.trans hlo.symm], rfl⟩
abbrev ctR (bc : Nat) (q : Int) : Res := .pt bc (.cells [.int .i64 q].toArray 120 (0, 0))
theorem mayH_at {l : List Pr} {x : Pr} (h : l[0]? = some x) (d q : Int) : mayH l d q = mayC x d false q := by
  cases l with
  | nil => cases h
  | cons y r => cases h; rfl
theorem mayC_rng {p : Pr} {d left : Int} {pl : Bool} (h0 : 0 ≤ left) (h : (mayC p d pl left).1 = true) : 0 ≤ (mayC p d pl left).2 ∧ (mayC p d pl left).2 ≤ left := by
  obtain ⟨h1, h2⟩ := (mayC_cnt p d pl left h0 h).2 h
  exact ⟨h2, by omega⟩
/-- What is left to do once the specification is counted. -/
def mayR (p : Pr) (bl d : Int) (pl : Bool) (i : Nat) (q : Int) : Bool × Int := if (mayL (p.ll.drop i) bl pl q).1 then mayG p.gl (d + 2) (mayL (p.ll.drop i) bl pl q).2 else mayL (p.ll.drop i) bl pl q
set_option maxHeartbeats 4000000 in
theorem count_ct {m : View} (hg : Glob m) (p : Pr) : ∀ (h : List Res) (bc : Nat) (d left : Int) (pl : Bool), POk m h p → (0 ≤ d ∧ d ≤ 34) → (0 ≤ left ∧ left ≤ 2048) →
    CT Tryz.prog 53 [.pointer (some ⟨bc, 0, none⟩), prV p, .int .i64 d, .bool pl] (ctR bc left :: h) m (Pure1 (ctR bc (mayC p d pl left).2 :: h) (.bool (mayC p d pl left).1)) := by
  refine Pr.ind (q := fun p => ∀ (h : List Res) (bc : Nat) (d left : Int) (pl : Bool), POk m h p → (0 ≤ d ∧ d ≤ 34) → (0 ≤ left ∧ left ≤ 2048) →
    CT Tryz.prog 53 [.pointer (some ⟨bc, 0, none⟩), prV p, .int .i64 d, .bool pl] (ctR bc left :: h) m (Pure1 (ctR bc (mayC p d pl left).2 :: h) (.bool (mayC p d pl left).1))) (fun p ih h bc d left pl hP hd hlf => ?_) p
  have hO := hP.own
  have hlr := hO.l
  have hgr := hO.g
  have hbr := hO.sp.b
  have lmx := hlr.mx
  have lle := hlr.le
  have gmx := hgr.mx
  have gle := hgr.le
  have he := mayC_eq p d pl left
  obtain ⟨G, hG⟩ : ∃ G, G = mayC p d pl left := ⟨_, rfl⟩
  rw [← hG] at he ⊢
  refine CT.body Tryz.call53 Tryz.func53 rfl Tryz.ntmps53 (leB rfl) rfl ?_
  repeat first | refine sk fun K hK => ?_ | refine bk ?_ | refine rn fun _ => ?_
  refine xX fun b5 => ?_
  refine xC ?_
  refine wn [0, 2, 3, 5] ?_
  repeat first | refine sk fun K hK => ?_ | refine bk ?_ | refine rn fun _ => ?_
  refine xM ?_
  refine xG (PO.nilCheck Et) ?_
  refine xF Tryz.underlying120 ?_
  refine xG (pL Tryz.underlying3) ?_
  refine xG (PO.subI Et Ev.const (by omega)) ?_
  refine xG (PO.nilCheck Et) ?_
  refine xF Tryz.underlying120 ?_
  refine xS ?_
  refine wn [0, 2, 3, 5] ?_
  repeat first | refine sk fun K hK => ?_ | refine bk ?_ | refine rg fun ops hG => ?_
  refine xM ?_
  refine xG (PO.nilCheck Et) ?_
  refine xF Tryz.underlying120 ?_
  refine xG (pL Tryz.underlying3) ?_
  refine xG (PO.bin Et Ev.const rfl) ?_
  refine xM ?_
  refine zM ?_
  refine zG (fun hc => PO.bin (Eg hc) Ev.const rfl) ?_
  refine xQ ?_
  refine xM ?_
  refine zG (fun _ => pA Tryz.underlying56) ?_
  refine WL.callG (GU.f (hG _ _ rfl) rfl) (fun hc => ⟨Ev.func, (Evs.cons (Eg hc) Evs.nil), plain_ct hg p (hO.mono Sb)⟩) (leB rfl) ?_
  refine zG (fun hc => PO.not (Eg hc)) ?_
  refine xQ ?_
  refine xM ?_
  refine zG (fun _ => pF Tryz.underlying56) ?_
  refine zG (fun hc => PO.load1 Tryz.underlying41 rfl (Eg hc) Me rfl) ?_
  refine zG (fun hc => PO.bin (Eg hc) Ev.const rfl) ?_
  refine zV ?_
  refine zM ?_
  refine zG (fun hc => PO.not (Eg hc)) ?_
  refine zG (fun hc => PO.pickAndN hc rfl rfl) ?_
  refine xQ ?_
  refine wn [0, 2, 3, 5, 43] ?_
  try clear hG ops
  repeat first | refine sk fun K hK => ?_ | refine bk ?_
  refine wc (fun c43 => ?_) fun c43 => ?_
  have hh : mayHead p d pl left = true := c43
  rw [hh, if_pos rfl] at he
  repeat first | refine sk fun K hK => ?_ | refine bk ?_ | refine rn fun _ => ?_
  refine xC ?_
  refine wn [8] ?_
  refine WC.ret (wR (ctR bc (left - 1) :: h) ?_)
  exact ⟨by rw [he], by rw [he]⟩
  have hh : mayHead p d pl left = false := c43
  rw [hh, if_neg (by decide)] at he
  obtain ⟨⟨hl0, hd2⟩, hpl⟩ := head_no2 hh
  have hV := plain_spec hpl
  obtain ⟨y, hy⟩ : ∃ y : Pr, 0 < p.sp.bl.length → p.sp.bl[0]? = some y := by
    cases hb : p.sp.bl with
    | nil => exact ⟨p, fun q => absurd q (by simp)⟩
    | cons y r => exact ⟨y, fun _ => rfl⟩
  refine WC.skip (kp [0, 2, 3, 5] ?_)
  repeat first | refine sk fun K hK => ?_ | refine bk ?_ | refine rn fun _ => ?_
  refine xM ?_
  refine xG (PO.addI Et Ev.const (by omega)) ?_
  refine xA ?_
  refine wn [0, 2, 3, 5, 9] ?_
  repeat first | refine sk fun K hK => ?_ | refine bk ?_ | refine rn fun _ => ?_
  refine xF Tryz.underlying56 ?_
  refine xG (pL Tryz.underlying41) ?_
  refine wn [0, 2, 3, 5, 9, 47] ?_
  (repeat refine WC.seqK fun K hK => ?_)
  refine WC.cutK (by assumption) [0, 2, 3, 5] rfl (fun F' h' => ∃ bl : Int, ∃ q : Int, ((0 ≤ bl ∧ bl ≤ 34) ∧ (0 ≤ q ∧ q ≤ 2048) ∧ G = mayR p bl d (pl && (p.k == 18)) 0 q) ∧ F' = [(9, .int .i64 bl)] ∧ .pt b5 (.cells (prE p).toArray 56 (0, 0)) :: ctR bc q :: h = h') ?_ ?_
  repeat first | refine sk fun K hK => ?_ | refine bk ?_ | refine rn fun _ => ?_
  refine xG (PO.bin Et Ev.const rfl) ?_
  refine xA ?_
  refine wn [0, 2, 3, 5, 9, 47, 48] ?_
  repeat first | refine sk fun K hK => ?_ | refine bk ?_
  refine wc (fun c48 => ?_) fun c48 => ?_
  replace c48 := t_eq c48
  rw [if_neg (by omega), if_pos c48] at he
  repeat first | refine sk fun K hK => ?_ | refine bk ?_ | refine rn fun _ => ?_
  refine xM ?_
  refine xG (PO.addI Et Ev.const (by omega)) ?_
  refine xA ?_
  refine WL.nil (meetI [(9, .int .i64 (d + 2))] (h'' := .pt b5 (.cells (prE p).toArray 56 (0, 0)) :: ctR bc (left - 1) :: h) ?_ (by (repeat (first | exact Sub.nil | refine Sub.cons rfl ?_ | refine Sub.consE rfl (by simp; done) ?_))) Sb ⟨d + 2, left - 1, ⟨⟨by omega, by omega⟩, ⟨by omega, by omega⟩, by rw [he, show (p.k == 18) = false by rw [c48]; rfl, Bool.and_false]; rfl⟩, rfl, rfl⟩)
  (repeat (first | exact Sub.nil | refine Sub.cons rfl ?_ | refine Sub.consE rfl (by simp; done) ?_))
  replace c48 := f_eq c48
  repeat first | refine sk fun K hK => ?_ | refine bk ?_ | refine rn fun _ => ?_
  refine xG (PO.bin Et Ev.const rfl) ?_
  refine xA ?_
  refine wn [0, 2, 3, 5, 9, 52] ?_
  repeat first | refine sk fun K hK => ?_ | refine bk ?_
  refine wc (fun c52 => ?_) fun c52 => ?_
  replace c52 := t_eq c52
  rw [if_pos c52] at he
  have hsl : p.sp.bl.length ≤ 1 := sp_bl (hV.sp (by rw [c52]; rfl))
  have hyi : 0 < p.sp.bl.length → In y p := fun q => In.s (List.mem_of_getElem? (hy q))
  have hS := mayS_eq p.sp d (left - 1)
  have hS0 : ¬ 0 < p.sp.bl.length → mayH p.sp.bl (d + 1) (left - 1) = (true, left - 1) := fun q => by
    have hb : p.sp.bl = [] := List.eq_nil_of_length_eq_zero (by omega)
    rw [hb]
    rfl
  have hcall : (!(p.sp.cs && decide (d + 2 > 32)) && decide ((p.sp.bl.length : Int) > 0)) = true → CT Tryz.prog 53 [.pointer (some ⟨bc, 0, none⟩), prV y, .int .i64 (d + 1), .bool false] (.pt b5 (.cells (prE p).toArray 56 (0, 0)) :: ctR bc (left - 1) :: h) m
      (Pure1 (.pt b5 (.cells (prE p).toArray 56 (0, 0)) :: ctR bc (mayS p.sp d (left - 1)).2 :: h) (.bool (mayH p.sp.bl (d + 1) (left - 1)).1)) := by
    intro hc
    have h1 : 0 < p.sp.bl.length := by simp at hc; omega
    have h2 : ¬ (p.sp.cs && decide (d + 2 > 32)) = true := by intro q; rw [q] at hc; simp at hc
    rw [hS, if_neg h2, mayH_at (hy h1)]
    exact CT.perm (List.Perm.swap _ _ _) (ih y (hyi h1) (.pt b5 (.cells (prE p).toArray 56 (0, 0)) :: h) bc (d + 1) (left - 1) false ((hP.sub (hyi h1)).mono Sb) ⟨by omega, by omega⟩ ⟨by omega, by omega⟩) (List.Perm.swap _ _ _)
  have hskip : (!(p.sp.cs && decide (d + 2 > 32)) && decide ((p.sp.bl.length : Int) > 0)) = false → (Res.pt b5 (.cells (prE p).toArray 56 (0, 0)) :: ctR bc (mayS p.sp d (left - 1)).2 :: h) = .pt b5 (.cells (prE p).toArray 56 (0, 0)) :: ctR bc (left - 1) :: h := by
    intro hc
    have h3 : (mayS p.sp d (left - 1)).2 = left - 1 := by
      rw [hS]
      split
      · rfl
      · rename_i h2
        rw [hS0 (fun q => (by
          have h4 : decide ((p.sp.bl.length : Int) > 0) = true := by simp; omega
          rw [h4, Bool.and_true] at hc
          exact h2 (by simpa using hc)))]
    rw [h3]
  repeat first | refine sk fun K hK => ?_ | refine bk ?_ | refine rn fun _ => ?_
  refine xM ?_
  refine xA ?_
  refine wn [0, 2, 3, 5, 9] ?_
  repeat first | refine sk fun K hK => ?_ | refine bk ?_ | refine rg fun ops hG => ?_
  refine xF Tryz.underlying56 ?_
  refine xF Tryz.underlying54 ?_
  refine xF Tryz.underlying51 ?_
  refine xG (pL Tryz.underlying4) ?_
  refine xM ?_
  refine zM ?_
  refine WL.poG (GU.t (hG _ _ rfl) rfl) (fun hc => PO.addI (Eg hc) Ev.const (by first | omega | (simp at hc; omega))) (leB rfl) ?_
  refine zG (fun hc => PO.bin (Eg hc) Ev.const rfl) ?_
  refine xP ?_
  refine xM ?_
  refine zG (fun _ => pF Tryz.underlying56) ?_
  refine zG (fun hc => PO.fieldAddr Tryz.underlying54 rfl (Nat.ne_of_beq_eq_false rfl) (Eg hc)) ?_
  refine zG (fun hc => PO.load1 Tryz.underlying45 rfl (Eg hc) Me rfl) ?_
  refine zG (fun hc => PO.lenSl Tryz.underlying45 (Eg hc)) ?_
  refine zG (fun hc => PO.bin (Eg hc) Ev.const rfl) ?_
  refine zV ?_
  refine zM ?_
  refine zG (fun _ => pF Tryz.underlying56) ?_
  refine zG (fun hc => PO.fieldAddr Tryz.underlying54 rfl (Nat.ne_of_beq_eq_false rfl) (Eg hc)) ?_
  refine zG (fun hc => PO.load1 Tryz.underlying45 rfl (Eg hc) Me rfl) ?_
  refine WL.poG (GU.nt (hG _ _ rfl) rfl) (fun hc => PO.idx EL45.und EL45.size EL45.posz (Eg hc) Ev.const Rr rfl (q := 0) (by simp at hc; omega)) (leB rfl) ?_
  refine WL.poG (GU.nt (hG _ _ rfl) rfl) (fun hc => PO.loadFA Tryz.underlying56 rfl rfl prE_len Rr (Eg hc) (hy (by simp at hc; omega)) rfl rfl (Nat.succ_pos _)) (leB rfl) ?_
  refine zM ?_
  refine WL.poG (GU.nt (hG _ _ rfl) rfl) (fun hc => PO.addI (Eg hc) Ev.const (by first | omega | (simp at hc; omega))) (leB rfl) ?_
  refine WL.callGK (GU.nt (hG _ _ rfl) rfl) (fun hc => ⟨Ev.func, (Evs.cons (Eg hc) (Evs.cons (Eg hc) (Evs.cons (Eg hc) (Evs.cons Ev.const Evs.nil)))), hcall hc⟩) (fun hc => (hskip hc)) (leB rfl) ?_
  refine zG (fun hc => PO.not (Eg hc)) ?_
  refine zG (fun hc => PO.pickAndN hc rfl rfl) ?_
  refine xQ ?_
  refine wn [0, 2, 3, 5, 9, 82] ?_
  try clear hG ops
  repeat first | refine sk fun K hK => ?_ | refine bk ?_
  refine wc (fun c82 => ?_) fun c82 => ?_
  have d82 : ((p.sp.cs && decide (d + 2 > 32)) || (decide ((p.sp.bl.length : Int) > 0) && !(mayH p.sp.bl (d + 1) (left - 1)).1)) = true := c82
  have hS1 : (mayS p.sp d (left - 1)).1 = false := by
    rw [hS]
    split
    · rfl
    · rename_i h2
      rw [show (p.sp.cs && decide (d + 2 > 32)) = false by simpa using h2, Bool.false_or] at d82
      simp only [Bool.and_eq_true, Bool.not_eq_true'] at d82
      exact d82.2
  rw [hS1, if_neg (by decide)] at he
  repeat first | refine sk fun K hK => ?_ | refine bk ?_ | refine rn fun _ => ?_
  refine xC ?_
  refine wn [8] ?_
  refine WC.ret (wR (ctR bc (mayS p.sp d (left - 1)).2 :: h) ?_)
  exact ⟨by rw [he, hS1], by rw [he]⟩
  have d82 : ((p.sp.cs && decide (d + 2 > 32)) || (decide ((p.sp.bl.length : Int) > 0) && !(mayH p.sp.bl (d + 1) (left - 1)).1)) = false := c82
  simp only [Bool.or_eq_false_iff] at d82
  have hSH : mayS p.sp d (left - 1) = mayH p.sp.bl (d + 1) (left - 1) := by rw [hS, if_neg (by rw [d82.1]; decide)]
  have hS1 : (mayS p.sp d (left - 1)).1 = true := by
    rw [hSH]
    by_cases hb : 0 < p.sp.bl.length
    · have h9 := d82.2
      rw [show decide ((p.sp.bl.length : Int) > 0) = true by simp; omega, Bool.true_and] at h9
      simpa using h9
    · rw [hS0 hb]
  have hrb : 0 ≤ (mayS p.sp d (left - 1)).2 ∧ (mayS p.sp d (left - 1)).2 ≤ left - 1 := by
    rw [hSH] at hS1 ⊢
    obtain ⟨_, r1, r2⟩ := mayH_cnt hl0 hsl (fun x _ d pl q h0 h => mayC_cnt x d pl q h0 h) hS1
    omega
  rw [hS1, if_pos rfl] at he
  refine WC.skip (meetI [(9, .int .i64 d)] (h'' := .pt b5 (.cells (prE p).toArray 56 (0, 0)) :: ctR bc ((mayS p.sp d (left - 1)).2) :: h) ?_ (by (repeat (first | exact Sub.nil | refine Sub.cons rfl ?_ | refine Sub.consE rfl (by simp; done) ?_))) Sb ⟨d, (mayS p.sp d (left - 1)).2, ⟨⟨by omega, by omega⟩, ⟨by omega, by omega⟩, by rw [he, show (p.k == 18) = true by rw [c52]; rfl, Bool.and_true]; rfl⟩, rfl, rfl⟩)
  (repeat (first | exact Sub.nil | refine Sub.cons rfl ?_ | refine Sub.consE rfl (by simp; done) ?_))
  replace c52 := f_eq c52
  rw [if_neg c52, if_neg c48] at he
  refine WC.skip (meetI [(9, .int .i64 (d + 1))] (h'' := .pt b5 (.cells (prE p).toArray 56 (0, 0)) :: ctR bc (left - 1) :: h) ?_ (by (repeat (first | exact Sub.nil | refine Sub.cons rfl ?_ | refine Sub.consE rfl (by simp; done) ?_))) Sb ⟨d + 1, left - 1, ⟨⟨by omega, by omega⟩, ⟨by omega, by omega⟩, by rw [he, show (p.k == 18) = false by simpa using c52, Bool.and_false]; rfl⟩, rfl, rfl⟩)
  (repeat (first | exact Sub.nil | refine Sub.cons rfl ?_ | refine Sub.consE rfl (by simp; done) ?_))
  rintro _ _ ⟨bl, q, ⟨hbl, hq, hG1⟩, rfl, rfl⟩
  refine WC.frm rfl ?_
  repeat first | refine sk fun K hK => ?_ | refine bk ?_ | refine rn fun _ => ?_
  refine xF Tryz.underlying56 ?_
  refine xG (pL Tryz.underlying45) ?_
  refine xG (PO.lenSl Tryz.underlying45 Et) ?_
  refine xK ?_
  refine wn [0, 2, 3, 5, 9, 84, 85, 86] ?_
  repeat first | refine sk fun K hK => ?_ | refine bk ?_
  refine WC.loopI [0, 2, 3, 5, 9, 84, 85] rfl (fun μ F' h' => ∃ i : Nat, ∃ q : Int, ((i ≤ p.ll.length ∧ (0 ≤ q ∧ q ≤ 2048)) ∧ G = mayR p bl d (pl && (p.k == 18)) i q) ∧ p.ll.length - i = μ ∧ F' = [(86, .int .i64 i)] ∧ .pt b5 (.cells (prE p).toArray 56 (0, 0)) :: ctR bc q :: h = h') (p.ll.length - 0) [(86, .int .i64 0)] (h0 := .pt b5 (.cells (prE p).toArray 56 (0, 0)) :: ctR bc q :: h) ?_ Sb ⟨0, q, ⟨⟨by omega, hq⟩, hG1⟩, rfl, rfl, rfl⟩ ?_
  (repeat (first | exact Sub.nil | refine Sub.cons rfl ?_ | refine Sub.consE rfl (by simp; done) ?_))
  rintro _ _ _ ⟨i, q, ⟨⟨hk, hq⟩, hJ⟩, rfl, rfl, rfl⟩
  refine WC.frm rfl ?_
  repeat first | refine sk fun K hK => ?_ | refine bk ?_ | refine rn fun _ => ?_
  refine xG (PO.bin Et Et rfl) ?_
  refine wn [0, 2, 3, 5, 9, 84, 85, 86, 87] ?_
  repeat first | refine sk fun K hK => ?_ | refine bk ?_
  refine wc (fun c87 => ?_) fun c87 => ?_
  replace c87 := of_decide_eq_true c87
  obtain ⟨x, hx⟩ := get_some (l := p.ll) (k := i) (by omega)
  have hxm := List.mem_of_getElem? hx
  have hL : mayL (p.ll.drop i) bl (pl && (p.k == 18)) q = if (mayC x bl (pl && (p.k == 18)) q).1 then mayL (p.ll.drop (i + 1)) bl (pl && (p.k == 18)) (mayC x bl (pl && (p.k == 18)) q).2 else mayC x bl (pl && (p.k == 18)) q := by rw [drop_at hx]; rfl
  unfold mayR at hJ
  rw [hL] at hJ
  refine WC.skip (kp [0, 2, 3, 5, 9, 84, 85, 86] ?_)
  repeat first | refine sk fun K hK => ?_ | refine bk ?_ | refine rn fun _ => ?_
  refine xG (PO.idx EL45.und EL45.size EL45.posz (Ev.tmp rfl) (Ev.tmp rfl) Rr rfl (by omega)) ?_
  refine xG (PO.loadFA Tryz.underlying56 rfl rfl prE_len Rr (Ev.tmp rfl) (by assumption) rfl rfl (Nat.succ_pos _)) ?_
  refine xW fun b11 => ?_
  refine xS ?_
  refine wn [0, 2, 3, 5, 9, 11, 84, 85, 86] ?_
  repeat first | refine sk fun K hK => ?_ | refine bk ?_ | refine rg fun ops hG => ?_
  refine xM ?_
  refine xG (pA Tryz.underlying56) ?_
  refine xM ?_
  refine xM ?_
  refine xM ?_
  refine zG (fun _ => pF Tryz.underlying56) ?_
  refine zG (fun hc => PO.load1 Tryz.underlying41 rfl (Eg hc) Me rfl) ?_
  refine zG (fun hc => PO.bin (Eg hc) Ev.const rfl) ?_
  refine xP ?_
  refine xg (E4 Et Et Et Et) (CT.perm (List.perm_middle (l₁ := [_, _])) (ih x (In.l hxm) (.pt b11 (.cells (prE x).toArray 56 (0, 0)) :: .pt b5 (.cells (prE p).toArray 56 (0, 0)) :: h) bc bl q (pl && (p.k == 18)) ((hP.sub (In.l hxm)).mono Sb) hbl hq) (List.perm_middle (l₁ := [_, _])).symm) ?_
  rintro _ _ ⟨rfl, rfl⟩
  refine xG (PO.not Et) ?_
  refine wn [0, 2, 3, 5, 9, 84, 85, 86, 100] ?_
  try clear hG ops
  repeat first | refine sk fun K hK => ?_ | refine bk ?_
  refine wc (fun c100 => ?_) fun c100 => ?_
  have hc0 : (mayC x bl (pl && (p.k == 18)) q).1 = false := by simpa using c100
  simp only [hc0, Bool.false_eq_true, if_false] at hJ
  repeat first | refine sk fun K hK => ?_ | refine bk ?_ | refine rn fun _ => ?_
  refine xC ?_
  refine wn [8] ?_
  refine WC.ret (wR (ctR bc (mayC x bl (pl && (p.k == 18)) q).2 :: h) ?_)
  exact ⟨by rw [hJ, hc0], by rw [hJ]⟩
  have hc0 : (mayC x bl (pl && (p.k == 18)) q).1 = true := by simpa using c100
  rw [hc0, if_pos rfl] at hJ
  have hrg := mayC_rng hq.1 hc0
  refine WC.skip (kp [0, 2, 3, 5, 9, 84, 85, 86] ?_)
  repeat first | refine sk fun K hK => ?_ | refine bk ?_ | refine rn fun _ => ?_
  refine xG (PO.addI Et Ev.const (by omega)) ?_
  refine xM ?_
  refine WL.nil (loopBackI (p.ll.length - (i + 1)) [(86, .int .i64 (i + 1))] (h'' := .pt b5 (.cells (prE p).toArray 56 (0, 0)) :: ctR bc ((mayC x bl (pl && (p.k == 18)) q).2) :: h) (by omega) ?_ (by (repeat (first | exact Sub.nil | refine Sub.cons rfl ?_ | refine Sub.consE rfl (by simp; done) ?_))) Sb ⟨i + 1, (mayC x bl (pl && (p.k == 18)) q).2, ⟨⟨by omega, ⟨by omega, by omega⟩⟩, hJ⟩, rfl, rfl, rfl⟩)
  (repeat (first | exact Sub.nil | refine Sub.cons rfl ?_ | refine Sub.consE rfl (by simp; done) ?_))
  replace c87 := of_decide_eq_false c87
  have hJ : G = mayG (p.gl.drop 0) (d + 2) q := by
    rw [hJ]
    unfold mayR
    rw [show p.ll.drop i = [] from List.drop_eq_nil_of_le (by omega)]
    rfl
  refine WC.exit (kp [0, 2, 5] ?_)
  repeat first | refine sk fun K hK => ?_ | refine bk ?_ | refine rn fun _ => ?_
  refine xF Tryz.underlying56 ?_
  refine xG (pL Tryz.underlying44) ?_
  refine xG (PO.lenSl Tryz.underlying44 Et) ?_
  refine xK ?_
  refine wn [0, 2, 103, 104, 105] ?_
  repeat first | refine sk fun K hK => ?_ | refine bk ?_
  refine WC.loopI [0, 2, 103, 104] rfl (fun μ F' h' => ∃ i : Nat, ∃ q : Int, ((i ≤ p.gl.length ∧ (0 ≤ q ∧ q ≤ 2048)) ∧ G = mayG (p.gl.drop i) (d + 2) q) ∧ p.gl.length - i = μ ∧ F' = [(105, .int .i64 i)] ∧ .pt b5 (.cells (prE p).toArray 56 (0, 0)) :: ctR bc q :: h = h') (p.gl.length - 0) [(105, .int .i64 0)] (h0 := .pt b5 (.cells (prE p).toArray 56 (0, 0)) :: ctR bc q :: h) ?_ Sb ⟨0, q, ⟨⟨by omega, hq⟩, hJ⟩, rfl, rfl, rfl⟩ ?_
  (repeat (first | exact Sub.nil | refine Sub.cons rfl ?_ | refine Sub.consE rfl (by simp; done) ?_))
  rintro _ _ _ ⟨i, q, ⟨⟨hk, hq⟩, hJ⟩, rfl, rfl, rfl⟩
  refine WC.frm rfl ?_
  repeat first | refine sk fun K hK => ?_ | refine bk ?_ | refine rn fun _ => ?_
  refine xG (PO.bin Et Et rfl) ?_
  refine wn [0, 2, 103, 104, 105, 106] ?_
  repeat first | refine sk fun K hK => ?_ | refine bk ?_
  refine wc (fun c106 => ?_) fun c106 => ?_
  replace c106 := of_decide_eq_true c106
  obtain ⟨g, hgx⟩ := get_some (l := p.gl) (k := i) (by omega)
  have hgm := List.mem_of_getElem? hgx
  have hgv := gu_spec (hV.gs g hgm).1
  obtain ⟨x, hx⟩ := get_some (l := g.bl) (k := 0) (by have := hgv.body; omega)
  have hxi : In x p := In.g hgm (List.mem_of_getElem? hx)
  have hx1 : 0 < g.bl.length := (List.getElem?_eq_some_iff.1 hx).1
  have hgb := (hO.gs g hgm).b
  have hGG : mayG (p.gl.drop i) (d + 2) q = if (mayC x (d + 2) false q).1 then mayG (p.gl.drop (i + 1)) (d + 2) (mayC x (d + 2) false q).2 else mayC x (d + 2) false q := by
    rw [drop_at hgx, ← mayH_at hx, ← mayG1_eq]
    rfl
  rw [hGG] at hJ
  refine WC.skip (kp [0, 2, 103, 104, 105] ?_)
  repeat first | refine sk fun K hK => ?_ | refine bk ?_ | refine rn fun _ => ?_
  refine xG (PO.idx EL44.und EL44.size EL44.posz (Ev.tmp rfl) (Ev.tmp rfl) Rr rfl (by omega)) ?_
  refine xG (PO.loadFA Tryz.underlying70 rfl rfl guE_len Rr (Ev.tmp rfl) (by assumption) rfl rfl (Nat.succ_pos _)) ?_
  refine xW fun b13 => ?_
  refine xS ?_
  refine wn [0, 2, 13, 103, 104, 105] ?_
  repeat first | refine sk fun K hK => ?_ | refine bk ?_ | refine rn fun _ => ?_
  refine xM ?_
  refine xF Tryz.underlying70 ?_
  refine xG (pL Tryz.underlying45) ?_
  refine xG (PO.idx EL45.und EL45.size EL45.posz (Ev.tmp rfl) Ev.const Rr rfl (q := 0) (by omega)) ?_
  refine xG (PO.loadFA Tryz.underlying56 rfl rfl prE_len Rr (Ev.tmp rfl) (by assumption) rfl rfl (Nat.succ_pos _)) ?_
  refine xM ?_
  refine xG (PO.addI Et Ev.const (by omega)) ?_
  refine xg (E4 Et Et Et Ev.const) (CT.perm (List.perm_middle (l₁ := [_, _])) (ih x hxi (.pt b13 (.cells (guE g).toArray 70 (0, 0)) :: .pt b5 (.cells (prE p).toArray 56 (0, 0)) :: h) bc (d + 2) q false ((hP.sub hxi).mono Sb) ⟨by omega, by omega⟩ hq) (List.perm_middle (l₁ := [_, _])).symm) ?_
  rintro _ _ ⟨rfl, rfl⟩
  refine xG (PO.not Et) ?_
  refine wn [0, 2, 103, 104, 105, 117] ?_
  repeat first | refine sk fun K hK => ?_ | refine bk ?_
  refine wc (fun c117 => ?_) fun c117 => ?_
  have hc0 : (mayC x (d + 2) false q).1 = false := by simpa using c117
  rw [hc0, if_neg (by decide)] at hJ
  repeat first | refine sk fun K hK => ?_ | refine bk ?_ | refine rn fun _ => ?_
  refine xC ?_
  refine wn [8] ?_
  refine WC.ret (wR (ctR bc (mayC x (d + 2) false q).2 :: h) ?_)
  exact ⟨by rw [hJ, hc0], by rw [hJ]⟩
  have hc0 : (mayC x (d + 2) false q).1 = true := by simpa using c117
  rw [hc0, if_pos rfl] at hJ
  have hrg := mayC_rng hq.1 hc0
  refine WC.skip (kp [0, 2, 103, 104, 105] ?_)
  repeat first | refine sk fun K hK => ?_ | refine bk ?_ | refine rn fun _ => ?_
  refine xG (PO.addI Et Ev.const (by omega)) ?_
  refine xM ?_
  refine WL.nil (loopBackI (p.gl.length - (i + 1)) [(105, .int .i64 (i + 1))] (h'' := .pt b5 (.cells (prE p).toArray 56 (0, 0)) :: ctR bc ((mayC x (d + 2) false q).2) :: h) (by omega) ?_ (by (repeat (first | exact Sub.nil | refine Sub.cons rfl ?_ | refine Sub.consE rfl (by simp; done) ?_))) Sb ⟨i + 1, (mayC x (d + 2) false q).2, ⟨⟨by omega, ⟨by omega, by omega⟩⟩, hJ⟩, rfl, rfl, rfl⟩)
  (repeat (first | exact Sub.nil | refine Sub.cons rfl ?_ | refine Sub.consE rfl (by simp; done) ?_))
  replace c106 := of_decide_eq_false c106
  have hJ : G = (true, q) := by rw [hJ, show p.gl.drop i = [] from List.drop_eq_nil_of_le (by omega)]; rfl
  refine WC.exit (kp [] ?_)
  repeat first | refine sk fun K hK => ?_ | refine bk ?_ | refine rn fun _ => ?_
  refine xC ?_
  refine wn [8] ?_
  refine WC.ret (wR (ctR bc q :: h) ?_)
  exact ⟨by rw [hJ], by rw [hJ]⟩
theorem smay_ct {m : View} {h : List Res} (hg : Glob m) (p : Pr) (hP : POk m h p) : CT Tryz.prog 34 [prV p] h m (Pure1 h (.bool (mayP p))) := by
  refine CT.body Tryz.call34 Tryz.func34 rfl Tryz.ntmps34 (leB rfl) rfl ?_
  repeat first | refine sk fun K hK => ?_ | refine bk ?_ | refine rn fun _ => ?_
  refine xX fun b1 => ?_
  refine xC ?_
  refine wn [1] ?_
  repeat first | refine sk fun K hK => ?_ | refine bk ?_ | refine rn fun _ => ?_
  refine xG (PO.build Tryz.underlying120 rfl rfl rfl (EvP.cons Ev.const EvP.nil) rfl) ?_
  refine xX fun b5 => ?_
  refine xA ?_
  refine wn [1, 3] ?_
  repeat first | refine sk fun K hK => ?_ | refine bk ?_ | refine rn fun _ => ?_
  refine xM ?_
  refine xG (pA Tryz.underlying56) ?_
  refine xg (E4 Et Et Ev.const Ev.const) (count_ct hg p (.pt b1 (.cells (prE p).toArray 56 (0, 0)) :: h) b5 0 2048 true (hP.mono Sb) ⟨by omega, by omega⟩ ⟨by omega, by omega⟩) ?_
  rintro _ _ ⟨rfl, rfl⟩
  refine xA ?_
  refine wn [2] ?_
  refine WC.ret (wR (h) ?_)
  exact ⟨rfl, rfl⟩
end Go.Proofs.YtdhmplmpbcnojaaGreatDoor
end
/- TpQ -/
section
namespace Go.Proofs.YtdhmplmpbcnojaaGreatDoor
open Go.Eng Go.Pc Go.Tg Go
open Go.Xp hiding B nameT
open Go.Ty (Ty Vr eqT tyV cellT PrOk VOk prL encV encV_len encI encI_len)
open Go.Lx (encB encB_len)
set_option maxRecDepth 100000
theorem processE_ct {m : View} {h : List Res} {s : List En} {a : Option Addr} {k c : Nat} (hg : Glob m) (p : Pr) (hv : Vld p) (hs : ScR m h a k c s) (hP : POk m h p) (hn : s.length + 16 * cntP p ≤ 1000000) :
    CT Tryz.prog 35 [.slice a k c, prV p] h m (Pure1 h (.int .i64 (chkP p (shL s)))) := process_ct hg p hv h s a k c hs hP hn
theorem check_ct {m : View} {h : List Res} (hg : Glob m) (p : Pr) (hP : POk m h p) (l : List Sp) (a : Option Addr) (k c : Nat) (hr : Rd m h a k c 16 (fl spE l)) (hv : VOkE m h l) (hn : l.length ≤ 900000) :
    CT Tryz.prog 16 [prV p, .slice a k c] h m (Pure1 h (.int .i64 (checkX (mayP p) (envX l) p))) := by
  refine CT.body Tryz.call16 Tryz.func16 rfl Tryz.ntmps16 (leB rfl) rfl ?_
  repeat first | refine sk fun K hK => ?_ | refine bk ?_ | refine rn fun _ => ?_
  refine xX fun b2 => ?_
  refine xC ?_
  refine wn [1, 2] ?_
  repeat first | refine sk fun K hK => ?_ | refine bk ?_ | refine rn fun _ => ?_
  refine xG (pA Tryz.underlying56) ?_
  refine xf (E1 Et) (smay_ct hg p (hP.mono Sb)) ?_
  refine xG (PO.not Et) ?_
  refine wn [1, 2, 7] ?_
  repeat first | refine sk fun K hK => ?_ | refine bk ?_
  refine wc (fun c7 => ?_) fun c7 => ?_
  have hm : mayP p = false := by simpa using c7
  repeat first | refine sk fun K hK => ?_ | refine bk ?_ | refine rn fun _ => ?_
  refine xC ?_
  refine wn [4] ?_
  refine WC.ret (wR (h) ?_)
  exact ⟨by rw [hm]; rfl, rfl⟩
  have hm : mayP p = true := by simpa using c7
  obtain ⟨hvl, hcn⟩ := mayP_vld hm
  refine WC.skip (kp [1, 2] ?_)
  repeat first | refine sk fun K hK => ?_ | refine bk ?_
  refine WC.drawS [1] (.op 0 (.op 2 (.op 1 .nil))) [3, 4] _ [] mixed (fun _ _ _ _ _ h => h) [] (by kernel_rfl) ?_
  refine yG rfl (PO.move Et) ?_
  refine yG rfl (pA Tryz.underlying56) ?_
  refine SR.callF rfl rfl Ev.func (Evs.cons Et Evs.nil) (fun fr => environment_ct l a k c (hr.mono (View.le.refl _) Sb) (by omega)) (leB rfl) fun a9 c9 => ?_
  refine SR.nil rfl rfl ?_
  refine xf (E2 Et Et) (CT.knowRow Tryz.call35 (a := a9) Me (fun q1 q2 q3 => processE_ct hg p hvl (ScR.env (hv.mono Sb) (Rd.ofRow q3 q1 q2 Me)) (hP.mono Sb) (by rw [envS_len]; omega))) ?_
  refine xA ?_
  refine wn [4] ?_
  refine WC.ret (wR (h) ?_)
  exact ⟨by rw [hm]; rfl, rfl⟩
end Go.Proofs.YtdhmplmpbcnojaaGreatDoor
end
/- ExpF -/
section
namespace Go.Proofs.YtdhmplmpbcnojaaGreatDoor
open Go.Eng Go.Xp Go
open Go.Lx (encB encB_len)
set_option maxRecDepth 100000
end Go.Proofs.YtdhmplmpbcnojaaGreatDoor
end
/- TpR -/
section
namespace Go.Proofs.YtdhmplmpbcnojaaGreatDoor
open Go.Eng Go.Pc Go.Tg Go
open Go.Xp hiding B nameT
open Go.Ty (Ty Vr eqT tyV cellT PrOk VOk prL encV encV_len encI encI_len)
open Go.Lx (encB encB_len)
set_option maxRecDepth 100000
end Go.Proofs.YtdhmplmpbcnojaaGreatDoor
end
/- TpS -/
section
namespace Go.Proofs.YtdhmplmpbcnojaaGreatDoor
open Go.Eng Go.Pc Go.Tg Go
open Go.Xp hiding B nameT
open Go.Ty (Ty Vr eqT tyV cellT PrOk VOk prL encV encV_len encI encI_len)
open Go.Lx (encB encB_len)
set_option maxRecDepth 100000
end Go.Proofs.YtdhmplmpbcnojaaGreatDoor
end

/- TpN TpO ExpA ExpB ExpD TpP ExpC SyA SyB SyC -/
import Derived.Test.YtdhmplmpbcnojaaGreatDoorLOutsideX4
/- TpN -/
section
namespace Go.Proofs.YtdhmplmpbcnojaaGreatDoor
open Go.Eng Go.Pc Go.Tg Go
open Go.Xp hiding B nameT
open Go.Ty (Ty Vr eqT tyV cellT zeroT PrOk VOk prL encV encV_len encI encI_len)
open Go.Lx (encB encB_len)
set_option maxRecDepth 100000
section
variable {m : View} {h : List Res} {s : List En} {a : Option Addr} {k c : Nat}
theorem loop1_ct (hs : ScR m h a k c s) (b2 b3 : Nat) (p : Pr) (hb2 : Res.pt b2 (.cells [.slice a k c].toArray 79 (0, 0)) ∈ h) (hb3 : Res.pt b3 (.cells (prE p).toArray 56 (0, 0)) ∈ h) (x : Ex) (hx : p.ex.l[0]? = some x) (ho : LXk m h p.ex) :
   CT Tryz.prog 94 [.pointer (some ⟨b2, 0, none⟩), .pointer (some ⟨b3, 0, none⟩)] h m (Pure1 h (.int .i64 (isX (shL s) x (tyK 3)))) := by
 have hlt : 0 < p.ex.l.length := (List.getElem?_eq_some_iff.1 hx).1
 have hr := ho.rd
 refine CT.body Tryz.call94 Tryz.func94 rfl Tryz.ntmps94 Lb rfl ?_
 refine gD ?_; intros
 refine xC ?_
 refine wn [0, 1] ?_
 refine gE ?_; intros
 refine dS [5] (.op 0 (.op 1 (.op 2 (.op 3 (.op 4 (.op 5 .nil)))))) [6, 7] mixed ?_
 refine yG rfl (PO.load1 u79 rfl Et hb2 rfl) ?_
 refine yG rfl (pF u56) ?_
 refine yG rfl (PO.load1 u25 rfl Et hb3 rfl) ?_
 refine yG rfl (PO.idx EL25.und EL25.size EL25.posz (Ev.tmp rfl) Ev.const Rr rfl (q := 0) (by omega)) ?_
 refine yG rfl (PO.loadFA u27 rfl rfl exE_len Rr (Ev.tmp rfl) (by assumption) rfl rfl (Nat.succ_pos _)) ?_
 refine yf rfl (E1 Ev.const) (fun fr => tof_ct _ _ _) ?_
 refine SR.nil rfl rfl ?_
 refine xf (E3 Et Et Et) (isR_ct (hs.mono Sb) x (tyK 3) ((ho.ok x (List.mem_of_getElem? hx)).mono Sb)) ?_
 refine xA ?_
 refine wn [2] ?_
 refine WC.ret (wR (h) ?_)
 exact ⟨rfl, rfl⟩
theorem loop2_ct (hs : ScR m h a k c s) (b2 b3 : Nat) (p : Pr) (hb2 : Res.pt b2 (.cells [.slice a k c].toArray 79 (0, 0)) ∈ h) (hb3 : Res.pt b3 (.cells (prE p).toArray 56 (0, 0)) ∈ h) (x : Pr) (hx : p.ll[0]? = some x) (hr : Rd m h p.la p.ll.length p.lc 42 (fl prE p.ll)) (ih : ProcC m x) (hP : POk m h x) (hn : s.length + 16 * cntP x ≤ 1000000) :
   CT Tryz.prog 95 [.pointer (some ⟨b2, 0, none⟩), .pointer (some ⟨b3, 0, none⟩)] h m (Pure1 h (.int .i64 (chkP x (shL s)))) := by
 have hlt : 0 < p.ll.length := (List.getElem?_eq_some_iff.1 hx).1
 refine CT.body Tryz.call95 Tryz.func95 rfl Tryz.ntmps95 Lb rfl ?_
 refine gD ?_; intros
 refine xC ?_
 refine wn [0, 1] ?_
 refine gE ?_; intros
 refine dS [] (.op 0 (.op 1 (.op 2 (.op 3 (.op 4 .nil))))) [5, 6] mixed ?_
 refine yG rfl (PO.load1 u79 rfl Et hb2 rfl) ?_
 refine yG rfl (pF u56) ?_
 refine yG rfl (PO.load1 u45 rfl Et hb3 rfl) ?_
 refine yG rfl (PO.idx EL45.und EL45.size EL45.posz (Ev.tmp rfl) Ev.const Rr rfl (q := 0) (by omega)) ?_
 refine yG rfl (PO.loadFA u56 rfl rfl prE_len Rr (Ev.tmp rfl) (by assumption) rfl rfl (Nat.succ_pos _)) ?_
 refine SR.nil rfl rfl ?_
 refine xf (E2 Et Et) (ih _ s a k c (hs.mono Sb) (hP.mono Sb) hn) ?_
 refine xA ?_
 refine wn [2] ?_
 refine WC.ret (wR (h) ?_)
 exact ⟨rfl, rfl⟩
theorem loop_ct (hs : ScR m h a k c s) (p : Pr) (hP : POk m h p) (hV : Pl p) (h1 : 0 < p.ex.l.length) (h2 : 0 < p.ll.length) (hn : s.length + 16 * cntP p ≤ 1000000) (ih : ∀ x, In x p → ProcC m x) :
   CT Tryz.prog 62 [.slice a k c, prV p] h m (Pure1 h (.int .i64 (if isX (shL s) (hdX p.ex.l) (tyK 3) ≠ 0 then isX (shL s) (hdX p.ex.l) (tyK 3) else chkH p.ll (shL s)))) := by
 obtain ⟨e, he⟩ := get_some h1
 obtain ⟨x, hx⟩ := get_some h2
 have hxi : In x p := In.l (List.mem_of_getElem? hx)
 have hlt := hxi.lt
 have he0 : hdX p.ex.l = e := by
   unfold hdX
   cases hq : p.ex.l with
   | nil => rw [hq] at he; cases he
   | cons y r => rw [hq] at he; cases he; rfl
 rw [he0, chkH_at hx]
 have hex := lxk hP.own.ex hV.ex
 refine CT.body Tryz.call62 Tryz.func62 rfl Tryz.ntmps62 Lb rfl ?_
 refine gD ?_; intros
 refine xX fun b2 => ?_
 refine xX fun b3 => ?_
 refine xC ?_
 refine wn [2, 3] ?_
 refine gD ?_; intros
 refine xG (PO.makeFunc Evs.nil (E2 Et Et)) ?_
 refine xG (PO.makeFunc Evs.nil (E2 Et Et)) ?_
 refine xY EL189 (EvP.cons Et (EvP.cons Et EvP.nil)) fun b7 => ?_
 refine xf (E1 Et) (first2_ct b7 94 95 [.pointer (some ⟨b2, 0, none⟩), .pointer (some ⟨b3, 0, none⟩)] [.pointer (some ⟨b2, 0, none⟩), .pointer (some ⟨b3, 0, none⟩)] _ _ Me (loop1_ct (hs.mono Sb) _ _ p Me Me e he (hex.mono Sb)) (loop2_ct (hs.mono Sb) _ _ p Me Me x hx (hP.own.l.mono (View.le.refl _) Sb) (ih x hxi) ((hP.sub hxi).mono Sb) (by omega))) ?_
 refine xA ?_
 refine wn [4] ?_
 refine WC.ret (wR (h) ?_)
 exact ⟨rfl, rfl⟩
end
set_option maxHeartbeats 2000000 in
theorem selection_ct {m : View} {h : List Res} {s : List En} {a : Option Addr} {k c : Nat} (hs : ScR m h a k c s) (p : Pr) (hP : POk m h p) (hV : Pl p) (h1 : 0 < p.ex.l.length) (hn : s.length + 16 * cntP p ≤ 1000000) (ih : ∀ x, In x p → ProcC m x) :
   CT Tryz.prog 61 [.slice a k c, prV p] h m (Pure1 h (.int .i64 (match typX (shL s) (hdX p.ex.l) with | .error w => w | .ok h => if eqT h.t (tyK 1) = false ∧ eqT h.t (tyK 2) = false then 130 else chkC p.gl (shL s) h.t 0))) := by
 obtain ⟨e, he⟩ := get_some h1
 have hem := List.mem_of_getElem? he
 have he0 : hdX p.ex.l = e := by
   unfold hdX
   cases hq : p.ex.l with
   | nil => rw [hq] at he; cases he
   | cons y r => rw [hq] at he; cases he; rfl
 rw [he0]
 obtain ⟨G, hG⟩ : ∃ G, G = match typX (shL s) e with | .error w => w | .ok h => if eqT h.t (tyK 1) = false ∧ eqT h.t (tyK 2) = false then 130 else chkC p.gl (shL s) h.t 0 := ⟨_, rfl⟩
 rw [← hG]
 have hO := hP.own
 have hex := lxk hO.ex hV.ex
 have her := hex.rd
 have hgr := hO.g
 have gmx := hgr.mx
 have gle := hgr.le
 refine CT.body Tryz.call61 Tryz.func61 rfl Tryz.ntmps61 Lb rfl ?_
 refine gD ?_; intros
 refine xX fun b3 => ?_
 refine xC ?_
 refine wn [0, 3] ?_
 refine gD ?_; intros
 refine xM ?_
 refine xF u56 ?_
 refine xG (pL u25) ?_
 refine xG (PO.idx EL25.und EL25.size EL25.posz (Ev.tmp rfl) Ev.const Rr rfl (q := 0) (by omega)) ?_
 refine xG (PO.loadFA u27 rfl rfl exE_len Rr (Ev.tmp rfl) (by assumption) rfl rfl (Nat.succ_pos _)) ?_
 refine xg (E2 Et Et) (typeOfR_ct (hs.mono Sb) e ((hex.ok e hem).mono Sb)) ?_
 rintro _ _ ⟨hd, rfl, hhd, rfl⟩
 refine xM ?_
 refine xE ?_
 refine xE ?_
 refine xW fun b5 => ?_
 refine xS ?_
 refine xA ?_
 refine wn [0, 3, 5, 6] ?_
 refine gD ?_; intros
 refine xM ?_
 refine bB ?_
 refine xA ?_
 refine wn [0, 3, 5, 6, 23] ?_
 refine gE ?_; intros
 refine wc (fun c23 => ?_) fun c23 => ?_
 replace c23 := t_ne c23
 obtain ⟨w, hw⟩ := err_of c23
 rw [hw] at hG
 refine gD ?_; intros
 refine xM ?_
 refine xA ?_
 refine wn [4] ?_
 refine WC.ret (wR (h) ?_)
 exact ⟨by rw [hG, hw]; rfl, rfl⟩
 replace c23 := f_ne c23
 have hE := okE (typX_err s e) c23 hhd
 rw [hE] at hG
 dsimp only at hG
 refine gE ?_; intros
 refine dS [2, 7] (.op 0 (.op 1 (.op 2 (.op 3 (.op 4 (.op 5 (.op 6 (.op 7 .nil)))))))) [8, 9, 10] mixed ?_
 refine yG rfl (pF u76) ?_
 refine yG rfl (pA u30) ?_
 refine yf rfl (E1 Ev.const) (fun fr => tof_ct _ _ _) ?_
 refine yG rfl (PO.neqA u30 (by kernel_rfl) (by kernel_rfl) Et Et rfl) ?_
 refine yG rfl (PO.move Et) ?_
 refine SR.poG rfl rfl (GU.t rfl rfl) (fun hc => PO.fieldAddr u76 rfl (Nat.ne_of_beq_eq_false rfl) Et) Lb ?_
 refine SR.poG rfl rfl (GU.t rfl rfl) (fun hc => PO.loadA u30 rfl rfl (Eg hc) Me rfl) Lb ?_
 refine SR.callG rfl rfl (GU.t rfl rfl) (fun hc => ⟨Ev.func, (E1 Ev.const), fun fr => tof_ct _ _ _⟩) Lb ?_
 refine SR.nil rfl rfl ?_
 refine WL.poG (GU.t rfl rfl) (fun hc => PO.neqA u30 (by kernel_rfl) (by kernel_rfl) (Eg hc) (Eg hc) rfl) Lb ?_
 refine xP ?_
 refine xA ?_
 refine wn [0, 3, 5, 27] ?_
 try clear hG ops
 refine gE ?_; intros
 refine wc (fun c27 => ?_) fun c27 => ?_
 have d27 : ((!(eqT hd.t (tyK 1))) && !(eqT hd.t (tyK 2))) = true := c27
 rw [if_pos (by simpa using d27)] at hG
 refine gD ?_; intros
 refine xC ?_
 refine wn [4] ?_
 refine WC.ret (wR (h) ?_)
 exact ⟨by rw [hG], rfl⟩
 have d27 : ((!(eqT hd.t (tyK 1))) && !(eqT hd.t (tyK 2))) = false := c27
 rw [if_neg (fun q => by rw [q.1, q.2] at d27; cases d27)] at hG
 refine WC.skip (kp [0, 3, 5] ?_)
 refine gD ?_; intros
 refine xC ?_
 refine wn [0, 3, 5, 7] ?_
 refine gD ?_; intros
 refine xF u56 ?_
 refine xG (pL u44) ?_
 refine xG (PO.lenSl u44 Et) ?_
 refine xK ?_
 refine wn [0, 5, 7, 39, 40, 41] ?_
 refine gE ?_; intros
 refine WC.loopI [0, 5, 39, 40] rfl (fun μ F' h' => ∃ i : Nat, ∃ ot : Int, ((i ≤ p.gl.length ∧ 0 ≤ ot ∧ ot ≤ i) ∧ G = chkC (p.gl.drop i) (shL s) hd.t ot) ∧ p.gl.length - i = μ ∧ F' = [(7, .int .i64 ot), (41, .int .i64 i)] ∧ .pt b5 (.cells (hdE hd).toArray 76 (0, 0)) :: .pt b3 (.cells (prE p).toArray 56 (0, 0)) :: h = h') (p.gl.length - 0) [(7, .int .i64 0), (41, .int .i64 0)] (h0 := .pt b5 (.cells (hdE hd).toArray 76 (0, 0)) :: .pt b3 (.cells (prE p).toArray 56 (0, 0)) :: h) ?_ Sb ⟨0, 0, ⟨⟨by omega, by omega, by omega⟩, hG⟩, rfl, rfl, rfl⟩ ?_
 exact Su
 rintro _ _ _ ⟨i, ot, ⟨⟨hk, ho1, ho2⟩, hJ⟩, rfl, rfl, rfl⟩
 refine WC.frm rfl ?_
 refine gD ?_; intros
 refine bD ?_
 refine wn [0, 5, 7, 39, 40, 41, 42] ?_
 refine gE ?_; intros
 refine wc (fun c42 => ?_) fun c42 => ?_
 replace c42 := dT c42
 obtain ⟨g, hx⟩ := get_some (l := p.gl) (k := i) (by omega)
 have hgm := List.mem_of_getElem? hx
 rw [drop_at hx] at hJ
 obtain ⟨hgp, _, _⟩ := hV.gs g hgm
 have hgv := gu_spec hgp
 have hgo := hO.gs g hgm
 obtain ⟨y, hy⟩ := get_some (l := g.bl) (k := 0) (by have := hgv.body; omega)
 have hyi : In y p := In.g hgm (List.mem_of_getElem? hy)
 have hlt := hyi.lt
 have hvl := lxk hgo.vl hgv.vl
 have hvr := hvl.rd
 have vmx := hvr.mx
 have vle := hvr.le
 have hbr := hgo.b
 have hy1 : 0 < g.bl.length := (List.getElem?_eq_some_iff.1 hy).1
 have hC1 : chkC1 g (shL s) hd.t = if selX (shL s) g.vl.l hd.t ≠ 0 then selX (shL s) g.vl.l hd.t else chkP y (shL s) := by
   rw [← chkH_at hy]
   cases g
   rfl
 replace hJ : G = if g.k = 6 ∧ ot ≥ 1 then 130 else if chkC1 g (shL s) hd.t ≠ 0 then chkC1 g (shL s) hd.t else chkC (p.gl.drop (i + 1)) (shL s) hd.t (if g.k = 6 then ot + 1 else ot) := hJ
 refine WC.skip (kp [0, 5, 7, 39, 40, 41] ?_)
 refine gD ?_; intros
 refine xG (PO.idx EL44.und EL44.size EL44.posz (Ev.tmp rfl) (Ev.tmp rfl) Rr rfl (by omega)) ?_
 refine xG (PO.loadFA u70 rfl rfl guE_len Rr (Ev.tmp rfl) (by assumption) rfl rfl (Nat.succ_pos _)) ?_
 refine xW fun b9 => ?_
 refine xS ?_
 refine wn [0, 5, 7, 9, 39, 40, 41] ?_
 refine gD ?_; intros
 refine xF u70 ?_
 refine xG (pL u68) ?_
 refine bB ?_
 refine wn [0, 5, 7, 9, 39, 40, 41, 47] ?_
 (repeat refine WC.seqK fun K hK => ?_)
 refine WC.cutK (by assumption) [0, 5, 9, 39, 40, 41] rfl (fun F' h' => ∃ o2 : Int, (o2 = (if g.k = 6 then ot + 1 else ot) ∧ (ot ≤ o2 ∧ o2 ≤ ot + 1)) ∧ F' = [(7, .int .i64 o2)] ∧ .pt b9 (.cells (guE g).toArray 70 (0, 0)) :: .pt b5 (.cells (hdE hd).toArray 76 (0, 0)) :: .pt b3 (.cells (prE p).toArray 56 (0, 0)) :: h = h') ?_ ?_
 refine gE ?_; intros
 refine wc (fun c47 => ?_) fun c47 => ?_
 replace c47 := t_eq c47
 refine gD ?_; intros
 refine xM ?_
 refine bI ?_
 refine xA ?_
 refine WL.nil (meetI [(7, .int .i64 (ot + 1))] (h'' := .pt b9 (.cells (guE g).toArray 70 (0, 0)) :: .pt b5 (.cells (hdE hd).toArray 76 (0, 0)) :: .pt b3 (.cells (prE p).toArray 56 (0, 0)) :: h) ?_ Su Sb ⟨ot + 1, ⟨by rw [if_pos c47], by omega, by omega⟩, rfl, rfl⟩)
 exact Su
 replace c47 := f_eq c47
 refine WC.skip (meetI [(7, .int .i64 ot)] (h'' := .pt b9 (.cells (guE g).toArray 70 (0, 0)) :: .pt b5 (.cells (hdE hd).toArray 76 (0, 0)) :: .pt b3 (.cells (prE p).toArray 56 (0, 0)) :: h) ?_ Su Sb ⟨ot, ⟨by rw [if_neg c47], by omega, by omega⟩, rfl, rfl⟩)
 exact Su
 rintro _ _ ⟨o2, ⟨ho3, ho4, ho5⟩, rfl, rfl⟩
 refine WC.frm rfl ?_
 rw [← ho3] at hJ
 refine gG ?_; intros; rename_i ops hG
 refine xM ?_
 refine bB ?_
 refine xM ?_
 refine zG (fun _ => pF u70) ?_
 refine zG (fun hc => PO.load1 u68 rfl (Eg hc) Me rfl) ?_
 refine zG (fun hc => PO.bin (Eg hc) Ev.const rfl) ?_
 refine xP ?_
 refine wn [0, 5, 7, 9, 39, 40, 41, 56] ?_
 try clear hG ops
 refine gE ?_; intros
 refine wc (fun c56 => ?_) fun c56 => ?_
 have d56 : o2 > 1 ∧ g.k = 6 := by simpa using c56
 rw [d56.2, if_pos rfl] at ho3
 rw [if_pos ⟨d56.2, by omega⟩] at hJ
 refine gD ?_; intros
 refine xC ?_
 refine wn [4] ?_
 refine WC.ret (wR (h) ?_)
 exact ⟨by rw [hJ], rfl⟩
 have d56 : ¬ (o2 > 1 ∧ g.k = 6) := by simpa using c56
 have hno : ¬ (g.k = 6 ∧ ot ≥ 1) := fun q => d56 ⟨by rw [q.1, if_pos rfl] at ho3; omega, q.1⟩
 rw [if_neg hno] at hJ
 refine WC.skip (kp [0, 5, 7, 9, 39, 40, 41] ?_)
 refine gD ?_; intros
 refine xF u70 ?_
 refine xG (pL u25) ?_
 refine xG (PO.lenSl u25 Et) ?_
 refine xK ?_
 refine wn [0, 5, 7, 9, 39, 40, 41, 58, 59, 60] ?_
 refine gE ?_; intros
 refine WC.loopI [0, 5, 7, 9, 39, 40, 41, 58, 59] rfl (fun μ F' h' => ∃ j : Nat, (j ≤ g.vl.l.length ∧ selX (shL s) g.vl.l hd.t = selX (shL s) (g.vl.l.drop j) hd.t) ∧ g.vl.l.length - j = μ ∧ F' = [(60, .int .i64 j)] ∧ .pt b9 (.cells (guE g).toArray 70 (0, 0)) :: .pt b5 (.cells (hdE hd).toArray 76 (0, 0)) :: .pt b3 (.cells (prE p).toArray 56 (0, 0)) :: h = h') (g.vl.l.length - 0) [(60, .int .i64 0)] (h0 := .pt b9 (.cells (guE g).toArray 70 (0, 0)) :: .pt b5 (.cells (hdE hd).toArray 76 (0, 0)) :: .pt b3 (.cells (prE p).toArray 56 (0, 0)) :: h) ?_ Sb ⟨0, ⟨by omega, rfl⟩, rfl, rfl, rfl⟩ ?_
 exact Su
 rintro _ _ _ ⟨j, ⟨hj, hS⟩, rfl, rfl, rfl⟩
 refine WC.frm rfl ?_
 refine gD ?_; intros
 refine bD ?_
 refine wn [0, 5, 7, 9, 39, 40, 41, 58, 59, 60, 61] ?_
 refine gE ?_; intros
 refine wc (fun c61 => ?_) fun c61 => ?_
 replace c61 := dT c61
 obtain ⟨v, hv⟩ := get_some (l := g.vl.l) (k := j) (by omega)
 rw [drop_at hv] at hS
 replace hS : selX (shL s) g.vl.l hd.t = if isX (shL s) v hd.t ≠ 0 then isX (shL s) v hd.t else selX (shL s) (g.vl.l.drop (j + 1)) hd.t := hS
 refine WC.skip (kp [0, 5, 7, 9, 39, 40, 41, 58, 59, 60] ?_)
 refine gD ?_; intros
 refine xG (PO.idx EL25.und EL25.size EL25.posz (Ev.tmp rfl) (Ev.tmp rfl) Rr rfl (by omega)) ?_
 refine xG (PO.loadFA u27 rfl rfl exE_len Rr (Ev.tmp rfl) (by assumption) rfl rfl (Nat.succ_pos _)) ?_
 refine xW fun b11 => ?_
 refine xS ?_
 refine wn [0, 5, 7, 9, 11, 39, 40, 41, 58, 59, 60] ?_
 refine gD ?_; intros
 refine xM ?_
 refine xG (pA u27) ?_
 refine xF u76 ?_
 refine xG (pA u30) ?_
 refine xf (E3 Et Et Et) (isR_ct (hs.mono Sb) v hd.t ((hvl.ok v (List.mem_of_getElem? hv)).mono Sb)) ?_
 refine xA ?_
 refine wn [0, 5, 7, 9, 12, 39, 40, 41, 58, 59, 60] ?_
 refine gD ?_; intros
 refine xM ?_
 refine bB ?_
 refine wn [0, 5, 7, 9, 12, 39, 40, 41, 58, 59, 60, 70] ?_
 refine gE ?_; intros
 refine wc (fun c70 => ?_) fun c70 => ?_
 replace c70 := t_ne c70
 rw [if_pos c70] at hS
 have hJ : G = isX (shL s) v hd.t := by rw [hJ, hC1, hS, if_pos c70, if_pos c70]
 refine gD ?_; intros
 refine xM ?_
 refine xA ?_
 refine wn [4] ?_
 refine WC.ret (wR (h) ?_)
 exact ⟨by rw [hJ], rfl⟩
 replace c70 := f_ne c70
 rw [if_neg (by simpa using c70)] at hS
 refine WC.skip (kp [0, 5, 7, 9, 39, 40, 41, 58, 59, 60] ?_)
 refine gD ?_; intros
 refine bI ?_
 refine xM ?_
 refine WL.nil (loopBackI (g.vl.l.length - (j + 1)) [(60, .int .i64 (j + 1))] (h'' := .pt b9 (.cells (guE g).toArray 70 (0, 0)) :: .pt b5 (.cells (hdE hd).toArray 76 (0, 0)) :: .pt b3 (.cells (prE p).toArray 56 (0, 0)) :: h) (by omega) ?_ Su Sb ⟨j + 1, ⟨by omega, hS⟩, rfl, rfl, rfl⟩)
 exact Su
 replace c61 := dF c61
 rw [show g.vl.l.drop j = [] from List.drop_eq_nil_of_le (by omega)] at hS
 have hS0 : selX (shL s) g.vl.l hd.t = 0 := hS
 rw [hS0, if_neg (by decide)] at hC1
 rw [hC1] at hJ
 refine WC.exit (kp [0, 5, 7, 9, 39, 40, 41] ?_)
 refine gD ?_; intros
 refine xM ?_
 refine xF u70 ?_
 refine xG (pL u45) ?_
 refine xG (PO.idx EL45.und EL45.size EL45.posz (Ev.tmp rfl) Ev.const Rr rfl (q := 0) (by omega)) ?_
 refine xG (PO.loadFA u56 rfl rfl prE_len Rr (Ev.tmp rfl) (by assumption) rfl rfl (Nat.succ_pos _)) ?_
 refine xf (E2 Et Et) (ih y hyi _ s a _ c (hs.mono Sb) ((hP.sub hyi).mono Sb) (by omega)) ?_
 refine xA ?_
 refine wn [0, 5, 7, 13, 39, 40, 41] ?_
 refine gD ?_; intros
 refine xM ?_
 refine bB ?_
 refine wn [0, 5, 7, 13, 39, 40, 41, 80] ?_
 refine gE ?_; intros
 refine wc (fun c80 => ?_) fun c80 => ?_
 replace c80 := t_ne c80
 rw [if_pos c80] at hJ
 refine gD ?_; intros
 refine xM ?_
 refine xA ?_
 refine wn [4] ?_
 refine WC.ret (wR (h) ?_)
 exact ⟨by rw [hJ], rfl⟩
 replace c80 := f_ne c80
 rw [if_neg (by simpa using c80)] at hJ
 refine WC.skip (kp [0, 5, 7, 39, 40, 41] ?_)
 refine gD ?_; intros
 refine bI ?_
 refine xM ?_
 refine WL.nil (loopBackI (p.gl.length - (i + 1)) [(7, .int .i64 o2), (41, .int .i64 (i + 1))] (h'' := .pt b5 (.cells (hdE hd).toArray 76 (0, 0)) :: .pt b3 (.cells (prE p).toArray 56 (0, 0)) :: h) (by omega) ?_ Su Sb ⟨i + 1, o2, ⟨⟨by omega, by omega, by omega⟩, hJ⟩, rfl, rfl, rfl⟩)
 exact Su
 replace c42 := dF c42
 rw [show p.gl.drop i = [] from List.drop_eq_nil_of_le (by omega)] at hJ
 refine WC.exit (kp [] ?_)
 refine gD ?_; intros
 refine xC ?_
 refine wn [4] ?_
 refine WC.ret (wR (h) ?_)
 exact ⟨by rw [hJ]; rfl, rfl⟩
end Go.Proofs.YtdhmplmpbcnojaaGreatDoor
end
/- TpO -/
section
namespace Go.Proofs.YtdhmplmpbcnojaaGreatDoor
open Go.Eng Go.Pc Go.Tg Go
open Go.Xp hiding B nameT
open Go.Ty (Ty Vr eqT tyV cellT zeroT PrOk VOk prL encV encV_len encI encI_len)
open Go.Lx (encB encB_len)
set_option maxRecDepth 100000
section
variable {m : View} {h : List Res} {s : List En} {a : Option Addr} {k c : Nat}
theorem variants1_ct (hs : ScR m h a k c s) (bk bg b2 : Nat) (g : Gu) (ka : Option Addr) (kn kc : Nat) (ks : List Int) (hk : Rd m h ka kn kc 1 (fl encI ks)) (hbk : Res.pt bk (.cells [.slice ka kn kc].toArray 100 (0, 0)) ∈ h) (hb2 : Res.pt b2 (.cells [.slice a k c].toArray 79 (0, 0)) ∈ h) (hbg : Res.pt bg (.cells (guE g).toArray 70 (0, 0)) ∈ h) (ho : LXk m h g.tg) :
   CT Tryz.prog 91 [.pointer (some ⟨bk, 0, none⟩), .pointer (some ⟨bg, 0, none⟩), .pointer (some ⟨b2, 0, none⟩)] h m (Pure1 h (.int .i64 (matchX (setX (shL s)) ks g.tg.l))) := by
 have hto := ho.rd
 refine CT.body Tryz.call91 Tryz.func91 rfl Tryz.ntmps91 Lb rfl ?_
 refine gD ?_; intros
 refine xC ?_
 refine wn [0, 1, 2] ?_
 refine gD ?_; intros
 refine xG (PO.load1 u100 rfl Et hbk rfl) ?_
 refine xF u70 ?_
 refine xG (PO.load1 u25 rfl Et hbg rfl) ?_
 refine xG (PO.load1 u79 rfl Et hb2 rfl) ?_
 refine xG (PO.makeFunc (E1 Et) Evs.nil) ?_
 refine xf (E3 Et Et Et) (match_ct 85 [.slice a k c] (setX (shL s)) _ _ _ ks _ _ _ g.tg.l hk hto (takesM hs ho)) ?_
 refine xA ?_
 refine wn [3] ?_
 refine WC.ret (wR (h) ?_)
 exact ⟨rfl, rfl⟩
theorem variants2_ct (hs : ScR m h a k c s) (bg b2 : Nat) (g : Gu) (hb2 : Res.pt b2 (.cells [.slice a k c].toArray 79 (0, 0)) ∈ h) (hbg : Res.pt bg (.cells (guE g).toArray 70 (0, 0)) ∈ h) (x : Pr) (hx : g.bl[0]? = some x) (hr : Rd m h g.ba g.bl.length g.bc 42 (fl prE g.bl)) (ih : ProcC m x) (hP : POk m h x) (hn : s.length + 16 * cntP x ≤ 1000000) :
   CT Tryz.prog 92 [.pointer (some ⟨b2, 0, none⟩), .pointer (some ⟨bg, 0, none⟩)] h m (Pure1 h (.int .i64 (chkP x (shL s)))) := by
 have hlt : 0 < g.bl.length := (List.getElem?_eq_some_iff.1 hx).1
 refine CT.body Tryz.call92 Tryz.func92 rfl Tryz.ntmps92 Lb rfl ?_
 refine gD ?_; intros
 refine xC ?_
 refine wn [0, 1] ?_
 refine gE ?_; intros
 refine dS [] (.op 0 (.op 1 (.op 2 (.op 3 (.op 4 .nil))))) [5, 6] mixed ?_
 refine yG rfl (PO.load1 u79 rfl Et hb2 rfl) ?_
 refine yG rfl (pF u70) ?_
 refine yG rfl (PO.load1 u45 rfl Et hbg rfl) ?_
 refine yG rfl (PO.idx EL45.und EL45.size EL45.posz (Ev.tmp rfl) Ev.const Rr rfl (q := 0) (by omega)) ?_
 refine yG rfl (PO.loadFA u56 rfl rfl prE_len Rr (Ev.tmp rfl) (by assumption) rfl rfl (Nat.succ_pos _)) ?_
 refine SR.nil rfl rfl ?_
 refine xf (E2 Et Et) (ih _ s a k c (hs.mono Sb) (hP.mono Sb) hn) ?_
 refine xA ?_
 refine wn [2] ?_
 refine WC.ret (wR (h) ?_)
 exact ⟨rfl, rfl⟩
end
theorem itE_cases (r : Option Vr) : itE r = 0 ∨ itE r = 130 := by cases r <;> simp [itE]
set_option maxHeartbeats 2000000 in
theorem variants_ct {m : View} {h : List Res} {s : List En} {a : Option Addr} {k c : Nat} (hg : Glob m) (hs : ScR m h a k c s) (p : Pr) (hP : POk m h p) (hV : Pl p) (hx : XOk m h p.ch) (hn : s.length + 16 * cntP p ≤ 1000000) (ih : ∀ x, In x p → ProcC m x) :
   CT Tryz.prog 59 [.slice a k c, prV p] h m (Pure1 h (.int .i64 (match chanX (shL s) p.ch 4 with | .error w => w | .ok q => chkV p.gl (shL s) q []))) := by
 obtain ⟨G, hG⟩ : ∃ G, G = match chanX (shL s) p.ch 4 with | .error w => w | .ok q => chkV p.gl (shL s) q [] := ⟨_, rfl⟩
 rw [← hG]
 have hO := hP.own
 have hgr := hO.g
 have gmx := hgr.mx
 have gle := hgr.le
 refine CT.body Tryz.call59 Tryz.func59 rfl Tryz.ntmps59 Lb rfl ?_
 refine gD ?_; intros
 refine xX fun b2 => ?_
 refine xX fun b3 => ?_
 refine xC ?_
 refine wn [2, 3] ?_
 refine gD ?_; intros
 refine xG (pL u79) ?_
 refine xF u56 ?_
 refine xG (pA u27) ?_
 refine xg (E3 Et Et Ev.const) (channel_ct hg hs Sb p.ch 4 (hx.mono Sb)) ?_
 rintro _ _ ⟨nh, rfl, cs, a2, c2, l2, rfl, hpr, hpl⟩
 refine xM ?_
 refine xE ?_
 refine xE ?_
 refine xW fun b5 => ?_
 refine xS ?_
 refine xA ?_
 refine wn [2, 3, 5, 6] ?_
 refine gD ?_; intros
 refine WL.makeMap Lb fun b19 => ?_
 refine xA ?_
 refine wn [2, 3, 5, 6, 7] ?_
 refine gD ?_; intros
 have hG0 : G = if errT (chanX (shL s) p.ch 4) ≠ 0 then errT (chanX (shL s) p.ch 4) else chkV p.gl (shL s) (cs, prS l2) [] := by
   cases hq : chanX (shL s) p.ch 4 with
   | error w =>
     rw [hG, hq]
     show w = if w ≠ 0 then w else _
     rw [if_pos (chan_ok s w hq)]
   | ok q => rw [hG, hq, hpl q hq]; rfl
 refine xF u56 ?_
 refine xG (pL u44) ?_
 refine xG (PO.lenSl u44 Et) ?_
 refine xK ?_
 refine wn [2, 5, 6, 7, 21, 22, 23] ?_
 refine gE ?_; intros
 refine WC.loopI [2, 5, 7, 21, 22] rfl (fun μ F' h' => ∃ i : Nat, ∃ er : Int, ∃ es : Array MapEntry, ∃ ck : Nat, ∃ seen : List B, ((i ≤ p.gl.length ∧ MapS es seen) ∧ G = (if er ≠ 0 then er else chkV (p.gl.drop i) (shL s) (cs, prS l2) seen)) ∧ p.gl.length - i = μ ∧ F' = [(6, .int .i64 er), (23, .int .i64 i)] ∧ .pt b19 (.map es ck) :: .pt b5 (.cells (prL cs a2 l2.length c2).toArray 51 (0, 0)) :: ((.pt b3 (.cells (prE p).toArray 56 (0, 0)) :: .pt b2 (.cells [.slice a k c].toArray 79 (0, 0)) :: h) ++ nh) = h') (p.gl.length - 0) [(6, .int .i64 (errT (chanX (shL s) p.ch 4))), (23, .int .i64 0)] (h0 := .pt b19 (.map (#[]) 0) :: .pt b5 (.cells (prL cs a2 l2.length c2).toArray 51 (0, 0)) :: ((.pt b3 (.cells (prE p).toArray 56 (0, 0)) :: .pt b2 (.cells [.slice a k c].toArray 79 (0, 0)) :: h) ++ nh)) ?_ Sb ⟨0, errT (chanX (shL s) p.ch 4), #[], 0, [], ⟨⟨by omega, MapS.nil⟩, hG0⟩, rfl, rfl, rfl⟩ ?_
 exact Su
 rintro _ _ _ ⟨i, er, es, ck, seen, ⟨⟨hk, hM⟩, hJ⟩, rfl, rfl, rfl⟩
 refine WC.frm rfl ?_
 refine gD ?_; intros
 refine bD ?_
 refine wn [2, 5, 6, 7, 21, 22, 23, 24] ?_
 refine gE ?_; intros
 refine wc (fun c24 => ?_) fun c24 => ?_
 replace c24 := dT c24
 obtain ⟨g, hgx⟩ := get_some (l := p.gl) (k := i) (by omega)
 have hgm := List.mem_of_getElem? hgx
 rw [drop_at hgx] at hJ
 obtain ⟨hgp, _, _⟩ := hV.gs g hgm
 have hgv := gu_spec hgp
 have hgo := hO.gs g hgm
 obtain ⟨y, hy⟩ := get_some (l := g.bl) (k := 0) (by have := hgv.body; omega)
 have hyi : In y p := In.g hgm (List.mem_of_getElem? hy)
 have hlt := hyi.lt
 have htg : LXk m h g.tg := lxk hgo.tg fun x hx => elem_may (hgv.tg x hx)
 obtain ⟨fv, hfv⟩ : ∃ fv, fv = findV cs g.name l2 := ⟨_, rfl⟩
 have hC1 : chkV1 g (shL s) (cs, prS l2) = match variantX (cs, prS l2) g.name with | .error w => w | .ok ks => if matchX (setX (shL s)) ks g.tg.l ≠ 0 then matchX (setX (shL s)) ks g.tg.l else chkP y (shL s) := by
   rw [← chkH_at hy]
   cases g
   rfl
 rw [variantX_it, ← hfv] at hC1
 have hit := it_rd hpr cs g.name
 rw [← hfv] at hit
 refine WC.skip (kp [2, 5, 6, 7, 21, 22, 23] ?_)
 refine gD ?_; intros
 refine xG (PO.idx EL44.und EL44.size EL44.posz (Ev.tmp rfl) (Ev.tmp rfl) Rr rfl (by omega)) ?_
 refine xG (PO.loadFA u70 rfl rfl guE_len Rr (Ev.tmp rfl) (by assumption) rfl rfl (Nat.succ_pos _)) ?_
 refine xW fun b9 => ?_
 refine xS ?_
 refine wn [2, 5, 6, 7, 9, 21, 22, 23] ?_
 refine gD ?_; intros
 refine xM ?_
 refine bB ?_
 refine wn [2, 5, 6, 7, 9, 21, 22, 23, 28] ?_
 refine gE ?_; intros
 refine wc (fun c28 => ?_) fun c28 => ?_
 replace c28 := t_ne c28
 rw [if_pos c28] at hJ
 refine gD ?_; intros
 refine xM ?_
 refine xA ?_
 refine wn [4] ?_
 refine WC.ret (wR (h) ?_)
 exact ⟨by rw [hJ], rfl⟩
 replace c28 := f_ne c28
 rw [if_neg (by simpa using c28)] at hJ
 replace hJ : G = if seen.contains g.name then 130 else if chkV1 g (shL s) (cs, prS l2) ≠ 0 then chkV1 g (shL s) (cs, prS l2) else chkV (p.gl.drop (i + 1)) (shL s) (cs, prS l2) (g.name :: seen) := hJ
 refine WC.skip (kp [2, 5, 7, 9, 21, 22, 23] ?_)
 refine gD ?_; intros
 refine xG (pA u51) ?_
 refine xF u70 ?_
 refine xG (pL u9) ?_
 refine xf (E2 Et Et) (hfv ▸ variant_ct cs a2 c2 l2 g.name (hpr.mono (View.le.refl _) Sb)) ?_
 refine xM ?_
 refine xE ?_
 refine xE ?_
 refine xW fun b10 => ?_
 refine xS ?_
 refine xA ?_
 refine wn [2, 5, 7, 9, 10, 11, 21, 22, 23] ?_
 refine gG ?_; intros; rename_i ops hG
 refine xM ?_
 refine bB ?_
 refine xM ?_
 refine zM ?_
 refine zG (fun _ => pF u70) ?_
 refine zG (fun hc => PO.load1 u9 rfl (Eg hc) Me rfl) ?_
 refine zG (fun hc => PO.mapGetS u152 u9 rfl hM (Eg hc) (Eg hc) Me) ?_
 refine xQ ?_
 refine wn [2, 5, 7, 9, 10, 21, 22, 23, 44] ?_
 try clear hG ops
 refine gE ?_; intros
 refine wc (fun c44 => ?_) fun c44 => ?_
 have d44 : ((itE fv != 0) || decide (g.name ∈ seen)) = true := c44
 have hJ : G = 130 := by
   by_cases hin : g.name ∈ seen
   · rw [hJ, if_pos (by simpa using hin)]
   · have h0 : itE fv ≠ 0 := by simpa [hin] using d44
     have h1 : itE fv = 130 := (itE_cases fv).resolve_left h0
     rw [if_neg h0] at hC1
     rw [hJ, if_neg (by simpa using hin), hC1, h1]
     rfl
 refine gD ?_; intros
 refine xC ?_
 refine wn [4] ?_
 refine WC.ret (wR (h) ?_)
 exact ⟨by rw [hJ], rfl⟩
 have d44 : ((itE fv != 0) || decide (g.name ∈ seen)) = false := c44
 simp only [Bool.or_eq_false_iff, bne_eq_false_iff_eq, decide_eq_false_iff_not] at d44
 rw [if_neg (by simpa using d44.2)] at hJ
 rw [if_pos d44.1] at hC1
 replace hC1 : chkV1 g (shL s) (cs, prS l2) = if matchX (setX (shL s)) (itL fv) g.tg.l ≠ 0 then matchX (setX (shL s)) (itL fv) g.tg.l else chkP y (shL s) := hC1
 refine WC.skip (kp [2, 5, 7, 9, 10, 21, 22, 23] ?_)
 refine gD ?_; intros
 refine xM ?_
 refine xF u70 ?_
 refine xG (pL u9) ?_
 refine WL.mapSetS (.inl rfl) u152 u9 hM Et Et Ev.const (fun _ _ => Up) fun es1 ck1 hM1 => ?_
 refine wn [2, 5, 7, 9, 10, 21, 22, 23] ?_
 refine gD ?_; intros
 refine xG (PO.makeFunc Evs.nil (E3 Et Et Et)) ?_
 refine xG (PO.makeFunc Evs.nil (E2 Et Et)) ?_
 refine xY EL189 (EvP.cons Et (EvP.cons Et EvP.nil)) fun b50 => ?_
 refine xf (E1 Et) (first2_ct b50 91 92 [.pointer (some ⟨b10, 0, none⟩), .pointer (some ⟨b9, 0, none⟩), .pointer (some ⟨b2, 0, none⟩)] [.pointer (some ⟨b2, 0, none⟩), .pointer (some ⟨b9, 0, none⟩)] _ _ Me (variants1_ct (hs.mono Sb) _ _ _ g _ _ _ (itL fv) (hit.mono (View.le.refl _) Sb) Me Me Me (htg.mono Sb)) (variants2_ct (hs.mono Sb) _ _ g Me Me y hy (hgo.b.mono (View.le.refl _) Sb) (ih y hyi) ((hP.sub hyi).mono Sb) (by omega))) ?_
 rw [← hC1]
 refine xA ?_
 refine wn [2, 5, 6, 7, 21, 22, 23] ?_
 refine gD ?_; intros
 refine bI ?_
 refine xM ?_
 refine WL.nil (loopBackI (p.gl.length - (i + 1)) [(6, .int .i64 (chkV1 g (shL s) (cs, prS l2))), (23, .int .i64 (i + 1))] (h'' := .pt b19 (.map es1 ck1) :: .pt b5 (.cells (prL cs a2 l2.length c2).toArray 51 (0, 0)) :: ((.pt b3 (.cells (prE p).toArray 56 (0, 0)) :: .pt b2 (.cells [.slice a k c].toArray 79 (0, 0)) :: h) ++ nh)) (by omega) ?_ Su Sb ⟨i + 1, chkV1 g (shL s) (cs, prS l2), es1, ck1, g.name :: seen, ⟨⟨by omega, hM1⟩, hJ⟩, rfl, rfl, rfl⟩)
 exact Su
 replace c24 := dF c24
 rw [show p.gl.drop i = [] from List.drop_eq_nil_of_le (by omega)] at hJ
 have hJ : G = er := by rw [hJ]; show (if er ≠ 0 then er else 0) = er; split <;> omega
 refine WC.exit (kp [6] ?_)
 refine gD ?_; intros
 refine xM ?_
 refine xA ?_
 refine wn [4] ?_
 refine WC.ret (wR (h) ?_)
 exact ⟨by rw [hJ], rfl⟩
theorem perm_asc (x y : Res) (h nh nh2 : List Res) : ((x :: y :: (h ++ nh)) ++ nh2).Perm (x :: y :: (h ++ (nh ++ nh2))) := by simp
theorem foE1_snoc {S : List Ent} {fs : List Fo} {i : Nat} {f : Fo} (hf : fs[i]? = some f) (n : Int) : (S ++ (fs.take i).map fun f => foE1 f n) ++ [foE1 f n] = S ++ (fs.take (i + 1)).map fun f => foE1 f n := by
 rw [take_at hf, List.map_append, List.append_assoc]
 rfl
theorem ScR.push {m : View} {h nh nh2 : List Res} {r0 : Res} {ia a' : Option Addr} {ik ic k' c' : Nat} {is : List En} (his : ScR m (r0 :: (h ++ nh)) ia ik ic is) (b : Nat) (k : Int) (ty : Ty) (nm : B) (ar : Nat) (har : ar ≤ is.length) (hp : k' ≤ c') (hq : c' ≤ 9223372036854775807) (hr : (fl enE (is ++ [inEn b k ty nm ar])).length = k' * 17) :
   ScR m (r0 :: (h ++ (.row (.slice a' k' c') 104 17 k' (fl enE (is ++ [inEn b k ty nm ar])) :: .pt b (.cells [str nm].toArray 9 (0, 0)) :: (nh ++ nh2)))) a' k' c' (is ++ [inEn b k ty nm ar]) := by
 have hh : (r0 :: (h ++ nh)).Sublist (r0 :: (h ++ (.row (.slice a' k' c') 104 17 k' (fl enE (is ++ [inEn b k ty nm ar])) :: .pt b (.cells [str nm].toArray 9 (0, 0)) :: (nh ++ nh2)))) :=
   List.Sublist.cons_cons _ (((List.sublist_append_left nh nh2).cons _ |>.cons _).append_left h)
 exact ScR.snoc (sp := inSp b k ty nm) (ar := ar) his hh (Rd.ofRow hr hp hq (List.mem_cons_of_mem _ (List.mem_append_right _ (List.Mem.head _)))) (Rd.ofPt rfl Lb (List.mem_cons_of_mem _ (List.mem_append_right _ (List.Mem.tail _ (List.Mem.head _))))) (Rd.nilF foE 6 _ _) (prNil _ _) har
theorem protoX_err (s : List En) (h : Hd) : ∀ w, protoX (shL s) h = .error w → w ≠ 0 := by
 intro w hw
 unfold protoX at hw
 split at hw
 · cases hw
 · split at hw
   · cases hw; decide
   · split at hw
     · split at hw
       · cases hw; decide
       · cases hw
     · cases hw; decide
set_option maxHeartbeats 2000000 in
theorem procedure_ct {m : View} {h : List Res} {s : List En} {a : Option Addr} {k c : Nat} (hg : Glob m) (hs : ScR m h a k c s) (x : Sp) (hO : SOk m h x) (hf8 : x.fs.l.length ≤ 8) (y : Pr) (hy : x.bl[0]? = some y) (hP : POk m h y) (hn : s.length + 16 + 16 * cntP y ≤ 1000000) (ih : ProcC m y) :
   CT Tryz.prog 141 [.slice a k c, spV x] h m (Pure1 h (.int .i64 (if fosX (shL s) x.fs.l ≠ 0 then fosX (shL s) x.fs.l else chkP y (shL s ++ x.fs.l.map fun f => foE1 f s.length)))) := by
 obtain ⟨G, hG⟩ : ∃ G, G = if fosX (shL s) x.fs.l ≠ 0 then fosX (shL s) x.fs.l else chkP y (shL s ++ x.fs.l.map fun f => foE1 f s.length) := ⟨_, rfl⟩
 rw [← hG]
 have hl := hs.rd.lenF enE_len (by decide)
 subst hl
 have hfr := hO.fr
 have fmx := hfr.mx
 have fle := hfr.le
 have hbr := hO.b
 have hy1 : 0 < x.bl.length := (List.getElem?_eq_some_iff.1 hy).1
 refine CT.body Tryz.call141 Tryz.func141 rfl Tryz.ntmps141 Lb rfl ?_
 refine gD ?_; intros
 refine xX fun b3 => ?_
 refine xC ?_
 refine wn [0, 3] ?_
 refine gD ?_; intros
 refine xM ?_
 refine xA ?_
 refine wn [0, 3, 5] ?_
 refine gD ?_; intros
 refine xF u54 ?_
 refine xG (pL u52) ?_
 refine xG (PO.lenSl u52 Et) ?_
 refine xK ?_
 refine WL.perm (h' := .pt b3 (.cells (spE x).toArray 54 (0, 0)) :: (h ++ [])) (by simp) ?_
 refine wn [0, 3, 5, 13, 14, 15] ?_
 refine gE ?_; intros
 refine WC.loopI [0, 3, 13, 14] rfl (fun μ F' h' => ∃ i : Nat, ∃ ia : Option Addr, ∃ ik : Nat, ∃ ic : Nat, ∃ is : List En, ∃ nh : List Res, (((i ≤ x.fs.l.length ∧ is.length = s.length + i) ∧ (ScR m (.pt b3 (.cells (spE x).toArray 54 (0, 0)) :: (h ++ nh)) ia ik ic is ∧ shL is = shL s ++ (x.fs.l.take i).map fun f => foE1 f s.length)) ∧ fosX (shL s) x.fs.l = fosX (shL s) (x.fs.l.drop i)) ∧ x.fs.l.length - i = μ ∧ F' = [(5, .slice ia ik ic), (15, .int .i64 i)] ∧ .pt b3 (.cells (spE x).toArray 54 (0, 0)) :: (h ++ nh) = h') (x.fs.l.length - 0) [(5, .slice a (s.length) c), (15, .int .i64 0)] (h0 := .pt b3 (.cells (spE x).toArray 54 (0, 0)) :: (h ++ ([]))) ?_ Sb ⟨0, a, s.length, c, s, [], ⟨⟨⟨by omega, rfl⟩, hs.mono Sb, by simp⟩, rfl⟩, rfl, rfl, rfl⟩ ?_
 exact Su
 rintro _ _ _ ⟨i, ia, ik, ic, is, nh, ⟨⟨⟨hk, hil⟩, his, hiS⟩, hJ⟩, rfl, rfl, rfl⟩
 refine WC.frm rfl ?_
 refine gD ?_; intros
 refine bD ?_
 refine wn [0, 3, 5, 13, 14, 15, 16] ?_
 refine gE ?_; intros
 refine wc (fun c16 => ?_) fun c16 => ?_
 replace c16 := dT c16
 obtain ⟨f, hf⟩ := get_some (l := x.fs.l) (k := i) (by omega)
 rw [drop_at hf] at hJ
 have hsn := foE1_snoc (S := shL s) hf (s.length : Int)
 replace hJ : fosX (shL s) x.fs.l = if f.val ∧ simT f.ty = false then 130 else match protoX (shL s) ⟨f.ty, (shL s).length⟩ with | .error w => w | .ok _ => fosX (shL s) (x.fs.l.drop (i + 1)) := hJ
 rw [shL_len] at hJ
 refine WC.skip (kp [0, 3, 5, 13, 14, 15] ?_)
 refine gD ?_; intros
 refine xG (PO.idx EL52.und EL52.size EL52.posz (Ev.tmp rfl) (Ev.tmp rfl) Rr rfl (by omega)) ?_
 refine xG (PO.loadFA u60 rfl rfl foE_len Rr (Ev.tmp rfl) (by assumption) rfl rfl (Nat.succ_pos _)) ?_
 refine xW fun b7 => ?_
 refine xS ?_
 refine wn [0, 3, 5, 7, 13, 14, 15] ?_
 refine gD ?_; intros
 refine xC ?_
 refine wn [0, 3, 5, 7, 8, 13, 14, 15] ?_
 refine gD ?_; intros
 refine xF u60 ?_
 refine xG (pL u4) ?_
 refine wn [0, 3, 5, 7, 8, 13, 14, 15, 20] ?_
 refine gE ?_; intros
 refine wc (fun c20 => ?_) fun c20 => ?_
 have hv : f.val = true := c20
 refine gD ?_; intros
 refine xC ?_
 refine wn [0, 3, 5, 7, 8, 13, 14, 15] ?_
 refine gD ?_; intros
 refine xF u60 ?_
 refine xG (pA u30) ?_
 refine xf (E1 Et) (tsim_ct _ _ _) ?_
 refine xG (PO.not Et) ?_
 refine wn [0, 3, 5, 7, 8, 13, 14, 15, 24] ?_
 refine gE ?_; intros
 refine wc (fun c24 => ?_) fun c24 => ?_
 have hsm : simT f.ty = false := by simpa using c24
 rw [if_pos ⟨hv, hsm⟩] at hJ
 have hG9 : G = 130 := by rw [hG, hJ]; rfl
 refine gD ?_; intros
 refine xC ?_
 refine wn [4] ?_
 refine WC.ret (wR (h) ?_)
 exact ⟨by rw [hG9], rfl⟩
 have hsm : simT f.ty = true := by simpa using c24
 rw [if_neg (fun q => by rw [hsm] at q; cases q.2)] at hJ
 have hkd : foE1 f (s.length : Int) = inE 2 f.ty f.name s.length := by unfold foE1; rw [hv]; rfl
 refine WC.skip (kp [0, 3, 5, 7, 8, 13, 14, 15] ?_)
 refine gD ?_; intros
 refine xM ?_
 refine xF u60 ?_
 refine xG (pA u30) ?_
 refine xM ?_
 refine xG (PO.lenSl u79 Et) ?_
 refine xG (PO.build u76 rfl rfl rfl (EvP.cons Et (EvP.cons Et EvP.nil)) rfl) ?_
 refine xg (E2 Et Et) (protocol_ct hg hs Sb f.ty s.length (Nat.le_refl _)) ?_
 rintro _ _ ⟨nh2, rfl, _, _, _, _, rfl, _, _⟩
 refine WL.perm (perm_asc _ _ h nh nh2) ?_
 refine xM ?_
 refine xE ?_
 refine xE ?_
 refine xW fun b9 => ?_
 refine xS ?_
 refine xA ?_
 refine wn [0, 3, 5, 7, 8, 10, 13, 14, 15] ?_
 refine gD ?_; intros
 refine xM ?_
 refine bB ?_
 refine wn [0, 3, 5, 7, 8, 10, 13, 14, 15, 36] ?_
 refine gE ?_; intros
 refine wc (fun c36 => ?_) fun c36 => ?_
 replace c36 := t_ne c36
 obtain ⟨w, hw⟩ := err_of c36
 rw [hw] at hJ
 have hG9 : G = w := by
   have hw0 : w ≠ 0 := by rw [hw] at c36; exact c36
   rw [hG, hJ]
   show (if w ≠ 0 then w else _) = w
   rw [if_pos hw0]
 refine gD ?_; intros
 refine xM ?_
 refine xA ?_
 refine wn [4] ?_
 refine WC.ret (wR (h) ?_)
 exact ⟨by rw [hG9, hw]; rfl, rfl⟩
 replace c36 := f_ne c36
 have hJ : fosX (shL s) x.fs.l = fosX (shL s) (x.fs.l.drop (i + 1)) := by
   cases hq : protoX (shL s) ⟨f.ty, s.length⟩ with
   | error w => rw [hq] at c36 hJ; exact absurd c36 (protoX_err s _ w hq)
   | ok q => rw [hq] at hJ; exact hJ
 refine WC.skip (kp [0, 3, 5, 7, 8, 13, 14, 15] ?_)
 refine gD ?_; intros
 refine xM ?_
 refine xM ?_
 refine xF u60 ?_
 refine xG (pA u30) ?_
 refine xF u60 ?_
 refine xG (pL u9) ?_
 refine xY EL48 (EvP.cons Et EvP.nil) fun b44 => ?_
 refine xG (PO.build u54 rfl rfl rfl (EvP.cons Et (EvP.cons Et (EvP.cons Et EvP.nil))) rfl) ?_
 refine xM ?_
 refine xG (PO.lenSl u79 Et) ?_
 refine xg (E3 Et Et Et) (open_ct (his.mono (List.Sublist.trans (List.Sublist.cons_cons _ ((List.sublist_append_left nh nh2).append_left h)) Sb)) (inSp b44 2 f.ty f.name) s.length (by omega)) ?_
 rintro _ _ ⟨a48, c48, k48, e48, rfl, rfl⟩
 refine WL.knowRow (a := a48) Me fun p48 q48 r48 => ?_
 refine WL.drop (h' := .row (.slice a48 k48 c48) 104 17 k48 (fl enE (is ++ [inEn b44 2 f.ty f.name s.length])) :: .pt b44 (.cells [str f.name].toArray 9 (0, 0)) :: .pt b3 (.cells (spE x).toArray 54 (0, 0)) :: (h ++ (nh ++ nh2))) Sb ?_
 refine WL.perm (perm_mid [_, _] (.pt b3 (.cells (spE x).toArray 54 (0, 0)) :: h) (nh ++ nh2)) ?_
 have hpu := ScR.push (nh2 := nh2) (a' := a48) his b44 2 f.ty f.name s.length (by omega) p48 q48 r48
 have hsh : shL (is ++ [inEn b44 2 f.ty f.name s.length]) = shL s ++ (x.fs.l.take (i + 1)).map fun f => foE1 f s.length := by
   rw [← hsn, ← hiS, hkd]
   unfold shL
   rw [List.map_append]
   rfl
 refine xA ?_
 refine wn [0, 3, 5, 13, 14, 15] ?_
 refine gD ?_; intros
 refine bI ?_
 refine xM ?_
 refine WL.nil (loopBackI (x.fs.l.length - (i + 1)) [(5, .slice a48 k48 c48), (15, .int .i64 (i + 1))] (h'' := .pt b3 (.cells (spE x).toArray 54 (0, 0)) :: (h ++ (.row (.slice a48 k48 c48) 104 17 k48 (fl enE (is ++ [inEn b44 2 f.ty f.name s.length])) :: .pt b44 (.cells [str f.name].toArray 9 (0, 0)) :: (nh ++ nh2)))) (by omega) ?_ Su Sb ⟨i + 1, a48, k48, c48, is ++ [inEn b44 2 f.ty f.name s.length], .row (.slice a48 k48 c48) 104 17 k48 (fl enE (is ++ [inEn b44 2 f.ty f.name s.length])) :: .pt b44 (.cells [str f.name].toArray 9 (0, 0)) :: (nh ++ nh2), ⟨⟨⟨by omega, by simp; omega⟩, hpu, hsh⟩, hJ⟩, rfl, rfl, rfl⟩)
 exact Su
 have hv : f.val = false := c20
 rw [if_neg (fun q => by rw [hv] at q; cases q.1)] at hJ
 have hkd : foE1 f (s.length : Int) = inE 1 f.ty f.name s.length := by unfold foE1; rw [hv]; rfl
 refine WC.skip (kp [0, 3, 5, 7, 8, 13, 14, 15] ?_)
 refine gD ?_; intros
 refine xM ?_
 refine xF u60 ?_
 refine xG (pA u30) ?_
 refine xM ?_
 refine xG (PO.lenSl u79 Et) ?_
 refine xG (PO.build u76 rfl rfl rfl (EvP.cons Et (EvP.cons Et EvP.nil)) rfl) ?_
 refine xg (E2 Et Et) (protocol_ct hg hs Sb f.ty s.length (Nat.le_refl _)) ?_
 rintro _ _ ⟨nh2, rfl, _, _, _, _, rfl, _, _⟩
 refine WL.perm (perm_asc _ _ h nh nh2) ?_
 refine xM ?_
 refine xE ?_
 refine xE ?_
 refine xW fun b9 => ?_
 refine xS ?_
 refine xA ?_
 refine wn [0, 3, 5, 7, 8, 10, 13, 14, 15] ?_
 refine gD ?_; intros
 refine xM ?_
 refine bB ?_
 refine wn [0, 3, 5, 7, 8, 10, 13, 14, 15, 36] ?_
 refine gE ?_; intros
 refine wc (fun c36 => ?_) fun c36 => ?_
 replace c36 := t_ne c36
 obtain ⟨w, hw⟩ := err_of c36
 rw [hw] at hJ
 have hG9 : G = w := by
   have hw0 : w ≠ 0 := by rw [hw] at c36; exact c36
   rw [hG, hJ]
   show (if w ≠ 0 then w else _) = w
   rw [if_pos hw0]
 refine gD ?_; intros
 refine xM ?_
 refine xA ?_
 refine wn [4] ?_
 refine WC.ret (wR (h) ?_)
 exact ⟨by rw [hG9, hw]; rfl, rfl⟩
 replace c36 := f_ne c36
 have hJ : fosX (shL s) x.fs.l = fosX (shL s) (x.fs.l.drop (i + 1)) := by
   cases hq : protoX (shL s) ⟨f.ty, s.length⟩ with
   | error w => rw [hq] at c36 hJ; exact absurd c36 (protoX_err s _ w hq)
   | ok q => rw [hq] at hJ; exact hJ
 refine WC.skip (kp [0, 3, 5, 7, 8, 13, 14, 15] ?_)
 refine gD ?_; intros
 refine xM ?_
 refine xM ?_
 refine xF u60 ?_
 refine xG (pA u30) ?_
 refine xF u60 ?_
 refine xG (pL u9) ?_
 refine xY EL48 (EvP.cons Et EvP.nil) fun b44 => ?_
 refine xG (PO.build u54 rfl rfl rfl (EvP.cons Et (EvP.cons Et (EvP.cons Et EvP.nil))) rfl) ?_
 refine xM ?_
 refine xG (PO.lenSl u79 Et) ?_
 refine xg (E3 Et Et Et) (open_ct (his.mono (List.Sublist.trans (List.Sublist.cons_cons _ ((List.sublist_append_left nh nh2).append_left h)) Sb)) (inSp b44 1 f.ty f.name) s.length (by omega)) ?_
 rintro _ _ ⟨a48, c48, k48, e48, rfl, rfl⟩
 refine WL.knowRow (a := a48) Me fun p48 q48 r48 => ?_
 refine WL.drop (h' := .row (.slice a48 k48 c48) 104 17 k48 (fl enE (is ++ [inEn b44 1 f.ty f.name s.length])) :: .pt b44 (.cells [str f.name].toArray 9 (0, 0)) :: .pt b3 (.cells (spE x).toArray 54 (0, 0)) :: (h ++ (nh ++ nh2))) Sb ?_
 refine WL.perm (perm_mid [_, _] (.pt b3 (.cells (spE x).toArray 54 (0, 0)) :: h) (nh ++ nh2)) ?_
 have hpu := ScR.push (nh2 := nh2) (a' := a48) his b44 1 f.ty f.name s.length (by omega) p48 q48 r48
 have hsh : shL (is ++ [inEn b44 1 f.ty f.name s.length]) = shL s ++ (x.fs.l.take (i + 1)).map fun f => foE1 f s.length := by
   rw [← hsn, ← hiS, hkd]
   unfold shL
   rw [List.map_append]
   rfl
 refine xA ?_
 refine wn [0, 3, 5, 13, 14, 15] ?_
 refine gD ?_; intros
 refine bI ?_
 refine xM ?_
 refine WL.nil (loopBackI (x.fs.l.length - (i + 1)) [(5, .slice a48 k48 c48), (15, .int .i64 (i + 1))] (h'' := .pt b3 (.cells (spE x).toArray 54 (0, 0)) :: (h ++ (.row (.slice a48 k48 c48) 104 17 k48 (fl enE (is ++ [inEn b44 1 f.ty f.name s.length])) :: .pt b44 (.cells [str f.name].toArray 9 (0, 0)) :: (nh ++ nh2)))) (by omega) ?_ Su Sb ⟨i + 1, a48, k48, c48, is ++ [inEn b44 1 f.ty f.name s.length], .row (.slice a48 k48 c48) 104 17 k48 (fl enE (is ++ [inEn b44 1 f.ty f.name s.length])) :: .pt b44 (.cells [str f.name].toArray 9 (0, 0)) :: (nh ++ nh2), ⟨⟨⟨by omega, by simp; omega⟩, hpu, hsh⟩, hJ⟩, rfl, rfl, rfl⟩)
 exact Su
 replace c16 := dF c16
 rw [show x.fs.l.drop i = [] from List.drop_eq_nil_of_le (by omega)] at hJ
 have hJ0 : fosX (shL s) x.fs.l = 0 := hJ
 rw [hJ0, if_neg (by decide)] at hG
 rw [List.take_of_length_le (by omega)] at hiS
 rw [← hiS] at hG
 refine WC.exit (kp [3, 5] ?_)
 refine gD ?_; intros
 refine xM ?_
 refine xF u54 ?_
 refine xG (pL u45) ?_
 refine xG (PO.idx EL45.und EL45.size EL45.posz (Ev.tmp rfl) Ev.const Rr rfl (q := 0) (by omega)) ?_
 refine xG (PO.loadFA u56 rfl rfl prE_len Rr (Ev.tmp rfl) (by assumption) rfl rfl (Nat.succ_pos _)) ?_
 refine xf (E2 Et Et) (ih _ is ia ik ic (his.mono Sb) (hP.mono Sb) (by omega)) ?_
 refine xA ?_
 refine wn [4] ?_
 refine WC.ret (wR (h) ?_)
 exact ⟨by rw [hG], rfl⟩
theorem specification_ct {m : View} {h : List Res} {s : List En} {a : Option Addr} {k c : Nat} (hg : Glob m) (hs : ScR m h a k c s) (x : Sp) (hO : SOk m h x) (hV : SpV x) (hP : ∀ y ∈ x.bl, POk m h y) (ih : ∀ y ∈ x.bl, ProcC m y) (hn : ∀ y ∈ x.bl, s.length + 16 + 16 * cntP y ≤ 1000000) :
   CT Tryz.prog 98 [.slice a k c, spV x] h m (Pure1 h (.int .i64 (chkS x (shL s)))) := by
 have hl := hs.rd.lenF enE_len (by decide)
 subst hl
 have hC : chkS x (shL s) = if x.k = 1 then errT (protoX (shL s) ⟨x.ty, (shL s).length⟩) else if x.k = 2 then (if simT x.ty = false then 130 else isX (shL s) x.e x.ty) else if x.k = 3 then (if simT x.ty = false then 130 else takesX (shL s) x.e x.ty) else if x.k = 5 then (if fosX (shL s) x.fs.l ≠ 0 then fosX (shL s) x.fs.l else chkH x.bl (shL s ++ x.fs.l.map fun f => foE1 f (shL s).length)) else 0 := by
   cases x
   rfl
 rw [shL_len] at hC
 refine CT.body Tryz.call98 Tryz.func98 rfl Tryz.ntmps98 Lb rfl ?_
 refine gD ?_; intros
 refine xX fun b3 => ?_
 refine xC ?_
 refine wn [0, 3] ?_
 refine gD ?_; intros
 refine xF u54 ?_
 refine xG (pL u47) ?_
 refine wn [0, 3, 8] ?_
 refine gD ?_; intros
 refine bB ?_
 refine xA ?_
 refine wn [0, 3, 8, 9] ?_
 refine gE ?_; intros
 refine wc (fun c9 => ?_) fun c9 => ?_
 replace c9 := t_eq c9
 rw [if_pos c9] at hC
 refine gD ?_; intros
 refine xM ?_
 refine xF u54 ?_
 refine xG (pA u30) ?_
 refine xM ?_
 refine xG (PO.lenSl u79 Et) ?_
 refine xG (PO.build u76 rfl rfl rfl (EvP.cons Et (EvP.cons Et EvP.nil)) rfl) ?_
 refine xg (E2 Et Et) (protocol_ct hg hs Sb x.ty s.length (Nat.le_refl _)) ?_
 rintro _ _ ⟨nh2, rfl, _, _, _, _, rfl, _, _⟩
 refine xM ?_
 refine xE ?_
 refine xE ?_
 refine xW fun b5 => ?_
 refine xS ?_
 refine xA ?_
 refine wn [6] ?_
 refine gD ?_; intros
 refine xM ?_
 refine xA ?_
 refine wn [4] ?_
 refine WC.ret (wR (h) ?_)
 exact ⟨by rw [hC]; rfl, rfl⟩
 replace c9 := f_eq c9
 rw [if_neg c9] at hC
 refine gD ?_; intros
 refine bB ?_
 refine xA ?_
 refine wn [0, 3, 8, 22] ?_
 (repeat refine WC.seqK fun K hK => ?_)
 refine WC.cutK (by assumption) [0, 3, 8] rfl (fun F' h' => ∃ bb : Bool, (bb = true ↔ (x.k = 2 ∨ x.k = 3)) ∧ F' = [(22, .bool bb)] ∧ .pt b3 (.cells (spE x).toArray 54 (0, 0)) :: h = h') ?_ ?_
 refine gE ?_; intros
 refine wc (fun c22 => ?_) fun c22 => ?_
 have ca : (x.k == 2) = true := c22
 refine WC.skip (meetI [(22, .bool ((x.k == 2)))] (h'' := .pt b3 (.cells (spE x).toArray 54 (0, 0)) :: h) ?_ Su Sb ⟨(x.k == 2), ⟨fun _ => .inl (by simpa using ca), fun _ => ca⟩, rfl, rfl⟩)
 exact Su
 have ca : (x.k == 2) = false := c22
 refine gD ?_; intros
 refine bB ?_
 refine xA ?_
 refine WL.nil (meetI [(22, .bool ((x.k == 3)))] (h'' := .pt b3 (.cells (spE x).toArray 54 (0, 0)) :: h) ?_ Su Sb ⟨(x.k == 3), ⟨fun hk => .inr (by simpa using hk), fun hk => hk.elim (fun h1 => absurd h1 (by simpa using ca)) (fun h1 => by simpa using h1)⟩, rfl, rfl⟩)
 exact Su
 rintro _ _ ⟨bb, hbb, rfl, rfl⟩
 refine WC.frm rfl ?_
 refine gE ?_; intros
 refine wc (fun c22 => ?_) fun c22 => ?_
 have hk := hbb.1 c22
 refine gD ?_; intros
 refine xF u54 ?_
 refine xG (pA u30) ?_
 refine xf (E1 Et) (tsim_ct _ _ _) ?_
 refine xG (PO.not Et) ?_
 refine xA ?_
 refine wn [0, 3, 25] ?_
 refine gE ?_; intros
 refine wc (fun c25 => ?_) fun c25 => ?_
 have hsm : simT x.ty = false := by simpa using c25
 have hC : chkS x (shL s) = 130 := by
   rcases hk with hk | hk
   · rw [hC, if_pos hk, if_pos hsm]
   · rw [hC, if_neg (by omega), if_pos hk, if_pos hsm]
 refine gD ?_; intros
 refine xC ?_
 refine wn [4] ?_
 refine WC.ret (wR (h) ?_)
 exact ⟨by rw [hC], rfl⟩
 have hsm : simT x.ty = true := by simpa using c25
 refine gD ?_; intros
 refine xF u54 ?_
 refine xG (pL u47) ?_
 refine bB ?_
 refine xA ?_
 refine wn [0, 3, 30] ?_
 refine gE ?_; intros
 refine wc (fun c30 => ?_) fun c30 => ?_
 replace c30 := t_eq c30
 rw [if_pos c30, if_neg (by rw [hsm]; decide)] at hC
 have hxe := xok hO.e (hV.ev c30)
 refine gD ?_; intros
 refine xM ?_
 refine xF u54 ?_
 refine xG (pA u27) ?_
 refine xF u54 ?_
 refine xG (pA u30) ?_
 refine xf (E3 Et Et Et) (isR_ct (hs.mono Sb) x.e x.ty (hxe.mono Sb)) ?_
 refine xA ?_
 refine wn [4] ?_
 refine WC.ret (wR (h) ?_)
 exact ⟨by rw [hC], rfl⟩
 replace c30 := f_eq c30
 have hk3 : x.k = 3 := by omega
 rw [if_neg c30, if_pos hk3, if_neg (by rw [hsm]; decide)] at hC
 have hxe := xok hO.e (elem_may (hV.es hk3))
 refine WC.skip (kp [0, 3] ?_)
 refine gD ?_; intros
 refine xM ?_
 refine xF u54 ?_
 refine xG (pA u27) ?_
 refine xF u54 ?_
 refine xG (pA u30) ?_
 refine xf (E3 Et Et Et) (takes_ct (hs.mono Sb) x.e x.ty (hxe.mono Sb)) ?_
 refine xA ?_
 refine wn [4] ?_
 refine WC.ret (wR (h) ?_)
 exact ⟨by rw [hC], rfl⟩
 have hk : ¬ (x.k = 2 ∨ x.k = 3) := fun q => by rw [hbb.2 q] at c22; cases c22
 rw [if_neg (fun q => hk (.inl q)), if_neg (fun q => hk (.inr q))] at hC
 refine gD ?_; intros
 refine bB ?_
 refine xA ?_
 refine wn [0, 3, 46] ?_
 refine gE ?_; intros
 refine wc (fun c46 => ?_) fun c46 => ?_
 replace c46 := t_eq c46
 rw [if_pos c46] at hC
 obtain ⟨y, hy⟩ := get_some (l := x.bl) (k := 0) (by have := hV.body c46; omega)
 have hym := List.mem_of_getElem? hy
 rw [chkH_at hy] at hC
 refine gD ?_; intros
 refine xM ?_
 refine xG (pA u54) ?_
 refine xf (E2 Et Et) (procedure_ct hg (hs.mono Sb) x (hO.mono Sb) (hV.fs c46) y hy ((hP y hym).mono Sb) (hn y hym) (ih y hym)) ?_
 refine xA ?_
 refine wn [4] ?_
 refine WC.ret (wR (h) ?_)
 exact ⟨by rw [hC], rfl⟩
 replace c46 := f_eq c46
 rw [if_neg c46] at hC
 refine WC.skip (kp [] ?_)
 refine gD ?_; intros
 refine xC ?_
 refine wn [4] ?_
 refine WC.ret (wR (h) ?_)
 exact ⟨by rw [hC], rfl⟩
section
variable {m : View} {h : List Res} {s : List En} {a : Option Addr} {k c : Nat}
theorem specified1_ct (hg : Glob m) (hs : ScR m h a k c s) (b2 b3 : Nat) (p : Pr) (hb2 : Res.pt b2 (.cells [.slice a k c].toArray 79 (0, 0)) ∈ h) (hb3 : Res.pt b3 (.cells (prE p).toArray 56 (0, 0)) ∈ h) (hP : POk m h p) (hV : SpV p.sp) (hn : s.length + 16 * cntP p ≤ 1000000) (ih : ∀ x, In x p → ProcC m x) :
   CT Tryz.prog 97 [.pointer (some ⟨b2, 0, none⟩), .pointer (some ⟨b3, 0, none⟩)] h m (Pure1 h (.int .i64 (chkS p.sp (shL s)))) := by
 refine CT.body Tryz.call97 Tryz.func97 rfl Tryz.ntmps97 Lb rfl ?_
 refine gD ?_; intros
 refine xC ?_
 refine wn [0, 1] ?_
 refine gD ?_; intros
 refine xG (PO.load1 u79 rfl Et hb2 rfl) ?_
 refine xF u56 ?_
 refine xG (PO.loadA u54 rfl rfl Et hb3 rfl) ?_
 refine xf (E2 Et Et) (specification_ct hg hs p.sp hP.own.sp hV (fun y hy => hP.sub (In.s hy)) (fun y hy => ih y (In.s hy)) (fun y hy => by have := (In.s (p := p) hy).lt; omega)) ?_
 refine xA ?_
 refine wn [2] ?_
 refine WC.ret (wR (h) ?_)
 exact ⟨rfl, rfl⟩
theorem specified2_ct (hs : ScR m h a k c s) (b2 b3 : Nat) (p : Pr) (hb2 : Res.pt b2 (.cells [.slice a k c].toArray 79 (0, 0)) ∈ h) (hb3 : Res.pt b3 (.cells (prE p).toArray 56 (0, 0)) ∈ h) (hP : POk m h p) (x : Pr) (hx : p.ll[0]? = some x) (ih : ProcC m x) (hn : s.length + 16 * cntP p ≤ 1000000) :
   CT Tryz.prog 99 [.pointer (some ⟨b2, 0, none⟩), .pointer (some ⟨b3, 0, none⟩)] h m (Pure1 h (.int .i64 (chkP x (shL s ++ [shS p.sp (shL s).length])))) := by
 have hl := hs.rd.lenF enE_len (by decide)
 subst hl
 have hlt : 0 < p.ll.length := (List.getElem?_eq_some_iff.1 hx).1
 have hxi : In x p := In.l (List.mem_of_getElem? hx)
 have hcl := hxi.lt
 have hlr := hP.own.l
 have hPx := hP.sub hxi
 have hso := hP.own.sp
 have hsh : shL (s ++ [⟨p.sp, (s.length : Int)⟩]) = shL s ++ [shS p.sp (shL s).length] := by
   unfold shL
   rw [List.map_append, List.length_map]
   rfl
 refine CT.body Tryz.call99 Tryz.func99 rfl Tryz.ntmps99 Lb rfl ?_
 refine gD ?_; intros
 refine xC ?_
 refine wn [0, 1] ?_
 refine gE ?_; intros
 refine dS [5] (.op 0 (.op 1 (.op 2 (.op 3 (.op 4 (.op 6 (.op 7 (.op 8 (.op 9 (.op 5 .nil)))))))))) [10, 11] mixed ?_
 refine yG rfl (PO.load1 u79 rfl Et hb2 rfl) ?_
 refine yG rfl (pF u56) ?_
 refine yG rfl (PO.loadA u54 rfl rfl Et hb3 rfl) ?_
 refine yG rfl (PO.load1 u79 rfl Et hb2 rfl) ?_
 refine yG rfl (PO.lenSl u79 Et) ?_
 refine yG rfl (pF u56) ?_
 refine yG rfl (PO.load1 u45 rfl Et hb3 rfl) ?_
 refine yG rfl (PO.idx EL45.und EL45.size EL45.posz (Ev.tmp rfl) Ev.const Rr rfl (q := 0) (by omega)) ?_
 refine yG rfl (PO.loadFA u56 rfl rfl prE_len Rr (Ev.tmp rfl) (by assumption) rfl rfl (Nat.succ_pos _)) ?_
 refine SR.callF rfl rfl Ev.func (E3 Et Et Et) (fun fr => open_ct (hs.mono Sb) p.sp s.length (by omega)) Lb fun a8 c8 => ?_
 refine SR.nil rfl rfl ?_
 refine WL.knowRow (a := a8) Me fun hk1 hk2 hk3 => ?_
 refine xf (E2 Et Et) (ih _ (s ++ [⟨p.sp, (s.length : Int)⟩]) a8 _ c8 (ScR.snoc hs Sb (Rd.ofRow hk3 hk1 hk2 Me) (hso.nr.mono (View.le.refl _) Sb) (hso.fr.mono (View.le.refl _) Sb) (hso.v.mono (View.le.refl _) Sb) (Nat.le_refl _)) (hPx.mono Sb) (by rw [List.length_append]; show s.length + 1 + _ ≤ _; omega)) ?_
 refine xA ?_
 refine wn [2] ?_
 refine WC.ret (wR (h) ?_)
 exact ⟨by rw [hsh], rfl⟩
theorem specified_ct (hg : Glob m) (hs : ScR m h a k c s) (p : Pr) (hP : POk m h p) (hV : SpV p.sp) (h1 : 0 < p.ll.length) (hn : s.length + 16 * cntP p ≤ 1000000) (ih : ∀ x, In x p → ProcC m x) :
   CT Tryz.prog 64 [.slice a k c, prV p] h m (Pure1 h (.int .i64 (if chkS p.sp (shL s) ≠ 0 then chkS p.sp (shL s) else chkH p.ll (shL s ++ [shS p.sp (shL s).length])))) := by
 obtain ⟨x, hx⟩ := get_some h1
 have hxi : In x p := In.l (List.mem_of_getElem? hx)
 rw [chkH_at hx]
 refine CT.body Tryz.call64 Tryz.func64 rfl Tryz.ntmps64 Lb rfl ?_
 refine gD ?_; intros
 refine xX fun b2 => ?_
 refine xX fun b3 => ?_
 refine xC ?_
 refine wn [2, 3] ?_
 refine gD ?_; intros
 refine xG (PO.makeFunc Evs.nil (E2 Et Et)) ?_
 refine xG (PO.makeFunc Evs.nil (E2 Et Et)) ?_
 refine xY EL189 (EvP.cons Et (EvP.cons Et EvP.nil)) fun b7 => ?_
 refine xf (E1 Et) (first2_ct b7 97 99 [.pointer (some ⟨b2, 0, none⟩), .pointer (some ⟨b3, 0, none⟩)] [.pointer (some ⟨b2, 0, none⟩), .pointer (some ⟨b3, 0, none⟩)] _ _ Me (specified1_ct hg (hs.mono Sb) _ _ p Me Me (hP.mono Sb) hV hn ih) (specified2_ct (hs.mono Sb) _ _ p Me Me (hP.mono Sb) x hx (ih x hxi) hn)) ?_
 refine xA ?_
 refine wn [4] ?_
 refine WC.ret (wR (h) ?_)
 exact ⟨rfl, rfl⟩
end
end Go.Proofs.YtdhmplmpbcnojaaGreatDoor
end
/- ExpA -/
section
namespace Go.Proofs.YtdhmplmpbcnojaaGreatDoor
open Go.Eng Go.Xp Go
set_option maxRecDepth 100000
theorem prim_ct (k : Int) (h : List Res) (m : View) : CT Tryz.prog 66 [.int .u8 k] h m (Pure1 h (str (primP k))) := by
 refine CT.body Tryz.call66 Tryz.func66 rfl Tryz.ntmps66 Lb rfl ?_
 refine gD ?_; intros
 refine xC ?_
 refine wn [0] ?_
 refine gD ?_; intros
 refine xM ?_
 refine wn [3] ?_
 refine gD ?_; intros
 refine bB ?_
 refine xA ?_
 refine wn [3, 4] ?_
 refine gE ?_; intros
 refine wc (fun c4 => ?_) fun c4 => ?_
 replace c4 := t_eq c4
 refine gD ?_; intros
 refine xC ?_
 refine wn [2] ?_
 refine WC.ret (wR (h) ?_)
 exact ⟨by unfold primP; rw [if_pos c4], rfl⟩
 replace c4 := f_eq c4
 refine gD ?_; intros
 refine bB ?_
 refine xA ?_
 refine wn [3, 6] ?_
 refine gE ?_; intros
 refine wc (fun c6 => ?_) fun c6 => ?_
 replace c6 := t_eq c6
 refine gD ?_; intros
 refine xC ?_
 refine wn [2] ?_
 refine WC.ret (wR (h) ?_)
 exact ⟨by unfold primP; rw [if_neg c4, if_pos c6], rfl⟩
 replace c6 := f_eq c6
 refine gD ?_; intros
 refine bB ?_
 refine xA ?_
 refine wn [8] ?_
 refine gE ?_; intros
 refine wc (fun c8 => ?_) fun c8 => ?_
 replace c8 := t_eq c8
 refine gD ?_; intros
 refine xC ?_
 refine wn [2] ?_
 refine WC.ret (wR (h) ?_)
 exact ⟨by unfold primP; rw [if_neg c4, if_neg c6, if_pos c8], rfl⟩
 replace c8 := f_eq c8
 refine WC.skip (kp [] ?_)
 refine gD ?_; intros
 refine xC ?_
 refine wn [2] ?_
 refine WC.ret (wR (h) ?_)
 exact ⟨by unfold primP; rw [if_neg c4, if_neg c6, if_neg c8], rfl⟩
theorem parts_ct {m : View} (hg : Glob m) (e : Ex) (hw : Wf e) (h : List Res) : CT Tryz.prog 37 [exV e] h m (Pure1 h (.tuple #[.int .i64 (partsP e).1, .bool (partsP e).2])) := by
 obtain ⟨⟨hk, ho, ht⟩, hn, hs⟩ := hw.spec
 have hs2 : e.s.length ≤ 9223372036854775807 := by omega
 refine CT.body Tryz.call37 Tryz.func37 rfl Tryz.ntmps37 Lb rfl ?_
 refine gD ?_; intros
 refine xX fun b1 => ?_
 refine xC ?_
 refine xC ?_
 refine wn [1, 2] ?_
 refine gD ?_; intros
 refine xG (pA u27) ?_
 refine xW fun b4 => ?_
 refine xS ?_
 refine wn [1, 2, 4] ?_
 refine gD ?_; intros
 refine xF u27 ?_
 refine xS ?_
 refine xF u27 ?_
 refine xS ?_
 refine wn [1, 2, 4] ?_
 refine gD ?_; intros
 refine xF u27 ?_
 refine xG (pL u22) ?_
 refine wn [1, 2, 4, 9] ?_
 (repeat refine WC.seqK fun K hK => ?_)
 refine WC.cutK (by assumption) [4] rfl (fun F' h' => ∃ nn : Int, ∃ o' : Int, ∃ t' : Int, ∃ n' : Int, ∃ s' : B, (partsP e = (nn, fin o' t' n' s')) ∧ F' = [(2, .int .i64 nn)] ∧ .pt b4 (.cells [.int .u8 0, .int .u8 o', .int .u8 t', .int .i32 n', str s', .slice none 0 0].toArray 27 (0, 0)) :: h = h') ?_ ?_
 refine gD ?_; intros
 refine bB ?_
 refine xA ?_
 refine wn [1, 2, 4, 9, 10] ?_
 refine gE ?_; intros
 refine wc (fun c10 => ?_) fun c10 => ?_
 replace c10 := t_eq c10
 refine gD ?_; intros
 refine xF u27 ?_
 refine xS ?_
 refine WL.nil (meetI [(2, .int .i64 0)] (h'' := .pt b4 (.cells [.int .u8 0, .int .u8 (e.o), .int .u8 (e.t), .int .i32 0, str (e.s), .slice none 0 0].toArray 27 (0, 0)) :: h) ?_ Su Sb ⟨0, e.o, e.t, 0, e.s, by simp [partsP, c10], rfl, rfl⟩)
 exact Su
 replace c10 := f_eq c10
 refine gD ?_; intros
 refine bB ?_
 refine xA ?_
 refine wn [1, 2, 4, 9, 13] ?_
 refine gE ?_; intros
 refine wc (fun c13 => ?_) fun c13 => ?_
 replace c13 := t_eq c13
 refine gD ?_; intros
 refine xF u27 ?_
 refine xG (pL u21) ?_
 refine xG (PO.shr Et Ev.const (by decide)) ?_
 refine bB ?_
 refine wn [2, 4, 18] ?_
 refine gE ?_; intros
 refine wc (fun c18 => ?_) fun c18 => ?_
 replace c18 := t_ne c18
 refine gD ?_; intros
 refine xC ?_
 refine xC ?_
 refine wn [2, 3] ?_
 refine WC.ret (end2 (h' := h) (.inl rfl) rfl (RV.tmp rfl) (RV.tmp rfl) (View.le.refl m) Sb ?_)
 exact ⟨by simp [partsP, c13, c18], rfl⟩
 replace c18 := f_ne c18
 refine WC.skip (kp [2, 4] ?_)
 refine gD ?_; intros
 refine xF u27 ?_
 refine xS ?_
 refine WL.nil (meetI [(2, .int .i64 0)] (h'' := .pt b4 (.cells [.int .u8 0, .int .u8 (e.o), .int .u8 (e.t), .int .i32 0, str (e.s), .slice none 0 0].toArray 27 (0, 0)) :: h) ?_ Su Sb ⟨0, e.o, e.t, 0, e.s, by simp [partsP, c13, c18], rfl, rfl⟩)
 exact Su
 replace c13 := f_eq c13
 refine gD ?_; intros
 refine bB ?_
 refine xA ?_
 refine wn [1, 2, 4, 9, 20] ?_
 refine gE ?_; intros
 refine wc (fun c20 => ?_) fun c20 => ?_
 replace c20 := t_eq c20
 refine gD ?_; intros
 refine xF u27 ?_
 refine xG (pL u21) ?_
 refine xG (PO.shr Et Ev.const (by decide)) ?_
 refine bB ?_
 refine wn [2, 4, 25] ?_
 refine gE ?_; intros
 refine wc (fun c25 => ?_) fun c25 => ?_
 replace c25 := t_ne c25
 refine gD ?_; intros
 refine xC ?_
 refine xC ?_
 refine wn [2, 3] ?_
 refine WC.ret (end2 (h' := h) (.inl rfl) rfl (RV.tmp rfl) (RV.tmp rfl) (View.le.refl m) Sb ?_)
 exact ⟨by simp [partsP, c20, c25], rfl⟩
 replace c25 := f_ne c25
 refine WC.skip (kp [2, 4] ?_)
 refine gD ?_; intros
 refine xF u27 ?_
 refine xS ?_
 refine WL.nil (meetI [(2, .int .i64 0)] (h'' := .pt b4 (.cells [.int .u8 0, .int .u8 (e.o), .int .u8 (e.t), .int .i32 0, str (e.s), .slice none 0 0].toArray 27 (0, 0)) :: h) ?_ Su Sb ⟨0, e.o, e.t, 0, e.s, by simp [partsP, c20, c25], rfl, rfl⟩)
 exact Su
 replace c20 := f_eq c20
 refine gD ?_; intros
 refine bB ?_
 refine xA ?_
 refine wn [1, 2, 4, 9, 27] ?_
 refine gE ?_; intros
 refine wc (fun c27 => ?_) fun c27 => ?_
 have hk4 : e.k = 4 := t_eq c27
 refine WC.skip (kp [1, 2, 4, 9, 27] ?_)
 refine gE ?_; intros
 refine wc (fun c27 => ?_) fun c27 => ?_
 refine gD ?_; intros
 refine xF u27 ?_
 refine xG (pL u9) ?_
 refine xf (E1 Et) (name_ct _ _ _ hg (by assumption)) ?_
 refine xG (PO.not Et) ?_
 refine wn [1, 2, 4, 34] ?_
 refine gE ?_; intros
 refine wc (fun c34 => ?_) fun c34 => ?_
 have hnm : Go.Lx.name e.s = false := by simpa using c34
 refine gD ?_; intros
 refine xC ?_
 refine xC ?_
 refine wn [2, 3] ?_
 refine WC.ret (end2 (h' := h) (.inl rfl) rfl (RV.tmp rfl) (RV.tmp rfl) (View.le.refl m) Sb ?_)
 exact ⟨by first | simp [partsP, hk4, hnm] | simp [partsP, hk9, hnm] | simp [partsP, hk5, hnm], rfl⟩
 have hnm : Go.Lx.name e.s = true := by simpa using c34
 refine WC.skip (kp [1, 2, 4] ?_)
 refine gD ?_; intros
 refine xF u27 ?_
 refine xS ?_
 refine wn [1, 2, 4] ?_
 refine gD ?_; intros
 refine xF u27 ?_
 refine xG (pL u22) ?_
 refine bB ?_
 refine wn [2, 4, 38] ?_
 refine gE ?_; intros
 refine wc (fun c38 => ?_) fun c38 => ?_
 replace c38 := t_eq c38
 refine gD ?_; intros
 refine xC ?_
 refine WL.nil (meetI [(2, .int .i64 1)] (h'' := .pt b4 (.cells [.int .u8 0, .int .u8 (e.o), .int .u8 (e.t), .int .i32 (e.n), str ([]), .slice none 0 0].toArray 27 (0, 0)) :: h) ?_ Su Sb ⟨1, e.o, e.t, e.n, [], by simp [partsP, c38, hnm], rfl, rfl⟩)
 exact Su
 replace c38 := f_eq c38
 have hq : partsP e = (0, fin e.o e.t e.n []) := by first | exact absurd hk5 c38 | simp [partsP, hk4, hnm] | simp [partsP, hk9, hnm]
 refine WC.skip (meetI [(2, .int .i64 0)] (h'' := .pt b4 (.cells [.int .u8 0, .int .u8 (e.o), .int .u8 (e.t), .int .i32 (e.n), str ([]), .slice none 0 0].toArray 27 (0, 0)) :: h) ?_ Su Sb ⟨0, e.o, e.t, e.n, [], hq, rfl, rfl⟩)
 exact Su
 exact absurd hk4 (f_eq c27)
 have n4 : e.k ≠ 4 := f_eq c27
 refine gD ?_; intros
 refine bB ?_
 refine xA ?_
 refine wn [1, 2, 4, 9, 27] ?_
 refine gE ?_; intros
 refine wc (fun c27 => ?_) fun c27 => ?_
 have hk9 : e.k = 9 := t_eq c27
 refine WC.skip (kp [1, 2, 4, 9, 27] ?_)
 refine gE ?_; intros
 refine wc (fun c27 => ?_) fun c27 => ?_
 refine gD ?_; intros
 refine xF u27 ?_
 refine xG (pL u9) ?_
 refine xf (E1 Et) (name_ct _ _ _ hg (by assumption)) ?_
 refine xG (PO.not Et) ?_
 refine wn [1, 2, 4, 34] ?_
 refine gE ?_; intros
 refine wc (fun c34 => ?_) fun c34 => ?_
 have hnm : Go.Lx.name e.s = false := by simpa using c34
 refine gD ?_; intros
 refine xC ?_
 refine xC ?_
 refine wn [2, 3] ?_
 refine WC.ret (end2 (h' := h) (.inl rfl) rfl (RV.tmp rfl) (RV.tmp rfl) (View.le.refl m) Sb ?_)
 exact ⟨by first | simp [partsP, hk4, hnm] | simp [partsP, hk9, hnm] | simp [partsP, hk5, hnm], rfl⟩
 have hnm : Go.Lx.name e.s = true := by simpa using c34
 refine WC.skip (kp [1, 2, 4] ?_)
 refine gD ?_; intros
 refine xF u27 ?_
 refine xS ?_
 refine wn [1, 2, 4] ?_
 refine gD ?_; intros
 refine xF u27 ?_
 refine xG (pL u22) ?_
 refine bB ?_
 refine wn [2, 4, 38] ?_
 refine gE ?_; intros
 refine wc (fun c38 => ?_) fun c38 => ?_
 replace c38 := t_eq c38
 refine gD ?_; intros
 refine xC ?_
 refine WL.nil (meetI [(2, .int .i64 1)] (h'' := .pt b4 (.cells [.int .u8 0, .int .u8 (e.o), .int .u8 (e.t), .int .i32 (e.n), str ([]), .slice none 0 0].toArray 27 (0, 0)) :: h) ?_ Su Sb ⟨1, e.o, e.t, e.n, [], by simp [partsP, c38, hnm], rfl, rfl⟩)
 exact Su
 replace c38 := f_eq c38
 have hq : partsP e = (0, fin e.o e.t e.n []) := by first | exact absurd hk5 c38 | simp [partsP, hk4, hnm] | simp [partsP, hk9, hnm]
 refine WC.skip (meetI [(2, .int .i64 0)] (h'' := .pt b4 (.cells [.int .u8 0, .int .u8 (e.o), .int .u8 (e.t), .int .i32 (e.n), str ([]), .slice none 0 0].toArray 27 (0, 0)) :: h) ?_ Su Sb ⟨0, e.o, e.t, e.n, [], hq, rfl, rfl⟩)
 exact Su
 exact absurd hk9 (f_eq c27)
 have n9 : e.k ≠ 9 := f_eq c27
 refine gD ?_; intros
 refine bB ?_
 refine xA ?_
 refine wn [1, 2, 4, 9, 27] ?_
 refine gE ?_; intros
 refine wc (fun c27 => ?_) fun c27 => ?_
 have hk5 : e.k = 5 := t_eq c27
 refine gD ?_; intros
 refine xF u27 ?_
 refine xG (pL u9) ?_
 refine xf (E1 Et) (name_ct _ _ _ hg (by assumption)) ?_
 refine xG (PO.not Et) ?_
 refine wn [1, 2, 4, 34] ?_
 refine gE ?_; intros
 refine wc (fun c34 => ?_) fun c34 => ?_
 have hnm : Go.Lx.name e.s = false := by simpa using c34
 refine gD ?_; intros
 refine xC ?_
 refine xC ?_
 refine wn [2, 3] ?_
 refine WC.ret (end2 (h' := h) (.inl rfl) rfl (RV.tmp rfl) (RV.tmp rfl) (View.le.refl m) Sb ?_)
 exact ⟨by first | simp [partsP, hk4, hnm] | simp [partsP, hk9, hnm] | simp [partsP, hk5, hnm], rfl⟩
 have hnm : Go.Lx.name e.s = true := by simpa using c34
 refine WC.skip (kp [1, 2, 4] ?_)
 refine gD ?_; intros
 refine xF u27 ?_
 refine xS ?_
 refine wn [1, 2, 4] ?_
 refine gD ?_; intros
 refine xF u27 ?_
 refine xG (pL u22) ?_
 refine bB ?_
 refine wn [2, 4, 38] ?_
 refine gE ?_; intros
 refine wc (fun c38 => ?_) fun c38 => ?_
 replace c38 := t_eq c38
 refine gD ?_; intros
 refine xC ?_
 refine WL.nil (meetI [(2, .int .i64 1)] (h'' := .pt b4 (.cells [.int .u8 0, .int .u8 (e.o), .int .u8 (e.t), .int .i32 (e.n), str ([]), .slice none 0 0].toArray 27 (0, 0)) :: h) ?_ Su Sb ⟨1, e.o, e.t, e.n, [], by simp [partsP, c38, hnm], rfl, rfl⟩)
 exact Su
 replace c38 := f_eq c38
 have hq : partsP e = (0, fin e.o e.t e.n []) := by first | exact absurd hk5 c38 | simp [partsP, hk4, hnm] | simp [partsP, hk9, hnm]
 refine WC.skip (meetI [(2, .int .i64 0)] (h'' := .pt b4 (.cells [.int .u8 0, .int .u8 (e.o), .int .u8 (e.t), .int .i32 (e.n), str ([]), .slice none 0 0].toArray 27 (0, 0)) :: h) ?_ Su Sb ⟨0, e.o, e.t, e.n, [], hq, rfl, rfl⟩)
 exact Su
 have n5 : e.k ≠ 5 := f_eq c27
 refine gD ?_; intros
 refine bB ?_
 refine xA ?_
 refine wn [1, 4, 9, 39] ?_
 refine gE ?_; intros
 refine wc (fun c39 => ?_) fun c39 => ?_
 replace c39 := t_eq c39
 refine gG ?_; intros; rename_i ops hG
 refine xF u27 ?_
 refine xG (pL u23) ?_
 refine bB ?_
 refine xM ?_
 refine zG (fun _ => pF u27) ?_
 refine zG (fun hc => PO.load1 u23 rfl (Eg hc) Me rfl) ?_
 refine zG (fun hc => PO.bin (Eg hc) Ev.const rfl) ?_
 refine zG (fun hc => PO.bin (Eg hc) Ev.const rfl) ?_
 refine xQ ?_
 refine wn [4, 49] ?_
 try clear hG ops
 refine gE ?_; intros
 refine wc (fun c49 => ?_) fun c49 => ?_
 refine gD ?_; intros
 refine xC ?_
 refine xC ?_
 refine wn [2, 3] ?_
 refine WC.ret (end2 (h' := h) (.inl rfl) rfl (RV.tmp rfl) (RV.tmp rfl) (View.le.refl m) Sb ?_)
 exact ⟨by simp only [partsP, c39, c49]; rfl, rfl⟩
 refine WC.skip (kp [4] ?_)
 refine gD ?_; intros
 refine xC ?_
 refine xF u27 ?_
 refine xS ?_
 refine WL.nil (meetI [(2, .int .i64 1)] (h'' := .pt b4 (.cells [.int .u8 0, .int .u8 0, .int .u8 (e.t), .int .i32 (e.n), str (e.s), .slice none 0 0].toArray 27 (0, 0)) :: h) ?_ Su Sb ⟨1, 0, e.t, e.n, e.s, by simp only [partsP, c39, c49]; rfl, rfl, rfl⟩)
 exact Su
 replace c39 := f_eq c39
 refine gD ?_; intros
 refine bB ?_
 refine xA ?_
 refine wn [1, 4, 9, 51] ?_
 refine gE ?_; intros
 refine wc (fun c51 => ?_) fun c51 => ?_
 replace c51 := t_eq c51
 refine gG ?_; intros; rename_i ops hG
 refine xF u27 ?_
 refine xG (pL u23) ?_
 refine bB ?_
 refine xM ?_
 refine zG (fun _ => pF u27) ?_
 refine zG (fun hc => PO.load1 u23 rfl (Eg hc) Me rfl) ?_
 refine zG (fun hc => PO.bin (Eg hc) Ev.const rfl) ?_
 refine xQ ?_
 refine wn [4, 60] ?_
 try clear hG ops
 refine gE ?_; intros
 refine wc (fun c60 => ?_) fun c60 => ?_
 refine gD ?_; intros
 refine xC ?_
 refine xC ?_
 refine wn [2, 3] ?_
 refine WC.ret (end2 (h' := h) (.inl rfl) rfl (RV.tmp rfl) (RV.tmp rfl) (View.le.refl m) Sb ?_)
 exact ⟨by simp only [partsP, c51, c60]; rfl, rfl⟩
 refine WC.skip (kp [4] ?_)
 refine gD ?_; intros
 refine xC ?_
 refine xF u27 ?_
 refine xS ?_
 refine WL.nil (meetI [(2, .int .i64 2)] (h'' := .pt b4 (.cells [.int .u8 0, .int .u8 0, .int .u8 (e.t), .int .i32 (e.n), str (e.s), .slice none 0 0].toArray 27 (0, 0)) :: h) ?_ Su Sb ⟨2, 0, e.t, e.n, e.s, by simp only [partsP, c51, c60]; rfl, rfl, rfl⟩)
 exact Su
 replace c51 := f_eq c51
 refine gD ?_; intros
 refine bB ?_
 refine xA ?_
 refine wn [1, 4, 62] ?_
 refine gE ?_; intros
 refine wc (fun c62 => ?_) fun c62 => ?_
 replace c62 := t_eq c62
 refine gD ?_; intros
 refine xF u27 ?_
 refine xG (pL u24) ?_
 refine xf (E1 Et) (prim_ct _ _ _) ?_
 refine xG (PO.eqlS Et Ev.const) ?_
 refine wn [4, 67] ?_
 refine gE ?_; intros
 refine wc (fun c67 => ?_) fun c67 => ?_
 refine gD ?_; intros
 refine xC ?_
 refine xC ?_
 refine wn [2, 3] ?_
 refine WC.ret (end2 (h' := h) (.inl rfl) rfl (RV.tmp rfl) (RV.tmp rfl) (View.le.refl m) Sb ?_)
 exact ⟨by simp only [partsP, c62, c67]; rfl, rfl⟩
 refine WC.skip (kp [4] ?_)
 refine gD ?_; intros
 refine xC ?_
 refine xF u27 ?_
 refine xS ?_
 refine WL.nil (meetI [(2, .int .i64 1)] (h'' := .pt b4 (.cells [.int .u8 0, .int .u8 (e.o), .int .u8 0, .int .i32 (e.n), str (e.s), .slice none 0 0].toArray 27 (0, 0)) :: h) ?_ Su Sb ⟨1, e.o, 0, e.n, e.s, by simp only [partsP, c62, c67]; rfl, rfl, rfl⟩)
 exact Su
 replace c62 := f_eq c62
 refine gD ?_; intros
 refine xC ?_
 refine xC ?_
 refine wn [2, 3] ?_
 refine WC.ret (end2 (h' := h) (.inl rfl) rfl (RV.tmp rfl) (RV.tmp rfl) (View.le.refl m) Sb ?_)
 exact ⟨by simp [partsP, c10, c13, c20, n4, n9, n5, c39, c51, c62], rfl⟩
 rintro _ _ ⟨nn, o', t', n', s', hJ, rfl, rfl⟩
 refine WC.frm rfl ?_
 refine gE ?_; intros
 refine dS [] (.op 0 (.op 1 (.op 2 (.op 3 (.op 4 (.op 5 (.op 6 (.op 7 (.op 8 (.op 9 (.op 10 (.op 11 (.op 12 (.op 13 (.op 14 (.op 15 (.op 16 (.op 17 (.op 18 (.op 19 .nil)))))))))))))))))))) [20] mixed ?_
 refine yG rfl (PO.move Et) ?_
 refine yG rfl (pF u27) ?_
 refine yG rfl (pL u23) ?_
 refine yG rfl (PO.bin Et Ev.const rfl) ?_
 refine yG rfl (PO.move Et) ?_
 refine SR.poG rfl rfl (GU.t rfl rfl) (fun hc => PO.fieldAddr u27 rfl (Nat.ne_of_beq_eq_false rfl) Et) Lb ?_
 refine SR.poG rfl rfl (GU.t rfl rfl) (fun hc => PO.load1 u24 rfl (Eg hc) Me rfl) Lb ?_
 refine SR.poG rfl rfl (GU.t rfl rfl) (fun hc => PO.bin (Eg hc) Ev.const rfl) Lb ?_
 refine yG rfl (PO.pickAnd rfl rfl) ?_
 refine yG rfl (PO.move Et) ?_
 refine SR.poG rfl rfl (GU.t rfl rfl) (fun hc => PO.fieldAddr u27 rfl (Nat.ne_of_beq_eq_false rfl) Et) Lb ?_
 refine SR.poG rfl rfl (GU.t rfl rfl) (fun hc => PO.load1 u21 rfl (Eg hc) Me rfl) Lb ?_
 refine SR.poG rfl rfl (GU.t rfl rfl) (fun hc => PO.bin (Eg hc) Ev.const rfl) Lb ?_
 refine yG rfl (PO.pickAnd rfl rfl) ?_
 refine yG rfl (PO.move Et) ?_
 refine SR.poG rfl rfl (GU.t rfl rfl) (fun hc => PO.fieldAddr u27 rfl (Nat.ne_of_beq_eq_false rfl) Et) Lb ?_
 refine SR.poG rfl rfl (GU.t rfl rfl) (fun hc => PO.load1 u9 rfl (Eg hc) Me rfl) Lb ?_
 refine SR.poG rfl rfl (GU.t rfl rfl) (fun hc => PO.eqlS (Eg hc) Ev.const) Lb ?_
 refine yG rfl (PO.pickAnd rfl rfl) ?_
 refine yG rfl (PO.assign Et) ?_
 refine SR.nil rfl rfl ?_
 refine xA ?_
 refine wn [2, 3] ?_
 try clear hG ops
 refine WC.ret (end2 (h' := h) (.inl rfl) rfl (RV.tmp rfl) (RV.tmp rfl) (View.le.refl m) Sb ?_)
 exact ⟨by rw [hJ]; rfl, rfl⟩
end Go.Proofs.YtdhmplmpbcnojaaGreatDoor
end
/- ExpB -/
section
namespace Go.Proofs.YtdhmplmpbcnojaaGreatDoor
open Go.Eng Go.Xp Go
set_option maxRecDepth 100000
end Go.Proofs.YtdhmplmpbcnojaaGreatDoor
end
/- ExpD -/
section
namespace Go.Proofs.YtdhmplmpbcnojaaGreatDoor
open Go.Eng Go.Xp Go
set_option maxRecDepth 100000
abbrev lftR (b : Nat) (v : Int) : Res := .pt b (.cells [Value.int .i64 v].toArray 3 (0, 0))
abbrev visR (bl bv : Nat) : Res := .pt bv (.cells [Value.func (.func 36) #[] #[.pointer (some ⟨bl, 0, none⟩), .pointer (some ⟨bv, 0, none⟩)]].toArray 97 (0, 0))
theorem visit_ct {m : View} (hg : Glob m) (bl bv : Nat) (e : Ex) : ∀ (h : List Res) (deep left : Int), visR bl bv ∈ h → TOk m h e → Wf e → (0 ≤ deep ∧ deep ≤ 33) → (0 ≤ left ∧ left ≤ 1000000) →
   CT Tryz.prog 36 [exV e, .int .i64 deep, .pointer (some ⟨bl, 0, none⟩), .pointer (some ⟨bv, 0, none⟩)] (lftR bl left :: h) m
     (fun v _ h' => ∃ left', v = .bool (visitE deep left e).isSome ∧ (∀ q, visitE deep left e = some q → left' = q) ∧ h' = lftR bl left' :: h) := by
 refine Ex.ind (p := fun e => ∀ (h : List Res) (deep left : Int), visR bl bv ∈ h → TOk m h e → Wf e → (0 ≤ deep ∧ deep ≤ 33) → (0 ≤ left ∧ left ≤ 1000000) →
   CT Tryz.prog 36 [exV e, .int .i64 deep, .pointer (some ⟨bl, 0, none⟩), .pointer (some ⟨bv, 0, none⟩)] (lftR bl left :: h) m
     (fun v _ h' => ∃ left', v = .bool (visitE deep left e).isSome ∧ (∀ q, visitE deep left e = some q → left' = q) ∧ h' = lftR bl left' :: h)) (fun e ih h deep left hv hT hW hd hl => ?_) e
 have hr := hT.rd
 have hmx := hr.mx
 have hkx := hr.le
 have he := visitE_eq deep left e
 refine CT.body Tryz.call36 Tryz.func36 rfl Tryz.ntmps36 Lb rfl ?_
 refine gD ?_; intros
 refine xX fun b4 => ?_
 refine xC ?_
 refine wn [1, 2, 3, 4] ?_
 refine gD ?_; intros
 refine xG (pA u27) ?_
 refine xf (E1 Et) (parts_ct hg _ (by assumption) _) ?_
 refine xM ?_
 refine xE ?_
 refine xE ?_
 refine xA ?_
 refine xA ?_
 refine wn [1, 2, 3, 4, 7, 8] ?_
 refine gD ?_; intros
 refine xG (pL u3) ?_
 refine xG (PO.subI Et Ev.const (by omega)) ?_
 refine xS ?_
 refine wn [1, 2, 3, 4, 7, 8] ?_
 refine gG ?_; intros; rename_i ops hG
 refine xM ?_
 refine xG (PO.not Et) ?_
 refine xM ?_
 refine zG (fun _ => pL u3) ?_
 refine zG (fun hc => PO.bin (Eg hc) Ev.const rfl) ?_
 refine xQ ?_
 refine xM ?_
 refine zM ?_
 refine zG (fun hc => PO.bin (Eg hc) Ev.const rfl) ?_
 refine xQ ?_
 refine xM ?_
 refine zG (fun _ => pF u27) ?_
 refine zG (fun hc => PO.load1 u25 rfl (Eg hc) Me rfl) ?_
 refine zG (fun hc => PO.lenSl u25 (Eg hc)) ?_
 refine zM ?_
 refine zG (fun hc => PO.bin (Eg hc) (Eg hc) rfl) ?_
 refine xQ ?_
 refine wn [1, 3, 4, 34] ?_
 try clear hG ops
 refine gE ?_; intros
 refine wc (fun c34 => ?_) fun c34 => ?_
 replace c34 : headE deep left e = true := c34
 rw [c34, if_pos rfl] at he
 refine gD ?_; intros
 refine xC ?_
 refine wn [6] ?_
 refine WC.ret (wR (lftR bl (left - 1) :: h) ?_)
 exact ⟨_, by rw [he]; rfl, by (intro q hq; rw [he] at hq; cases hq), rfl⟩
 replace c34 : headE deep left e = false := c34
 rw [c34, if_neg (by decide)] at he
 have hb := head_no c34
 refine WC.skip (kp [1, 3, 4] ?_)
 refine gD ?_; intros
 refine xF u27 ?_
 refine xG (pL u25) ?_
 refine xG (PO.lenSl u25 Et) ?_
 refine xK ?_
 refine wn [1, 3, 36, 37, 38] ?_
 refine gE ?_; intros
 refine WC.loopI [1, 3, 36, 37] rfl (fun μ F' h' => ∃ k : Nat, ∃ z : Int, ((k ≤ e.l.length ∧ 0 ≤ z ∧ z ≤ left) ∧ visitE deep left e = visitL (deep + 1) z (e.l.drop k)) ∧ e.l.length - k = μ ∧ F' = [(38, .int .i64 k)] ∧ .pt b4 (.cells (exE e).toArray 27 (0, 0)) :: lftR bl z :: h = h') (e.l.length - 0) [(38, .int .i64 0)] (h0 := .pt b4 (.cells (exE e).toArray 27 (0, 0)) :: lftR bl (left - 1) :: h) ?_ Sb ⟨0, left - 1, ⟨⟨by omega, by omega, by omega⟩, he⟩, rfl, rfl, rfl⟩ ?_
 exact Su
 rintro _ _ _ ⟨k, z, ⟨⟨hk, hz0, hz1⟩, hJ⟩, rfl, rfl, rfl⟩
 refine WC.frm rfl ?_
 have hrk : Rd m (.pt b4 (.cells (exE e).toArray 27 (0, 0)) :: lftR bl z :: h) e.a e.l.length e.c 6 (fl exE e.l) := hr.mono (View.le.refl m) Sb
 refine gD ?_; intros
 refine bD ?_
 refine wn [1, 3, 36, 37, 38, 39] ?_
 refine gE ?_; intros
 refine wc (fun c39 => ?_) fun c39 => ?_
 replace c39 := dT c39
 obtain ⟨x, hx⟩ := get_some (l := e.l) (k := k) (by omega)
 have hxm := List.mem_of_getElem? hx
 rw [visitL_at hx] at hJ
 refine WC.skip (kp [1, 3, 36, 37, 38] ?_)
 refine gD ?_; intros
 refine xG (PO.idx EL25.und EL25.size EL25.posz (Ev.tmp rfl) (Ev.tmp rfl) Rr rfl (by omega)) ?_
 refine xG (PO.loadFA u27 rfl rfl exE_len Rr (Ev.tmp rfl) (by assumption) rfl rfl (Nat.succ_pos _)) ?_
 refine xW fun b10 => ?_
 refine xS ?_
 refine wn [1, 3, 10, 36, 37, 38] ?_
 refine gD ?_; intros
 refine xG (PO.load1 u97 rfl Et (List.mem_cons_of_mem _ (List.mem_cons_of_mem _ (List.mem_cons_of_mem _ hv))) rfl) ?_
 refine xG (pA u27) ?_
 refine xM ?_
 refine bI ?_
 refine WL.perm (Del.perm (r := lftR bl z) De) ?_
 refine WL.callK (Ev.tmp rfl) (E2 (Ev.tmp rfl) (Ev.tmp rfl)) (ih x hxm _ (deep + 1) z (List.mem_cons_of_mem _ (List.mem_cons_of_mem _ hv)) ((hT.part hxm).mono Sb) (hW.part hxm) (by omega) (by omega)) Lb ?_
 rintro _ _ ⟨z46, rfl, y46, rfl⟩
 refine WL.perm (Del.perm (r := .pt b4 _) De) ?_
 refine xG (PO.not Et) ?_
 refine wn [1, 3, 36, 37, 38, 47] ?_
 refine gE ?_; intros
 refine wc (fun c47 => ?_) fun c47 => ?_
 have hn : visitE (deep + 1) z x = none := by simpa using c47
 rw [hn] at hJ
 refine gD ?_; intros
 refine xC ?_
 refine wn [6] ?_
 refine WC.ret (wR (lftR bl z46 :: h) ?_)
 exact ⟨_, by rw [hJ]; rfl, by (intro q hq; rw [hJ] at hq; cases hq), rfl⟩
 obtain ⟨q, hq⟩ : ∃ q, visitE (deep + 1) z x = some q := Option.isSome_iff_exists.1 (by simpa using c47)
 have hq2 := y46 q hq
 subst hq2
 have hrg := visit_rng _ _ _ _ hz0 hq
 rw [hq] at hJ
 refine WC.skip (kp [1, 3, 36, 37, 38] ?_)
 refine gD ?_; intros
 refine bI ?_
 refine xM ?_
 refine WL.nil (loopBackI (e.l.length - (k + 1)) [(38, .int .i64 (k + 1))] (h'' := .pt b4 (.cells (exE e).toArray 27 (0, 0)) :: lftR bl z46 :: h) (by omega) ?_ Su Sb ⟨k + 1, z46, ⟨⟨by omega, by omega, by omega⟩, hJ⟩, rfl, rfl, rfl⟩)
 exact Su
 replace c39 := dF c39
 rw [List.drop_eq_nil_of_le (by omega)] at hJ
 replace hJ : visitE deep left e = some z := hJ
 refine WC.exit (kp [] ?_)
 refine gD ?_; intros
 refine xC ?_
 refine wn [6] ?_
 refine WC.ret (wR (lftR bl z :: h) ?_)
 exact ⟨_, by rw [hJ]; rfl, by (intro q hq; rw [hJ] at hq; cases hq; rfl), rfl⟩
theorem may_ct {m : View} (hg : Glob m) (e : Ex) (h : List Res) (hT : TOk m h e) (hW : Wf e) : CT Tryz.prog 17 [exV e] h m (Pure1 h (.bool (mayE e))) := by
 refine CT.body Tryz.call17 Tryz.func17 rfl Tryz.ntmps17 Lb rfl ?_
 refine gD ?_; intros
 refine xX fun b1 => ?_
 refine xC ?_
 refine wn [1] ?_
 refine gD ?_; intros
 refine xW fun b3 => ?_
 refine xS ?_
 refine wn [1, 3] ?_
 refine gD ?_; intros
 refine xW fun b4 => ?_
 refine wn [1, 3, 4] ?_
 refine gD ?_; intros
 refine xG (PO.makeFunc Evs.nil (E2 Et Et)) ?_
 refine xS ?_
 refine wn [1, 4] ?_
 refine gD ?_; intros
 refine xG (pL u97) ?_
 refine xG (pA u27) ?_
 refine WL.perm (Del.perm (r := lftR b3 256) De) ?_
 refine WL.callK (Ev.tmp rfl) (E2 (Ev.tmp rfl) Ev.const) (visit_ct hg b3 b4 e _ 1 256 Me (hT.mono Sb) hW (by omega) (by omega)) Lb ?_
 rintro _ _ ⟨z8, rfl, y8, rfl⟩
 refine xA ?_
 refine wn [2] ?_
 refine WC.ret (wR (h) ?_)
 exact ⟨rfl, rfl⟩
end Go.Proofs.YtdhmplmpbcnojaaGreatDoor
end
/- TpP -/
section
namespace Go.Proofs.YtdhmplmpbcnojaaGreatDoor
open Go.Eng Go.Pc Go.Tg Go
open Go.Xp hiding B nameT
open Go.Ty (Ty Vr eqT tyV cellT zeroT PrOk VOk prL encV encV_len encI encI_len)
open Go.Lx (encB encB_len)
set_option maxRecDepth 100000
theorem chkP_eq (p : Pr) (S : List Ent) : chkP p S =
   if p.k = 3 then asgX S p.tg.l p.ex.l
   else if p.k = 4 then inX S p.ch p.tg.l
   else if p.k = 5 then outX S p.ch p.ex.l
   else if p.k = 6 then afterX S p.ch (hdX p.ex.l)
   else if p.k = 7 then (match chanX S p.ch 4 with
     | .error w => w
     | .ok q => chkV p.gl S q [])
   else if p.k = 12 ∨ p.k = 13 ∨ p.k = 14 then (if repX S p.rep ≠ 0 then repX S p.rep else chkG p.gl (repS S p.rep))
   else if p.k = 15 then (match typX S (hdX p.ex.l) with
     | .error w => w
     | .ok h => if eqT h.t (tyK 1) = false ∧ eqT h.t (tyK 2) = false then 130 else chkC p.gl S h.t 0)
   else if p.k = 16 then (if isX S (hdX p.ex.l) (tyK 3) ≠ 0 then isX S (hdX p.ex.l) (tyK 3) else chkH p.ll S)
   else if p.k = 17 then callX S p.name p.ex.l
   else if p.k = 18 then (if chkS p.sp S ≠ 0 then chkS p.sp S else chkH p.ll (S ++ [shS p.sp S.length]))
   else if repX S p.rep ≠ 0 then repX S p.rep else chkL p.ll (repS S p.rep) := by cases p; rfl
theorem norep {p : Pr} (hV : Pl p) (h : (fieldsP p.k).1.rep = false) : p.rep.name = [] := by
 by_cases hn : p.rep.name = []
 · exact hn
 · rw [hV.rp hn] at h; cases h
set_option maxHeartbeats 2000000 in
theorem process_ct {m : View} (hg : Glob m) (p : Pr) : Vld p → ProcC m p := by
 refine Pr.ind (q := fun p => Vld p → ProcC m p) (fun p ihp hv h s a k c hs hP hn => ?_) p
 have hV := hv.own
 have ih : ∀ x, In x p → ProcC m x := fun x hx => ihp x hx (hv.sub hx)
 have hC := chkP_eq p (shL s)
 have hO := hP.own
 have hex := lxk hO.ex hV.ex
 have htg := lxk hO.tg fun x hx => elem_may (hV.tg x hx)
 have hen := hV.en
 refine CT.body Tryz.call35 Tryz.func35 rfl Tryz.ntmps35 Lb rfl ?_
 refine gD ?_; intros
 refine xX fun b3 => ?_
 refine xC ?_
 refine wn [0, 3] ?_
 refine gD ?_; intros
 refine xM ?_
 refine xG (PO.makeFunc (E1 Et) Evs.nil) ?_
 refine xA ?_
 refine wn [0, 3, 5] ?_
 refine gD ?_; intros
 refine xF u56 ?_
 refine xG (pL u41) ?_
 refine wn [0, 3, 5, 9] ?_
 refine gD ?_; intros
 refine bB ?_
 refine xA ?_
 refine wn [0, 3, 5, 9, 10] ?_
 refine gE ?_; intros
 refine wc (fun c10 => ?_) fun c10 => ?_
 replace c10 := t_eq c10
 rw [if_pos c10] at hC
 refine gD ?_; intros
 refine xM ?_
 refine xG (PO.makeFunc (E1 Et) Evs.nil) ?_
 refine xA ?_
 refine wn [3, 5] ?_
 refine gD ?_; intros
 refine xM ?_
 refine xG (pA u56) ?_
 refine WL.callP (Ev.tmp rfl) (E1 (Ev.tmp rfl)) (assign_ct (hs.mono Sb) p (htg.mono Sb) (hex.mono Sb)) Lb ?_
 refine xA ?_
 refine wn [4] ?_
 refine WC.ret (wR (h) ?_)
 exact ⟨by rw [hC], rfl⟩
 replace c10 := f_eq c10
 rw [if_neg c10] at hC
 refine gD ?_; intros
 refine bB ?_
 refine xA ?_
 refine wn [0, 3, 5, 9, 14] ?_
 refine gE ?_; intros
 refine wc (fun c14 => ?_) fun c14 => ?_
 replace c14 := t_eq c14
 rw [if_pos c14] at hC
 have hch := xok hO.ch (elem_may (hV.ch (by rw [c14]; rfl)))
 refine gD ?_; intros
 refine xM ?_
 refine xG (PO.makeFunc (E1 Et) Evs.nil) ?_
 refine xA ?_
 refine wn [3, 5] ?_
 refine gD ?_; intros
 refine xM ?_
 refine xG (pA u56) ?_
 refine WL.callP (Ev.tmp rfl) (E1 (Ev.tmp rfl)) (input_ct hg (hs.mono Sb) p (hch.mono Sb) (htg.mono Sb)) Lb ?_
 refine xA ?_
 refine wn [4] ?_
 refine WC.ret (wR (h) ?_)
 exact ⟨by rw [hC], rfl⟩
 replace c14 := f_eq c14
 rw [if_neg c14] at hC
 refine gD ?_; intros
 refine bB ?_
 refine xA ?_
 refine wn [0, 3, 5, 9, 18] ?_
 refine gE ?_; intros
 refine wc (fun c18 => ?_) fun c18 => ?_
 replace c18 := t_eq c18
 rw [if_pos c18] at hC
 have hch := xok hO.ch (elem_may (hV.ch (by rw [c18]; rfl)))
 rw [c18] at hen
 have he0 : (1 : Int) ≤ p.ex.l.length := hen.1
 refine gD ?_; intros
 refine xM ?_
 refine xG (PO.makeFunc (E1 Et) Evs.nil) ?_
 refine xA ?_
 refine wn [3, 5] ?_
 refine gD ?_; intros
 refine xM ?_
 refine xG (pA u56) ?_
 refine WL.callP (Ev.tmp rfl) (E1 (Ev.tmp rfl)) (output_ct hg (hs.mono Sb) p (hch.mono Sb) (hex.mono Sb) (by omega)) Lb ?_
 refine xA ?_
 refine wn [4] ?_
 refine WC.ret (wR (h) ?_)
 exact ⟨by rw [hC], rfl⟩
 replace c18 := f_eq c18
 rw [if_neg c18] at hC
 refine gD ?_; intros
 refine bB ?_
 refine xA ?_
 refine wn [0, 3, 5, 9, 22] ?_
 refine gE ?_; intros
 refine wc (fun c22 => ?_) fun c22 => ?_
 replace c22 := t_eq c22
 rw [if_pos c22] at hC
 have hch := xok hO.ch (elem_may (hV.ch (by rw [c22]; rfl)))
 rw [c22] at hen
 have he0 : (1 : Int) ≤ p.ex.l.length := hen.1
 refine gD ?_; intros
 refine xM ?_
 refine xG (PO.makeFunc (E1 Et) Evs.nil) ?_
 refine xA ?_
 refine wn [3, 5] ?_
 refine gD ?_; intros
 refine xM ?_
 refine xG (pA u56) ?_
 refine WL.callP (Ev.tmp rfl) (E1 (Ev.tmp rfl)) (wait_ct hg (hs.mono Sb) p (hch.mono Sb) (hex.mono Sb) (by omega)) Lb ?_
 refine xA ?_
 refine wn [4] ?_
 refine WC.ret (wR (h) ?_)
 exact ⟨by rw [hC], rfl⟩
 replace c22 := f_eq c22
 rw [if_neg c22] at hC
 refine gD ?_; intros
 refine bB ?_
 refine xA ?_
 refine wn [0, 3, 5, 9, 26] ?_
 refine gE ?_; intros
 refine wc (fun c26 => ?_) fun c26 => ?_
 replace c26 := t_eq c26
 rw [if_pos c26] at hC
 have hch := xok hO.ch (elem_may (hV.ch (by rw [c26]; rfl)))
 refine gD ?_; intros
 refine xM ?_
 refine xG (PO.makeFunc (E1 Et) Evs.nil) ?_
 refine xA ?_
 refine wn [3, 5] ?_
 refine gD ?_; intros
 refine xM ?_
 refine xG (pA u56) ?_
 refine WL.callP (Ev.tmp rfl) (E1 (Ev.tmp rfl)) (variants_ct hg (hs.mono Sb) p (hP.mono Sb) hV (hch.mono Sb) hn ih) Lb ?_
 refine xA ?_
 refine wn [4] ?_
 refine WC.ret (wR (h) ?_)
 exact ⟨by rw [hC] <;> rfl, rfl⟩
 replace c26 := f_eq c26
 rw [if_neg c26] at hC
 refine gD ?_; intros
 refine bB ?_
 refine xA ?_
 refine wn [0, 3, 5, 9, 30] ?_
 (repeat refine WC.seqK fun K hK => ?_)
 refine WC.cutK (by assumption) [0, 3, 5, 9] rfl (fun F' h' => ∃ bb : Bool, (bb = true ↔ (p.k = 12 ∨ p.k = 13 ∨ p.k = 14)) ∧ F' = [(30, .bool bb)] ∧ .pt b3 (.cells (prE p).toArray 56 (0, 0)) :: h = h') ?_ ?_
 refine gE ?_; intros
 refine wc (fun c30 => ?_) fun c30 => ?_
 have ca : (p.k == 12) = true := c30
 refine WC.skip (meetI [(30, .bool ((p.k == 12)))] (h'' := .pt b3 (.cells (prE p).toArray 56 (0, 0)) :: h) ?_ Su Sb ⟨(p.k == 12), ⟨fun _ => .inl (by simpa using ca), fun _ => ca⟩, rfl, rfl⟩)
 exact Su
 have ca : (p.k == 12) = false := c30
 refine gD ?_; intros
 refine bB ?_
 refine xA ?_
 refine wn [0, 3, 5, 9, 30] ?_
 refine gE ?_; intros
 refine wc (fun c30 => ?_) fun c30 => ?_
 have cb : (p.k == 13) = true := c30
 refine WC.skip (meetI [(30, .bool ((p.k == 13)))] (h'' := .pt b3 (.cells (prE p).toArray 56 (0, 0)) :: h) ?_ Su Sb ⟨(p.k == 13), ⟨fun _ => .inr (.inl (by simpa using cb)), fun _ => cb⟩, rfl, rfl⟩)
 exact Su
 have cb : (p.k == 13) = false := c30
 refine gD ?_; intros
 refine bB ?_
 refine xA ?_
 refine WL.nil (meetI [(30, .bool ((p.k == 14)))] (h'' := .pt b3 (.cells (prE p).toArray 56 (0, 0)) :: h) ?_ Su Sb ⟨(p.k == 14), ⟨fun hk => .inr (.inr (by simpa using hk)), fun hk => hk.elim (fun h1 => absurd h1 (by simpa using ca)) (fun h1 => h1.elim (fun h2 => absurd h2 (by simpa using cb)) (fun h2 => by simpa using h2))⟩, rfl, rfl⟩)
 exact Su
 rintro _ _ ⟨bb, hbb, rfl, rfl⟩
 refine WC.frm rfl ?_
 refine gE ?_; intros
 refine wc (fun c30 => ?_) fun c30 => ?_
 have hk := hbb.1 c30
 rw [if_pos hk] at hC
 have hlh : 1 ≤ (fieldsP p.k).1.lo ∧ (fieldsP p.k).1.hi ≤ 4 := by rcases hk with hk | hk | hk <;> (rw [hk]; decide)
 refine gD ?_; intros
 refine xM ?_
 refine xG (PO.makeFunc (E1 Et) Evs.nil) ?_
 refine xA ?_
 refine wn [3, 5] ?_
 refine gD ?_; intros
 refine xM ?_
 refine xG (pA u56) ?_
 refine WL.callP (Ev.tmp rfl) (E1 (Ev.tmp rfl)) (choice_ct hg (hs.mono Sb) p (hP.mono Sb) hV hlh hn ih) Lb ?_
 refine xA ?_
 refine wn [4] ?_
 refine WC.ret (wR (h) ?_)
 exact ⟨by rw [hC], rfl⟩
 rw [if_neg (fun q => by rw [hbb.2 q] at c30; cases c30)] at hC
 refine gD ?_; intros
 refine bB ?_
 refine xA ?_
 refine wn [0, 3, 5, 9, 36] ?_
 refine gE ?_; intros
 refine wc (fun c36 => ?_) fun c36 => ?_
 replace c36 := t_eq c36
 rw [if_pos c36] at hC
 rw [c36] at hen
 have he0 : (1 : Int) ≤ p.ex.l.length := hen.1
 refine gD ?_; intros
 refine xM ?_
 refine xG (PO.makeFunc (E1 Et) Evs.nil) ?_
 refine xA ?_
 refine wn [3, 5] ?_
 refine gD ?_; intros
 refine xM ?_
 refine xG (pA u56) ?_
 refine WL.callP (Ev.tmp rfl) (E1 (Ev.tmp rfl)) (selection_ct (hs.mono Sb) p (hP.mono Sb) hV (by omega) hn ih) Lb ?_
 refine xA ?_
 refine wn [4] ?_
 refine WC.ret (wR (h) ?_)
 exact ⟨by rw [hC] <;> rfl, rfl⟩
 replace c36 := f_eq c36
 rw [if_neg c36] at hC
 refine gD ?_; intros
 refine bB ?_
 refine xA ?_
 refine wn [0, 3, 5, 9, 40] ?_
 refine gE ?_; intros
 refine wc (fun c40 => ?_) fun c40 => ?_
 replace c40 := t_eq c40
 rw [if_pos c40] at hC
 have hpn := hV.pn (norep hV (by rw [c40]; rfl))
 rw [c40] at hen hpn
 have he0 : (1 : Int) ≤ p.ex.l.length := hen.1
 have hp0 : (1 : Int) ≤ p.ll.length := hpn.1
 refine gD ?_; intros
 refine xM ?_
 refine xG (PO.makeFunc (E1 Et) Evs.nil) ?_
 refine xA ?_
 refine wn [3, 5] ?_
 refine gD ?_; intros
 refine xM ?_
 refine xG (pA u56) ?_
 refine WL.callP (Ev.tmp rfl) (E1 (Ev.tmp rfl)) (loop_ct (hs.mono Sb) p (hP.mono Sb) hV (by omega) (by omega) hn ih) Lb ?_
 refine xA ?_
 refine wn [4] ?_
 refine WC.ret (wR (h) ?_)
 exact ⟨by rw [hC], rfl⟩
 replace c40 := f_eq c40
 rw [if_neg c40] at hC
 refine gD ?_; intros
 refine bB ?_
 refine xA ?_
 refine wn [0, 3, 5, 9, 44] ?_
 refine gE ?_; intros
 refine wc (fun c44 => ?_) fun c44 => ?_
 replace c44 := t_eq c44
 rw [if_pos c44] at hC
 refine gD ?_; intros
 refine xM ?_
 refine xG (PO.makeFunc (E1 Et) Evs.nil) ?_
 refine xA ?_
 refine wn [3, 5] ?_
 refine gD ?_; intros
 refine xM ?_
 refine xG (pA u56) ?_
 refine WL.callP (Ev.tmp rfl) (E1 (Ev.tmp rfl)) (call_ct (hs.mono Sb) p (hex.mono Sb)) Lb ?_
 refine xA ?_
 refine wn [4] ?_
 refine WC.ret (wR (h) ?_)
 exact ⟨by rw [hC], rfl⟩
 replace c44 := f_eq c44
 rw [if_neg c44] at hC
 refine gD ?_; intros
 refine bB ?_
 refine xA ?_
 refine wn [0, 3, 5, 48] ?_
 refine gE ?_; intros
 refine wc (fun c48 => ?_) fun c48 => ?_
 replace c48 := t_eq c48
 rw [if_pos c48] at hC
 have hpn := hV.pn (norep hV (by rw [c48]; rfl))
 rw [c48] at hpn
 have hp0 : (1 : Int) ≤ p.ll.length := hpn.1
 have hsp := sp_spec (hV.sp (by rw [c48]; rfl))
 refine gD ?_; intros
 refine xM ?_
 refine xG (PO.makeFunc (E1 Et) Evs.nil) ?_
 refine xA ?_
 refine wn [3, 5] ?_
 refine gD ?_; intros
 refine xM ?_
 refine xG (pA u56) ?_
 refine WL.callP (Ev.tmp rfl) (E1 (Ev.tmp rfl)) (specified_ct hg (hs.mono Sb) p (hP.mono Sb) hsp (by omega) hn ih) Lb ?_
 refine xA ?_
 refine wn [4] ?_
 refine WC.ret (wR (h) ?_)
 exact ⟨by rw [hC], rfl⟩
 replace c48 := f_eq c48
 rw [if_neg c48] at hC
 refine WC.skip (kp [3, 5] ?_)
 refine gD ?_; intros
 refine xM ?_
 refine xG (pA u56) ?_
 refine WL.callP (Ev.tmp rfl) (E1 (Ev.tmp rfl)) (block_ct (hs.mono Sb) p (hP.mono Sb) hV hn ih) Lb ?_
 refine xA ?_
 refine wn [4] ?_
 refine WC.ret (wR (h) ?_)
 exact ⟨by rw [hC], rfl⟩
structure VOkE (m : View) (h : List Res) (l : List Sp) : Prop where
 nm : ∀ x ∈ l, Rd m h x.names.a x.names.l.length x.names.c 1 (fl encB x.names.l)
 fr : ∀ x ∈ l, Rd m h x.fs.a x.fs.l.length x.fs.c 6 (fl foE x.fs.l)
 pr : ∀ x ∈ l, PrOk m h x.vs.a x.vs.l.length x.vs.c x.vs.l
theorem VOkE.mono {m : View} {h h' : List Res} {l : List Sp} (q : VOkE m h l) (r : h.Sublist h') : VOkE m h' l :=
 ⟨fun x hx => (q.nm x hx).mono (View.le.refl m) r, fun x hx => (q.fr x hx).mono (View.le.refl m) r, fun x hx => (q.pr x hx).mono (View.le.refl m) r⟩
theorem envS_get : ∀ (l : List Sp) (i q : Nat) (x : En), (envS l i)[q]? = some x → x.ar = ((i + q : Nat) : Int) ∧ x.sp ∈ l
 | y :: r, i, 0, x, h => by cases h; exact ⟨rfl, List.Mem.head _⟩
 | y :: r, i, q + 1, x, h => by
   have h' : (envS r (i + 1))[q]? = some x := h
   have := envS_get r (i + 1) q x h'
   exact ⟨by rw [this.1]; omega, List.Mem.tail _ this.2⟩
theorem envS_mem {l : List Sp} {i : Nat} {x : En} (h : x ∈ envS l i) : x.sp ∈ l := by
 obtain ⟨q, hq⟩ := List.getElem?_of_mem h
 exact (envS_get l i q x hq).2
theorem ScR.env {m : View} {h : List Res} {l : List Sp} {a : Option Addr} {k c : Nat} (q : VOkE m h l) (hr : Rd m h a k c 17 (fl enE (envS l 0))) : ScR m h a k c (envS l 0) :=
 ⟨hr, fun x hx => q.nm _ (envS_mem hx), fun x hx => q.fr _ (envS_mem hx), fun x hx => q.pr _ (envS_mem hx), fun i x hx => by
   have := (envS_get l 0 i x hx).1
   omega⟩
def envX (l : List Sp) : List Ent := shL (envS l 0)
theorem typeOfV_ct {m : View} {h : List Res} {s : List En} {a : Option Addr} {k c : Nat} (hs : ScR m h a k c s) (e : Ex) (hx : XOk m h e) : CT Tryz.prog 26 [.slice a k c, exV e] h m (fun v _ h' => (∃ hd, v = heldV hd (errT (typX (shL s) e)) ∧ ∀ x, typX (shL s) e = .ok x → hd = x) ∧ h' = h) :=
 (typeOfR_ct hs e hx).mono (by rintro v _ _ _ ⟨hd, h1, h2, h3⟩; exact ⟨⟨hd, h1, h2⟩, h3⟩)
theorem of_ct {m : View} {h : List Res} (hg : Glob m) (e : Ex) (hT : TOk m h e) (hW : Wf e) (l : List Sp) (a : Option Addr) (k c : Nat) (hr : Rd m h a k c 16 (fl spE l)) (hv : VOkE m h l) (hn : l.length ≤ 900000) :
   CT Tryz.prog 8 [exV e, .slice a k c] h m (Pure1 h (.tuple #[tyV (ofX (envX l) e).1, .int .i64 (ofX (envX l) e).2])) := by
 refine CT.body Tryz.call8 Tryz.func8 rfl Tryz.ntmps8 Lb rfl ?_
 refine gD ?_; intros
 refine xX fun b2 => ?_
 refine xW fun b4 => ?_
 refine xC ?_
 refine wn [1, 2, 4] ?_
 refine gD ?_; intros
 refine xG (pA u27) ?_
 refine xf (E1 Et) (may_ct hg e _ (hT.mono Sb) hW) ?_
 refine xG (PO.not Et) ?_
 refine wn [1, 2, 4, 10] ?_
 refine gE ?_; intros
 refine wc (fun c10 => ?_) fun c10 => ?_
 have hm : mayE e = false := by simpa using c10
 have ho : ofX (envX l) e = (Go.Ty.zeroT, 2) := by unfold ofX; rw [hm]; rfl
 refine gD ?_; intros
 refine xG (PO.build u30 rfl rfl rfl EvP.nil rfl) ?_
 refine xS ?_
 refine xC ?_
 refine wn [4, 5] ?_
 refine WC.ret (end2 (h' := h) (.inl rfl) rfl (RV.cellA u30 rfl rfl rfl Me rfl) (RV.tmp rfl) (View.le.refl m) Sb ?_)
 exact ⟨by rw [ho]; rfl, rfl⟩
 have hm : mayE e = true := by simpa using c10
 have hx : XOk m h e := ⟨hT, hW, (may_good hm).1⟩
 have ho : ofX (envX l) e = match typX (envX l) e with | .error w => (Go.Ty.zeroT, w) | .ok h => (h.t, 0) := by unfold ofX; rw [hm]; rfl
 refine WC.skip (kp [1, 2, 4] ?_)
 refine gE ?_; intros
 refine WC.drawL [1, 3] (.op 0 (.op 2 (.op 1 (.op 3 (.op 4 (.op 5 (.op 6 .nil))))))) [8, 9] [(7, 6)] _ [] mixed (fun _ _ _ _ _ h => h) [6] (by kernel_rfl) (Fls.cons rfl rfl rfl Lb rfl Fls.nil) rfl ?_
 refine yG rfl (PO.move Et) ?_
 refine yG rfl (pA u27) ?_
 refine SR.callF rfl rfl Ev.func (E1 Et) (fun fr => environment_ct l a k c (hr.mono (View.le.refl _) Sb) (by omega)) Lb fun a14 c14 => ?_
 refine SR.callV rfl rfl Ev.func (E2 Et Et) (fun fr => CT.knowRow Tryz.call26 (a := a14) (List.mem_append_right _ Me) (fun q1 q2 q3 => typeOfV_ct (ScR.env (hv.mono Sb) (Rd.ofRow q3 q1 q2 (List.mem_append_right _ Me))) e (hx.mono Sb))) Lb ?_
 rintro _ ⟨hd, rfl, hhd⟩
 refine yG rfl (PO.move Et) ?_
 refine yG rfl (PO.extract Et rfl) ?_
 refine yG rfl (PO.extract Et rfl) ?_
 refine SR.nilF rfl rfl fun b6 => ?_
 refine xS ?_
 refine xA ?_
 refine wn [4, 6, 7] ?_
 refine gD ?_; intros
 refine xM ?_
 refine bB ?_
 refine wn [4, 6, 7, 20] ?_
 refine gE ?_; intros
 refine wc (fun c20 => ?_) fun c20 => ?_
 replace c20 := t_ne c20
 obtain ⟨w, hw⟩ := err_of c20
 have hw2 : typX (envX l) e = .error w := hw
 rw [hw2] at ho
 refine gD ?_; intros
 refine xG (PO.build u30 rfl rfl rfl EvP.nil rfl) ?_
 refine xM ?_
 refine xS ?_
 refine xA ?_
 refine wn [4, 5] ?_
 refine WC.ret (end2 (h' := h) (.inl rfl) rfl (RV.cellA u30 rfl rfl rfl Me rfl) (RV.tmp rfl) (View.le.refl m) Sb ?_)
 exact ⟨by rw [ho, hw]; rfl, rfl⟩
 replace c20 := f_ne c20
 have hE : typX (envX l) e = .ok hd := okE (typX_err _ e) c20 hhd
 rw [hE] at ho
 refine WC.skip (kp [4, 6] ?_)
 refine gD ?_; intros
 refine xF u76 ?_
 refine xG (pA u30) ?_
 refine xS ?_
 refine xC ?_
 refine wn [4, 5] ?_
 refine WC.ret (end2 (h' := h) (.inl rfl) rfl (RV.cellA u30 rfl rfl rfl Me rfl) (RV.tmp rfl) (View.le.refl m) Sb ?_)
 exact ⟨by rw [ho]; rfl, rfl⟩
end Go.Proofs.YtdhmplmpbcnojaaGreatDoor
end
/- ExpC -/
section
namespace Go.Proofs.YtdhmplmpbcnojaaGreatDoor
open Go.Eng Go.Xp Go
open Go.Lx (encB encB_len)
set_option maxRecDepth 100000
theorem same_ct (x : Ex) : ∀ (y : Ex) (h : List Res) (m : View), TOk m h x → TOk m h y → CT Tryz.prog 165 [exV x, exV y] h m (Pure1 h (.bool (sameE x y))) := by
 refine Ex.ind (p := fun x => ∀ (y : Ex) (h : List Res) (m : View), TOk m h x → TOk m h y → CT Tryz.prog 165 [exV x, exV y] h m (Pure1 h (.bool (sameE x y)))) (fun x ih y h m hx hy => ?_) x
 have r1 := hx.rd
 have r2 := hy.rd
 have mx := r1.mx
 have kx := r1.le
 have he := sameE_eq x y
 refine CT.body Tryz.call165 Tryz.func165 rfl Tryz.ntmps165 Lb rfl ?_
 refine gD ?_; intros
 refine xX fun b2 => ?_
 refine xX fun b3 => ?_
 refine xC ?_
 refine wn [2, 3] ?_
 refine gG ?_; intros; rename_i ops hG
 refine xF u27 ?_
 refine xG (pL u22) ?_
 refine xF u27 ?_
 refine xG (pL u22) ?_
 refine bD ?_
 refine xM ?_
 refine zG (fun _ => pF u27) ?_
 refine zG (fun hc => PO.load1 u23 rfl (Eg hc) Me rfl) ?_
 refine zG (fun _ => pF u27) ?_
 refine zG (fun hc => PO.load1 u23 rfl (Eg hc) Me rfl) ?_
 refine zG (fun hc => PO.bin (Eg hc) (Eg hc) rfl) ?_
 refine xQ ?_
 refine xM ?_
 refine zG (fun _ => pF u27) ?_
 refine zG (fun hc => PO.load1 u24 rfl (Eg hc) Me rfl) ?_
 refine zG (fun _ => pF u27) ?_
 refine zG (fun hc => PO.load1 u24 rfl (Eg hc) Me rfl) ?_
 refine zG (fun hc => PO.bin (Eg hc) (Eg hc) rfl) ?_
 refine xQ ?_
 refine xM ?_
 refine zG (fun _ => pF u27) ?_
 refine zG (fun hc => PO.load1 u21 rfl (Eg hc) Me rfl) ?_
 refine zG (fun _ => pF u27) ?_
 refine zG (fun hc => PO.load1 u21 rfl (Eg hc) Me rfl) ?_
 refine zG (fun hc => PO.bin (Eg hc) (Eg hc) rfl) ?_
 refine xQ ?_
 refine xM ?_
 refine zG (fun _ => pF u27) ?_
 refine zG (fun hc => PO.load1 u9 rfl (Eg hc) Me rfl) ?_
 refine zG (fun _ => pF u27) ?_
 refine zG (fun hc => PO.load1 u9 rfl (Eg hc) Me rfl) ?_
 refine zG (fun hc => PO.neqS (Eg hc) (Eg hc)) ?_
 refine xQ ?_
 refine xM ?_
 refine zG (fun _ => pF u27) ?_
 refine zG (fun hc => PO.load1 u25 rfl (Eg hc) Me rfl) ?_
 refine zG (fun hc => PO.lenSl u25 (Eg hc)) ?_
 refine zG (fun _ => pF u27) ?_
 refine zG (fun hc => PO.load1 u25 rfl (Eg hc) Me rfl) ?_
 refine zG (fun hc => PO.lenSl u25 (Eg hc)) ?_
 refine zG (fun hc => PO.bin (Eg hc) (Eg hc) rfl) ?_
 refine xQ ?_
 refine wn [2, 3, 47] ?_
 try clear hG ops
 refine gE ?_; intros
 refine wc (fun c47 => ?_) fun c47 => ?_
 replace c47 : badE x y = true := c47
 rw [c47] at he
 refine gD ?_; intros
 refine xC ?_
 refine wn [4] ?_
 refine WC.ret (wR (h) ?_)
 exact ⟨by rw [he]; rfl, rfl⟩
 replace c47 : badE x y = false := c47
 rw [c47] at he
 have hl : x.l.length = y.l.length := by
   unfold badE at c47
   simp only [Bool.or_eq_false_iff, bne_eq_false_iff_eq] at c47
   omega
 refine WC.skip (kp [2, 3] ?_)
 refine gD ?_; intros
 refine xF u27 ?_
 refine xG (pL u25) ?_
 refine xG (PO.lenSl u25 Et) ?_
 refine xK ?_
 refine wn [2, 3, 50, 51] ?_
 refine gE ?_; intros
 refine WC.loopI [2, 3, 50] rfl (fun μ F' h' => ∃ k : Nat, (k ≤ x.l.length ∧ sameE x y = sameL (x.l.drop k) (y.l.drop k)) ∧ x.l.length - k = μ ∧ F' = [(51, .int .i64 k)] ∧ .pt b3 (.cells (exE y).toArray 27 (0, 0)) :: .pt b2 (.cells (exE x).toArray 27 (0, 0)) :: h = h') (x.l.length - 0) [(51, .int .i64 0)] (h0 := .pt b3 (.cells (exE y).toArray 27 (0, 0)) :: .pt b2 (.cells (exE x).toArray 27 (0, 0)) :: h) ?_ Sb ⟨0, ⟨by omega, by rw [he]; rfl⟩, rfl, rfl, rfl⟩ ?_
 exact Su
 rintro _ _ _ ⟨k, ⟨hk, hJ⟩, rfl, rfl, rfl⟩
 refine WC.frm rfl ?_
 have q1 : Rd m (.pt b3 (.cells (exE y).toArray 27 (0, 0)) :: .pt b2 (.cells (exE x).toArray 27 (0, 0)) :: h) x.a x.l.length x.c 6 (fl exE x.l) := r1.mono (View.le.refl m) Sb
 have q2 : Rd m (.pt b3 (.cells (exE y).toArray 27 (0, 0)) :: .pt b2 (.cells (exE x).toArray 27 (0, 0)) :: h) y.a y.l.length y.c 6 (fl exE y.l) := r2.mono (View.le.refl m) Sb
 refine gD ?_; intros
 refine bD ?_
 refine wn [2, 3, 50, 51, 52] ?_
 refine gE ?_; intros
 refine wc (fun c52 => ?_) fun c52 => ?_
 replace c52 := dT c52
 obtain ⟨u, hu⟩ := get_some (l := x.l) (k := k) (by omega)
 obtain ⟨v, hv⟩ := get_some (l := y.l) (k := k) (by omega)
 rw [sameL_at hu hv] at hJ
 have mu := List.mem_of_getElem? hu
 have mv := List.mem_of_getElem? hv
 refine WC.skip (kp [2, 3, 50, 51] ?_)
 refine gD ?_; intros
 refine xM ?_
 refine xA ?_
 refine wn [2, 3, 5, 50, 51] ?_
 refine gE ?_; intros
 refine dS [] (.op 0 (.op 1 (.op 2 (.op 3 (.op 4 (.op 5 (.op 6 (.op 7 (.op 8 (.op 9 .nil)))))))))) [10, 11] mixed ?_
 refine yG rfl (pF u27) ?_
 refine yG rfl (pL u25) ?_
 refine yG rfl (PO.move Et) ?_
 refine yG rfl (PO.idx EL25.und EL25.size EL25.posz (Ev.tmp rfl) (Ev.tmp rfl) Rr rfl (by omega)) ?_
 refine yG rfl (PO.loadFA u27 rfl rfl exE_len Rr (Ev.tmp rfl) (by assumption) rfl rfl (Nat.succ_pos _)) ?_
 refine yG rfl (pF u27) ?_
 refine yG rfl (pL u25) ?_
 refine yG rfl (PO.move Et) ?_
 refine yG rfl (PO.idx EL25.und EL25.size EL25.posz (Ev.tmp rfl) (Ev.tmp rfl) Rr rfl (by omega)) ?_
 refine yG rfl (PO.loadFA u27 rfl rfl exE_len Rr (Ev.tmp rfl) (by assumption) rfl rfl (Nat.succ_pos _)) ?_
 refine SR.nil rfl rfl ?_
 refine xf (E2 Et Et) (ih u mu v _ _ ((hx.part mu).mono Sb) ((hy.part mv).mono Sb)) ?_
 refine xG (PO.not Et) ?_
 refine wn [2, 3, 50, 51, 65] ?_
 refine gE ?_; intros
 refine wc (fun c65 => ?_) fun c65 => ?_
 have d65 : sameE u v = false := by simpa using c65
 rw [d65] at hJ
 refine gD ?_; intros
 refine xC ?_
 refine wn [4] ?_
 refine WC.ret (wR (h) ?_)
 exact ⟨by rw [hJ]; rfl, rfl⟩
 have d65 : sameE u v = true := by simpa using c65
 rw [d65] at hJ
 refine WC.skip (kp [2, 3, 50, 51] ?_)
 refine gD ?_; intros
 refine bI ?_
 refine xM ?_
 refine WL.nil (loopBackI (x.l.length - (k + 1)) [(51, .int .i64 (k + 1))] (h'' := .pt b3 (.cells (exE y).toArray 27 (0, 0)) :: .pt b2 (.cells (exE x).toArray 27 (0, 0)) :: h) (by omega) ?_ Su Sb ⟨k + 1, ⟨by omega, by rw [hJ]; rfl⟩, rfl, rfl, rfl⟩)
 exact Su
 replace c52 := dF c52
 rw [List.drop_eq_nil_of_le (by omega)] at hJ
 refine WC.exit (kp [] ?_)
 refine gD ?_; intros
 refine xC ?_
 refine wn [4] ?_
 refine WC.ret (wR (h) ?_)
 exact ⟨by rw [hJ]; rfl, rfl⟩
theorem sameR_ct (x : Ex) : ∀ (y : Ex) (h : List Res) (m : View), TOk m h x → TOk m h y → CT Tryz.prog 157 [exV x, exV y] h m (Pure1 h (.bool (sameE x y))) := by
 refine Ex.ind (p := fun x => ∀ (y : Ex) (h : List Res) (m : View), TOk m h x → TOk m h y → CT Tryz.prog 157 [exV x, exV y] h m (Pure1 h (.bool (sameE x y)))) (fun x ih y h m hx hy => ?_) x
 have r1 := hx.rd
 have r2 := hy.rd
 have mx := r1.mx
 have kx := r1.le
 have he := sameE_eq x y
 refine CT.body Tryz.call157 Tryz.func157 rfl Tryz.ntmps157 Lb rfl ?_
 refine gD ?_; intros
 refine xX fun b2 => ?_
 refine xX fun b3 => ?_
 refine xC ?_
 refine wn [2, 3] ?_
 refine gG ?_; intros; rename_i ops hG
 refine xF u27 ?_
 refine xG (pL u22) ?_
 refine xF u27 ?_
 refine xG (pL u22) ?_
 refine bD ?_
 refine xM ?_
 refine zG (fun _ => pF u27) ?_
 refine zG (fun hc => PO.load1 u23 rfl (Eg hc) Me rfl) ?_
 refine zG (fun _ => pF u27) ?_
 refine zG (fun hc => PO.load1 u23 rfl (Eg hc) Me rfl) ?_
 refine zG (fun hc => PO.bin (Eg hc) (Eg hc) rfl) ?_
 refine xQ ?_
 refine xM ?_
 refine zG (fun _ => pF u27) ?_
 refine zG (fun hc => PO.load1 u24 rfl (Eg hc) Me rfl) ?_
 refine zG (fun _ => pF u27) ?_
 refine zG (fun hc => PO.load1 u24 rfl (Eg hc) Me rfl) ?_
 refine zG (fun hc => PO.bin (Eg hc) (Eg hc) rfl) ?_
 refine xQ ?_
 refine xM ?_
 refine zG (fun _ => pF u27) ?_
 refine zG (fun hc => PO.load1 u21 rfl (Eg hc) Me rfl) ?_
 refine zG (fun _ => pF u27) ?_
 refine zG (fun hc => PO.load1 u21 rfl (Eg hc) Me rfl) ?_
 refine zG (fun hc => PO.bin (Eg hc) (Eg hc) rfl) ?_
 refine xQ ?_
 refine xM ?_
 refine zG (fun _ => pF u27) ?_
 refine zG (fun hc => PO.load1 u9 rfl (Eg hc) Me rfl) ?_
 refine zG (fun _ => pF u27) ?_
 refine zG (fun hc => PO.load1 u9 rfl (Eg hc) Me rfl) ?_
 refine zG (fun hc => PO.neqS (Eg hc) (Eg hc)) ?_
 refine xQ ?_
 refine xM ?_
 refine zG (fun _ => pF u27) ?_
 refine zG (fun hc => PO.load1 u25 rfl (Eg hc) Me rfl) ?_
 refine zG (fun hc => PO.lenSl u25 (Eg hc)) ?_
 refine zG (fun _ => pF u27) ?_
 refine zG (fun hc => PO.load1 u25 rfl (Eg hc) Me rfl) ?_
 refine zG (fun hc => PO.lenSl u25 (Eg hc)) ?_
 refine zG (fun hc => PO.bin (Eg hc) (Eg hc) rfl) ?_
 refine xQ ?_
 refine wn [2, 3, 47] ?_
 try clear hG ops
 refine gE ?_; intros
 refine wc (fun c47 => ?_) fun c47 => ?_
 replace c47 : badE x y = true := c47
 rw [c47] at he
 refine gD ?_; intros
 refine xC ?_
 refine wn [4] ?_
 refine WC.ret (wR (h) ?_)
 exact ⟨by rw [he]; rfl, rfl⟩
 replace c47 : badE x y = false := c47
 rw [c47] at he
 have hl : x.l.length = y.l.length := by
   unfold badE at c47
   simp only [Bool.or_eq_false_iff, bne_eq_false_iff_eq] at c47
   omega
 refine WC.skip (kp [2, 3] ?_)
 refine gD ?_; intros
 refine xC ?_
 refine wn [2, 3, 5] ?_
 refine gE ?_; intros
 refine WC.loopI [2, 3] rfl (fun μ F' h' => ∃ k : Nat, (k ≤ x.l.length ∧ sameE x y = sameL (x.l.drop k) (y.l.drop k)) ∧ x.l.length - k = μ ∧ F' = [(5, .int .i64 k)] ∧ .pt b3 (.cells (exE y).toArray 27 (0, 0)) :: .pt b2 (.cells (exE x).toArray 27 (0, 0)) :: h = h') (x.l.length - 0) [(5, .int .i64 0)] (h0 := .pt b3 (.cells (exE y).toArray 27 (0, 0)) :: .pt b2 (.cells (exE x).toArray 27 (0, 0)) :: h) ?_ Sb ⟨0, ⟨by omega, by rw [he]; rfl⟩, rfl, rfl, rfl⟩ ?_
 exact Su
 rintro _ _ _ ⟨k, ⟨hk, hJ⟩, rfl, rfl, rfl⟩
 refine WC.frm rfl ?_
 have q1 : Rd m (.pt b3 (.cells (exE y).toArray 27 (0, 0)) :: .pt b2 (.cells (exE x).toArray 27 (0, 0)) :: h) x.a x.l.length x.c 6 (fl exE x.l) := r1.mono (View.le.refl m) Sb
 have q2 : Rd m (.pt b3 (.cells (exE y).toArray 27 (0, 0)) :: .pt b2 (.cells (exE x).toArray 27 (0, 0)) :: h) y.a y.l.length y.c 6 (fl exE y.l) := r2.mono (View.le.refl m) Sb
 refine gD ?_; intros
 refine xM ?_
 refine xF u27 ?_
 refine xG (pL u25) ?_
 refine xG (PO.lenSl u25 Et) ?_
 refine bD ?_
 refine wn [2, 3, 5, 52] ?_
 refine gE ?_; intros
 refine wc (fun c52 => ?_) fun c52 => ?_
 replace c52 := dT c52
 obtain ⟨u, hu⟩ := get_some (l := x.l) (k := k) (by omega)
 obtain ⟨v, hv⟩ := get_some (l := y.l) (k := k) (by omega)
 rw [sameL_at hu hv] at hJ
 have mu := List.mem_of_getElem? hu
 have mv := List.mem_of_getElem? hv
 refine WC.skip (kp [2, 3, 5] ?_)
 refine gE ?_; intros
 refine dS [] (.op 0 (.op 1 (.op 2 (.op 3 (.op 4 (.op 5 (.op 6 (.op 7 (.op 8 (.op 9 .nil)))))))))) [10, 11] mixed ?_
 refine yG rfl (pF u27) ?_
 refine yG rfl (pL u25) ?_
 refine yG rfl (PO.move Et) ?_
 refine yG rfl (PO.idx EL25.und EL25.size EL25.posz (Ev.tmp rfl) (Ev.tmp rfl) Rr rfl (by omega)) ?_
 refine yG rfl (PO.loadFA u27 rfl rfl exE_len Rr (Ev.tmp rfl) (by assumption) rfl rfl (Nat.succ_pos _)) ?_
 refine yG rfl (pF u27) ?_
 refine yG rfl (pL u25) ?_
 refine yG rfl (PO.move Et) ?_
 refine yG rfl (PO.idx EL25.und EL25.size EL25.posz (Ev.tmp rfl) (Ev.tmp rfl) Rr rfl (by omega)) ?_
 refine yG rfl (PO.loadFA u27 rfl rfl exE_len Rr (Ev.tmp rfl) (by assumption) rfl rfl (Nat.succ_pos _)) ?_
 refine SR.nil rfl rfl ?_
 refine xf (E2 Et Et) (ih u mu v _ _ ((hx.part mu).mono Sb) ((hy.part mv).mono Sb)) ?_
 refine xG (PO.not Et) ?_
 refine wn [2, 3, 5, 66] ?_
 refine gE ?_; intros
 refine wc (fun c66 => ?_) fun c66 => ?_
 have d65 : sameE u v = false := by simpa using c66
 rw [d65] at hJ
 refine gD ?_; intros
 refine xC ?_
 refine wn [4] ?_
 refine WC.ret (wR (h) ?_)
 exact ⟨by rw [hJ]; rfl, rfl⟩
 have d65 : sameE u v = true := by simpa using c66
 rw [d65] at hJ
 refine WC.skip (kp [2, 3, 5] ?_)
 refine gD ?_; intros
 refine xM ?_
 refine bI ?_
 refine xA ?_
 refine WL.nil (loopBackI (x.l.length - (k + 1)) [(5, .int .i64 (k + 1))] (h'' := .pt b3 (.cells (exE y).toArray 27 (0, 0)) :: .pt b2 (.cells (exE x).toArray 27 (0, 0)) :: h) (by omega) ?_ Su Sb ⟨k + 1, ⟨by omega, by rw [hJ]; rfl⟩, rfl, rfl, rfl⟩)
 exact Su
 replace c52 := dF c52
 rw [List.drop_eq_nil_of_le (by omega)] at hJ
 refine WC.exit (kp [] ?_)
 refine gD ?_; intros
 refine xC ?_
 refine wn [4] ?_
 refine WC.ret (wR (h) ?_)
 exact ⟨by rw [hJ]; rfl, rfl⟩
end Go.Proofs.YtdhmplmpbcnojaaGreatDoor
end
/- SyA -/
section
namespace Go.Proofs.YtdhmplmpbcnojaaGreatDoor
open Go.Eng Go.Pc Go
open Go.Xp hiding B nameT
open Go.Ty (Ty Vr eqT tyV cellT PrOk VOk prL encV encV_len encI encI_len)
open Go.Lx (encB encB_len)
set_option maxRecDepth 100000
theorem has_ct (lo hi n : Int) (h : List Res) (m : View) : CT Tryz.prog 125 [.agg #[.int .i64 lo, .int .i64 hi], .int .i64 n] h m (Pure1 h (.bool (span lo hi n))) := by
 refine CT.body Tryz.call125 Tryz.func125 rfl Tryz.ntmps125 Lb rfl ?_
 refine gD ?_; intros
 refine xX fun b2 => ?_
 refine xC ?_
 refine wn [1, 2] ?_
 refine gG ?_; intros; rename_i ops hG
 refine xM ?_
 refine xF u176 ?_
 refine xG (pL u3) ?_
 refine bD ?_
 refine xM ?_
 refine zM ?_
 refine zG (fun _ => pF u176) ?_
 refine zG (fun hc => PO.load1 u3 rfl (Eg hc) Me rfl) ?_
 refine zG (fun hc => PO.bin (Eg hc) (Eg hc) rfl) ?_
 refine xP ?_
 refine xA ?_
 refine wn [4] ?_
 try clear hG ops
 refine WC.ret (wR (h) ?_)
 exact ⟨rfl, rfl⟩
theorem idxEx_ct (q : FuncId) (cap : List Value) (pr : Ex → Bool) (a : Option Addr) (k c : Nat) (l : List Ex) (h : List Res) (m : View) (hq : ∀ x ∈ l, CT Tryz.prog q ([exV x] ++ cap) h m (Pure1 h (.bool (pr x)))) (hs : Rd m h a k c 6 (fl exE l)) :
   CT Tryz.prog 187 [.slice a k c, .func (.func q) #[] cap.toArray] h m (Pure1 h (.int .i64 (Go.Ty.idxF pr l 0))) := by
 have hl := hs.lenF exE_len (by decide)
 have hmx := hs.mx
 have hle := hs.le
 refine CT.body Tryz.call187 Tryz.func187 rfl Tryz.ntmps187 Lb rfl ?_
 refine gD ?_; intros
 refine xC ?_
 refine wn [0, 1] ?_
 refine gD ?_; intros
 refine xM ?_
 refine xG (PO.lenSl u25 Et) ?_
 refine xK ?_
 refine wn [0, 1, 7, 8] ?_
 refine gE ?_; intros
 refine WC.loopI [0, 1, 7] rfl (fun μ F' h' => ∃ j : Nat, (j ≤ k ∧ Go.Ty.idxF pr l 0 = Go.Ty.idxF pr (l.drop j) j) ∧ k - j = μ ∧ F' = [(8, .int .i64 j)] ∧ h = h') (k - 0) [(8, .int .i64 0)] (h0 := h) ?_ Sb ⟨0, ⟨by omega, rfl⟩, rfl, rfl, rfl⟩ ?_
 exact Su
 rintro _ _ _ ⟨j, ⟨hk, hJ⟩, rfl, rfl, rfl⟩
 refine WC.frm rfl ?_
 refine gD ?_; intros
 refine bD ?_
 refine wn [0, 1, 7, 8, 9] ?_
 refine gE ?_; intros
 refine wc (fun c9 => ?_) fun c9 => ?_
 replace c9 := dT c9
 obtain ⟨x, hx⟩ := get_some (l := l) (k := j) (by omega)
 rw [Go.Ty.idxF_drop pr hx] at hJ
 refine WC.skip (kp [0, 1, 7, 8] ?_)
 refine gD ?_; intros
 refine xM ?_
 refine xA ?_
 refine wn [0, 1, 5, 7, 8] ?_
 refine gD ?_; intros
 refine xM ?_
 refine xM ?_
 refine xM ?_
 refine xG (PO.idx EL25.und EL25.size EL25.posz (Ev.tmp rfl) (Ev.tmp rfl) Rr rfl (by omega)) ?_
 refine xG (PO.loadFA u27 rfl rfl exE_len Rr (Ev.tmp rfl) (by assumption) rfl rfl (Nat.succ_pos _)) ?_
 refine WL.callP (Ev.tmp rfl) (E1 (Ev.tmp rfl)) (hq x (List.mem_of_getElem? hx)) Lb ?_
 refine wn [0, 1, 5, 7, 8, 16] ?_
 refine gE ?_; intros
 refine wc (fun c16 => ?_) fun c16 => ?_
 rw [c16] at hJ
 refine gD ?_; intros
 refine xM ?_
 refine xA ?_
 refine wn [4] ?_
 refine WC.ret (wR (h) ?_)
 exact ⟨by rw [hJ]; rfl, rfl⟩
 rw [c16] at hJ
 refine WC.skip (kp [0, 1, 7, 8] ?_)
 refine gD ?_; intros
 refine bI ?_
 refine xM ?_
 refine WL.nil (loopBackI (k - (j + 1)) [(8, .int .i64 (j + 1))] (h'' := h) (by omega) ?_ Su Sb ⟨j + 1, ⟨by omega, by simpa using hJ⟩, rfl, rfl, rfl⟩)
 exact Su
 replace c9 := dF c9
 rw [List.drop_eq_nil_of_le (by omega)] at hJ
 refine WC.exit (kp [] ?_)
 refine gD ?_; intros
 refine xC ?_
 refine wn [4] ?_
 refine WC.ret (wR (h) ?_)
 exact ⟨by rw [hJ]; rfl, rfl⟩
theorem anyEx_ct (q : FuncId) (cap : List Value) (pr : Ex → Bool) (a : Option Addr) (k c : Nat) (l : List Ex) (h : List Res) (m : View) (hq : ∀ x ∈ l, CT Tryz.prog q ([exV x] ++ cap) h m (Pure1 h (.bool (pr x)))) (hs : Rd m h a k c 6 (fl exE l)) :
   CT Tryz.prog 166 [.slice a k c, .func (.func q) #[] cap.toArray] h m (Pure1 h (.bool (l.any pr))) := by
 refine CT.body Tryz.call166 Tryz.func166 rfl Tryz.ntmps166 Lb rfl ?_
 refine gD ?_; intros
 refine xC ?_
 refine wn [0, 1] ?_
 refine gD ?_; intros
 refine xM ?_
 refine xM ?_
 refine xf (E2 Et Et) (idxEx_ct q cap pr _ _ _ l _ _ hq hs) ?_
 refine bB ?_
 refine xA ?_
 refine wn [4] ?_
 refine WC.ret (wR (h) ?_)
 exact ⟨congrArg Value.bool (Go.Ty.idxF_any pr l 0 (by decide)), rfl⟩
theorem eachcEx_ct (q0 : FuncId) (c0 : List Value) (b : Nat) (x : Ex) (v : Bool) (h : List Res) (m : View) (hb : Res.pt b (.cells [.func (.func q0) #[] c0.toArray].toArray 39 (0, 0)) ∈ h) (hq : ∀ h', h.Sublist h' → CT Tryz.prog q0 ([exV x] ++ c0) h' m (Pure1 h' (.bool v))) :
   CT Tryz.prog 167 [exV x, .pointer (some ⟨b, 0, none⟩)] h m (Pure1 h (.bool (!v))) := by
 refine CT.body Tryz.call167 Tryz.func167 rfl Tryz.ntmps167 Lb rfl ?_
 refine gD ?_; intros
 refine xX fun b2 => ?_
 refine xC ?_
 refine wn [1, 2] ?_
 refine gD ?_; intros
 refine xG (PO.load1 u39 rfl Et (List.Mem.tail _ hb) rfl) ?_
 refine xG (pA u27) ?_
 refine WL.callP (Ev.tmp rfl) (E1 (Ev.tmp rfl)) (hq _ Sb) Lb ?_
 refine xG (PO.not Et) ?_
 refine xA ?_
 refine wn [3] ?_
 refine WC.ret (wR (h) ?_)
 exact ⟨rfl, rfl⟩
theorem eachEx_ct (q0 : FuncId) (c0 : List Value) (pr : Ex → Bool) (lo hi : Int) (a : Option Addr) (k c : Nat) (l : List Ex) (h : List Res) (m : View) (hq : ∀ x ∈ l, ∀ h', h.Sublist h' → CT Tryz.prog q0 ([exV x] ++ c0) h' m (Pure1 h' (.bool (pr x)))) (hs : Rd m h a k c 6 (fl exE l)) :
   CT Tryz.prog 130 [.slice a k c, .agg #[.int .i64 lo, .int .i64 hi], .func (.func q0) #[] c0.toArray] h m (Pure1 h (.bool (each l lo hi pr))) := by
 have hl := hs.lenF exE_len (by decide)
 subst hl
 refine CT.body Tryz.call130 Tryz.func130 rfl Tryz.ntmps130 Lb rfl ?_
 refine gD ?_; intros
 refine xX fun b4 => ?_
 refine xX fun b5 => ?_
 refine xC ?_
 refine wn [0, 4, 5] ?_
 refine gG ?_; intros; rename_i ops hG
 refine xG (pA u176) ?_
 refine xM ?_
 refine xG (PO.lenSl u25 Et) ?_
 refine xf (E2 Et Et) (has_ct lo hi l.length _ _) ?_
 refine xM ?_
 refine zM ?_
 refine zG (fun _ => PO.makeFunc Evs.nil (E1 Et)) ?_
 refine WL.callG (GU.t (hG _ _ rfl) rfl) (fun hc => ⟨Ev.func, (E2 (Eg hc) (Eg hc)), anyEx_ct 167 [.pointer (some ⟨b5, 0, none⟩)] (fun x => !pr x) _ _ _ l _ _ (fun x hx => eachcEx_ct q0 c0 b5 x (pr x) _ _ Me (fun h' hh => hq x hx h' (List.Sublist.trans Sb hh))) (hs.mono (View.le.refl _) Sb)⟩) Lb ?_
 refine zG (fun hc => PO.not (Eg hc)) ?_
 refine xP ?_
 refine xA ?_
 refine wn [6] ?_
 try clear hG ops
 refine WC.ret (wR (h) ?_)
 exact ⟨rfl, rfl⟩
theorem idxGu_ct (q : FuncId) (cap : List Value) (pr : Gu → Bool) (a : Option Addr) (k c : Nat) (l : List Gu) (h : List Res) (m : View) (hq : ∀ x ∈ l, CT Tryz.prog q ([guV x] ++ cap) h m (Pure1 h (.bool (pr x)))) (hs : Rd m h a k c 23 (fl guE l)) :
   CT Tryz.prog 186 [.slice a k c, .func (.func q) #[] cap.toArray] h m (Pure1 h (.int .i64 (Go.Ty.idxF pr l 0))) := by
 have hl := hs.lenF guE_len (by decide)
 have hmx := hs.mx
 have hle := hs.le
 refine CT.body Tryz.call186 Tryz.func186 rfl Tryz.ntmps186 Lb rfl ?_
 refine gD ?_; intros
 refine xC ?_
 refine wn [0, 1] ?_
 refine gD ?_; intros
 refine xM ?_
 refine xG (PO.lenSl u44 Et) ?_
 refine xK ?_
 refine wn [0, 1, 7, 8] ?_
 refine gE ?_; intros
 refine WC.loopI [0, 1, 7] rfl (fun μ F' h' => ∃ j : Nat, (j ≤ k ∧ Go.Ty.idxF pr l 0 = Go.Ty.idxF pr (l.drop j) j) ∧ k - j = μ ∧ F' = [(8, .int .i64 j)] ∧ h = h') (k - 0) [(8, .int .i64 0)] (h0 := h) ?_ Sb ⟨0, ⟨by omega, rfl⟩, rfl, rfl, rfl⟩ ?_
 exact Su
 rintro _ _ _ ⟨j, ⟨hk, hJ⟩, rfl, rfl, rfl⟩
 refine WC.frm rfl ?_
 refine gD ?_; intros
 refine bD ?_
 refine wn [0, 1, 7, 8, 9] ?_
 refine gE ?_; intros
 refine wc (fun c9 => ?_) fun c9 => ?_
 replace c9 := dT c9
 obtain ⟨x, hx⟩ := get_some (l := l) (k := j) (by omega)
 rw [Go.Ty.idxF_drop pr hx] at hJ
 refine WC.skip (kp [0, 1, 7, 8] ?_)
 refine gD ?_; intros
 refine xM ?_
 refine xA ?_
 refine wn [0, 1, 5, 7, 8] ?_
 refine gD ?_; intros
 refine xM ?_
 refine xM ?_
 refine xM ?_
 refine xG (PO.idx EL44.und EL44.size EL44.posz (Ev.tmp rfl) (Ev.tmp rfl) Rr rfl (by omega)) ?_
 refine xG (PO.loadFA u70 rfl rfl guE_len Rr (Ev.tmp rfl) (by assumption) rfl rfl (Nat.succ_pos _)) ?_
 refine WL.callP (Ev.tmp rfl) (E1 (Ev.tmp rfl)) (hq x (List.mem_of_getElem? hx)) Lb ?_
 refine wn [0, 1, 5, 7, 8, 16] ?_
 refine gE ?_; intros
 refine wc (fun c16 => ?_) fun c16 => ?_
 rw [c16] at hJ
 refine gD ?_; intros
 refine xM ?_
 refine xA ?_
 refine wn [4] ?_
 refine WC.ret (wR (h) ?_)
 exact ⟨by rw [hJ]; rfl, rfl⟩
 rw [c16] at hJ
 refine WC.skip (kp [0, 1, 7, 8] ?_)
 refine gD ?_; intros
 refine bI ?_
 refine xM ?_
 refine WL.nil (loopBackI (k - (j + 1)) [(8, .int .i64 (j + 1))] (h'' := h) (by omega) ?_ Su Sb ⟨j + 1, ⟨by omega, by simpa using hJ⟩, rfl, rfl, rfl⟩)
 exact Su
 replace c9 := dF c9
 rw [List.drop_eq_nil_of_le (by omega)] at hJ
 refine WC.exit (kp [] ?_)
 refine gD ?_; intros
 refine xC ?_
 refine wn [4] ?_
 refine WC.ret (wR (h) ?_)
 exact ⟨by rw [hJ]; rfl, rfl⟩
theorem anyGu_ct (q : FuncId) (cap : List Value) (pr : Gu → Bool) (a : Option Addr) (k c : Nat) (l : List Gu) (h : List Res) (m : View) (hq : ∀ x ∈ l, CT Tryz.prog q ([guV x] ++ cap) h m (Pure1 h (.bool (pr x)))) (hs : Rd m h a k c 23 (fl guE l)) :
   CT Tryz.prog 163 [.slice a k c, .func (.func q) #[] cap.toArray] h m (Pure1 h (.bool (l.any pr))) := by
 refine CT.body Tryz.call163 Tryz.func163 rfl Tryz.ntmps163 Lb rfl ?_
 refine gD ?_; intros
 refine xC ?_
 refine wn [0, 1] ?_
 refine gD ?_; intros
 refine xM ?_
 refine xM ?_
 refine xf (E2 Et Et) (idxGu_ct q cap pr _ _ _ l _ _ hq hs) ?_
 refine bB ?_
 refine xA ?_
 refine wn [4] ?_
 refine WC.ret (wR (h) ?_)
 exact ⟨congrArg Value.bool (Go.Ty.idxF_any pr l 0 (by decide)), rfl⟩
theorem eachcGu_ct (q0 : FuncId) (c0 : List Value) (b : Nat) (x : Gu) (v : Bool) (h : List Res) (m : View) (hb : Res.pt b (.cells [.func (.func q0) #[] c0.toArray].toArray 181 (0, 0)) ∈ h) (hq : ∀ h', h.Sublist h' → CT Tryz.prog q0 ([guV x] ++ c0) h' m (Pure1 h' (.bool v))) :
   CT Tryz.prog 164 [guV x, .pointer (some ⟨b, 0, none⟩)] h m (Pure1 h (.bool (!v))) := by
 refine CT.body Tryz.call164 Tryz.func164 rfl Tryz.ntmps164 Lb rfl ?_
 refine gD ?_; intros
 refine xX fun b2 => ?_
 refine xC ?_
 refine wn [1, 2] ?_
 refine gD ?_; intros
 refine xG (PO.load1 u181 rfl Et (List.Mem.tail _ hb) rfl) ?_
 refine xG (pA u70) ?_
 refine WL.callP (Ev.tmp rfl) (E1 (Ev.tmp rfl)) (hq _ Sb) Lb ?_
 refine xG (PO.not Et) ?_
 refine xA ?_
 refine wn [3] ?_
 refine WC.ret (wR (h) ?_)
 exact ⟨rfl, rfl⟩
theorem eachGu_ct (q0 : FuncId) (c0 : List Value) (pr : Gu → Bool) (lo hi : Int) (a : Option Addr) (k c : Nat) (l : List Gu) (h : List Res) (m : View) (hq : ∀ x ∈ l, ∀ h', h.Sublist h' → CT Tryz.prog q0 ([guV x] ++ c0) h' m (Pure1 h' (.bool (pr x)))) (hs : Rd m h a k c 23 (fl guE l)) :
   CT Tryz.prog 126 [.slice a k c, .agg #[.int .i64 lo, .int .i64 hi], .func (.func q0) #[] c0.toArray] h m (Pure1 h (.bool (each l lo hi pr))) := by
 have hl := hs.lenF guE_len (by decide)
 subst hl
 refine CT.body Tryz.call126 Tryz.func126 rfl Tryz.ntmps126 Lb rfl ?_
 refine gD ?_; intros
 refine xX fun b4 => ?_
 refine xX fun b5 => ?_
 refine xC ?_
 refine wn [0, 4, 5] ?_
 refine gG ?_; intros; rename_i ops hG
 refine xG (pA u176) ?_
 refine xM ?_
 refine xG (PO.lenSl u44 Et) ?_
 refine xf (E2 Et Et) (has_ct lo hi l.length _ _) ?_
 refine xM ?_
 refine zM ?_
 refine zG (fun _ => PO.makeFunc Evs.nil (E1 Et)) ?_
 refine WL.callG (GU.t (hG _ _ rfl) rfl) (fun hc => ⟨Ev.func, (E2 (Eg hc) (Eg hc)), anyGu_ct 164 [.pointer (some ⟨b5, 0, none⟩)] (fun x => !pr x) _ _ _ l _ _ (fun x hx => eachcGu_ct q0 c0 b5 x (pr x) _ _ Me (fun h' hh => hq x hx h' (List.Sublist.trans Sb hh))) (hs.mono (View.le.refl _) Sb)⟩) Lb ?_
 refine zG (fun hc => PO.not (Eg hc)) ?_
 refine xP ?_
 refine xA ?_
 refine wn [6] ?_
 try clear hG ops
 refine WC.ret (wR (h) ?_)
 exact ⟨rfl, rfl⟩
theorem idxNn_ct (q : FuncId) (cap : List Value) (pr : Int → Bool) (a : Option Addr) (k c : Nat) (l : List Int) (h : List Res) (m : View) (hq : ∀ x ∈ l, CT Tryz.prog q ([.int .i64 x] ++ cap) h m (Pure1 h (.bool (pr x)))) (hs : Rd m h a k c 1 (fl encN l)) :
   CT Tryz.prog 188 [.slice a k c, .func (.func q) #[] cap.toArray] h m (Pure1 h (.int .i64 (Go.Ty.idxF pr l 0))) := by
 have hl := hs.lenF encN_len (by decide)
 have hmx := hs.mx
 have hle := hs.le
 refine CT.body Tryz.call188 Tryz.func188 rfl Tryz.ntmps188 Lb rfl ?_
 refine gD ?_; intros
 refine xC ?_
 refine wn [0, 1] ?_
 refine gD ?_; intros
 refine xM ?_
 refine xG (PO.lenSl u46 Et) ?_
 refine xK ?_
 refine wn [0, 1, 7, 8] ?_
 refine gE ?_; intros
 refine WC.loopI [0, 1, 7] rfl (fun μ F' h' => ∃ j : Nat, (j ≤ k ∧ Go.Ty.idxF pr l 0 = Go.Ty.idxF pr (l.drop j) j) ∧ k - j = μ ∧ F' = [(8, .int .i64 j)] ∧ h = h') (k - 0) [(8, .int .i64 0)] (h0 := h) ?_ Sb ⟨0, ⟨by omega, rfl⟩, rfl, rfl, rfl⟩ ?_
 exact Su
 rintro _ _ _ ⟨j, ⟨hk, hJ⟩, rfl, rfl, rfl⟩
 refine WC.frm rfl ?_
 refine gD ?_; intros
 refine bD ?_
 refine wn [0, 1, 7, 8, 9] ?_
 refine gE ?_; intros
 refine wc (fun c9 => ?_) fun c9 => ?_
 replace c9 := dT c9
 obtain ⟨x, hx⟩ := get_some (l := l) (k := j) (by omega)
 rw [Go.Ty.idxF_drop pr hx] at hJ
 refine WC.skip (kp [0, 1, 7, 8] ?_)
 refine gD ?_; intros
 refine xM ?_
 refine xA ?_
 refine wn [0, 1, 5, 7, 8] ?_
 refine gD ?_; intros
 refine xM ?_
 refine xM ?_
 refine xM ?_
 refine xG (PO.idx EL46.und EL46.size EL46.posz (Ev.tmp rfl) (Ev.tmp rfl) Rr rfl (by omega)) ?_
 refine xG (PO.loadF1 u3 rfl encN_len Rr (Ev.tmp rfl) (by assumption) rfl) ?_
 refine WL.callP (Ev.tmp rfl) (E1 (Ev.tmp rfl)) (hq x (List.mem_of_getElem? hx)) Lb ?_
 refine wn [0, 1, 5, 7, 8, 16] ?_
 refine gE ?_; intros
 refine wc (fun c16 => ?_) fun c16 => ?_
 rw [c16] at hJ
 refine gD ?_; intros
 refine xM ?_
 refine xA ?_
 refine wn [4] ?_
 refine WC.ret (wR (h) ?_)
 exact ⟨by rw [hJ]; rfl, rfl⟩
 rw [c16] at hJ
 refine WC.skip (kp [0, 1, 7, 8] ?_)
 refine gD ?_; intros
 refine bI ?_
 refine xM ?_
 refine WL.nil (loopBackI (k - (j + 1)) [(8, .int .i64 (j + 1))] (h'' := h) (by omega) ?_ Su Sb ⟨j + 1, ⟨by omega, by simpa using hJ⟩, rfl, rfl, rfl⟩)
 exact Su
 replace c9 := dF c9
 rw [List.drop_eq_nil_of_le (by omega)] at hJ
 refine WC.exit (kp [] ?_)
 refine gD ?_; intros
 refine xC ?_
 refine wn [4] ?_
 refine WC.ret (wR (h) ?_)
 exact ⟨by rw [hJ]; rfl, rfl⟩
theorem anyNn_ct (q : FuncId) (cap : List Value) (pr : Int → Bool) (a : Option Addr) (k c : Nat) (l : List Int) (h : List Res) (m : View) (hq : ∀ x ∈ l, CT Tryz.prog q ([.int .i64 x] ++ cap) h m (Pure1 h (.bool (pr x)))) (hs : Rd m h a k c 1 (fl encN l)) :
   CT Tryz.prog 168 [.slice a k c, .func (.func q) #[] cap.toArray] h m (Pure1 h (.bool (l.any pr))) := by
 refine CT.body Tryz.call168 Tryz.func168 rfl Tryz.ntmps168 Lb rfl ?_
 refine gD ?_; intros
 refine xC ?_
 refine wn [0, 1] ?_
 refine gD ?_; intros
 refine xM ?_
 refine xM ?_
 refine xf (E2 Et Et) (idxNn_ct q cap pr _ _ _ l _ _ hq hs) ?_
 refine bB ?_
 refine xA ?_
 refine wn [4] ?_
 refine WC.ret (wR (h) ?_)
 exact ⟨congrArg Value.bool (Go.Ty.idxF_any pr l 0 (by decide)), rfl⟩
theorem eachcNn_ct (q0 : FuncId) (c0 : List Value) (b : Nat) (x : Int) (v : Bool) (h : List Res) (m : View) (hb : Res.pt b (.cells [.func (.func q0) #[] c0.toArray].toArray 182 (0, 0)) ∈ h) (hq : ∀ h', h.Sublist h' → CT Tryz.prog q0 ([.int .i64 x] ++ c0) h' m (Pure1 h' (.bool v))) :
   CT Tryz.prog 169 [.int .i64 x, .pointer (some ⟨b, 0, none⟩)] h m (Pure1 h (.bool (!v))) := by
 refine CT.body Tryz.call169 Tryz.func169 rfl Tryz.ntmps169 Lb rfl ?_
 refine gD ?_; intros
 refine xC ?_
 refine wn [0, 1] ?_
 refine gD ?_; intros
 refine xG (PO.load1 u182 rfl Et hb rfl) ?_
 refine xM ?_
 refine WL.callP (Ev.tmp rfl) (E1 (Ev.tmp rfl)) (hq _ Sb) Lb ?_
 refine xG (PO.not Et) ?_
 refine xA ?_
 refine wn [3] ?_
 refine WC.ret (wR (h) ?_)
 exact ⟨rfl, rfl⟩
theorem eachNn_ct (q0 : FuncId) (c0 : List Value) (pr : Int → Bool) (lo hi : Int) (a : Option Addr) (k c : Nat) (l : List Int) (h : List Res) (m : View) (hq : ∀ x ∈ l, ∀ h', h.Sublist h' → CT Tryz.prog q0 ([.int .i64 x] ++ c0) h' m (Pure1 h' (.bool (pr x)))) (hs : Rd m h a k c 1 (fl encN l)) :
   CT Tryz.prog 131 [.slice a k c, .agg #[.int .i64 lo, .int .i64 hi], .func (.func q0) #[] c0.toArray] h m (Pure1 h (.bool (each l lo hi pr))) := by
 have hl := hs.lenF encN_len (by decide)
 subst hl
 refine CT.body Tryz.call131 Tryz.func131 rfl Tryz.ntmps131 Lb rfl ?_
 refine gD ?_; intros
 refine xX fun b4 => ?_
 refine xX fun b5 => ?_
 refine xC ?_
 refine wn [0, 4, 5] ?_
 refine gG ?_; intros; rename_i ops hG
 refine xG (pA u176) ?_
 refine xM ?_
 refine xG (PO.lenSl u46 Et) ?_
 refine xf (E2 Et Et) (has_ct lo hi l.length _ _) ?_
 refine xM ?_
 refine zM ?_
 refine zG (fun _ => PO.makeFunc Evs.nil (E1 Et)) ?_
 refine WL.callG (GU.t (hG _ _ rfl) rfl) (fun hc => ⟨Ev.func, (E2 (Eg hc) (Eg hc)), anyNn_ct 169 [.pointer (some ⟨b5, 0, none⟩)] (fun x => !pr x) _ _ _ l _ _ (fun x hx => eachcNn_ct q0 c0 b5 x (pr x) _ _ Me (fun h' hh => hq x hx h' (List.Sublist.trans Sb hh))) (hs.mono (View.le.refl _) Sb)⟩) Lb ?_
 refine zG (fun hc => PO.not (Eg hc)) ?_
 refine xP ?_
 refine xA ?_
 refine wn [6] ?_
 try clear hG ops
 refine WC.ret (wR (h) ?_)
 exact ⟨rfl, rfl⟩
theorem idxFo_ct (q : FuncId) (cap : List Value) (pr : Fo → Bool) (a : Option Addr) (k c : Nat) (l : List Fo) (h : List Res) (m : View) (hq : ∀ x ∈ l, CT Tryz.prog q ([foV x] ++ cap) h m (Pure1 h (.bool (pr x)))) (hs : Rd m h a k c 6 (fl foE l)) :
   CT Tryz.prog 212 [.slice a k c, .func (.func q) #[] cap.toArray] h m (Pure1 h (.int .i64 (Go.Ty.idxF pr l 0))) := by
 have hl := hs.lenF foE_len (by decide)
 have hmx := hs.mx
 have hle := hs.le
 refine CT.body Tryz.call212 Tryz.func212 rfl Tryz.ntmps212 Lb rfl ?_
 refine gD ?_; intros
 refine xC ?_
 refine wn [0, 1] ?_
 refine gD ?_; intros
 refine xM ?_
 refine xG (PO.lenSl u52 Et) ?_
 refine xK ?_
 refine wn [0, 1, 7, 8] ?_
 refine gE ?_; intros
 refine WC.loopI [0, 1, 7] rfl (fun μ F' h' => ∃ j : Nat, (j ≤ k ∧ Go.Ty.idxF pr l 0 = Go.Ty.idxF pr (l.drop j) j) ∧ k - j = μ ∧ F' = [(8, .int .i64 j)] ∧ h = h') (k - 0) [(8, .int .i64 0)] (h0 := h) ?_ Sb ⟨0, ⟨by omega, rfl⟩, rfl, rfl, rfl⟩ ?_
 exact Su
 rintro _ _ _ ⟨j, ⟨hk, hJ⟩, rfl, rfl, rfl⟩
 refine WC.frm rfl ?_
 refine gD ?_; intros
 refine bD ?_
 refine wn [0, 1, 7, 8, 9] ?_
 refine gE ?_; intros
 refine wc (fun c9 => ?_) fun c9 => ?_
 replace c9 := dT c9
 obtain ⟨x, hx⟩ := get_some (l := l) (k := j) (by omega)
 rw [Go.Ty.idxF_drop pr hx] at hJ
 refine WC.skip (kp [0, 1, 7, 8] ?_)
 refine gD ?_; intros
 refine xM ?_
 refine xA ?_
 refine wn [0, 1, 5, 7, 8] ?_
 refine gD ?_; intros
 refine xM ?_
 refine xM ?_
 refine xM ?_
 refine xG (PO.idx EL52.und EL52.size EL52.posz (Ev.tmp rfl) (Ev.tmp rfl) Rr rfl (by omega)) ?_
 refine xG (PO.loadFA u60 rfl rfl foE_len Rr (Ev.tmp rfl) (by assumption) rfl rfl (Nat.succ_pos _)) ?_
 refine WL.callP (Ev.tmp rfl) (E1 (Ev.tmp rfl)) (hq x (List.mem_of_getElem? hx)) Lb ?_
 refine wn [0, 1, 5, 7, 8, 16] ?_
 refine gE ?_; intros
 refine wc (fun c16 => ?_) fun c16 => ?_
 rw [c16] at hJ
 refine gD ?_; intros
 refine xM ?_
 refine xA ?_
 refine wn [4] ?_
 refine WC.ret (wR (h) ?_)
 exact ⟨by rw [hJ]; rfl, rfl⟩
 rw [c16] at hJ
 refine WC.skip (kp [0, 1, 7, 8] ?_)
 refine gD ?_; intros
 refine bI ?_
 refine xM ?_
 refine WL.nil (loopBackI (k - (j + 1)) [(8, .int .i64 (j + 1))] (h'' := h) (by omega) ?_ Su Sb ⟨j + 1, ⟨by omega, by simpa using hJ⟩, rfl, rfl, rfl⟩)
 exact Su
 replace c9 := dF c9
 rw [List.drop_eq_nil_of_le (by omega)] at hJ
 refine WC.exit (kp [] ?_)
 refine gD ?_; intros
 refine xC ?_
 refine wn [4] ?_
 refine WC.ret (wR (h) ?_)
 exact ⟨by rw [hJ]; rfl, rfl⟩
theorem anyFo_ct (q : FuncId) (cap : List Value) (pr : Fo → Bool) (a : Option Addr) (k c : Nat) (l : List Fo) (h : List Res) (m : View) (hq : ∀ x ∈ l, CT Tryz.prog q ([foV x] ++ cap) h m (Pure1 h (.bool (pr x)))) (hs : Rd m h a k c 6 (fl foE l)) :
   CT Tryz.prog 193 [.slice a k c, .func (.func q) #[] cap.toArray] h m (Pure1 h (.bool (l.any pr))) := by
 refine CT.body Tryz.call193 Tryz.func193 rfl Tryz.ntmps193 Lb rfl ?_
 refine gD ?_; intros
 refine xC ?_
 refine wn [0, 1] ?_
 refine gD ?_; intros
 refine xM ?_
 refine xM ?_
 refine xf (E2 Et Et) (idxFo_ct q cap pr _ _ _ l _ _ hq hs) ?_
 refine bB ?_
 refine xA ?_
 refine wn [4] ?_
 refine WC.ret (wR (h) ?_)
 exact ⟨congrArg Value.bool (Go.Ty.idxF_any pr l 0 (by decide)), rfl⟩
theorem eachcFo_ct (q0 : FuncId) (c0 : List Value) (b : Nat) (x : Fo) (v : Bool) (h : List Res) (m : View) (hb : Res.pt b (.cells [.func (.func q0) #[] c0.toArray].toArray 197 (0, 0)) ∈ h) (hq : ∀ h', h.Sublist h' → CT Tryz.prog q0 ([foV x] ++ c0) h' m (Pure1 h' (.bool v))) :
   CT Tryz.prog 194 [foV x, .pointer (some ⟨b, 0, none⟩)] h m (Pure1 h (.bool (!v))) := by
 refine CT.body Tryz.call194 Tryz.func194 rfl Tryz.ntmps194 Lb rfl ?_
 refine gD ?_; intros
 refine xX fun b2 => ?_
 refine xC ?_
 refine wn [1, 2] ?_
 refine gD ?_; intros
 refine xG (PO.load1 u197 rfl Et (List.Mem.tail _ hb) rfl) ?_
 refine xG (pA u60) ?_
 refine WL.callP (Ev.tmp rfl) (E1 (Ev.tmp rfl)) (hq _ Sb) Lb ?_
 refine xG (PO.not Et) ?_
 refine xA ?_
 refine wn [3] ?_
 refine WC.ret (wR (h) ?_)
 exact ⟨rfl, rfl⟩
theorem eachFo_ct (q0 : FuncId) (c0 : List Value) (pr : Fo → Bool) (lo hi : Int) (a : Option Addr) (k c : Nat) (l : List Fo) (h : List Res) (m : View) (hq : ∀ x ∈ l, ∀ h', h.Sublist h' → CT Tryz.prog q0 ([foV x] ++ c0) h' m (Pure1 h' (.bool (pr x)))) (hs : Rd m h a k c 6 (fl foE l)) :
   CT Tryz.prog 173 [.slice a k c, .agg #[.int .i64 lo, .int .i64 hi], .func (.func q0) #[] c0.toArray] h m (Pure1 h (.bool (each l lo hi pr))) := by
 have hl := hs.lenF foE_len (by decide)
 subst hl
 refine CT.body Tryz.call173 Tryz.func173 rfl Tryz.ntmps173 Lb rfl ?_
 refine gD ?_; intros
 refine xX fun b4 => ?_
 refine xX fun b5 => ?_
 refine xC ?_
 refine wn [0, 4, 5] ?_
 refine gG ?_; intros; rename_i ops hG
 refine xG (pA u176) ?_
 refine xM ?_
 refine xG (PO.lenSl u52 Et) ?_
 refine xf (E2 Et Et) (has_ct lo hi l.length _ _) ?_
 refine xM ?_
 refine zM ?_
 refine zG (fun _ => PO.makeFunc Evs.nil (E1 Et)) ?_
 refine WL.callG (GU.t (hG _ _ rfl) rfl) (fun hc => ⟨Ev.func, (E2 (Eg hc) (Eg hc)), anyFo_ct 194 [.pointer (some ⟨b5, 0, none⟩)] (fun x => !pr x) _ _ _ l _ _ (fun x hx => eachcFo_ct q0 c0 b5 x (pr x) _ _ Me (fun h' hh => hq x hx h' (List.Sublist.trans Sb hh))) (hs.mono (View.le.refl _) Sb)⟩) Lb ?_
 refine zG (fun hc => PO.not (Eg hc)) ?_
 refine xP ?_
 refine xA ?_
 refine wn [6] ?_
 try clear hG ops
 refine WC.ret (wR (h) ?_)
 exact ⟨rfl, rfl⟩
theorem idxSs_ct (q : FuncId) (cap : List Value) (pr : B → Bool) (a : Option Addr) (k c : Nat) (l : List B) (h : List Res) (m : View) (hq : ∀ x ∈ l, CT Tryz.prog q ([str x] ++ cap) h m (Pure1 h (.bool (pr x)))) (hs : Rd m h a k c 1 (fl encB l)) :
   CT Tryz.prog 213 [.slice a k c, .func (.func q) #[] cap.toArray] h m (Pure1 h (.int .i64 (Go.Ty.idxF pr l 0))) := by
 have hl := hs.lenF encB_len (by decide)
 have hmx := hs.mx
 have hle := hs.le
 refine CT.body Tryz.call213 Tryz.func213 rfl Tryz.ntmps213 Lb rfl ?_
 refine gD ?_; intros
 refine xC ?_
 refine wn [0, 1] ?_
 refine gD ?_; intros
 refine xM ?_
 refine xG (PO.lenSl u48 Et) ?_
 refine xK ?_
 refine wn [0, 1, 7, 8] ?_
 refine gE ?_; intros
 refine WC.loopI [0, 1, 7] rfl (fun μ F' h' => ∃ j : Nat, (j ≤ k ∧ Go.Ty.idxF pr l 0 = Go.Ty.idxF pr (l.drop j) j) ∧ k - j = μ ∧ F' = [(8, .int .i64 j)] ∧ h = h') (k - 0) [(8, .int .i64 0)] (h0 := h) ?_ Sb ⟨0, ⟨by omega, rfl⟩, rfl, rfl, rfl⟩ ?_
 exact Su
 rintro _ _ _ ⟨j, ⟨hk, hJ⟩, rfl, rfl, rfl⟩
 refine WC.frm rfl ?_
 refine gD ?_; intros
 refine bD ?_
 refine wn [0, 1, 7, 8, 9] ?_
 refine gE ?_; intros
 refine wc (fun c9 => ?_) fun c9 => ?_
 replace c9 := dT c9
 obtain ⟨x, hx⟩ := get_some (l := l) (k := j) (by omega)
 rw [Go.Ty.idxF_drop pr hx] at hJ
 refine WC.skip (kp [0, 1, 7, 8] ?_)
 refine gD ?_; intros
 refine xM ?_
 refine xA ?_
 refine wn [0, 1, 5, 7, 8] ?_
 refine gD ?_; intros
 refine xM ?_
 refine xM ?_
 refine xM ?_
 refine xG (PO.idx EL48.und EL48.size EL48.posz (Ev.tmp rfl) (Ev.tmp rfl) Rr rfl (by omega)) ?_
 refine xG (PO.loadF1 u9 rfl encB_len Rr (Ev.tmp rfl) (by assumption) rfl) ?_
 refine WL.callP (Ev.tmp rfl) (E1 (Ev.tmp rfl)) (hq x (List.mem_of_getElem? hx)) Lb ?_
 refine wn [0, 1, 5, 7, 8, 16] ?_
 refine gE ?_; intros
 refine wc (fun c16 => ?_) fun c16 => ?_
 rw [c16] at hJ
 refine gD ?_; intros
 refine xM ?_
 refine xA ?_
 refine wn [4] ?_
 refine WC.ret (wR (h) ?_)
 exact ⟨by rw [hJ]; rfl, rfl⟩
 rw [c16] at hJ
 refine WC.skip (kp [0, 1, 7, 8] ?_)
 refine gD ?_; intros
 refine bI ?_
 refine xM ?_
 refine WL.nil (loopBackI (k - (j + 1)) [(8, .int .i64 (j + 1))] (h'' := h) (by omega) ?_ Su Sb ⟨j + 1, ⟨by omega, by simpa using hJ⟩, rfl, rfl, rfl⟩)
 exact Su
 replace c9 := dF c9
 rw [List.drop_eq_nil_of_le (by omega)] at hJ
 refine WC.exit (kp [] ?_)
 refine gD ?_; intros
 refine xC ?_
 refine wn [4] ?_
 refine WC.ret (wR (h) ?_)
 exact ⟨by rw [hJ]; rfl, rfl⟩
theorem anySs_ct (q : FuncId) (cap : List Value) (pr : B → Bool) (a : Option Addr) (k c : Nat) (l : List B) (h : List Res) (m : View) (hq : ∀ x ∈ l, CT Tryz.prog q ([str x] ++ cap) h m (Pure1 h (.bool (pr x)))) (hs : Rd m h a k c 1 (fl encB l)) :
   CT Tryz.prog 195 [.slice a k c, .func (.func q) #[] cap.toArray] h m (Pure1 h (.bool (l.any pr))) := by
 refine CT.body Tryz.call195 Tryz.func195 rfl Tryz.ntmps195 Lb rfl ?_
 refine gD ?_; intros
 refine xC ?_
 refine wn [0, 1] ?_
 refine gD ?_; intros
 refine xM ?_
 refine xM ?_
 refine xf (E2 Et Et) (idxSs_ct q cap pr _ _ _ l _ _ hq hs) ?_
 refine bB ?_
 refine xA ?_
 refine wn [4] ?_
 refine WC.ret (wR (h) ?_)
 exact ⟨congrArg Value.bool (Go.Ty.idxF_any pr l 0 (by decide)), rfl⟩
theorem eachcSs_ct (q0 : FuncId) (c0 : List Value) (b : Nat) (x : B) (v : Bool) (h : List Res) (m : View) (hb : Res.pt b (.cells [.func (.func q0) #[] c0.toArray].toArray 123 (0, 0)) ∈ h) (hq : ∀ h', h.Sublist h' → CT Tryz.prog q0 ([str x] ++ c0) h' m (Pure1 h' (.bool v))) :
   CT Tryz.prog 196 [str x, .pointer (some ⟨b, 0, none⟩)] h m (Pure1 h (.bool (!v))) := by
 refine CT.body Tryz.call196 Tryz.func196 rfl Tryz.ntmps196 Lb rfl ?_
 refine gD ?_; intros
 refine xC ?_
 refine wn [0, 1] ?_
 refine gD ?_; intros
 refine xG (PO.load1 u123 rfl Et hb rfl) ?_
 refine xM ?_
 refine WL.callP (Ev.tmp rfl) (E1 (Ev.tmp rfl)) (hq _ Sb) Lb ?_
 refine xG (PO.not Et) ?_
 refine xA ?_
 refine wn [3] ?_
 refine WC.ret (wR (h) ?_)
 exact ⟨rfl, rfl⟩
theorem eachSs_ct (q0 : FuncId) (c0 : List Value) (pr : B → Bool) (lo hi : Int) (a : Option Addr) (k c : Nat) (l : List B) (h : List Res) (m : View) (hq : ∀ x ∈ l, ∀ h', h.Sublist h' → CT Tryz.prog q0 ([str x] ++ c0) h' m (Pure1 h' (.bool (pr x)))) (hs : Rd m h a k c 1 (fl encB l)) :
   CT Tryz.prog 175 [.slice a k c, .agg #[.int .i64 lo, .int .i64 hi], .func (.func q0) #[] c0.toArray] h m (Pure1 h (.bool (each l lo hi pr))) := by
 have hl := hs.lenF encB_len (by decide)
 subst hl
 refine CT.body Tryz.call175 Tryz.func175 rfl Tryz.ntmps175 Lb rfl ?_
 refine gD ?_; intros
 refine xX fun b4 => ?_
 refine xX fun b5 => ?_
 refine xC ?_
 refine wn [0, 4, 5] ?_
 refine gG ?_; intros; rename_i ops hG
 refine xG (pA u176) ?_
 refine xM ?_
 refine xG (PO.lenSl u48 Et) ?_
 refine xf (E2 Et Et) (has_ct lo hi l.length _ _) ?_
 refine xM ?_
 refine zM ?_
 refine zG (fun _ => PO.makeFunc Evs.nil (E1 Et)) ?_
 refine WL.callG (GU.t (hG _ _ rfl) rfl) (fun hc => ⟨Ev.func, (E2 (Eg hc) (Eg hc)), anySs_ct 196 [.pointer (some ⟨b5, 0, none⟩)] (fun x => !pr x) _ _ _ l _ _ (fun x hx => eachcSs_ct q0 c0 b5 x (pr x) _ _ Me (fun h' hh => hq x hx h' (List.Sublist.trans Sb hh))) (hs.mono (View.le.refl _) Sb)⟩) Lb ?_
 refine zG (fun hc => PO.not (Eg hc)) ?_
 refine xP ?_
 refine xA ?_
 refine wn [6] ?_
 try clear hG ops
 refine WC.ret (wR (h) ?_)
 exact ⟨rfl, rfl⟩
end Go.Proofs.YtdhmplmpbcnojaaGreatDoor
end
/- SyB -/
section
namespace Go.Proofs.YtdhmplmpbcnojaaGreatDoor
open Go.Eng Go.Pc Go
open Go.Xp hiding B nameT
open Go.Ty (Ty Vr eqT tyV cellT PrOk VOk prL encV encV_len encI encI_len)
open Go.Lx (encB encB_len)
set_option maxRecDepth 100000
theorem either_ct (u a z : Bool) (h : List Res) (m : View) : CT Tryz.prog 127 [.bool u, .bool a, .bool z] h m (Pure1 h (.bool (either u a z))) := by
 refine CT.body Tryz.call127 Tryz.func127 rfl Tryz.ntmps127 Lb rfl ?_
 refine gD ?_; intros
 refine xC ?_
 refine wn [0, 1, 2] ?_
 refine gD ?_; intros
 refine xM ?_
 refine wn [1, 2, 7] ?_
 refine gE ?_; intros
 refine wc (fun c7 => ?_) fun c7 => ?_
 refine gD ?_; intros
 refine xM ?_
 refine xA ?_
 refine wn [6] ?_
 refine WC.ret (wR (h) ?_)
 exact ⟨by rw [c7]; rfl, rfl⟩
 refine WC.skip (kp [2] ?_)
 refine gD ?_; intros
 refine xM ?_
 refine xA ?_
 refine wn [6] ?_
 refine WC.ret (wR (h) ?_)
 exact ⟨by rw [c7]; rfl, rfl⟩
theorem tok_zero (m : View) (h : List Res) : TOk m h zeroE := .mk (Rd.nilF exE 6 m h) (fun _ hx => by cases hx)
theorem none_ct {m : View} {h : List Res} (e : Ex) (hT : TOk m h e) : CT Tryz.prog 129 [exV e] h m (Pure1 h (.bool (noneE e))) := by
 refine CT.body Tryz.call129 Tryz.func129 rfl Tryz.ntmps129 Lb rfl ?_
 refine gD ?_; intros
 refine xX fun b1 => ?_
 refine xC ?_
 refine wn [1] ?_
 refine gD ?_; intros
 refine xG (pA u27) ?_
 refine xG (PO.build u27 rfl rfl rfl EvP.nil rfl) ?_
 refine xf (E2 Et Et) (same_ct e zeroE _ _ (hT.mono Sb) (tok_zero _ _)) ?_
 refine xA ?_
 refine wn [2] ?_
 refine WC.ret (wR (h) ?_)
 exact ⟨rfl, rfl⟩
theorem elem_ct {m : View} {h : List Res} (hg : Glob m) (e : Ex) (hE : EOk m h e) : CT Tryz.prog 128 [exV e] h m (Pure1 h (.bool (elemE e))) := by
 have hT := hE.t
 have hW := hE.w
 refine CT.body Tryz.call128 Tryz.func128 rfl Tryz.ntmps128 Lb rfl ?_
 refine gD ?_; intros
 refine xX fun b1 => ?_
 refine xC ?_
 refine wn [1] ?_
 refine gG ?_; intros; rename_i ops hG
 refine xF u27 ?_
 refine xG (pL u22) ?_
 refine bB ?_
 refine xM ?_
 refine zG (fun _ => pF u27) ?_
 refine zG (fun hc => PO.load1 u22 rfl (Eg hc) Me rfl) ?_
 refine zG (fun hc => PO.bin (Eg hc) Ev.const rfl) ?_
 refine xQ ?_
 refine xM ?_
 refine zG (fun _ => pA u27) ?_
 refine WL.callG (GU.t (hG _ _ rfl) rfl) (fun hc => ⟨Ev.func, (E1 (Eg hc)), may_ct hg e _ (hT.mono Sb) hW⟩) Lb ?_
 refine xP ?_
 refine xA ?_
 refine wn [2] ?_
 try clear hG ops
 refine WC.ret (wR (h) ?_)
 exact ⟨rfl, rfl⟩
theorem prim_ct0 (t : Ty) (h : List Res) (m : View) (hg : Glob m) (hs : t.proto.length ≤ 9223372036854775807) : CT Tryz.prog 171 [tyV t] h m (Pure1 h (.bool (primT t))) := by
 refine CT.body Tryz.call171 Tryz.func171 rfl Tryz.ntmps171 Lb rfl ?_
 refine gD ?_; intros
 refine xX fun b1 => ?_
 refine xC ?_
 refine wn [1] ?_
 refine gG ?_; intros; rename_i ops hG
 refine xG (pA u30) ?_
 refine xf (E1 Et) (Ty9.may_ct t _ _ hg hs) ?_
 refine xM ?_
 refine zG (fun _ => pF u30) ?_
 refine zG (fun hc => PO.load1 u3 rfl (Eg hc) Me rfl) ?_
 refine zG (fun hc => PO.bin (Eg hc) Ev.const rfl) ?_
 refine xP ?_
 refine xM ?_
 refine zG (fun _ => pF u30) ?_
 refine zG (fun hc => PO.load1 u24 rfl (Eg hc) Me rfl) ?_
 refine zG (fun hc => PO.bin (Eg hc) Ev.const rfl) ?_
 refine xP ?_
 refine xA ?_
 refine wn [2] ?_
 try clear hG ops
 refine WC.ret (wR (h) ?_)
 exact ⟨rfl, rfl⟩
theorem rep_ct {m : View} {h : List Res} (hg : Glob m) (r : Rp) (hn : r.name.length ≤ Big) (hb : EOk m h r.base) (hcn : EOk m h r.count) : CT Tryz.prog 122 [rpV r] h m (Pure1 h (.bool (repP r))) := by
 have hn2 : r.name.length ≤ 9223372036854775807 := Nat.le_trans hn (by decide)
 refine CT.body Tryz.call122 Tryz.func122 rfl Tryz.ntmps122 Lb rfl ?_
 refine gD ?_; intros
 refine xX fun b1 => ?_
 refine xC ?_
 refine wn [1] ?_
 refine gD ?_; intros
 refine xF u43 ?_
 refine xG (pL u9) ?_
 refine xG (PO.eqlS Et Ev.const) ?_
 refine wn [1, 5] ?_
 refine gE ?_; intros
 refine wc (fun c5 => ?_) fun c5 => ?_
 have hR : repP r = (noneE r.base && noneE r.count) := by unfold repP; rw [if_pos c5]
 refine gG ?_; intros; rename_i ops hG
 refine xF u43 ?_
 refine xG (pA u27) ?_
 refine xf (E1 Et) (none_ct r.base (hb.t.mono Sb)) ?_
 refine xM ?_
 refine zG (fun _ => pF u43) ?_
 refine zG (fun hc => PO.loadA u27 rfl rfl (Eg hc) Me rfl) ?_
 refine WL.callG (GU.t (hG _ _ rfl) rfl) (fun hc => ⟨Ev.func, (E1 (Eg hc)), none_ct r.count (hcn.t.mono Sb)⟩) Lb ?_
 refine xP ?_
 refine xA ?_
 refine wn [2] ?_
 try clear hG ops
 refine WC.ret (wR (h) ?_)
 exact ⟨by rw [hR], rfl⟩
 have hR : repP r = (Go.Lx.name r.name && mayE r.base && mayE r.count) := by unfold repP; rw [if_neg (by rw [c5]; decide)]
 refine WC.skip (kp [1] ?_)
 refine gG ?_; intros; rename_i ops hG
 refine xF u43 ?_
 refine xG (pL u9) ?_
 refine xf (E1 Et) (name_ct r.name _ _ hg hn2) ?_
 refine xM ?_
 refine zG (fun _ => pF u43) ?_
 refine zG (fun hc => PO.loadA u27 rfl rfl (Eg hc) Me rfl) ?_
 refine WL.callG (GU.t (hG _ _ rfl) rfl) (fun hc => ⟨Ev.func, (E1 (Eg hc)), may_ct hg r.base _ (hb.t.mono Sb) hb.w⟩) Lb ?_
 refine xP ?_
 refine xM ?_
 refine zG (fun _ => pF u43) ?_
 refine zG (fun hc => PO.loadA u27 rfl rfl (Eg hc) Me rfl) ?_
 refine WL.callG (GU.t (hG _ _ rfl) rfl) (fun hc => ⟨Ev.func, (E1 (Eg hc)), may_ct hg r.count _ (hcn.t.mono Sb) hcn.w⟩) Lb ?_
 refine xP ?_
 refine xA ?_
 refine wn [2] ?_
 try clear hG ops
 refine WC.ret (wR (h) ?_)
 exact ⟨by rw [hR], rfl⟩
theorem foE_ct {m : View} {h : List Res} (hg : Glob m) (f : Fo) (hw : FoW f) : CT Tryz.prog 174 [foV f] h m (Pure1 h (.bool (foP f))) := by
 have hn2 : f.name.length ≤ 9223372036854775807 := Nat.le_trans hw.n (by decide)
 have hp2 : f.ty.proto.length ≤ 9223372036854775807 := Nat.le_trans hw.t.p (by decide)
 refine CT.body Tryz.call174 Tryz.func174 rfl Tryz.ntmps174 Lb rfl ?_
 refine gD ?_; intros
 refine xX fun b1 => ?_
 refine xC ?_
 refine wn [1] ?_
 refine gG ?_; intros; rename_i ops hG
 refine xF u60 ?_
 refine xG (pL u9) ?_
 refine xf (E1 Et) (name_ct f.name _ _ hg hn2) ?_
 refine xM ?_
 refine zG (fun _ => pF u60) ?_
 refine zG (fun hc => PO.loadA u30 rfl rfl (Eg hc) Me rfl) ?_
 refine WL.callG (GU.t (hG _ _ rfl) rfl) (fun hc => ⟨Ev.func, (E1 (Eg hc)), Ty9.may_ct f.ty _ _ hg hp2⟩) Lb ?_
 refine xP ?_
 refine xM ?_
 refine zG (fun _ => pF u60) ?_
 refine zG (fun hc => PO.load1 u4 rfl (Eg hc) Me rfl) ?_
 refine zG (fun hc => PO.not (Eg hc)) ?_
 refine zV ?_
 refine zG (fun _ => pF u60) ?_
 refine zG (fun hc => PO.loadA u30 rfl rfl (Eg hc) Me rfl) ?_
 refine WL.callG (GU.nf (hG _ _ rfl) rfl) (fun hc => ⟨Ev.func, (E1 (Eg hc)), prim_ct0 f.ty _ _ hg hp2⟩) Lb ?_
 refine zG (fun hc => PO.pickOrN hc rfl rfl) ?_
 refine xP ?_
 refine xA ?_
 refine wn [2] ?_
 try clear hG ops
 refine WC.ret (wR (h) ?_)
 exact ⟨rfl, rfl⟩
theorem idxG_ct (v : Int) (a : Option Addr) (k c : Nat) (l : List Int) (h : List Res) (m : View) (hs : Rd m h a k c 1 (fl encI l)) :
   CT Tryz.prog 185 [.slice a k c, .int .u8 v] h m (Pure1 h (.int .i64 (Go.Ty.idxF (v == ·) l 0))) := by
 have hl := hs.lenF encI_len (by decide)
 have hmx := hs.mx
 have hle := hs.le
 refine CT.body Tryz.call185 Tryz.func185 rfl Tryz.ntmps185 Lb rfl ?_
 refine gD ?_; intros
 refine xC ?_
 refine wn [0, 1] ?_
 refine gD ?_; intros
 refine xM ?_
 refine xG (PO.lenSl u203 Et) ?_
 refine xK ?_
 refine wn [0, 1, 7, 8] ?_
 refine gE ?_; intros
 refine WC.loopI [0, 1, 7] rfl (fun μ F' h' => ∃ j : Nat, (j ≤ k ∧ Go.Ty.idxF (v == ·) l 0 = Go.Ty.idxF (v == ·) (l.drop j) j) ∧ k - j = μ ∧ F' = [(8, .int .i64 j)] ∧ h = h') (k - 0) [(8, .int .i64 0)] (h0 := h) ?_ Sb ⟨0, ⟨by omega, rfl⟩, rfl, rfl, rfl⟩ ?_
 exact Su
 rintro _ _ _ ⟨j, ⟨hk, hJ⟩, rfl, rfl, rfl⟩
 refine WC.frm rfl ?_
 refine gD ?_; intros
 refine bD ?_
 refine wn [0, 1, 7, 8, 9] ?_
 refine gE ?_; intros
 refine wc (fun c9 => ?_) fun c9 => ?_
 replace c9 := dT c9
 obtain ⟨x, hx⟩ := get_some (l := l) (k := j) (by omega)
 rw [Go.Ty.idxF_drop _ hx] at hJ
 refine WC.skip (kp [0, 1, 7, 8] ?_)
 refine gD ?_; intros
 refine xM ?_
 refine xA ?_
 refine wn [0, 1, 5, 7, 8] ?_
 refine gD ?_; intros
 refine xM ?_
 refine xM ?_
 refine xM ?_
 refine xG (PO.idx EL203.und EL203.size EL203.posz (Ev.tmp rfl) (Ev.tmp rfl) Rr rfl (by omega)) ?_
 refine xG (PO.loadF1 u68 rfl encI_len Rr (Ev.tmp rfl) (by assumption) rfl) ?_
 refine bD ?_
 refine wn [0, 1, 5, 7, 8, 16] ?_
 refine gE ?_; intros
 refine wc (fun c16 => ?_) fun c16 => ?_
 replace c16 : (v == x) = true := c16
 rw [c16] at hJ
 refine gD ?_; intros
 refine xM ?_
 refine xA ?_
 refine wn [4] ?_
 refine WC.ret (wR (h) ?_)
 exact ⟨by rw [hJ]; rfl, rfl⟩
 replace c16 : (v == x) = false := c16
 rw [c16] at hJ
 refine WC.skip (kp [0, 1, 7, 8] ?_)
 refine gD ?_; intros
 refine bI ?_
 refine xM ?_
 refine WL.nil (loopBackI (k - (j + 1)) [(8, .int .i64 (j + 1))] (h'' := h) (by omega) ?_ Su Sb ⟨j + 1, ⟨by omega, by simpa using hJ⟩, rfl, rfl, rfl⟩)
 exact Su
 replace c9 := dF c9
 rw [List.drop_eq_nil_of_le (by omega)] at hJ
 refine WC.exit (kp [] ?_)
 refine gD ?_; intros
 refine xC ?_
 refine wn [4] ?_
 refine WC.ret (wR (h) ?_)
 exact ⟨by rw [hJ]; rfl, rfl⟩
theorem hasG_ct (v : Int) (a : Option Addr) (k c : Nat) (l : List Int) (h : List Res) (m : View) (hs : Rd m h a k c 1 (fl encI l)) :
   CT Tryz.prog 162 [.slice a k c, .int .u8 v] h m (Pure1 h (.bool (l.any (v == ·)))) := by
 refine CT.body Tryz.call162 Tryz.func162 rfl Tryz.ntmps162 Lb rfl ?_
 refine gD ?_; intros
 refine xC ?_
 refine wn [0, 1] ?_
 refine gD ?_; intros
 refine xM ?_
 refine xM ?_
 refine xf (E2 Et Et) (idxG_ct v _ _ _ l _ _ hs) ?_
 refine bB ?_
 refine xA ?_
 refine wn [4] ?_
 refine WC.ret (wR (h) ?_)
 exact ⟨congrArg Value.bool (Go.Ty.idxF_any _ l 0 (by decide)), rfl⟩
theorem kind_ct {m : View} {h : List Res} (b1 : Nat) (g : Gu) (hb1 : Res.pt b1 (.cells (guE g).toArray 70 (0, 0)) ∈ h) (a : Option Addr) (k c : Nat) (l : List Int) (hs : Rd m h a k c 1 (fl encI l)) :
   CT Tryz.prog 161 [.slice a k c, .pointer (some ⟨b1, 0, none⟩)] h m (Pure1 h (.bool (l.any (g.k == ·)))) := by
 refine CT.body Tryz.call161 Tryz.func161 rfl Tryz.ntmps161 Lb rfl ?_
 refine gD ?_; intros
 refine xC ?_
 refine wn [0, 1] ?_
 refine gD ?_; intros
 refine xM ?_
 refine xF u70 ?_
 refine xG (PO.load1 u68 rfl Et hb1 rfl) ?_
 refine xf (E2 Et Et) (hasG_ct g.k _ _ _ l _ _ hs) ?_
 refine xA ?_
 refine wn [3] ?_
 refine WC.ret (wR (h) ?_)
 exact ⟨rfl, rfl⟩
theorem any4 (k : Int) : ([1, 2, 3, 4] : List Int).any (k == ·) = ((k == 1) || (k == 2) || (k == 3) || (k == 4)) := by simp [Bool.or_assoc]
theorem any2 (k : Int) : ([3, 4] : List Int).any (k == ·) = ((k == 3) || (k == 4)) := by simp
theorem any1 (k q : Int) : ([q] : List Int).any (k == ·) = (k == q) := by simp
set_option maxHeartbeats 2000000 in
theorem guard_ct0 {m : View} {h : List Res} (hg : Glob m) (g : Gu) (hO : GOk m h g) : CT Tryz.prog 124 [guV g] h m (Pure1 h (.bool (guP g))) := by
 have hn2 : g.name.length ≤ 9223372036854775807 := Nat.le_trans hO.n (by decide)
 have htr := hO.tg.rd
 have hvr := hO.vl.rd
 refine CT.body Tryz.call124 Tryz.func124 rfl Tryz.ntmps124 Lb rfl ?_
 refine gD ?_; intros
 refine xX fun b1 => ?_
 refine xC ?_
 refine wn [1] ?_
 refine gD ?_; intros
 refine xG (PO.makeFunc Evs.nil (E1 Et)) ?_
 refine xA ?_
 refine wn [1, 3] ?_
 refine gD ?_; intros
 refine xF u70 ?_
 refine xG (pA u27) ?_
 refine xf (E1 Et) (may_ct hg g.cond _ (hO.cond.t.mono Sb) hO.cond.w) ?_
 refine xA ?_
 refine wn [1, 3, 4] ?_
 refine gD ?_; intros
 refine xM ?_
 refine xY EL203 (EvP.cons Ev.const (EvP.cons Ev.const EvP.nil)) fun b12 => ?_
 refine WL.callP (Ev.tmp rfl) (E1 (Ev.tmp rfl)) (CT.val (kind_ct b1 g Me _ _ _ [3, 4] (Rd.ofPt rfl Lb Me)) (congrArg Value.bool (any2 g.k))) Lb ?_
 refine wn [1, 3, 4, 13] ?_
 (repeat refine WC.seqK fun K hK => ?_)
 refine WC.cutK (by assumption) [1, 3] rfl (fun F' h' => ∃ cb : Bool, (cb = condP g) ∧ F' = [(4, .bool cb)] ∧ .pt b1 (.cells (guE g).toArray 70 (0, 0)) :: h = h') ?_ ?_
 refine gE ?_; intros
 refine wc (fun c13 => ?_) fun c13 => ?_
 refine gG ?_; intros; rename_i ops hG
 refine xM ?_
 refine xM ?_
 refine zG (fun _ => pF u70) ?_
 refine zG (fun hc => PO.loadA u27 rfl rfl (Eg hc) Me rfl) ?_
 refine WL.callG (GU.f (hG _ _ rfl) rfl) (fun hc => ⟨Ev.func, (E1 (Eg hc)), none_ct g.cond (hO.cond.t.mono Sb)⟩) Lb ?_
 refine xQ ?_
 refine xA ?_
 refine WL.nil (meetI [(4, .bool (mayE g.cond || noneE g.cond))] (h'' := .pt b1 (.cells (guE g).toArray 70 (0, 0)) :: h) ?_ Su Sb ⟨mayE g.cond || noneE g.cond, by unfold condP; rw [if_pos c13], rfl, rfl⟩)
 exact Su
 refine WC.skip (meetI [(4, .bool (mayE g.cond))] (h'' := .pt b1 (.cells (guE g).toArray 70 (0, 0)) :: h) ?_ Su Sb ⟨mayE g.cond, by unfold condP; rw [if_neg (by rw [c13]; decide)], rfl, rfl⟩)
 exact Su
 rintro _ _ ⟨cb, hcb, rfl, rfl⟩
 refine WC.frm rfl ?_
 refine gD ?_; intros
 refine xG (PO.build u176 rfl rfl rfl EvP.nil rfl) ?_
 refine xW fun b5 => ?_
 refine xS ?_
 refine wn [1, 3, 4, 5] ?_
 refine gD ?_; intros
 refine xF u70 ?_
 refine xG (pL u68) ?_
 refine wn [1, 3, 4, 5, 22] ?_
 (repeat refine WC.seqK fun K hK => ?_)
 refine WC.cutK (by assumption) [1, 3, 4, 5] rfl (fun F' h' => ∃ lo : Int, ∃ hi : Int, (lo = (if g.k = 3 then 1 else 0) ∧ hi = (if g.k = 3 then 8 else if g.k = 7 then 8 else 0)) ∧ F' = [] ∧ .pt b5 (.cells [.int .i64 lo, .int .i64 hi].toArray 176 (0, 0)) :: .pt b1 (.cells (guE g).toArray 70 (0, 0)) :: h = h') ?_ ?_
 refine gD ?_; intros
 refine bB ?_
 refine xA ?_
 refine wn [1, 3, 4, 5, 22, 23] ?_
 refine gE ?_; intros
 refine wc (fun c23 => ?_) fun c23 => ?_
 replace c23 := t_eq c23
 refine gD ?_; intros
 refine xG (PO.loadAV (vs := someC) u176 rfl rfl Ev.global rfl (fun j v hj => by rw [Nat.zero_add]; exact hg.sSome j v hj)) ?_
 refine xS ?_
 refine WL.nil (meetI [] (h'' := .pt b5 (.cells [.int .i64 1, .int .i64 8].toArray 176 (0, 0)) :: .pt b1 (.cells (guE g).toArray 70 (0, 0)) :: h) ?_ Su Sb ⟨1, 8, ⟨by rw [if_pos c23], by rw [if_pos c23]⟩, rfl, rfl⟩)
 exact Su
 replace c23 := f_eq c23
 refine gD ?_; intros
 refine bB ?_
 refine xA ?_
 refine wn [1, 3, 4, 5, 26] ?_
 refine gE ?_; intros
 refine wc (fun c26 => ?_) fun c26 => ?_
 replace c26 := t_eq c26
 refine gD ?_; intros
 refine xG (PO.build u176 rfl rfl rfl (EvP.cons Ev.const (EvP.cons Ev.const EvP.nil)) rfl) ?_
 refine xS ?_
 refine WL.nil (meetI [] (h'' := .pt b5 (.cells [.int .i64 0, .int .i64 8].toArray 176 (0, 0)) :: .pt b1 (.cells (guE g).toArray 70 (0, 0)) :: h) ?_ Su Sb ⟨0, 8, ⟨by rw [if_neg c23], by rw [if_neg c23, if_pos c26]⟩, rfl, rfl⟩)
 exact Su
 replace c26 := f_eq c26
 refine WC.skip (meetI [] (h'' := .pt b5 (.cells [.int .i64 0, .int .i64 0].toArray 176 (0, 0)) :: .pt b1 (.cells (guE g).toArray 70 (0, 0)) :: h) ?_ Su Sb ⟨0, 0, ⟨by rw [if_neg c23], by rw [if_neg c23, if_neg c26]⟩, rfl, rfl⟩)
 exact Su
 rintro _ _ ⟨lo, hi, ⟨hlo, hhi⟩, rfl, rfl⟩
 refine WC.frm rfl ?_
 refine gD ?_; intros
 refine xG (PO.build u176 rfl rfl rfl EvP.nil rfl) ?_
 refine xW fun b6 => ?_
 refine xS ?_
 refine wn [1, 3, 4, 5, 6] ?_
 refine gD ?_; intros
 refine xF u70 ?_
 refine xG (pL u68) ?_
 refine bB ?_
 refine wn [1, 3, 4, 5, 6, 32] ?_
 (repeat refine WC.seqK fun K hK => ?_)
 refine WC.cutK (by assumption) [1, 3, 4, 5, 6] rfl (fun F' h' => ∃ lo2 : Int, ∃ hi2 : Int, (lo2 = (if g.k = 5 then 1 else 0) ∧ hi2 = (if g.k = 5 then 8 else 0)) ∧ F' = [] ∧ .pt b6 (.cells [.int .i64 lo2, .int .i64 hi2].toArray 176 (0, 0)) :: .pt b5 (.cells [.int .i64 lo, .int .i64 hi].toArray 176 (0, 0)) :: .pt b1 (.cells (guE g).toArray 70 (0, 0)) :: h = h') ?_ ?_
 refine gE ?_; intros
 refine wc (fun c32 => ?_) fun c32 => ?_
 replace c32 := t_eq c32
 refine gD ?_; intros
 refine xG (PO.loadAV (vs := someC) u176 rfl rfl Ev.global rfl (fun j v hj => by rw [Nat.zero_add]; exact hg.sSome j v hj)) ?_
 refine xS ?_
 refine WL.nil (meetI [] (h'' := .pt b6 (.cells [.int .i64 1, .int .i64 8].toArray 176 (0, 0)) :: .pt b5 (.cells [.int .i64 lo, .int .i64 hi].toArray 176 (0, 0)) :: .pt b1 (.cells (guE g).toArray 70 (0, 0)) :: h) ?_ Su Sb ⟨1, 8, ⟨by rw [if_pos c32], by rw [if_pos c32]⟩, rfl, rfl⟩)
 exact Su
 replace c32 := f_eq c32
 refine WC.skip (meetI [] (h'' := .pt b6 (.cells [.int .i64 0, .int .i64 0].toArray 176 (0, 0)) :: .pt b5 (.cells [.int .i64 lo, .int .i64 hi].toArray 176 (0, 0)) :: .pt b1 (.cells (guE g).toArray 70 (0, 0)) :: h) ?_ Su Sb ⟨0, 0, ⟨by rw [if_neg c32], by rw [if_neg c32]⟩, rfl, rfl⟩)
 exact Su
 rintro _ _ ⟨lo2, hi2, ⟨hlo2, hhi2⟩, rfl, rfl⟩
 refine WC.frm rfl ?_
 refine gE ?_; intros
 refine dS [16, 17, 21, 22, 26, 27, 30, 34, 38, 39, 42, 45, 46, 50, 51, 54, 57, 58, 64] (.op 0 (.op 1 (.op 2 (.op 3 (.op 4 (.op 5 (.op 6 (.op 7 (.op 8 (.op 9 (.op 10 (.op 11 (.op 12 (.op 13 (.op 14 (.op 15 (.op 18 (.op 19 (.op 20 (.op 16 (.op 17 (.op 21 (.op 22 (.op 23 (.op 24 (.op 25 (.op 28 (.op 29 (.op 31 (.op 32 (.op 33 (.op 26 (.op 27 (.op 30 (.op 34 (.op 35 (.op 36 (.op 37 (.op 40 (.op 41 (.op 43 (.op 44 (.op 38 (.op 39 (.op 42 (.op 45 (.op 46 (.op 47 (.op 48 (.op 49 (.op 52 (.op 53 (.op 55 (.op 56 (.op 50 (.op 51 (.op 54 (.op 57 (.op 58 (.op 59 (.op 60 (.op 61 (.op 62 (.op 63 (.op 64 (.op 65 (.op 66 (.op 67 (.op 68 (.op 69 .nil)))))))))))))))))))))))))))))))))))))))))))))))))))))))))))))))))))))) [70, 71, 72] mixed ?_
 refine yG rfl (pF u70) ?_
 refine yG rfl (pL u68) ?_
 refine yG rfl (PO.bin Et Ev.const rfl) ?_
 refine yG rfl (PO.move Et) ?_
 refine SR.poG rfl rfl (GU.t rfl rfl) (fun hc => PO.fieldAddr u70 rfl (Nat.ne_of_beq_eq_false rfl) Et) Lb ?_
 refine SR.poG rfl rfl (GU.t rfl rfl) (fun hc => PO.load1 u68 rfl (Eg hc) Me rfl) Lb ?_
 refine SR.poG rfl rfl (GU.t rfl rfl) (fun hc => PO.bin (Eg hc) Ev.const rfl) Lb ?_
 refine yG rfl (PO.pickAnd rfl rfl) ?_
 refine yG rfl (PO.move Et) ?_
 refine SR.poG rfl rfl (GU.t rfl rfl) (fun hc => PO.fieldAddr u70 rfl (Nat.ne_of_beq_eq_false rfl) Et) Lb ?_
 refine SR.poG rfl rfl (GU.t rfl rfl) (fun hc => PO.load1 u45 rfl (Eg hc) Me rfl) Lb ?_
 refine SR.poG rfl rfl (GU.t rfl rfl) (fun hc => PO.lenSl u45 (Eg hc)) Lb ?_
 refine SR.poG rfl rfl (GU.t rfl rfl) (fun hc => PO.bin (Eg hc) Ev.const rfl) Lb ?_
 refine yG rfl (PO.pickAnd rfl rfl) ?_
 refine yG rfl (PO.move Et) ?_
 refine SR.poG rfl rfl (GU.t rfl rfl) (fun hc => PO.move Et) Lb ?_
 refine SR.poG rfl rfl (GU.t rfl rfl) (fun hc => PO.move Et) Lb ?_
 refine SR.poG rfl rfl (GU.t rfl rfl) (fun hc => PO.fieldAddr u70 rfl (Nat.ne_of_beq_eq_false rfl) Et) Lb ?_
 refine SR.poG rfl rfl (GU.t rfl rfl) (fun hc => PO.loadA u27 rfl rfl (Eg hc) Me rfl) Lb ?_
 refine SR.buildSliceG rfl rfl (GU.t rfl rfl) EL203 rfl (fun hc => (EvP.cons Ev.const (EvP.cons Ev.const (EvP.cons Ev.const (EvP.cons Ev.const EvP.nil))))) rfl rfl (by decide) rfl Lb fun b50 r50 hr50 => ?_
 refine SR.callG rfl rfl (GU.t rfl rfl) (fun hc => ⟨(Ev.gv rfl hc), (E1 (Ev.gv rfl hc)), fun fr => CT.val (kind_ct b1 g (List.mem_append_right _ Me) _ _ _ [1, 2, 3, 4] (Rd.ofPt rfl Lb (by rw [hr50 hc]; exact List.mem_append_right _ (List.Mem.head _)))) (congrArg Value.bool (any4 g.k))⟩) Lb ?_
 refine SR.callG rfl rfl (GU.t rfl rfl) (fun hc => ⟨Ev.func, (E1 (Eg hc)), fun fr => none_ct g.cond (hO.cond.t.mono Sb)⟩) Lb ?_
 refine SR.callG rfl rfl (GU.t rfl rfl) (fun hc => ⟨Ev.func, (E3 (Eg hc) (Eg hc) (Eg hc)), fun fr => either_ct _ _ _ _ _⟩) Lb ?_
 refine yG rfl (PO.pickAnd rfl rfl) ?_
 refine yG rfl (PO.move Et) ?_
 refine SR.poG rfl rfl (GU.t rfl rfl) (fun hc => PO.move Et) Lb ?_
 refine SR.poG rfl rfl (GU.t rfl rfl) (fun hc => PO.fieldAddr u70 rfl (Nat.ne_of_beq_eq_false rfl) Et) Lb ?_
 refine SR.poG rfl rfl (GU.t rfl rfl) (fun hc => PO.load1 u9 rfl (Eg hc) Me rfl) Lb ?_
 refine SR.poG rfl rfl (GU.t rfl rfl) (fun hc => PO.fieldAddr u70 rfl (Nat.ne_of_beq_eq_false rfl) Et) Lb ?_
 refine SR.poG rfl rfl (GU.t rfl rfl) (fun hc => PO.load1 u9 rfl (Eg hc) Me rfl) Lb ?_
 refine SR.poG rfl rfl (GU.t rfl rfl) (fun hc => PO.eqlS (Eg hc) Ev.const) Lb ?_
 refine SR.buildSliceG rfl rfl (GU.t rfl rfl) EL203 rfl (fun hc => (EvP.cons Ev.const EvP.nil)) rfl rfl (by decide) rfl Lb fun b60 r60 hr60 => ?_
 refine SR.callG rfl rfl (GU.t rfl rfl) (fun hc => ⟨(Ev.gv rfl hc), (E1 (Ev.gv rfl hc)), fun fr => CT.val (kind_ct b1 g (List.mem_append_right _ Me) _ _ _ [7] (Rd.ofPt rfl Lb (by rw [hr60 hc]; exact List.mem_append_right _ (List.Mem.head _)))) (congrArg Value.bool (any1 g.k 7))⟩) Lb ?_
 refine SR.callG rfl rfl (GU.t rfl rfl) (fun hc => ⟨Ev.func, (E1 (Eg hc)), fun fr => name_ct g.name _ _ hg hn2⟩) Lb ?_
 refine SR.callG rfl rfl (GU.t rfl rfl) (fun hc => ⟨Ev.func, (E3 (Eg hc) (Eg hc) (Eg hc)), fun fr => either_ct _ _ _ _ _⟩) Lb ?_
 refine yG rfl (PO.pickAnd rfl rfl) ?_
 refine yG rfl (PO.move Et) ?_
 refine SR.poG rfl rfl (GU.t rfl rfl) (fun hc => PO.move Et) Lb ?_
 refine SR.poG rfl rfl (GU.t rfl rfl) (fun hc => PO.fieldAddr u70 rfl (Nat.ne_of_beq_eq_false rfl) Et) Lb ?_
 refine SR.poG rfl rfl (GU.t rfl rfl) (fun hc => PO.loadA u27 rfl rfl (Eg hc) Me rfl) Lb ?_
 refine SR.poG rfl rfl (GU.t rfl rfl) (fun hc => PO.fieldAddr u70 rfl (Nat.ne_of_beq_eq_false rfl) Et) Lb ?_
 refine SR.poG rfl rfl (GU.t rfl rfl) (fun hc => PO.loadA u27 rfl rfl (Eg hc) Me rfl) Lb ?_
 refine SR.buildSliceG rfl rfl (GU.t rfl rfl) EL203 rfl (fun hc => (EvP.cons Ev.const (EvP.cons Ev.const EvP.nil))) rfl rfl (by decide) rfl Lb fun b72 r72 hr72 => ?_
 refine SR.callG rfl rfl (GU.t rfl rfl) (fun hc => ⟨(Ev.gv rfl hc), (E1 (Ev.gv rfl hc)), fun fr => CT.val (kind_ct b1 g (List.mem_append_right _ Me) _ _ _ [3, 4] (Rd.ofPt rfl Lb (by rw [hr72 hc]; exact List.mem_append_right _ (List.Mem.head _)))) (congrArg Value.bool (any2 g.k))⟩) Lb ?_
 refine SR.callG rfl rfl (GU.t rfl rfl) (fun hc => ⟨Ev.func, (E1 (Eg hc)), fun fr => elem_ct hg g.ch (hO.ch.mono Sb)⟩) Lb ?_
 refine SR.callG rfl rfl (GU.t rfl rfl) (fun hc => ⟨Ev.func, (E1 (Eg hc)), fun fr => none_ct g.ch (hO.ch.t.mono Sb)⟩) Lb ?_
 refine SR.callG rfl rfl (GU.t rfl rfl) (fun hc => ⟨Ev.func, (E3 (Eg hc) (Eg hc) (Eg hc)), fun fr => either_ct _ _ _ _ _⟩) Lb ?_
 refine yG rfl (PO.pickAnd rfl rfl) ?_
 refine yG rfl (PO.move Et) ?_
 refine SR.poG rfl rfl (GU.t rfl rfl) (fun hc => PO.move Et) Lb ?_
 refine SR.poG rfl rfl (GU.t rfl rfl) (fun hc => PO.fieldAddr u70 rfl (Nat.ne_of_beq_eq_false rfl) Et) Lb ?_
 refine SR.poG rfl rfl (GU.t rfl rfl) (fun hc => PO.loadA u27 rfl rfl (Eg hc) Me rfl) Lb ?_
 refine SR.poG rfl rfl (GU.t rfl rfl) (fun hc => PO.fieldAddr u70 rfl (Nat.ne_of_beq_eq_false rfl) Et) Lb ?_
 refine SR.poG rfl rfl (GU.t rfl rfl) (fun hc => PO.loadA u27 rfl rfl (Eg hc) Me rfl) Lb ?_
 refine SR.buildSliceG rfl rfl (GU.t rfl rfl) EL203 rfl (fun hc => (EvP.cons Ev.const EvP.nil)) rfl rfl (by decide) rfl Lb fun b84 r84 hr84 => ?_
 refine SR.callG rfl rfl (GU.t rfl rfl) (fun hc => ⟨(Ev.gv rfl hc), (E1 (Ev.gv rfl hc)), fun fr => CT.val (kind_ct b1 g (List.mem_append_right _ Me) _ _ _ [4] (Rd.ofPt rfl Lb (by rw [hr84 hc]; exact List.mem_append_right _ (List.Mem.head _)))) (congrArg Value.bool (any1 g.k 4))⟩) Lb ?_
 refine SR.callG rfl rfl (GU.t rfl rfl) (fun hc => ⟨Ev.func, (E1 (Eg hc)), fun fr => may_ct hg g.time _ (hO.time.t.mono Sb) hO.time.w⟩) Lb ?_
 refine SR.callG rfl rfl (GU.t rfl rfl) (fun hc => ⟨Ev.func, (E1 (Eg hc)), fun fr => none_ct g.time (hO.time.t.mono Sb)⟩) Lb ?_
 refine SR.callG rfl rfl (GU.t rfl rfl) (fun hc => ⟨Ev.func, (E3 (Eg hc) (Eg hc) (Eg hc)), fun fr => either_ct _ _ _ _ _⟩) Lb ?_
 refine yG rfl (PO.pickAnd rfl rfl) ?_
 refine yG rfl (PO.move Et) ?_
 refine SR.poG rfl rfl (GU.t rfl rfl) (fun hc => PO.fieldAddr u70 rfl (Nat.ne_of_beq_eq_false rfl) Et) Lb ?_
 refine SR.poG rfl rfl (GU.t rfl rfl) (fun hc => PO.load1 u25 rfl (Eg hc) Me rfl) Lb ?_
 refine SR.poG rfl rfl (GU.t rfl rfl) (fun hc => PO.loadA u176 rfl rfl Et Me rfl) Lb ?_
 refine SR.callG rfl rfl (GU.t rfl rfl) (fun hc => ⟨Ev.func, (E3 (Eg hc) (Eg hc) Ev.func), fun fr => eachEx_ct 128 [] elemE lo hi _ _ _ g.tg.l _ _ (fun x hx h' hh => elem_ct hg x ((hO.tg.ok x hx).mono (List.Sublist.trans Sb hh))) (htr.mono (View.le.refl _) Sb)⟩) Lb ?_
 refine yG rfl (PO.pickAnd rfl rfl) ?_
 refine yG rfl (PO.move Et) ?_
 refine SR.poG rfl rfl (GU.t rfl rfl) (fun hc => PO.fieldAddr u70 rfl (Nat.ne_of_beq_eq_false rfl) Et) Lb ?_
 refine SR.poG rfl rfl (GU.t rfl rfl) (fun hc => PO.load1 u25 rfl (Eg hc) Me rfl) Lb ?_
 refine SR.poG rfl rfl (GU.t rfl rfl) (fun hc => PO.loadA u176 rfl rfl Et Me rfl) Lb ?_
 refine SR.nil rfl rfl ?_
 refine WL.callG (GU.t rfl rfl) (fun hc => ⟨Ev.func, (E3 (Eg hc) (Eg hc) Ev.func), eachEx_ct 17 [] mayE lo2 hi2 _ _ _ g.vl.l _ _ (fun x hx h' hh => may_ct hg x _ ((hO.vl.ok x hx).t.mono (List.Sublist.trans Sb hh)) (hO.vl.ok x hx).w) (hvr.mono (View.le.refl _) Sb)⟩) Lb ?_
 refine xP ?_
 refine xA ?_
 refine wn [2] ?_
 try clear hG ops
 refine WC.ret (wR (h) ?_)
 exact ⟨by unfold guP; rw [← hcb, ← hlo, ← hhi, ← hlo2, ← hhi2], rfl⟩
end Go.Proofs.YtdhmplmpbcnojaaGreatDoor
end
/- SyC -/
section
namespace Go.Proofs.YtdhmplmpbcnojaaGreatDoor
open Go.Eng Go.Pc Go
open Go.Xp hiding B nameT
open Go.Ty (Ty Vr eqT tyV cellT PrOk VOk prL encV encV_len encI encI_len eqI eqI_ne eqI_eq eqI_iff)
open Go.Lx (encB encB_len)
set_option maxRecDepth 100000
theorem fields_ct {m : View} {h : List Res} (hg : Glob m) (k : Int) : CT Tryz.prog 121 [.int .u8 k] h m (Pure1 h (.tuple #[.agg (usE (fieldsP k).1).toArray, .bool (fieldsP k).2])) := by
 refine CT.body Tryz.call121 Tryz.func121 rfl Tryz.ntmps121 Lb rfl ?_
 refine gD ?_; intros
 refine xW fun b2 => ?_
 refine xC ?_
 refine wn [0, 2] ?_
 refine gD ?_; intros
 refine xM ?_
 refine wn [2, 4] ?_
 refine gD ?_; intros
 refine bB ?_
 refine xA ?_
 refine wn [2, 4, 5] ?_
 (repeat refine WC.seqK fun K hK => ?_)
 refine WC.cutK (by assumption) [2, 4] rfl (fun F' h' => ∃ q1 : Bool, (q1 = true ↔ (k = 1 ∨ k = 2)) ∧ F' = [(5, .bool q1)] ∧ .pt b2 (.cells (usE us0).toArray 178 (0, 0)) :: h = h') ?_ ?_
 refine gE ?_; intros
 refine wc (fun c5 => ?_) fun c5 => ?_
 have ca : (k == 1) = true := c5
 refine WC.skip (meetI [(5, .bool ((k == 1)))] (h'' := .pt b2 (.cells (usE us0).toArray 178 (0, 0)) :: h) ?_ Su Sb ⟨(k == 1), ⟨fun _ => .inl (by simpa using ca), fun _ => ca⟩, rfl, rfl⟩)
 exact Su
 have ca : (k == 1) = false := c5
 refine gD ?_; intros
 refine bB ?_
 refine xA ?_
 refine WL.nil (meetI [(5, .bool ((k == 2)))] (h'' := .pt b2 (.cells (usE us0).toArray 178 (0, 0)) :: h) ?_ Su Sb ⟨(k == 2), ⟨fun hk => .inr (by simpa using hk), fun hk => hk.elim (fun h1 => absurd h1 (by simpa using ca)) (fun h1 => by simpa using h1)⟩, rfl, rfl⟩)
 exact Su
 rintro _ _ ⟨q1, hb1, rfl, rfl⟩
 refine WC.frm rfl ?_
 refine gE ?_; intros
 refine wc (fun c5 => ?_) fun c5 => ?_
 have hk := hb1.1 c5
 refine gD ?_; intros
 refine xG (PO.build u178 rfl rfl rfl EvP.nil rfl) ?_
 refine xS ?_
 refine xC ?_
 refine wn [2, 3] ?_
 refine WC.ret (end2 (h' := h) (.inl rfl) rfl (RV.cellA u178 rfl rfl rfl Me rfl) (RV.tmp rfl) (View.le.refl m) Sb ?_)
 exact ⟨by rcases hk with hk | hk <;> (rw [hk]; rfl), rfl⟩
 have hk12 : ¬ (k = 1 ∨ k = 2) := fun q => by rw [hb1.2 q] at c5; cases c5
 refine gD ?_; intros
 refine bB ?_
 refine xA ?_
 refine wn [2, 4, 9] ?_
 refine gE ?_; intros
 refine wc (fun c9 => ?_) fun c9 => ?_
 replace c9 := t_eq c9
 refine gD ?_; intros
 refine xG (PO.loadAV (vs := someC) u176 rfl rfl Ev.global rfl (fun j v hj => by rw [Nat.zero_add]; exact hg.sSome j v hj)) ?_
 refine xG (PO.loadAV (vs := someC) u176 rfl rfl Ev.global rfl (fun j v hj => by rw [Nat.zero_add]; exact hg.sSome j v hj)) ?_
 refine xG (PO.build u178 rfl rfl rfl (EvP.cons Et (EvP.cons Et EvP.nil)) rfl) ?_
 refine xS ?_
 refine xC ?_
 refine wn [2, 3] ?_
 refine WC.ret (end2 (h' := h) (.inl rfl) rfl (RV.cellA u178 rfl rfl rfl Me rfl) (RV.tmp rfl) (View.le.refl m) Sb ?_)
 exact ⟨by rw [c9]; rfl, rfl⟩
 replace c9 := f_eq c9
 refine gD ?_; intros
 refine bB ?_
 refine xA ?_
 refine wn [2, 4, 14] ?_
 refine gE ?_; intros
 refine wc (fun c14 => ?_) fun c14 => ?_
 replace c14 := t_eq c14
 refine gD ?_; intros
 refine xG (PO.loadAV (vs := someC) u176 rfl rfl Ev.global rfl (fun j v hj => by rw [Nat.zero_add]; exact hg.sSome j v hj)) ?_
 refine xG (PO.build u178 rfl rfl rfl (EvP.cons Ev.const (EvP.cons Et EvP.nil)) rfl) ?_
 refine xS ?_
 refine xC ?_
 refine wn [2, 3] ?_
 refine WC.ret (end2 (h' := h) (.inl rfl) rfl (RV.cellA u178 rfl rfl rfl Me rfl) (RV.tmp rfl) (View.le.refl m) Sb ?_)
 exact ⟨by rw [c14]; rfl, rfl⟩
 replace c14 := f_eq c14
 refine gD ?_; intros
 refine bB ?_
 refine xA ?_
 refine wn [2, 4, 18] ?_
 refine gE ?_; intros
 refine wc (fun c18 => ?_) fun c18 => ?_
 replace c18 := t_eq c18
 refine gD ?_; intros
 refine xG (PO.build u176 rfl rfl rfl (EvP.cons Ev.const (EvP.cons Ev.const EvP.nil)) rfl) ?_
 refine xG (PO.build u178 rfl rfl rfl (EvP.cons Ev.const (EvP.cons Et EvP.nil)) rfl) ?_
 refine xS ?_
 refine xC ?_
 refine wn [2, 3] ?_
 refine WC.ret (end2 (h' := h) (.inl rfl) rfl (RV.cellA u178 rfl rfl rfl Me rfl) (RV.tmp rfl) (View.le.refl m) Sb ?_)
 exact ⟨by rw [c18]; rfl, rfl⟩
 replace c18 := f_eq c18
 refine gD ?_; intros
 refine bB ?_
 refine xA ?_
 refine wn [2, 4, 22] ?_
 refine gE ?_; intros
 refine wc (fun c22 => ?_) fun c22 => ?_
 replace c22 := t_eq c22
 refine gD ?_; intros
 refine xG (PO.loadAV (vs := oneC) u176 rfl rfl Ev.global rfl (fun j v hj => by rw [Nat.zero_add]; exact hg.sOne j v hj)) ?_
 refine xG (PO.build u178 rfl rfl rfl (EvP.cons Ev.const (EvP.cons Et EvP.nil)) rfl) ?_
 refine xS ?_
 refine xC ?_
 refine wn [2, 3] ?_
 refine WC.ret (end2 (h' := h) (.inl rfl) rfl (RV.cellA u178 rfl rfl rfl Me rfl) (RV.tmp rfl) (View.le.refl m) Sb ?_)
 exact ⟨by rw [c22]; rfl, rfl⟩
 replace c22 := f_eq c22
 refine gD ?_; intros
 refine bB ?_
 refine xA ?_
 refine wn [2, 4, 26] ?_
 refine gE ?_; intros
 refine wc (fun c26 => ?_) fun c26 => ?_
 replace c26 := t_eq c26
 refine gD ?_; intros
 refine xG (PO.build u176 rfl rfl rfl (EvP.cons Ev.const (EvP.cons Ev.const EvP.nil)) rfl) ?_
 refine xG (PO.build u178 rfl rfl rfl (EvP.cons Ev.const (EvP.cons Et (EvP.cons Ev.const (EvP.cons Ev.const EvP.nil)))) rfl) ?_
 refine xS ?_
 refine xC ?_
 refine wn [2, 3] ?_
 refine WC.ret (end2 (h' := h) (.inl rfl) rfl (RV.cellA u178 rfl rfl rfl Me rfl) (RV.tmp rfl) (View.le.refl m) Sb ?_)
 exact ⟨by rw [c26]; rfl, rfl⟩
 replace c26 := f_eq c26
 refine gD ?_; intros
 refine bB ?_
 refine xA ?_
 refine wn [2, 4, 30] ?_
 (repeat refine WC.seqK fun K hK => ?_)
 refine WC.cutK (by assumption) [2, 4] rfl (fun F' h' => ∃ q2 : Bool, (q2 = true ↔ (k = 8 ∨ k = 9)) ∧ F' = [(30, .bool q2)] ∧ .pt b2 (.cells (usE us0).toArray 178 (0, 0)) :: h = h') ?_ ?_
 refine gE ?_; intros
 refine wc (fun c30 => ?_) fun c30 => ?_
 have ca : (k == 8) = true := c30
 refine WC.skip (meetI [(30, .bool ((k == 8)))] (h'' := .pt b2 (.cells (usE us0).toArray 178 (0, 0)) :: h) ?_ Su Sb ⟨(k == 8), ⟨fun _ => .inl (by simpa using ca), fun _ => ca⟩, rfl, rfl⟩)
 exact Su
 have ca : (k == 8) = false := c30
 refine gD ?_; intros
 refine bB ?_
 refine xA ?_
 refine WL.nil (meetI [(30, .bool ((k == 9)))] (h'' := .pt b2 (.cells (usE us0).toArray 178 (0, 0)) :: h) ?_ Su Sb ⟨(k == 9), ⟨fun hk => .inr (by simpa using hk), fun hk => hk.elim (fun h1 => absurd h1 (by simpa using ca)) (fun h1 => by simpa using h1)⟩, rfl, rfl⟩)
 exact Su
 rintro _ _ ⟨q2, hb2, rfl, rfl⟩
 refine WC.frm rfl ?_
 refine gE ?_; intros
 refine wc (fun c30 => ?_) fun c30 => ?_
 have hk := hb2.1 c30
 refine gD ?_; intros
 refine xG (PO.loadAV (vs := allC) u176 rfl rfl Ev.global rfl (fun j v hj => by rw [Nat.zero_add]; exact hg.sAll j v hj)) ?_
 refine xG (PO.build u178 rfl rfl rfl (EvP.cons Ev.const (EvP.cons Et EvP.nil)) rfl) ?_
 refine xS ?_
 refine xC ?_
 refine wn [2, 3] ?_
 refine WC.ret (end2 (h' := h) (.inl rfl) rfl (RV.cellA u178 rfl rfl rfl Me rfl) (RV.tmp rfl) (View.le.refl m) Sb ?_)
 exact ⟨by rcases hk with hk | hk <;> (rw [hk]; rfl), rfl⟩
 have hk89 : ¬ (k = 8 ∨ k = 9) := fun q => by rw [hb2.2 q] at c30; cases c30
 refine gD ?_; intros
 refine bB ?_
 refine xA ?_
 refine wn [2, 4, 35] ?_
 refine gE ?_; intros
 refine wc (fun c35 => ?_) fun c35 => ?_
 replace c35 := t_eq c35
 refine gD ?_; intros
 refine xG (PO.build u176 rfl rfl rfl (EvP.cons Ev.const (EvP.cons Ev.const EvP.nil)) rfl) ?_
 refine xG (PO.build u178 rfl rfl rfl (EvP.cons Et EvP.nil) rfl) ?_
 refine xS ?_
 refine xC ?_
 refine wn [2, 3] ?_
 refine WC.ret (end2 (h' := h) (.inl rfl) rfl (RV.cellA u178 rfl rfl rfl Me rfl) (RV.tmp rfl) (View.le.refl m) Sb ?_)
 exact ⟨by rw [c35]; rfl, rfl⟩
 replace c35 := f_eq c35
 refine gD ?_; intros
 refine bB ?_
 refine xA ?_
 refine wn [2, 4, 39] ?_
 refine gE ?_; intros
 refine wc (fun c39 => ?_) fun c39 => ?_
 replace c39 := t_eq c39
 refine gD ?_; intros
 refine xG (PO.build u176 rfl rfl rfl (EvP.cons Ev.const (EvP.cons Ev.const EvP.nil)) rfl) ?_
 refine xG (PO.build u178 rfl rfl rfl (EvP.cons Ev.const (EvP.cons Et EvP.nil)) rfl) ?_
 refine xS ?_
 refine xC ?_
 refine wn [2, 3] ?_
 refine WC.ret (end2 (h' := h) (.inl rfl) rfl (RV.cellA u178 rfl rfl rfl Me rfl) (RV.tmp rfl) (View.le.refl m) Sb ?_)
 exact ⟨by rw [c39]; rfl, rfl⟩
 replace c39 := f_eq c39
 refine gD ?_; intros
 refine bB ?_
 refine xA ?_
 refine wn [2, 4, 43] ?_
 (repeat refine WC.seqK fun K hK => ?_)
 refine WC.cutK (by assumption) [2, 4] rfl (fun F' h' => ∃ q3 : Bool, (q3 = true ↔ (k = 12 ∨ k = 13)) ∧ F' = [(43, .bool q3)] ∧ .pt b2 (.cells (usE us0).toArray 178 (0, 0)) :: h = h') ?_ ?_
 refine gE ?_; intros
 refine wc (fun c43 => ?_) fun c43 => ?_
 have ca : (k == 12) = true := c43
 refine WC.skip (meetI [(43, .bool ((k == 12)))] (h'' := .pt b2 (.cells (usE us0).toArray 178 (0, 0)) :: h) ?_ Su Sb ⟨(k == 12), ⟨fun _ => .inl (by simpa using ca), fun _ => ca⟩, rfl, rfl⟩)
 exact Su
 have ca : (k == 12) = false := c43
 refine gD ?_; intros
 refine bB ?_
 refine xA ?_
 refine WL.nil (meetI [(43, .bool ((k == 13)))] (h'' := .pt b2 (.cells (usE us0).toArray 178 (0, 0)) :: h) ?_ Su Sb ⟨(k == 13), ⟨fun hk => .inr (by simpa using hk), fun hk => hk.elim (fun h1 => absurd h1 (by simpa using ca)) (fun h1 => by simpa using h1)⟩, rfl, rfl⟩)
 exact Su
 rintro _ _ ⟨q3, hb3, rfl, rfl⟩
 refine WC.frm rfl ?_
 refine gE ?_; intros
 refine wc (fun c43 => ?_) fun c43 => ?_
 have hk := hb3.1 c43
 refine gD ?_; intros
 refine xG (PO.build u176 rfl rfl rfl (EvP.cons Ev.const (EvP.cons Ev.const EvP.nil)) rfl) ?_
 refine xG (PO.build u178 rfl rfl rfl (EvP.cons Ev.const (EvP.cons Et (EvP.cons Ev.const (EvP.cons Ev.const EvP.nil)))) rfl) ?_
 refine xS ?_
 refine xC ?_
 refine wn [2, 3] ?_
 refine WC.ret (end2 (h' := h) (.inl rfl) rfl (RV.cellA u178 rfl rfl rfl Me rfl) (RV.tmp rfl) (View.le.refl m) Sb ?_)
 exact ⟨by rcases hk with hk | hk <;> (rw [hk]; rfl), rfl⟩
 have hk1213 : ¬ (k = 12 ∨ k = 13) := fun q => by rw [hb3.2 q] at c43; cases c43
 refine gD ?_; intros
 refine bB ?_
 refine xA ?_
 refine wn [2, 4, 48] ?_
 refine gE ?_; intros
 refine wc (fun c48 => ?_) fun c48 => ?_
 replace c48 := t_eq c48
 refine gD ?_; intros
 refine xG (PO.build u176 rfl rfl rfl (EvP.cons Ev.const (EvP.cons Ev.const EvP.nil)) rfl) ?_
 refine xG (PO.build u178 rfl rfl rfl (EvP.cons Ev.const (EvP.cons Et (EvP.cons Ev.const (EvP.cons Ev.const EvP.nil)))) rfl) ?_
 refine xS ?_
 refine xC ?_
 refine wn [2, 3] ?_
 refine WC.ret (end2 (h' := h) (.inl rfl) rfl (RV.cellA u178 rfl rfl rfl Me rfl) (RV.tmp rfl) (View.le.refl m) Sb ?_)
 exact ⟨by rw [c48]; rfl, rfl⟩
 replace c48 := f_eq c48
 refine gD ?_; intros
 refine bB ?_
 refine xA ?_
 refine wn [2, 4, 52] ?_
 refine gE ?_; intros
 refine wc (fun c52 => ?_) fun c52 => ?_
 replace c52 := t_eq c52
 refine gD ?_; intros
 refine xG (PO.loadAV (vs := oneC) u176 rfl rfl Ev.global rfl (fun j v hj => by rw [Nat.zero_add]; exact hg.sOne j v hj)) ?_
 refine xG (PO.build u176 rfl rfl rfl (EvP.cons Ev.const (EvP.cons Ev.const EvP.nil)) rfl) ?_
 refine xG (PO.build u178 rfl rfl rfl (EvP.cons Et (EvP.cons Et (EvP.cons Ev.const (EvP.cons Ev.const EvP.nil)))) rfl) ?_
 refine xS ?_
 refine xC ?_
 refine wn [2, 3] ?_
 refine WC.ret (end2 (h' := h) (.inl rfl) rfl (RV.cellA u178 rfl rfl rfl Me rfl) (RV.tmp rfl) (View.le.refl m) Sb ?_)
 exact ⟨by rw [c52]; rfl, rfl⟩
 replace c52 := f_eq c52
 refine gD ?_; intros
 refine bB ?_
 refine xA ?_
 refine wn [2, 4, 57] ?_
 refine gE ?_; intros
 refine wc (fun c57 => ?_) fun c57 => ?_
 replace c57 := t_eq c57
 refine gD ?_; intros
 refine xG (PO.loadAV (vs := oneC) u176 rfl rfl Ev.global rfl (fun j v hj => by rw [Nat.zero_add]; exact hg.sOne j v hj)) ?_
 refine xG (PO.loadAV (vs := oneC) u176 rfl rfl Ev.global rfl (fun j v hj => by rw [Nat.zero_add]; exact hg.sOne j v hj)) ?_
 refine xG (PO.build u178 rfl rfl rfl (EvP.cons Et (EvP.cons Et EvP.nil)) rfl) ?_
 refine xS ?_
 refine xC ?_
 refine wn [2, 3] ?_
 refine WC.ret (end2 (h' := h) (.inl rfl) rfl (RV.cellA u178 rfl rfl rfl Me rfl) (RV.tmp rfl) (View.le.refl m) Sb ?_)
 exact ⟨by rw [c57]; rfl, rfl⟩
 replace c57 := f_eq c57
 refine gD ?_; intros
 refine bB ?_
 refine xA ?_
 refine wn [2, 4, 62] ?_
 refine gE ?_; intros
 refine wc (fun c62 => ?_) fun c62 => ?_
 replace c62 := t_eq c62
 refine gD ?_; intros
 refine xG (PO.build u176 rfl rfl rfl (EvP.cons Ev.const (EvP.cons Ev.const EvP.nil)) rfl) ?_
 refine xG (PO.build u178 rfl rfl rfl (EvP.cons Ev.const (EvP.cons Et EvP.nil)) rfl) ?_
 refine xS ?_
 refine xC ?_
 refine wn [2, 3] ?_
 refine WC.ret (end2 (h' := h) (.inl rfl) rfl (RV.cellA u178 rfl rfl rfl Me rfl) (RV.tmp rfl) (View.le.refl m) Sb ?_)
 exact ⟨by rw [c62]; rfl, rfl⟩
 replace c62 := f_eq c62
 refine gD ?_; intros
 refine bB ?_
 refine xA ?_
 refine wn [2, 66] ?_
 refine gE ?_; intros
 refine wc (fun c66 => ?_) fun c66 => ?_
 replace c66 := t_eq c66
 refine gD ?_; intros
 refine xG (PO.loadAV (vs := oneC) u176 rfl rfl Ev.global rfl (fun j v hj => by rw [Nat.zero_add]; exact hg.sOne j v hj)) ?_
 refine xG (PO.build u178 rfl rfl rfl (EvP.cons Ev.const (EvP.cons Et EvP.nil)) rfl) ?_
 refine xS ?_
 refine xC ?_
 refine wn [2, 3] ?_
 refine WC.ret (end2 (h' := h) (.inl rfl) rfl (RV.cellA u178 rfl rfl rfl Me rfl) (RV.tmp rfl) (View.le.refl m) Sb ?_)
 exact ⟨by rw [c66]; rfl, rfl⟩
 replace c66 := f_eq c66
 have hF : fieldsP k = (us0, false) := by
   unfold fieldsP
   repeat rw [if_neg (by omega)]
 refine WC.skip (kp [2] ?_)
 refine gD ?_; intros
 refine xG (PO.build u178 rfl rfl rfl EvP.nil rfl) ?_
 refine xS ?_
 refine xC ?_
 refine wn [2, 3] ?_
 refine WC.ret (end2 (h' := h) (.inl rfl) rfl (RV.cellA u178 rfl rfl rfl Me rfl) (RV.tmp rfl) (View.le.refl m) Sb ?_)
 exact ⟨by rw [hF]; rfl, rfl⟩
def eqS (x y : B) : Bool := x == y
theorem eqS_ne {x y : B} (h : (!(x == y)) = true) : eqS x y = false := by simpa [eqS] using h
theorem eqS_eq {x y : B} (h : (!(x == y)) = false) : eqS x y = true := by simpa [eqS] using h
theorem eqS_iff (x y : B) : eqS x y = true ↔ x = y := by simp [eqS]
theorem eqFo_ne {x y : Fo} (h : (!(eqFo x y)) = true) : eqFo x y = false := by simpa using h
theorem eqFo_eq {x y : Fo} (h : (!(eqFo x y)) = false) : eqFo x y = true := by simpa using h
theorem eqL_beq {α : Type} [BEq α] [LawfulBEq α] {e : α → α → Bool} (he : ∀ x y, e x y = true ↔ x = y) (xs ys : List α) : eqL e xs ys = (xs == ys) := by
 rw [Bool.eq_iff_iff, eqL_iff he]
 simp
theorem equal198_ct (s1 s2 : Option Addr) (n1 c1 n2 c2 : Nat) (xs ys : List _) (h : List Res) (m : View) (h1 : Rd m h s1 n1 c1 1 (fl encI xs)) (h2 : Rd m h s2 n2 c2 1 (fl encI ys)) :
   CT Tryz.prog 198 [.slice s1 n1 c1, .slice s2 n2 c2] h m (Pure1 h (.bool (eqL eqI xs ys))) := by
 have l1 := h1.lenF encI_len (by decide)
 have l2 := h2.lenF encI_len (by decide)
 have m1 := h1.mx
 have m2 := h2.mx
 have k1 := h1.le
 have k2 := h2.le
 refine CT.body Tryz.call198 Tryz.func198 rfl Tryz.ntmps198 Lb rfl ?_
 refine gD ?_; intros
 refine xC ?_
 refine wn [0, 1] ?_
 refine gD ?_; intros
 refine xM ?_
 refine xG (PO.lenSl u100 Et) ?_
 refine xM ?_
 refine xG (PO.lenSl u100 Et) ?_
 refine bD ?_
 refine wn [0, 1, 10] ?_
 refine gE ?_; intros
 refine wc (fun c10 => ?_) fun c10 => ?_
 replace c10 := t_ne c10
 refine gD ?_; intros
 refine xC ?_
 refine wn [4] ?_
 refine WC.ret (wR (h) ?_)
 exact ⟨by rw [eqL_len _ _ _ (by omega)], rfl⟩
 replace c10 := f_ne c10
 refine WC.skip (kp [0, 1] ?_)
 refine gD ?_; intros
 refine xM ?_
 refine xG (PO.lenSl u100 Et) ?_
 refine xK ?_
 refine wn [0, 1, 12, 13] ?_
 refine gE ?_; intros
 refine WC.loopI [0, 1, 12] rfl (fun μ F' h' => ∃ k : Nat, (k ≤ n1 ∧ eqL eqI xs ys = eqL eqI (xs.drop k) (ys.drop k)) ∧ n1 - k = μ ∧ F' = [(13, .int .i64 k)] ∧ h = h') (n1 - 0) [(13, .int .i64 0)] (h0 := h) ?_ Sb ⟨0, ⟨by omega, by simp⟩, rfl, rfl, rfl⟩ ?_
 exact Su
 rintro _ _ _ ⟨k, ⟨hk, hJ⟩, rfl, rfl, rfl⟩
 refine WC.frm rfl ?_
 refine gD ?_; intros
 refine bD ?_
 refine wn [0, 1, 12, 13, 14] ?_
 refine gE ?_; intros
 refine wc (fun c14 => ?_) fun c14 => ?_
 replace c14 := dT c14
 obtain ⟨x, hx⟩ := get_some (l := xs) (k := k) (by omega)
 obtain ⟨y, hy⟩ := get_some (l := ys) (k := k) (by omega)
 rw [eqL_drop _ hx hy] at hJ
 refine WC.skip (kp [0, 1, 12, 13] ?_)
 refine gD ?_; intros
 refine xM ?_
 refine xA ?_
 refine wn [0, 1, 5, 12, 13] ?_
 refine gE ?_; intros
 refine dS [] (.op 0 (.op 1 (.op 2 (.op 3 (.op 4 (.op 5 (.op 6 (.op 7 .nil)))))))) [8] mixed ?_
 refine yG rfl (PO.move Et) ?_
 refine yG rfl (PO.move Et) ?_
 refine yG rfl (PO.idx EL100.und EL100.size EL100.posz (Ev.tmp rfl) (Ev.tmp rfl) Rr rfl (by omega)) ?_
 refine yG rfl (PO.loadF1 u24 rfl encI_len Rr (Ev.tmp rfl) (by assumption) rfl) ?_
 refine yG rfl (PO.move Et) ?_
 refine yG rfl (PO.move Et) ?_
 refine yG rfl (PO.idx EL100.und EL100.size EL100.posz (Ev.tmp rfl) (Ev.tmp rfl) Rr rfl (by omega)) ?_
 refine yG rfl (PO.loadF1 u24 rfl encI_len Rr (Ev.tmp rfl) (by assumption) rfl) ?_
 refine SR.nil rfl rfl ?_
 refine bD ?_
 refine wn [0, 1, 12, 13, 24] ?_
 refine gE ?_; intros
 refine wc (fun c24 => ?_) fun c24 => ?_
 refine gD ?_; intros
 refine xC ?_
 refine wn [4] ?_
 refine WC.ret (wR (h) ?_)
 exact ⟨by rw [hJ, eqI_ne c24]; rfl, rfl⟩
 rw [eqI_eq c24, Bool.true_and] at hJ
 refine WC.skip (kp [0, 1, 12, 13] ?_)
 refine gD ?_; intros
 refine bI ?_
 refine xM ?_
 refine WL.nil (loopBackI (n1 - (k + 1)) [(13, .int .i64 (k + 1))] (h'' := h) (by omega) ?_ Su Sb ⟨k + 1, ⟨by omega, hJ⟩, rfl, rfl, rfl⟩)
 exact Su
 replace c14 := dF c14
 refine WC.exit (kp [] ?_)
 refine gD ?_; intros
 refine xC ?_
 refine wn [4] ?_
 refine WC.ret (wR (h) ?_)
 exact ⟨by rw [hJ, List.drop_eq_nil_of_le (by omega), List.drop_eq_nil_of_le (by omega)]; rfl, rfl⟩
theorem equal199_ct (s1 s2 : Option Addr) (n1 c1 n2 c2 : Nat) (xs ys : List _) (h : List Res) (m : View) (h1 : Rd m h s1 n1 c1 1 (fl encB xs)) (h2 : Rd m h s2 n2 c2 1 (fl encB ys)) :
   CT Tryz.prog 199 [.slice s1 n1 c1, .slice s2 n2 c2] h m (Pure1 h (.bool (eqL eqS xs ys))) := by
 have l1 := h1.lenF encB_len (by decide)
 have l2 := h2.lenF encB_len (by decide)
 have m1 := h1.mx
 have m2 := h2.mx
 have k1 := h1.le
 have k2 := h2.le
 refine CT.body Tryz.call199 Tryz.func199 rfl Tryz.ntmps199 Lb rfl ?_
 refine gD ?_; intros
 refine xC ?_
 refine wn [0, 1] ?_
 refine gD ?_; intros
 refine xM ?_
 refine xG (PO.lenSl u48 Et) ?_
 refine xM ?_
 refine xG (PO.lenSl u48 Et) ?_
 refine bD ?_
 refine wn [0, 1, 10] ?_
 refine gE ?_; intros
 refine wc (fun c10 => ?_) fun c10 => ?_
 replace c10 := t_ne c10
 refine gD ?_; intros
 refine xC ?_
 refine wn [4] ?_
 refine WC.ret (wR (h) ?_)
 exact ⟨by rw [eqL_len _ _ _ (by omega)], rfl⟩
 replace c10 := f_ne c10
 refine WC.skip (kp [0, 1] ?_)
 refine gD ?_; intros
 refine xM ?_
 refine xG (PO.lenSl u48 Et) ?_
 refine xK ?_
 refine wn [0, 1, 12, 13] ?_
 refine gE ?_; intros
 refine WC.loopI [0, 1, 12] rfl (fun μ F' h' => ∃ k : Nat, (k ≤ n1 ∧ eqL eqS xs ys = eqL eqS (xs.drop k) (ys.drop k)) ∧ n1 - k = μ ∧ F' = [(13, .int .i64 k)] ∧ h = h') (n1 - 0) [(13, .int .i64 0)] (h0 := h) ?_ Sb ⟨0, ⟨by omega, by simp⟩, rfl, rfl, rfl⟩ ?_
 exact Su
 rintro _ _ _ ⟨k, ⟨hk, hJ⟩, rfl, rfl, rfl⟩
 refine WC.frm rfl ?_
 refine gD ?_; intros
 refine bD ?_
 refine wn [0, 1, 12, 13, 14] ?_
 refine gE ?_; intros
 refine wc (fun c14 => ?_) fun c14 => ?_
 replace c14 := dT c14
 obtain ⟨x, hx⟩ := get_some (l := xs) (k := k) (by omega)
 obtain ⟨y, hy⟩ := get_some (l := ys) (k := k) (by omega)
 rw [eqL_drop _ hx hy] at hJ
 refine WC.skip (kp [0, 1, 12, 13] ?_)
 refine gD ?_; intros
 refine xM ?_
 refine xA ?_
 refine wn [0, 1, 5, 12, 13] ?_
 refine gE ?_; intros
 refine dS [] (.op 0 (.op 1 (.op 2 (.op 3 (.op 4 (.op 5 (.op 6 (.op 7 .nil)))))))) [8] mixed ?_
 refine yG rfl (PO.move Et) ?_
 refine yG rfl (PO.move Et) ?_
 refine yG rfl (PO.idx EL48.und EL48.size EL48.posz (Ev.tmp rfl) (Ev.tmp rfl) Rr rfl (by omega)) ?_
 refine yG rfl (PO.loadF1 u9 rfl encB_len Rr (Ev.tmp rfl) (by assumption) rfl) ?_
 refine yG rfl (PO.move Et) ?_
 refine yG rfl (PO.move Et) ?_
 refine yG rfl (PO.idx EL48.und EL48.size EL48.posz (Ev.tmp rfl) (Ev.tmp rfl) Rr rfl (by omega)) ?_
 refine yG rfl (PO.loadF1 u9 rfl encB_len Rr (Ev.tmp rfl) (by assumption) rfl) ?_
 refine SR.nil rfl rfl ?_
 refine xG (PO.neqS Et Et) ?_
 refine wn [0, 1, 12, 13, 24] ?_
 refine gE ?_; intros
 refine wc (fun c24 => ?_) fun c24 => ?_
 refine gD ?_; intros
 refine xC ?_
 refine wn [4] ?_
 refine WC.ret (wR (h) ?_)
 exact ⟨by rw [hJ, eqS_ne c24]; rfl, rfl⟩
 rw [eqS_eq c24, Bool.true_and] at hJ
 refine WC.skip (kp [0, 1, 12, 13] ?_)
 refine gD ?_; intros
 refine bI ?_
 refine xM ?_
 refine WL.nil (loopBackI (n1 - (k + 1)) [(13, .int .i64 (k + 1))] (h'' := h) (by omega) ?_ Su Sb ⟨k + 1, ⟨by omega, hJ⟩, rfl, rfl, rfl⟩)
 exact Su
 replace c14 := dF c14
 refine WC.exit (kp [] ?_)
 refine gD ?_; intros
 refine xC ?_
 refine wn [4] ?_
 refine WC.ret (wR (h) ?_)
 exact ⟨by rw [hJ, List.drop_eq_nil_of_le (by omega), List.drop_eq_nil_of_le (by omega)]; rfl, rfl⟩
theorem equal201_ct (s1 s2 : Option Addr) (n1 c1 n2 c2 : Nat) (xs ys : List _) (h : List Res) (m : View) (h1 : Rd m h s1 n1 c1 6 (fl foE xs)) (h2 : Rd m h s2 n2 c2 6 (fl foE ys)) :
   CT Tryz.prog 201 [.slice s1 n1 c1, .slice s2 n2 c2] h m (Pure1 h (.bool (eqL eqFo xs ys))) := by
 have l1 := h1.lenF foE_len (by decide)
 have l2 := h2.lenF foE_len (by decide)
 have m1 := h1.mx
 have m2 := h2.mx
 have k1 := h1.le
 have k2 := h2.le
 refine CT.body Tryz.call201 Tryz.func201 rfl Tryz.ntmps201 Lb rfl ?_
 refine gD ?_; intros
 refine xC ?_
 refine wn [0, 1] ?_
 refine gD ?_; intros
 refine xM ?_
 refine xG (PO.lenSl u52 Et) ?_
 refine xM ?_
 refine xG (PO.lenSl u52 Et) ?_
 refine bD ?_
 refine wn [0, 1, 10] ?_
 refine gE ?_; intros
 refine wc (fun c10 => ?_) fun c10 => ?_
 replace c10 := t_ne c10
 refine gD ?_; intros
 refine xC ?_
 refine wn [4] ?_
 refine WC.ret (wR (h) ?_)
 exact ⟨by rw [eqL_len _ _ _ (by omega)], rfl⟩
 replace c10 := f_ne c10
 refine WC.skip (kp [0, 1] ?_)
 refine gD ?_; intros
 refine xM ?_
 refine xG (PO.lenSl u52 Et) ?_
 refine xK ?_
 refine wn [0, 1, 12, 13] ?_
 refine gE ?_; intros
 refine WC.loopI [0, 1, 12] rfl (fun μ F' h' => ∃ k : Nat, (k ≤ n1 ∧ eqL eqFo xs ys = eqL eqFo (xs.drop k) (ys.drop k)) ∧ n1 - k = μ ∧ F' = [(13, .int .i64 k)] ∧ h = h') (n1 - 0) [(13, .int .i64 0)] (h0 := h) ?_ Sb ⟨0, ⟨by omega, by simp⟩, rfl, rfl, rfl⟩ ?_
 exact Su
 rintro _ _ _ ⟨k, ⟨hk, hJ⟩, rfl, rfl, rfl⟩
 refine WC.frm rfl ?_
 refine gD ?_; intros
 refine bD ?_
 refine wn [0, 1, 12, 13, 14] ?_
 refine gE ?_; intros
 refine wc (fun c14 => ?_) fun c14 => ?_
 replace c14 := dT c14
 obtain ⟨x, hx⟩ := get_some (l := xs) (k := k) (by omega)
 obtain ⟨y, hy⟩ := get_some (l := ys) (k := k) (by omega)
 rw [eqL_drop _ hx hy] at hJ
 refine WC.skip (kp [0, 1, 12, 13] ?_)
 refine gD ?_; intros
 refine xM ?_
 refine xA ?_
 refine wn [0, 1, 5, 12, 13] ?_
 refine gE ?_; intros
 refine dS [] (.op 0 (.op 1 (.op 2 (.op 3 (.op 4 (.op 5 (.op 6 (.op 7 .nil)))))))) [8] mixed ?_
 refine yG rfl (PO.move Et) ?_
 refine yG rfl (PO.move Et) ?_
 refine yG rfl (PO.idx EL52.und EL52.size EL52.posz (Ev.tmp rfl) (Ev.tmp rfl) Rr rfl (by omega)) ?_
 refine yG rfl (PO.loadFA u60 rfl rfl foE_len Rr (Ev.tmp rfl) (by assumption) rfl rfl (Nat.succ_pos _)) ?_
 refine yG rfl (PO.move Et) ?_
 refine yG rfl (PO.move Et) ?_
 refine yG rfl (PO.idx EL52.und EL52.size EL52.posz (Ev.tmp rfl) (Ev.tmp rfl) Rr rfl (by omega)) ?_
 refine yG rfl (PO.loadFA u60 rfl rfl foE_len Rr (Ev.tmp rfl) (by assumption) rfl rfl (Nat.succ_pos _)) ?_
 refine SR.nil rfl rfl ?_
 refine xG (PO.neqA2 (o := 30) u60 (by kernel_rfl) (by kernel_rfl) Et Et (by kernel_rfl) rfl) ?_
 refine wn [0, 1, 12, 13, 24] ?_
 refine gE ?_; intros
 refine wc (fun c24 => ?_) fun c24 => ?_
 refine gD ?_; intros
 refine xC ?_
 refine wn [4] ?_
 refine WC.ret (wR (h) ?_)
 exact ⟨by rw [hJ, eqFo_ne c24]; rfl, rfl⟩
 rw [eqFo_eq c24, Bool.true_and] at hJ
 refine WC.skip (kp [0, 1, 12, 13] ?_)
 refine gD ?_; intros
 refine bI ?_
 refine xM ?_
 refine WL.nil (loopBackI (n1 - (k + 1)) [(13, .int .i64 (k + 1))] (h'' := h) (by omega) ?_ Su Sb ⟨k + 1, ⟨by omega, hJ⟩, rfl, rfl, rfl⟩)
 exact Su
 replace c14 := dF c14
 refine WC.exit (kp [] ?_)
 refine gD ?_; intros
 refine xC ?_
 refine wn [4] ?_
 refine WC.ret (wR (h) ?_)
 exact ⟨by rw [hJ, List.drop_eq_nil_of_le (by omega), List.drop_eq_nil_of_le (by omega)]; rfl, rfl⟩
theorem vr_ct {m : View} {h : List Res} (x y : Vr) (hx : VOk m h x) (hy : VOk m h y) : CT Tryz.prog 197 [.agg (encV x).toArray, .agg (encV y).toArray] h m (Pure1 h (.bool (sameVr x y))) := by
 have r1 := hx.rd
 have r2 := hy.rd
 have hi := eqL_beq eqI_iff x.items y.items
 refine CT.body Tryz.call197 Tryz.func197 rfl Tryz.ntmps197 Lb rfl ?_
 refine gD ?_; intros
 refine xX fun b2 => ?_
 refine xX fun b3 => ?_
 refine xC ?_
 refine wn [2, 3] ?_
 refine gG ?_; intros; rename_i ops hG
 refine xF u102 ?_
 refine xG (pL u9) ?_
 refine xF u102 ?_
 refine xG (pL u9) ?_
 refine xG (PO.eqlS Et Et) ?_
 refine xM ?_
 refine zG (fun _ => pF u102) ?_
 refine zG (fun hc => PO.load1 u100 rfl (Eg hc) Me rfl) ?_
 refine zG (fun _ => pF u102) ?_
 refine zG (fun hc => PO.load1 u100 rfl (Eg hc) Me rfl) ?_
 refine WL.callG (GU.t (hG _ _ rfl) rfl) (fun hc => ⟨Ev.func, (E2 (Eg hc) (Eg hc)), equal198_ct _ _ _ _ _ _ _ _ _ _ Rr Rr⟩) Lb ?_
 refine xP ?_
 refine xA ?_
 refine wn [4] ?_
 try clear hG ops
 refine WC.ret (wR (h) ?_)
 exact ⟨by unfold sameVr; rw [← hi], rfl⟩
theorem eqfV_ct (q : FuncId) (pr : Vr → Vr → Bool) (s1 s2 : Option Addr) (n1 c1 n2 c2 : Nat) (xs ys : List Vr) (h : List Res) (m : View) (h1 : Rd m h s1 n1 c1 2 (fl encV xs)) (h2 : Rd m h s2 n2 c2 2 (fl encV ys))
   (hq : ∀ x ∈ xs, ∀ y ∈ ys, ∀ h', h.Sublist h' → CT Tryz.prog q ([] ++ [.agg (encV x).toArray, .agg (encV y).toArray] ++ []) h' m (Pure1 h' (.bool (pr x y)))) :
   CT Tryz.prog 200 [.slice s1 n1 c1, .slice s2 n2 c2, .func (.func q) #[] #[]] h m (Pure1 h (.bool (eqL pr xs ys))) := by
 have l1 := h1.lenF encV_len (by decide)
 have l2 := h2.lenF encV_len (by decide)
 have m1 := h1.mx
 have m2 := h2.mx
 have k1 := h1.le
 have k2 := h2.le
 refine CT.body Tryz.call200 Tryz.func200 rfl Tryz.ntmps200 Lb rfl ?_
 refine gD ?_; intros
 refine xC ?_
 refine wn [0, 1, 2] ?_
 refine gD ?_; intros
 refine xM ?_
 refine xG (PO.lenSl u49 Et) ?_
 refine xM ?_
 refine xG (PO.lenSl u49 Et) ?_
 refine bD ?_
 refine wn [0, 1, 2, 14] ?_
 refine gE ?_; intros
 refine wc (fun c14 => ?_) fun c14 => ?_
 replace c14 := t_ne c14
 refine gD ?_; intros
 refine xC ?_
 refine wn [6] ?_
 refine WC.ret (wR (h) ?_)
 exact ⟨by rw [eqL_len _ _ _ (by omega)], rfl⟩
 replace c14 := f_ne c14
 refine WC.skip (kp [0, 1, 2] ?_)
 refine gD ?_; intros
 refine xM ?_
 refine xG (PO.lenSl u49 Et) ?_
 refine xK ?_
 refine wn [1, 2, 15, 16, 17] ?_
 refine gE ?_; intros
 refine WC.loopI [1, 2, 15, 16] rfl (fun μ F' h' => ∃ k : Nat, (k ≤ n1 ∧ eqL pr xs ys = eqL pr (xs.drop k) (ys.drop k)) ∧ n1 - k = μ ∧ F' = [(17, .int .i64 k)] ∧ h = h') (n1 - 0) [(17, .int .i64 0)] (h0 := h) ?_ Sb ⟨0, ⟨by omega, by simp⟩, rfl, rfl, rfl⟩ ?_
 exact Su
 rintro _ _ _ ⟨k, ⟨hk, hJ⟩, rfl, rfl, rfl⟩
 refine WC.frm rfl ?_
 refine gD ?_; intros
 refine bD ?_
 refine wn [1, 2, 15, 16, 17, 18] ?_
 refine gE ?_; intros
 refine wc (fun c18 => ?_) fun c18 => ?_
 replace c18 := dT c18
 obtain ⟨x, hx⟩ := get_some (l := xs) (k := k) (by omega)
 obtain ⟨y, hy⟩ := get_some (l := ys) (k := k) (by omega)
 rw [eqL_drop _ hx hy] at hJ
 refine WC.skip (kp [1, 2, 15, 16, 17] ?_)
 refine gD ?_; intros
 refine xM ?_
 refine xG (PO.idx EL49.und EL49.size EL49.posz (Ev.tmp rfl) (Ev.tmp rfl) Rr rfl (by omega)) ?_
 refine xG (PO.loadFA u102 rfl rfl encV_len Rr (Ev.tmp rfl) (by assumption) rfl rfl (Nat.succ_pos _)) ?_
 refine xW fun b8 => ?_
 refine xA ?_
 refine xS ?_
 refine wn [1, 2, 7, 8, 15, 16, 17] ?_
 refine gD ?_; intros
 refine xM ?_
 refine xM ?_
 refine xG (PO.idx EL49.und EL49.size EL49.posz (Ev.tmp rfl) (Ev.tmp rfl) Rr rfl (by omega)) ?_
 refine xG (PO.loadFA u102 rfl rfl encV_len Rr (Ev.tmp rfl) (by assumption) rfl rfl (Nat.succ_pos _)) ?_
 refine xW fun b9 => ?_
 refine xS ?_
 refine wn [1, 2, 8, 9, 15, 16, 17] ?_
 refine gD ?_; intros
 refine xM ?_
 refine xG (pA u102) ?_
 refine xG (pA u102) ?_
 refine WL.callP (Ev.tmp rfl) (E2 (Ev.tmp rfl) (Ev.tmp rfl)) (hq x (List.mem_of_getElem? hx) y (List.mem_of_getElem? hy) _ Sb) Lb ?_
 refine xG (PO.not Et) ?_
 refine wn [1, 2, 15, 16, 17, 30] ?_
 refine gE ?_; intros
 refine wc (fun c30 => ?_) fun c30 => ?_
 have d30 : pr x y = false := by simpa using c30
 rw [d30] at hJ
 refine gD ?_; intros
 refine xC ?_
 refine wn [6] ?_
 refine WC.ret (wR (h) ?_)
 exact ⟨by rw [hJ]; rfl, rfl⟩
 have d30 : pr x y = true := by simpa using c30
 rw [d30, Bool.true_and] at hJ
 refine WC.skip (kp [1, 2, 15, 16, 17] ?_)
 refine gD ?_; intros
 refine bI ?_
 refine xM ?_
 refine WL.nil (loopBackI (n1 - (k + 1)) [(17, .int .i64 (k + 1))] (h'' := h) (by omega) ?_ Su Sb ⟨k + 1, ⟨by omega, hJ⟩, rfl, rfl, rfl⟩)
 exact Su
 replace c18 := dF c18
 refine WC.exit (kp [] ?_)
 refine gD ?_; intros
 refine xC ?_
 refine wn [6] ?_
 refine WC.ret (wR (h) ?_)
 exact ⟨by rw [hJ, List.drop_eq_nil_of_le (by omega), List.drop_eq_nil_of_le (by omega)]; rfl, rfl⟩
theorem eqfP_ct (q : FuncId) (pr : Pr → Pr → Bool) (s1 s2 : Option Addr) (n1 c1 n2 c2 : Nat) (xs ys : List Pr) (h : List Res) (m : View) (h1 : Rd m h s1 n1 c1 42 (fl prE xs)) (h2 : Rd m h s2 n2 c2 42 (fl prE ys))
   (hq : ∀ x ∈ xs, ∀ y ∈ ys, ∀ h', h.Sublist h' → CT Tryz.prog q ([] ++ [prV x, prV y] ++ []) h' m (Pure1 h' (.bool (pr x y)))) :
   CT Tryz.prog 177 [.slice s1 n1 c1, .slice s2 n2 c2, .func (.func q) #[] #[]] h m (Pure1 h (.bool (eqL pr xs ys))) := by
 have l1 := h1.lenF prE_len (by decide)
 have l2 := h2.lenF prE_len (by decide)
 have m1 := h1.mx
 have m2 := h2.mx
 have k1 := h1.le
 have k2 := h2.le
 refine CT.body Tryz.call177 Tryz.func177 rfl Tryz.ntmps177 Lb rfl ?_
 refine gD ?_; intros
 refine xC ?_
 refine wn [0, 1, 2] ?_
 refine gD ?_; intros
 refine xM ?_
 refine xG (PO.lenSl u45 Et) ?_
 refine xM ?_
 refine xG (PO.lenSl u45 Et) ?_
 refine bD ?_
 refine wn [0, 1, 2, 14] ?_
 refine gE ?_; intros
 refine wc (fun c14 => ?_) fun c14 => ?_
 replace c14 := t_ne c14
 refine gD ?_; intros
 refine xC ?_
 refine wn [6] ?_
 refine WC.ret (wR (h) ?_)
 exact ⟨by rw [eqL_len _ _ _ (by omega)], rfl⟩
 replace c14 := f_ne c14
 refine WC.skip (kp [0, 1, 2] ?_)
 refine gD ?_; intros
 refine xM ?_
 refine xG (PO.lenSl u45 Et) ?_
 refine xK ?_
 refine wn [1, 2, 15, 16, 17] ?_
 refine gE ?_; intros
 refine WC.loopI [1, 2, 15, 16] rfl (fun μ F' h' => ∃ k : Nat, (k ≤ n1 ∧ eqL pr xs ys = eqL pr (xs.drop k) (ys.drop k)) ∧ n1 - k = μ ∧ F' = [(17, .int .i64 k)] ∧ h = h') (n1 - 0) [(17, .int .i64 0)] (h0 := h) ?_ Sb ⟨0, ⟨by omega, by simp⟩, rfl, rfl, rfl⟩ ?_
 exact Su
 rintro _ _ _ ⟨k, ⟨hk, hJ⟩, rfl, rfl, rfl⟩
 refine WC.frm rfl ?_
 refine gD ?_; intros
 refine bD ?_
 refine wn [1, 2, 15, 16, 17, 18] ?_
 refine gE ?_; intros
 refine wc (fun c18 => ?_) fun c18 => ?_
 replace c18 := dT c18
 obtain ⟨x, hx⟩ := get_some (l := xs) (k := k) (by omega)
 obtain ⟨y, hy⟩ := get_some (l := ys) (k := k) (by omega)
 rw [eqL_drop _ hx hy] at hJ
 refine WC.skip (kp [1, 2, 15, 16, 17] ?_)
 refine gD ?_; intros
 refine xM ?_
 refine xG (PO.idx EL45.und EL45.size EL45.posz (Ev.tmp rfl) (Ev.tmp rfl) Rr rfl (by omega)) ?_
 refine xG (PO.loadFA u56 rfl rfl prE_len Rr (Ev.tmp rfl) (by assumption) rfl rfl (Nat.succ_pos _)) ?_
 refine xW fun b8 => ?_
 refine xA ?_
 refine xS ?_
 refine wn [1, 2, 7, 8, 15, 16, 17] ?_
 refine gD ?_; intros
 refine xM ?_
 refine xM ?_
 refine xG (PO.idx EL45.und EL45.size EL45.posz (Ev.tmp rfl) (Ev.tmp rfl) Rr rfl (by omega)) ?_
 refine xG (PO.loadFA u56 rfl rfl prE_len Rr (Ev.tmp rfl) (by assumption) rfl rfl (Nat.succ_pos _)) ?_
 refine xW fun b9 => ?_
 refine xS ?_
 refine wn [1, 2, 8, 9, 15, 16, 17] ?_
 refine gD ?_; intros
 refine xM ?_
 refine xG (pA u56) ?_
 refine xG (pA u56) ?_
 refine WL.callP (Ev.tmp rfl) (E2 (Ev.tmp rfl) (Ev.tmp rfl)) (hq x (List.mem_of_getElem? hx) y (List.mem_of_getElem? hy) _ Sb) Lb ?_
 refine xG (PO.not Et) ?_
 refine wn [1, 2, 15, 16, 17, 30] ?_
 refine gE ?_; intros
 refine wc (fun c30 => ?_) fun c30 => ?_
 have d30 : pr x y = false := by simpa using c30
 rw [d30] at hJ
 refine gD ?_; intros
 refine xC ?_
 refine wn [6] ?_
 refine WC.ret (wR (h) ?_)
 exact ⟨by rw [hJ]; rfl, rfl⟩
 have d30 : pr x y = true := by simpa using c30
 rw [d30, Bool.true_and] at hJ
 refine WC.skip (kp [1, 2, 15, 16, 17] ?_)
 refine gD ?_; intros
 refine bI ?_
 refine xM ?_
 refine WL.nil (loopBackI (n1 - (k + 1)) [(17, .int .i64 (k + 1))] (h'' := h) (by omega) ?_ Su Sb ⟨k + 1, ⟨by omega, hJ⟩, rfl, rfl, rfl⟩)
 exact Su
 replace c18 := dF c18
 refine WC.exit (kp [] ?_)
 refine gD ?_; intros
 refine xC ?_
 refine wn [6] ?_
 refine WC.ret (wR (h) ?_)
 exact ⟨by rw [hJ, List.drop_eq_nil_of_le (by omega), List.drop_eq_nil_of_le (by omega)]; rfl, rfl⟩
structure SRd (m : View) (h : List Res) (s : Sp) : Prop where
 b : Rd m h s.ba s.bl.length s.bc 42 (fl prE s.bl)
 nr : Rd m h s.names.a s.names.l.length s.names.c 1 (fl encB s.names.l)
 e : TOk m h s.e
 v : PrOk m h s.vs.a s.vs.l.length s.vs.c s.vs.l
 fr : Rd m h s.fs.a s.fs.l.length s.fs.c 6 (fl foE s.fs.l)
theorem SRd.mono {m : View} {h h' : List Res} {s : Sp} (q : SRd m h s) (r : h.Sublist h') : SRd m h' s := ⟨q.b.mono (View.le.refl m) r, q.nr.mono (View.le.refl m) r, q.e.mono r, q.v.mono (View.le.refl m) r, q.fr.mono (View.le.refl m) r⟩
theorem SRd.of {m : View} {h : List Res} {s : Sp} (q : SOk m h s) : SRd m h s := ⟨q.b, q.nr, q.e.t, q.v, q.fr⟩
set_option maxHeartbeats 1000000 in
theorem sameSF_ct {m : View} {h : List Res} (x y : Sp) (hx : SRd m h x) (hy : SRd m h y) : CT Tryz.prog 176 [spV x, spV y] h m (Pure1 h (.bool (sameSF x y))) := by
 have n1 := hx.nr
 have n2 := hy.nr
 have f1 := hx.fr
 have f2 := hy.fr
 have v1 := hx.v.rd
 have v2 := hy.v.rd
 refine CT.body Tryz.call176 Tryz.func176 rfl Tryz.ntmps176 Lb rfl ?_
 refine gD ?_; intros
 refine xX fun b2 => ?_
 refine xX fun b3 => ?_
 refine xC ?_
 refine wn [2, 3] ?_
 refine gD ?_; intros
 refine xG (PO.assign Ev.func) ?_
 refine wn [2, 3, 5] ?_
 refine gG ?_; intros; rename_i ops hG
 refine xF u54 ?_
 refine xG (pL u47) ?_
 refine xF u54 ?_
 refine xG (pL u47) ?_
 refine bD ?_
 refine xM ?_
 refine zG (fun _ => pF u54) ?_
 refine zG (fun hc => PO.loadA u30 rfl rfl (Eg hc) Me rfl) ?_
 refine zG (fun _ => pF u54) ?_
 refine zG (fun hc => PO.loadA u30 rfl rfl (Eg hc) Me rfl) ?_
 refine WL.poG (GU.t (hG _ _ rfl) rfl) (fun hc => PO.eqlA u30 (by kernel_rfl) (by kernel_rfl) (Eg hc) (Eg hc) rfl) Lb ?_
 refine xP ?_
 refine xM ?_
 refine zG (fun _ => pF u54) ?_
 refine zG (fun hc => PO.load1 u48 rfl (Eg hc) Me rfl) ?_
 refine zG (fun _ => pF u54) ?_
 refine zG (fun hc => PO.load1 u48 rfl (Eg hc) Me rfl) ?_
 refine WL.callG (GU.t (hG _ _ rfl) rfl) (fun hc => ⟨Ev.func, (E2 (Eg hc) (Eg hc)), CT.val (equal199_ct _ _ _ _ _ _ x.names.l y.names.l _ _ (n1.mono (View.le.refl _) Sb) (n2.mono (View.le.refl _) Sb)) (congrArg Value.bool (eqL_beq eqS_iff x.names.l y.names.l))⟩) Lb ?_
 refine xP ?_
 refine xM ?_
 refine zG (fun _ => pF u54) ?_
 refine zG (fun hc => PO.loadA u27 rfl rfl (Eg hc) Me rfl) ?_
 refine zG (fun _ => pF u54) ?_
 refine zG (fun hc => PO.loadA u27 rfl rfl (Eg hc) Me rfl) ?_
 refine WL.callG (GU.t (hG _ _ rfl) rfl) (fun hc => ⟨Ev.func, (E2 (Eg hc) (Eg hc)), same_ct x.e y.e _ _ (hx.e.mono Sb) (hy.e.mono Sb)⟩) Lb ?_
 refine xP ?_
 refine xM ?_
 refine zG (fun _ => pF u54) ?_
 refine zG (fun hc => PO.fieldAddr u51 rfl (Nat.ne_of_beq_eq_false rfl) (Eg hc)) ?_
 refine zG (fun hc => PO.load1 u4 rfl (Eg hc) Me rfl) ?_
 refine zG (fun _ => pF u54) ?_
 refine zG (fun hc => PO.fieldAddr u51 rfl (Nat.ne_of_beq_eq_false rfl) (Eg hc)) ?_
 refine zG (fun hc => PO.load1 u4 rfl (Eg hc) Me rfl) ?_
 refine zG (fun hc => PO.eqlB u4 (Eg hc) (Eg hc)) ?_
 refine xP ?_
 refine xM ?_
 refine zG (fun _ => pF u54) ?_
 refine zG (fun hc => PO.fieldAddr u51 rfl (Nat.ne_of_beq_eq_false rfl) (Eg hc)) ?_
 refine zG (fun hc => PO.load1 u49 rfl (Eg hc) Me rfl) ?_
 refine zG (fun _ => pF u54) ?_
 refine zG (fun hc => PO.fieldAddr u51 rfl (Nat.ne_of_beq_eq_false rfl) (Eg hc)) ?_
 refine zG (fun hc => PO.load1 u49 rfl (Eg hc) Me rfl) ?_
 refine zM ?_
 refine WL.callG (GU.t (hG _ _ rfl) rfl) (fun hc => ⟨Ev.func, (E3 (Eg hc) (Eg hc) (Eg hc)), eqfV_ct 197 sameVr _ _ _ _ _ _ x.vs.l y.vs.l _ _ (v1.mono (View.le.refl _) Sb) (v2.mono (View.le.refl _) Sb) (fun u hu w hw h' hh => vr_ct u w ((hx.v.ok u hu).mono (View.le.refl _) (List.Sublist.trans Sb hh)) ((hy.v.ok w hw).mono (View.le.refl _) (List.Sublist.trans Sb hh)))⟩) Lb ?_
 refine xP ?_
 refine xM ?_
 refine zG (fun _ => pF u54) ?_
 refine zG (fun hc => PO.load1 u52 rfl (Eg hc) Me rfl) ?_
 refine zG (fun _ => pF u54) ?_
 refine zG (fun hc => PO.load1 u52 rfl (Eg hc) Me rfl) ?_
 refine WL.callG (GU.t (hG _ _ rfl) rfl) (fun hc => ⟨Ev.func, (E2 (Eg hc) (Eg hc)), equal201_ct _ _ _ _ _ _ _ _ _ _ Rr Rr⟩) Lb ?_
 refine xP ?_
 refine xM ?_
 refine zG (fun _ => pF u54) ?_
 refine zG (fun hc => PO.load1 u45 rfl (Eg hc) Me rfl) ?_
 refine zG (fun hc => PO.lenSl u45 (Eg hc)) ?_
 refine zG (fun _ => pF u54) ?_
 refine zG (fun hc => PO.load1 u45 rfl (Eg hc) Me rfl) ?_
 refine zG (fun hc => PO.lenSl u45 (Eg hc)) ?_
 refine zG (fun hc => PO.bin (Eg hc) (Eg hc) rfl) ?_
 refine xP ?_
 refine xA ?_
 refine wn [4] ?_
 try clear hG ops
 refine WC.ret (wR (h) ?_)
 exact ⟨rfl, rfl⟩
theorem srd_zero (m : View) (h : List Res) : SRd m h zeroS := ⟨Rd.nilF prE 42 m h, Rd.nilF encB 1 m h, tok_zero m h, ⟨Rd.nilF encV 2 m h, fun _ hv => (by cases hv), fun _ hv => (by cases hv)⟩, Rd.nilF foE 6 m h⟩
theorem sameZ_ct {m : View} {h : List Res} (x : Sp) (hx : SRd m h x) : CT Tryz.prog 134 [spV x, spV zeroS] h m (Pure1 h (.bool (sameSF x zeroS))) := by
 refine CT.body Tryz.call134 Tryz.func134 rfl Tryz.ntmps134 Lb rfl ?_
 refine gD ?_; intros
 refine xX fun b2 => ?_
 refine xX fun b3 => ?_
 refine xC ?_
 refine wn [2, 3] ?_
 refine gG ?_; intros; rename_i ops hG
 refine xG (pA u54) ?_
 refine xG (pA u54) ?_
 refine xf (E2 Et Et) (sameSF_ct x zeroS (hx.mono Sb) (srd_zero _ _)) ?_
 refine xM ?_
 refine zG (fun _ => pF u54) ?_
 refine zG (fun hc => PO.load1 u45 rfl (Eg hc) Me rfl) ?_
 refine zG (fun _ => pF u54) ?_
 refine zG (fun hc => PO.load1 u45 rfl (Eg hc) Me rfl) ?_
 refine WL.callG (GU.t (hG _ _ rfl) rfl) (fun hc => ⟨Ev.func, (E3 (Eg hc) (Eg hc) Ev.func), CT.val (eqfP_ct 178 (fun _ _ => true) _ _ _ _ _ _ x.bl [] _ _ (hx.b.mono (View.le.refl _) Sb) (Rd.nilF prE 42 _ _) (fun _ _ y hy => by cases hy)) (congrArg Value.bool (by rw [ns_bl hc]))⟩) Lb ?_
 refine xP ?_
 refine xA ?_
 refine wn [4] ?_
 try clear hG ops
 refine WC.ret (wR (h) ?_)
 exact ⟨congrArg Value.bool (Bool.and_true _), rfl⟩
end Go.Proofs.YtdhmplmpbcnojaaGreatDoor
end

/- SyD TpQ ExpF TpR TpS LwA LwB FrA FrB FrC FrD FrE FrF RvA -/
import Derived.Test.YtdhmplmpbcnojaaGreatDoorLOutsideX5
/- SyD -/
section
namespace Go.Proofs.YtdhmplmpbcnojaaGreatDoor
open Go.Eng Go.Pc Go
open Go.Xp hiding B nameT
open Go.Ty (Ty Vr eqT tyV cellT PrOk VOk prL encV encV_len encI encI_len eqI eqI_ne eqI_eq eqI_iff)
open Go.Lx (encB encB_len)
set_option maxRecDepth 100000
set_option maxHeartbeats 2000000 in
theorem spec_ct {m : View} {h : List Res} (hg : Glob m) (x : Sp) (hO : SOk m h x) : CT Tryz.prog 133 [spV x] h m (Pure1 h (.bool (spP x))) := by
 have hp2 : x.ty.proto.length ≤ 9223372036854775807 := Nat.le_trans hO.ty.p (by decide)
 have hnr := hO.nr
 have hfr := hO.fr
 have hsr := SRd.of hO
 have hET := hO.e.t
 have hEW := hO.e.w
 have zr : ∀ h', SRd m h' zeroS := fun h' => srd_zero m h'
 refine CT.body Tryz.call133 Tryz.func133 rfl Tryz.ntmps133 Lb rfl ?_
 refine gD ?_; intros
 refine xX fun b1 => ?_
 refine xC ?_
 refine wn [1] ?_
 refine gD ?_; intros
 refine xF u54 ?_
 refine xG (pL u47) ?_
 refine xF u54 ?_
 refine xG (pL u48) ?_
 refine xG (PO.build u54 rfl rfl rfl (EvP.cons Et (EvP.cons Et EvP.nil)) rfl) ?_
 refine xW fun b3 => ?_
 refine xS ?_
 refine wn [1, 3] ?_
 refine gD ?_; intros
 refine xG (PO.loadAV (vs := oneC) u176 rfl rfl Ev.global rfl (fun j v hj => by rw [Nat.zero_add]; exact hg.sOne j v hj)) ?_
 refine xW fun b4 => ?_
 refine xS ?_
 refine xC ?_
 refine wn [1, 3, 4] ?_
 refine gD ?_; intros
 refine xF u54 ?_
 refine xG (pL u47) ?_
 refine wn [1, 3, 4, 13] ?_
 (repeat refine WC.seqK fun K hK => ?_)
 refine WC.cutK (by assumption) [1, 3, 4] rfl (fun F' h' => ∃ w : Sp, ∃ fb : Bool, ∃ lo : Int, ∃ hi : Int, (((1 ≤ x.k ∧ x.k ≤ 5) ∧ w = wantS x ∧ SRd m h w) ∧ (fb = fineS x ∧ (lo = 1 ∧ hi = if x.k = 1 then 8 else 1))) ∧ F' = [(5, .bool fb)] ∧ .pt b4 (.cells [.int .i64 lo, .int .i64 hi].toArray 176 (0, 0)) :: .pt b3 (.cells (spE w).toArray 54 (0, 0)) :: .pt b1 (.cells (spE x).toArray 54 (0, 0)) :: h = h') ?_ ?_
 refine gD ?_; intros
 refine bB ?_
 refine xA ?_
 refine wn [1, 3, 4, 13, 14] ?_
 refine gE ?_; intros
 refine wc (fun c14 => ?_) fun c14 => ?_
 replace c14 := t_eq c14
 refine gE ?_; intros
 refine WC.take (r := .pt b4 _) De ?_
 refine WC.drawS [3] (.op 0 (.op 1 (.op 2 (.op 3 .nil)))) [4, 5] _ [_] mixed (fun _ _ _ _ _ h => h) [] (by kernel_rfl) ?_
 refine yG rfl (PO.loadAV (vs := someC) u176 rfl rfl Ev.global rfl (fun j v hj => by rw [Nat.zero_add]; exact hg.sSome j v hj)) ?_
 refine yG rfl (pF u54) ?_
 refine yG rfl (pA u30) ?_
 refine SR.store rfl rfl rfl Et Et rfl rfl rfl rfl Up ?_
 refine SR.nil rfl rfl ?_
 refine xF u54 ?_
 refine xS ?_
 refine wn [1, 3, 4] ?_
 refine gD ?_; intros
 refine xF u54 ?_
 refine xG (pA u30) ?_
 refine xf (E1 Et) (Ty9.may_ct x.ty _ _ hg hp2) ?_
 refine xA ?_
 refine WL.nil (meetI [(5, .bool (Go.Ty.may x.ty))] (h'' := .pt b4 (.cells [.int .i64 1, .int .i64 8].toArray 176 (0, 0)) :: .pt b3 (.cells (spE (.mk x.k x.ty x.names zeroE false nilS nilS none 0 [])).toArray 54 (0, 0)) :: .pt b1 (.cells (spE x).toArray 54 (0, 0)) :: h) ?_ Su Sb ⟨.mk x.k x.ty x.names zeroE false nilS nilS none 0 [], Go.Ty.may x.ty, 1, 8, ⟨⟨by omega, by unfold wantS; rw [if_pos c14], ⟨(zr h).b, hsr.nr, (zr h).e, (zr h).v, (zr h).fr⟩⟩, by unfold fineS; rw [if_pos c14], rfl, by rw [if_pos c14]⟩, rfl, rfl⟩)
 exact Su
 replace c14 := f_eq c14
 refine gD ?_; intros
 refine bB ?_
 refine xA ?_
 refine wn [1, 3, 4, 13, 23] ?_
 refine gE ?_; intros
 refine wc (fun c23 => ?_) fun c23 => ?_
 replace c23 := t_eq c23
 refine gE ?_; intros
 refine WC.take (r := .pt b3 _) De ?_
 refine WC.drawS [5] (.op 0 (.op 1 (.op 2 (.op 3 (.op 4 (.op 5 .nil)))))) [6, 7] _ [_] mixed (fun _ _ _ _ _ h => h) [] (by kernel_rfl) ?_
 refine yG rfl (pF u54) ?_
 refine yG rfl (pA u30) ?_
 refine yG rfl (pF u54) ?_
 refine yG rfl (pA u27) ?_
 refine yG rfl (pF u54) ?_
 refine SR.store rfl rfl rfl Et Et rfl rfl rfl rfl Up ?_
 refine SR.nilP (H := _) rfl (List.Perm.swap _ _ _) ?_
 refine xF u54 ?_
 refine xS ?_
 refine wn [1, 3, 4] ?_
 refine gG ?_; intros; rename_i ops hG
 refine xF u54 ?_
 refine xG (pA u30) ?_
 refine xf (E1 Et) (prim_ct0 x.ty _ _ hg hp2) ?_
 refine xM ?_
 refine zG (fun _ => pF u54) ?_
 refine zG (fun hc => PO.loadA u27 rfl rfl (Eg hc) Me rfl) ?_
 refine WL.callG (GU.t (hG _ _ rfl) rfl) (fun hc => ⟨Ev.func, (E1 (Eg hc)), may_ct hg x.e _ (hET.mono Sb) hEW⟩) Lb ?_
 refine xP ?_
 refine xA ?_
 refine WL.nil (meetI [(5, .bool (primT x.ty && mayE x.e))] (h'' := .pt b4 (.cells [.int .i64 1, .int .i64 1].toArray 176 (0, 0)) :: .pt b3 (.cells (spE (.mk x.k x.ty x.names x.e false nilS nilS none 0 [])).toArray 54 (0, 0)) :: .pt b1 (.cells (spE x).toArray 54 (0, 0)) :: h) ?_ Su Sb ⟨.mk x.k x.ty x.names x.e false nilS nilS none 0 [], primT x.ty && mayE x.e, 1, 1, ⟨⟨by omega, by unfold wantS; rw [if_neg c14, if_pos c23], ⟨(zr h).b, hsr.nr, hsr.e, (zr h).v, (zr h).fr⟩⟩, by unfold fineS; rw [if_neg c14, if_pos c23], rfl, by rw [if_neg c14]⟩, rfl, rfl⟩)
 exact Su
 replace c23 := f_eq c23
 refine gD ?_; intros
 refine bB ?_
 refine xA ?_
 refine wn [1, 3, 4, 13, 39] ?_
 refine gE ?_; intros
 refine wc (fun c39 => ?_) fun c39 => ?_
 replace c39 := t_eq c39
 refine gE ?_; intros
 refine WC.take (r := .pt b3 _) De ?_
 refine WC.drawS [5] (.op 0 (.op 1 (.op 2 (.op 3 (.op 4 (.op 5 .nil)))))) [6, 7] _ [_] mixed (fun _ _ _ _ _ h => h) [] (by kernel_rfl) ?_
 refine yG rfl (pF u54) ?_
 refine yG rfl (pA u30) ?_
 refine yG rfl (pF u54) ?_
 refine yG rfl (pA u27) ?_
 refine yG rfl (pF u54) ?_
 refine SR.store rfl rfl rfl Et Et rfl rfl rfl rfl Up ?_
 refine SR.nilP (H := _) rfl (List.Perm.swap _ _ _) ?_
 refine xF u54 ?_
 refine xS ?_
 refine wn [1, 3, 4] ?_
 refine gG ?_; intros; rename_i ops hG
 refine xF u54 ?_
 refine xG (pA u30) ?_
 refine xf (E1 Et) (prim_ct0 x.ty _ _ hg hp2) ?_
 refine xM ?_
 refine zG (fun _ => pF u54) ?_
 refine zG (fun hc => PO.loadA u27 rfl rfl (Eg hc) Me rfl) ?_
 refine WL.callG (GU.t (hG _ _ rfl) rfl) (fun hc => ⟨Ev.func, (E1 (Eg hc)), elem_ct hg x.e (hO.e.mono Sb)⟩) Lb ?_
 refine xP ?_
 refine xA ?_
 refine WL.nil (meetI [(5, .bool (primT x.ty && elemE x.e))] (h'' := .pt b4 (.cells [.int .i64 1, .int .i64 1].toArray 176 (0, 0)) :: .pt b3 (.cells (spE (.mk x.k x.ty x.names x.e false nilS nilS none 0 [])).toArray 54 (0, 0)) :: .pt b1 (.cells (spE x).toArray 54 (0, 0)) :: h) ?_ Su Sb ⟨.mk x.k x.ty x.names x.e false nilS nilS none 0 [], primT x.ty && elemE x.e, 1, 1, ⟨⟨by omega, by unfold wantS; rw [if_neg c14, if_neg c23, if_pos c39], ⟨(zr h).b, hsr.nr, hsr.e, (zr h).v, (zr h).fr⟩⟩, by unfold fineS; rw [if_neg c14, if_neg c23, if_pos c39], rfl, by rw [if_neg c14]⟩, rfl, rfl⟩)
 exact Su
 replace c39 := f_eq c39
 refine gD ?_; intros
 refine bB ?_
 refine xA ?_
 refine wn [1, 3, 4, 13, 55] ?_
 refine gE ?_; intros
 refine wc (fun c55 => ?_) fun c55 => ?_
 replace c55 := t_eq c55
 refine gD ?_; intros
 refine xF u54 ?_
 refine xG (pA u51) ?_
 refine xF u54 ?_
 refine xS ?_
 refine wn [1, 3, 4] ?_
 refine gD ?_; intros
 refine xF u54 ?_
 refine xG (pA u51) ?_
 refine xf (E1 Et) (Ty9.mayProto_ct x.cs x.vs.a x.vs.l.length x.vs.c x.vs.l _ _ hg (hO.v.mono (View.le.refl _) Sb)) ?_
 refine xA ?_
 refine WL.nil (meetI [(5, .bool (Go.Ty.mayPr x.cs x.vs.l))] (h'' := .pt b4 (.cells [.int .i64 1, .int .i64 1].toArray 176 (0, 0)) :: .pt b3 (.cells (spE (.mk x.k Go.Ty.zeroT x.names zeroE x.cs x.vs nilS none 0 [])).toArray 54 (0, 0)) :: .pt b1 (.cells (spE x).toArray 54 (0, 0)) :: h) ?_ Su Sb ⟨.mk x.k Go.Ty.zeroT x.names zeroE x.cs x.vs nilS none 0 [], Go.Ty.mayPr x.cs x.vs.l, 1, 1, ⟨⟨by omega, by unfold wantS; rw [if_neg c14, if_neg c23, if_neg c39, if_pos c55], ⟨(zr h).b, hsr.nr, (zr h).e, hsr.v, (zr h).fr⟩⟩, by unfold fineS; rw [if_neg c14, if_neg c23, if_neg c39, if_pos c55], rfl, by rw [if_neg c14]⟩, rfl, rfl⟩)
 exact Su
 replace c55 := f_eq c55
 refine gD ?_; intros
 refine bB ?_
 refine xA ?_
 refine wn [1, 3, 4, 63] ?_
 refine gE ?_; intros
 refine wc (fun c63 => ?_) fun c63 => ?_
 replace c63 := t_eq c63
 refine gE ?_; intros
 refine WC.take (r := .pt b3 _) De ?_
 refine WC.drawS [5] (.op 0 (.op 1 (.op 2 (.op 3 (.op 4 (.op 5 .nil)))))) [6, 7] _ [_] mixed (fun _ _ _ _ _ h => h) [] (by kernel_rfl) ?_
 refine yG rfl (pF u54) ?_
 refine yG rfl (pL u52) ?_
 refine yG rfl (pF u54) ?_
 refine yG rfl (pL u45) ?_
 refine yG rfl (pF u54) ?_
 refine SR.store rfl rfl rfl Et Et rfl rfl rfl rfl Up ?_
 refine SR.nilP (H := _) rfl (List.Perm.swap _ _ _) ?_
 refine xF u54 ?_
 refine xS ?_
 refine wn [1, 3, 4] ?_
 refine gG ?_; intros; rename_i ops hG
 refine xF u54 ?_
 refine xG (pL u45) ?_
 refine xG (PO.lenSl u45 Et) ?_
 refine bB ?_
 refine xM ?_
 refine zG (fun _ => pF u54) ?_
 refine zG (fun hc => PO.load1 u52 rfl (Eg hc) Me rfl) ?_
 refine zG (fun _ => PO.build u176 rfl rfl rfl (EvP.cons Ev.const (EvP.cons Ev.const EvP.nil)) rfl) ?_
 refine WL.callG (GU.t (hG _ _ rfl) rfl) (fun hc => ⟨Ev.func, (E3 (Eg hc) (Eg hc) Ev.func), eachFo_ct 174 [] foP 0 8 _ _ _ x.fs.l _ _ (fun f hf h' hh => foE_ct hg f (hO.fw f hf)) (hfr.mono (View.le.refl _) Sb)⟩) Lb ?_
 refine xP ?_
 refine xA ?_
 refine WL.nil (meetI [(5, .bool (((x.bl.length : Int) == 1) && each x.fs.l 0 8 foP))] (h'' := .pt b4 (.cells [.int .i64 1, .int .i64 1].toArray 176 (0, 0)) :: .pt b3 (.cells (spE (.mk x.k Go.Ty.zeroT x.names zeroE false nilS x.fs x.ba x.bc x.bl)).toArray 54 (0, 0)) :: .pt b1 (.cells (spE x).toArray 54 (0, 0)) :: h) ?_ Su Sb ⟨.mk x.k Go.Ty.zeroT x.names zeroE false nilS x.fs x.ba x.bc x.bl, ((x.bl.length : Int) == 1) && each x.fs.l 0 8 foP, 1, 1, ⟨⟨by omega, by unfold wantS; rw [if_neg c14, if_neg c23, if_neg c39, if_neg c55], ⟨hsr.b, hsr.nr, (zr h).e, (zr h).v, hsr.fr⟩⟩, by unfold fineS; rw [if_neg c14, if_neg c23, if_neg c39, if_neg c55], rfl, by rw [if_neg c14]⟩, rfl, rfl⟩)
 exact Su
 replace c63 := f_eq c63
 refine gD ?_; intros
 refine xC ?_
 refine wn [2] ?_
 refine WC.ret (wR (h) ?_)
 exact ⟨by unfold spP; rw [if_neg (by omega)], rfl⟩
 rintro _ _ ⟨w, fb, lo, hi, ⟨⟨hkk, hw, hwr⟩, hfb, hlo, hhi⟩, rfl, rfl⟩
 refine WC.frm rfl ?_
 subst hlo
 refine gG ?_; intros; rename_i ops hG
 refine xM ?_
 refine xM ?_
 refine zG (fun _ => pF u54) ?_
 refine zG (fun hc => PO.load1 u48 rfl (Eg hc) Me rfl) ?_
 refine zG (fun _ => pA u176) ?_
 refine WL.callG (GU.t (hG _ _ rfl) rfl) (fun hc => ⟨Ev.func, (E3 (Eg hc) (Eg hc) Ev.func), eachSs_ct 65 [] Go.Lx.name 1 hi _ _ _ x.names.l _ _ (fun s hs h' hh => name_ct s _ _ hg (Nat.le_trans (hO.nw s hs) (by decide))) (hnr.mono (View.le.refl _) Sb)⟩) Lb ?_
 refine xP ?_
 refine xM ?_
 refine zG (fun _ => pA u54) ?_
 refine zG (fun _ => pA u54) ?_
 refine WL.callG (GU.t (hG _ _ rfl) rfl) (fun hc => ⟨Ev.func, (E2 (Eg hc) (Eg hc)), sameSF_ct x w (hsr.mono Sb) (hwr.mono Sb)⟩) Lb ?_
 refine xP ?_
 refine xA ?_
 refine wn [2] ?_
 try clear hG ops
 refine WC.ret (wR (h) ?_)
 exact ⟨by unfold spP; rw [if_pos hkk, ← hfb, ← hw, ← hhi], rfl⟩
theorem plain1_ct {m : View} {h : List Res} (hg : Glob m) (b3 : Nat) (u : Us) (x : Gu) (hb : Res.pt b3 (.cells (usE u).toArray 178 (0, 0)) ∈ h) (hO : GOk m h x) : CT Tryz.prog 123 [guV x, .pointer (some ⟨b3, 0, none⟩)] h m (Pure1 h (.bool (inG u x))) := by
 refine CT.body Tryz.call123 Tryz.func123 rfl Tryz.ntmps123 Lb rfl ?_
 refine gD ?_; intros
 refine xX fun b2 => ?_
 refine xC ?_
 refine wn [1, 2] ?_
 refine gG ?_; intros; rename_i ops hG
 refine xF u70 ?_
 refine xG (pL u68) ?_
 refine xF u178 ?_
 refine xG (PO.load1 u68 rfl Et (List.Mem.tail _ hb) rfl) ?_
 refine bD ?_
 refine xM ?_
 refine zG (fun _ => pF u70) ?_
 refine zG (fun hc => PO.load1 u68 rfl (Eg hc) Me rfl) ?_
 refine zG (fun _ => pF u178) ?_
 refine zG (fun hc => PO.load1 u68 rfl (Eg hc) (List.Mem.tail _ hb) rfl) ?_
 refine zG (fun hc => PO.bin (Eg hc) (Eg hc) rfl) ?_
 refine xP ?_
 refine xM ?_
 refine zG (fun _ => pA u70) ?_
 refine WL.callG (GU.t (hG _ _ rfl) rfl) (fun hc => ⟨Ev.func, (E1 (Eg hc)), guard_ct0 hg x (hO.mono Sb)⟩) Lb ?_
 refine xP ?_
 refine xA ?_
 refine wn [3] ?_
 try clear hG ops
 refine WC.ret (wR (h) ?_)
 exact ⟨rfl, rfl⟩
theorem plain2_ct {m : View} {h : List Res} (n : Int) : CT Tryz.prog 132 [.int .i64 n] h m (Pure1 h (.bool (decide (n ≥ 0) && decide (n < 8)))) := by
 refine CT.body Tryz.call132 Tryz.func132 rfl Tryz.ntmps132 Lb rfl ?_
 refine gD ?_; intros
 refine xC ?_
 refine wn [0] ?_
 refine gG ?_; intros; rename_i ops hG
 refine xM ?_
 refine bB ?_
 refine xM ?_
 refine zM ?_
 refine zG (fun hc => PO.bin (Eg hc) Ev.const rfl) ?_
 refine xP ?_
 refine xA ?_
 refine wn [2] ?_
 try clear hG ops
 refine WC.ret (wR (h) ?_)
 exact ⟨rfl, rfl⟩
set_option maxHeartbeats 4000000 in
theorem plain_ct {m : View} {h : List Res} (hg : Glob m) (p : Pr) (hO : P1 m h p) : CT Tryz.prog 81 [prV p] h m (Pure1 h (.bool (plainP p))) := by
 have hn2 : p.name.length ≤ 9223372036854775807 := Nat.le_trans hO.n (by decide)
 have htg := hO.tg.rd
 have hex := hO.ex.rd
 have hgr := hO.g
 have hpn := hO.pn
 have hsr := SRd.of hO.sp
 refine CT.body Tryz.call81 Tryz.func81 rfl Tryz.ntmps81 Lb rfl ?_
 refine gD ?_; intros
 refine xX fun b1 => ?_
 refine xC ?_
 refine wn [1] ?_
 refine gD ?_; intros
 refine xF u56 ?_
 refine xG (pL u41) ?_
 refine xf (E1 Et) (fields_ct hg p.k) ?_
 refine xM ?_
 refine xE ?_
 refine xE ?_
 refine xW fun b3 => ?_
 refine xS ?_
 refine xA ?_
 refine wn [1, 3, 4] ?_
 refine gG ?_; intros; rename_i ops hG
 refine xM ?_
 refine xG (PO.not Et) ?_
 refine xM ?_
 refine zG (fun _ => pF u56) ?_
 refine zG (fun hc => PO.loadA u43 rfl rfl (Eg hc) Me rfl) ?_
 refine WL.callG (GU.f (hG _ _ rfl) rfl) (fun hc => ⟨Ev.func, (E1 (Eg hc)), rep_ct hg p.rep hO.rn (hO.rb.mono Sb) (hO.rc.mono Sb)⟩) Lb ?_
 refine zG (fun hc => PO.not (Eg hc)) ?_
 refine xQ ?_
 refine wn [1, 3, 20] ?_
 try clear hG ops
 refine gE ?_; intros
 refine wc (fun c20 => ?_) fun c20 => ?_
 have hR : plainP p = false := by unfold plainP; rw [if_pos (show (!(fieldsP p.k).2 || !repP p.rep) = true from c20)]
 refine gD ?_; intros
 refine xC ?_
 refine wn [2] ?_
 refine WC.ret (wR (h) ?_)
 exact ⟨by rw [hR], rfl⟩
 have hR : plainP p = if p.rep.name != [] then (if !(fieldsP p.k).1.rep then false else plainU p (repU (fieldsP p.k).1)) else plainU p (fieldsP p.k).1 := by
   unfold plainP
   rw [if_neg (by rw [show (!(fieldsP p.k).2 || !repP p.rep) = false from c20]; decide)]
 refine WC.skip (kp [1, 3] ?_)
 refine gD ?_; intros
 refine xF u56 ?_
 refine xF u43 ?_
 refine xG (pL u9) ?_
 refine xG (PO.neqS Et Ev.const) ?_
 refine wn [1, 3, 24] ?_
 (repeat refine WC.seqK fun K hK => ?_)
 refine WC.cutK (by assumption) [1, 3] rfl (fun F' h' => ∃ u : Us, (plainP p = plainU p u) ∧ F' = [] ∧ .pt b3 (.cells (usE u).toArray 178 (0, 0)) :: .pt b1 (.cells (prE p).toArray 56 (0, 0)) :: h = h') ?_ ?_
 refine gE ?_; intros
 refine wc (fun c24 => ?_) fun c24 => ?_
 rw [if_pos (show (p.rep.name != []) = true from c24)] at hR
 refine gD ?_; intros
 refine xF u178 ?_
 refine xG (pL u4) ?_
 refine xG (PO.not Et) ?_
 refine wn [1, 3, 27] ?_
 refine gE ?_; intros
 refine wc (fun c27 => ?_) fun c27 => ?_
 rw [if_pos (show (!(fieldsP p.k).1.rep) = true from c27)] at hR
 refine gD ?_; intros
 refine xC ?_
 refine wn [2] ?_
 refine WC.ret (wR (h) ?_)
 exact ⟨by rw [hR], rfl⟩
 rw [if_neg (by rw [show (!(fieldsP p.k).1.rep) = false from c27]; decide)] at hR
 refine WC.skip (kp [1, 3] ?_)
 refine gD ?_; intros
 refine xF u178 ?_
 refine xG (pA u176) ?_
 refine xG (PO.loadAV (vs := allC) u176 rfl rfl Ev.global rfl (fun j v hj => by rw [Nat.zero_add]; exact hg.sAll j v hj)) ?_
 refine xG (PO.eqlA u176 (by kernel_rfl) (by kernel_rfl) Et Et rfl) ?_
 refine wn [1, 3, 31] ?_
 refine gE ?_; intros
 refine wc (fun c31 => ?_) fun c31 => ?_
 have hA : allU (fieldsP p.k).1 = true := by unfold allU; simpa using c31
 have hR : plainP p = plainU p { (fieldsP p.k).1 with p0 := 1, p1 := 1 } := by rw [hR]; unfold repU; rw [if_pos hA]
 refine gD ?_; intros
 refine xG (PO.loadAV (vs := oneC) u176 rfl rfl Ev.global rfl (fun j v hj => by rw [Nat.zero_add]; exact hg.sOne j v hj)) ?_
 refine xF u178 ?_
 refine xS ?_
 refine WL.nil (meetI [] (h'' := .pt b3 (.cells (usE ({ (fieldsP p.k).1 with p0 := 1, p1 := 1 })).toArray 178 (0, 0)) :: .pt b1 (.cells (prE p).toArray 56 (0, 0)) :: h) ?_ Su Sb ⟨{ (fieldsP p.k).1 with p0 := 1, p1 := 1 }, hR, rfl, rfl⟩)
 exact Su
 have hA : ¬ allU (fieldsP p.k).1 = true := by unfold allU; simpa using c31
 have hR : plainP p = plainU p { (fieldsP p.k).1 with g0 := 1, g1 := 1 } := by rw [hR]; unfold repU; rw [if_neg hA]
 refine gD ?_; intros
 refine xG (PO.loadAV (vs := oneC) u176 rfl rfl Ev.global rfl (fun j v hj => by rw [Nat.zero_add]; exact hg.sOne j v hj)) ?_
 refine xF u178 ?_
 refine xS ?_
 refine WL.nil (meetI [] (h'' := .pt b3 (.cells (usE ({ (fieldsP p.k).1 with g0 := 1, g1 := 1 })).toArray 178 (0, 0)) :: .pt b1 (.cells (prE p).toArray 56 (0, 0)) :: h) ?_ Su Sb ⟨{ (fieldsP p.k).1 with g0 := 1, g1 := 1 }, hR, rfl, rfl⟩)
 exact Su
 rw [if_neg (by rw [show (p.rep.name != []) = false from c24]; decide)] at hR
 refine WC.skip (meetI [] (h'' := .pt b3 (.cells (usE ((fieldsP p.k).1)).toArray 178 (0, 0)) :: .pt b1 (.cells (prE p).toArray 56 (0, 0)) :: h) ?_ Su Sb ⟨(fieldsP p.k).1, hR, rfl, rfl⟩)
 exact Su
 rintro _ _ ⟨u, hu, rfl, rfl⟩
 refine WC.frm rfl ?_
 refine gD ?_; intros
 refine xG (PO.build u176 rfl rfl rfl EvP.nil rfl) ?_
 refine xW fun b5 => ?_
 refine xS ?_
 refine wn [1, 3, 5] ?_
 refine gD ?_; intros
 refine xF u178 ?_
 refine xG (pL u4) ?_
 refine wn [1, 3, 5, 38] ?_
 (repeat refine WC.seqK fun K hK => ?_)
 refine WC.cutK (by assumption) [1, 3, 5] rfl (fun F' h' => ∃ lo : Int, ∃ hi : Int, (lo = (if u.procs then (p.ll.length : Int) else 0) ∧ hi = (if u.procs then (p.ll.length : Int) else 0)) ∧ F' = [] ∧ .pt b5 (.cells [.int .i64 lo, .int .i64 hi].toArray 176 (0, 0)) :: .pt b3 (.cells (usE u).toArray 178 (0, 0)) :: .pt b1 (.cells (prE p).toArray 56 (0, 0)) :: h = h') ?_ ?_
 refine gE ?_; intros
 refine wc (fun c38 => ?_) fun c38 => ?_
 refine gD ?_; intros
 refine xF u56 ?_
 refine xG (pL u45) ?_
 refine xG (PO.lenSl u45 Et) ?_
 refine xF u56 ?_
 refine xG (pL u45) ?_
 refine xG (PO.lenSl u45 Et) ?_
 refine xG (PO.build u176 rfl rfl rfl (EvP.cons Et (EvP.cons Et EvP.nil)) rfl) ?_
 refine xS ?_
 refine WL.nil (meetI [] (h'' := .pt b5 (.cells [.int .i64 ((p.ll.length : Int)), .int .i64 ((p.ll.length : Int))].toArray 176 (0, 0)) :: .pt b3 (.cells (usE u).toArray 178 (0, 0)) :: .pt b1 (.cells (prE p).toArray 56 (0, 0)) :: h) ?_ Su Sb ⟨(p.ll.length : Int), (p.ll.length : Int), ⟨by rw [if_pos c38], by rw [if_pos c38]⟩, rfl, rfl⟩)
 exact Su
 refine WC.skip (meetI [] (h'' := .pt b5 (.cells [.int .i64 0, .int .i64 0].toArray 176 (0, 0)) :: .pt b3 (.cells (usE u).toArray 178 (0, 0)) :: .pt b1 (.cells (prE p).toArray 56 (0, 0)) :: h) ?_ Su Sb ⟨0, 0, ⟨by rw [if_neg (by rw [c38]; decide)], by rw [if_neg (by rw [c38]; decide)]⟩, rfl, rfl⟩)
 exact Su
 rintro _ _ ⟨lo, hi, ⟨hlo, hhi⟩, rfl, rfl⟩
 refine WC.frm rfl ?_
 refine gD ?_; intros
 refine xG (PO.makeFunc Evs.nil (E1 Et)) ?_
 refine xA ?_
 refine wn [1, 3, 5, 6] ?_
 refine gE ?_; intros
 refine dS [5, 12, 19, 23, 30, 33, 34, 41, 48, 54, 62] (.op 0 (.op 1 (.op 2 (.op 3 (.op 4 (.op 5 (.op 6 (.op 7 (.op 8 (.op 9 (.op 10 (.op 11 (.op 12 (.op 13 (.op 14 (.op 15 (.op 16 (.op 17 (.op 18 (.op 20 (.op 21 (.op 22 (.op 19 (.op 23 (.op 24 (.op 25 (.op 26 (.op 27 (.op 28 (.op 29 (.op 31 (.op 32 (.op 30 (.op 33 (.op 34 (.op 35 (.op 36 (.op 37 (.op 38 (.op 39 (.op 40 (.op 41 (.op 42 (.op 43 (.op 44 (.op 45 (.op 46 (.op 47 (.op 48 (.op 49 (.op 50 (.op 51 (.op 52 (.op 53 (.op 54 (.op 55 (.op 56 (.op 57 (.op 58 (.op 59 (.op 60 (.op 61 (.op 62 (.op 63 (.op 64 (.op 65 (.op 66 (.op 67 (.op 68 (.op 69 (.op 70 (.op 71 .nil)))))))))))))))))))))))))))))))))))))))))))))))))))))))))))))))))))))))) [72, 73, 74, 75, 76] mixed ?_
 refine yG rfl (pF u178) ?_
 refine yG rfl (pA u176) ?_
 refine yG rfl (pF u56) ?_
 refine yG rfl (pL u45) ?_
 refine yG rfl (PO.lenSl u45 Et) ?_
 refine yf rfl (E2 Et Et) (fun fr => has_ct u.p0 u.p1 p.ll.length _ _) ?_
 refine yG rfl (PO.move Et) ?_
 refine SR.poG rfl rfl (GU.t rfl rfl) (fun hc => PO.fieldAddr u56 rfl (Nat.ne_of_beq_eq_false rfl) Et) Lb ?_
 refine SR.poG rfl rfl (GU.t rfl rfl) (fun hc => PO.load1 u44 rfl (Eg hc) Me rfl) Lb ?_
 refine SR.poG rfl rfl (GU.t rfl rfl) (fun hc => PO.fieldAddr u178 rfl (Nat.ne_of_beq_eq_false rfl) Et) Lb ?_
 refine SR.poG rfl rfl (GU.t rfl rfl) (fun hc => PO.loadA u176 rfl rfl (Eg hc) Me rfl) Lb ?_
 refine SR.poG rfl rfl (GU.t rfl rfl) (fun hc => PO.move Et) Lb ?_
 refine SR.callG rfl rfl (GU.t rfl rfl) (fun hc => ⟨Ev.func, (E3 (Eg hc) (Eg hc) (Eg hc)), fun fr => eachGu_ct 123 [.pointer (some ⟨b3, 0, none⟩)] (inG u) u.g0 u.g1 _ _ _ p.gl _ _ (fun x hx h' hh => plain1_ct hg b3 u x (hh.subset (List.mem_append_right _ Me)) ((hO.gs x hx).mono (List.Sublist.trans Sb hh))) (hgr.mono (View.le.refl _) Sb)⟩) Lb ?_
 refine yG rfl (PO.pickAnd rfl rfl) ?_
 refine yG rfl (PO.move Et) ?_
 refine SR.poG rfl rfl (GU.t rfl rfl) (fun hc => PO.fieldAddr u178 rfl (Nat.ne_of_beq_eq_false rfl) Et) Lb ?_
 refine SR.poG rfl rfl (GU.t rfl rfl) (fun hc => PO.load1 u4 rfl (Eg hc) Me rfl) Lb ?_
 refine SR.poG rfl rfl (GU.t rfl rfl) (fun hc => PO.fieldAddr u56 rfl (Nat.ne_of_beq_eq_false rfl) Et) Lb ?_
 refine SR.poG rfl rfl (GU.t rfl rfl) (fun hc => PO.load1 u9 rfl (Eg hc) Me rfl) Lb ?_
 refine SR.poG rfl rfl (GU.t rfl rfl) (fun hc => PO.fieldAddr u56 rfl (Nat.ne_of_beq_eq_false rfl) Et) Lb ?_
 refine SR.poG rfl rfl (GU.t rfl rfl) (fun hc => PO.load1 u9 rfl (Eg hc) Me rfl) Lb ?_
 refine SR.poG rfl rfl (GU.t rfl rfl) (fun hc => PO.eqlS (Eg hc) Ev.const) Lb ?_
 refine SR.callG rfl rfl (GU.t rfl rfl) (fun hc => ⟨Ev.func, (E1 (Eg hc)), fun fr => name_ct p.name _ _ hg hn2⟩) Lb ?_
 refine SR.callG rfl rfl (GU.t rfl rfl) (fun hc => ⟨Ev.func, (E3 (Eg hc) (Eg hc) (Eg hc)), fun fr => either_ct _ _ _ _ _⟩) Lb ?_
 refine yG rfl (PO.pickAnd rfl rfl) ?_
 refine yG rfl (PO.move Et) ?_
 refine SR.poG rfl rfl (GU.t rfl rfl) (fun hc => PO.fieldAddr u178 rfl (Nat.ne_of_beq_eq_false rfl) Et) Lb ?_
 refine SR.poG rfl rfl (GU.t rfl rfl) (fun hc => PO.load1 u4 rfl (Eg hc) Me rfl) Lb ?_
 refine SR.poG rfl rfl (GU.t rfl rfl) (fun hc => PO.fieldAddr u56 rfl (Nat.ne_of_beq_eq_false rfl) Et) Lb ?_
 refine SR.poG rfl rfl (GU.t rfl rfl) (fun hc => PO.loadA u27 rfl rfl (Eg hc) Me rfl) Lb ?_
 refine SR.poG rfl rfl (GU.t rfl rfl) (fun hc => PO.fieldAddr u56 rfl (Nat.ne_of_beq_eq_false rfl) Et) Lb ?_
 refine SR.poG rfl rfl (GU.t rfl rfl) (fun hc => PO.loadA u27 rfl rfl (Eg hc) Me rfl) Lb ?_
 refine SR.callG rfl rfl (GU.t rfl rfl) (fun hc => ⟨Ev.func, (E1 (Eg hc)), fun fr => elem_ct hg p.ch (hO.ch.mono Sb)⟩) Lb ?_
 refine SR.callG rfl rfl (GU.t rfl rfl) (fun hc => ⟨Ev.func, (E1 (Eg hc)), fun fr => none_ct p.ch (hO.ch.t.mono Sb)⟩) Lb ?_
 refine SR.callG rfl rfl (GU.t rfl rfl) (fun hc => ⟨Ev.func, (E3 (Eg hc) (Eg hc) (Eg hc)), fun fr => either_ct _ _ _ _ _⟩) Lb ?_
 refine yG rfl (PO.pickAnd rfl rfl) ?_
 refine yG rfl (PO.move Et) ?_
 refine SR.poG rfl rfl (GU.t rfl rfl) (fun hc => PO.fieldAddr u56 rfl (Nat.ne_of_beq_eq_false rfl) Et) Lb ?_
 refine SR.poG rfl rfl (GU.t rfl rfl) (fun hc => PO.load1 u25 rfl (Eg hc) Me rfl) Lb ?_
 refine SR.poG rfl rfl (GU.t rfl rfl) (fun hc => PO.fieldAddr u178 rfl (Nat.ne_of_beq_eq_false rfl) Et) Lb ?_
 refine SR.poG rfl rfl (GU.t rfl rfl) (fun hc => PO.loadA u176 rfl rfl (Eg hc) Me rfl) Lb ?_
 refine SR.callG rfl rfl (GU.t rfl rfl) (fun hc => ⟨Ev.func, (E3 (Eg hc) (Eg hc) Ev.func), fun fr => eachEx_ct 128 [] elemE u.t0 u.t1 _ _ _ p.tg.l _ _ (fun x hx h' hh => elem_ct hg x ((hO.tg.ok x hx).mono (List.Sublist.trans Sb hh))) (htg.mono (View.le.refl _) Sb)⟩) Lb ?_
 refine yG rfl (PO.pickAnd rfl rfl) ?_
 refine yG rfl (PO.move Et) ?_
 refine SR.poG rfl rfl (GU.t rfl rfl) (fun hc => PO.fieldAddr u56 rfl (Nat.ne_of_beq_eq_false rfl) Et) Lb ?_
 refine SR.poG rfl rfl (GU.t rfl rfl) (fun hc => PO.load1 u25 rfl (Eg hc) Me rfl) Lb ?_
 refine SR.poG rfl rfl (GU.t rfl rfl) (fun hc => PO.fieldAddr u178 rfl (Nat.ne_of_beq_eq_false rfl) Et) Lb ?_
 refine SR.poG rfl rfl (GU.t rfl rfl) (fun hc => PO.loadA u176 rfl rfl (Eg hc) Me rfl) Lb ?_
 refine SR.callG rfl rfl (GU.t rfl rfl) (fun hc => ⟨Ev.func, (E3 (Eg hc) (Eg hc) Ev.func), fun fr => eachEx_ct 17 [] mayE u.e0 u.e1 _ _ _ p.ex.l _ _ (fun x hx h' hh => may_ct hg x _ ((hO.ex.ok x hx).t.mono (List.Sublist.trans Sb hh)) (hO.ex.ok x hx).w) (hex.mono (View.le.refl _) Sb)⟩) Lb ?_
 refine yG rfl (PO.pickAnd rfl rfl) ?_
 refine yG rfl (PO.move Et) ?_
 refine SR.poG rfl rfl (GU.t rfl rfl) (fun hc => PO.fieldAddr u56 rfl (Nat.ne_of_beq_eq_false rfl) Et) Lb ?_
 refine SR.poG rfl rfl (GU.t rfl rfl) (fun hc => PO.load1 u46 rfl (Eg hc) Me rfl) Lb ?_
 refine SR.poG rfl rfl (GU.t rfl rfl) (fun hc => PO.loadA u176 rfl rfl Et Me rfl) Lb ?_
 refine SR.callG rfl rfl (GU.t rfl rfl) (fun hc => ⟨Ev.func, (E3 (Eg hc) (Eg hc) Ev.func), fun fr => eachNn_ct 132 [] (fun n => decide (n ≥ 0) && decide (n < 8)) lo hi _ _ _ p.pn.l _ _ (fun x _ _ _ => plain2_ct x) (hpn.mono (View.le.refl _) Sb)⟩) Lb ?_
 refine yG rfl (PO.pickAnd rfl rfl) ?_
 refine yG rfl (PO.move Et) ?_
 refine SR.poG rfl rfl (GU.t rfl rfl) (fun hc => PO.fieldAddr u178 rfl (Nat.ne_of_beq_eq_false rfl) Et) Lb ?_
 refine SR.poG rfl rfl (GU.t rfl rfl) (fun hc => PO.load1 u4 rfl (Eg hc) Me rfl) Lb ?_
 refine SR.poG rfl rfl (GU.t rfl rfl) (fun hc => PO.move (Eg hc)) Lb ?_
 refine SR.poG rfl rfl (GU.nt rfl rfl) (fun hc => PO.fieldAddr u56 rfl (Nat.ne_of_beq_eq_false rfl) Et) Lb ?_
 refine SR.poG rfl rfl (GU.nt rfl rfl) (fun hc => PO.loadA u54 rfl rfl (Eg hc) Me rfl) Lb ?_
 refine SR.callG rfl rfl (GU.nt rfl rfl) (fun hc => ⟨Ev.func, (E1 (Eg hc)), fun fr => spec_ct hg p.sp (hO.sp.mono Sb)⟩) Lb ?_
 refine SR.poG rfl rfl (GU.t rfl rfl) (fun hc => PO.pickAndN hc rfl rfl) Lb ?_
 refine SR.poG rfl rfl (GU.t rfl rfl) (fun hc => PO.move (Eg hc)) Lb ?_
 refine SR.poG rfl rfl (GU.nf rfl rfl) (fun hc => PO.fieldAddr u178 rfl (Nat.ne_of_beq_eq_false rfl) Et) Lb ?_
 refine SR.poG rfl rfl (GU.nf rfl rfl) (fun hc => PO.load1 u4 rfl (Eg hc) Me rfl) Lb ?_
 refine SR.poG rfl rfl (GU.nf rfl rfl) (fun hc => PO.not (Eg hc)) Lb ?_
 refine SR.poG rfl rfl (GU.nf rfl rfl) (fun hc => PO.move (Eg hc)) Lb ?_
 refine SR.poG rfl rfl (GU.nt rfl rfl) (fun hc => PO.fieldAddr u56 rfl (Nat.ne_of_beq_eq_false rfl) Et) Lb ?_
 refine SR.poG rfl rfl (GU.nt rfl rfl) (fun hc => PO.loadA u54 rfl rfl (Eg hc) Me rfl) Lb ?_
 refine SR.poG rfl rfl (GU.nt rfl rfl) (fun hc => PO.build u54 rfl rfl rfl EvP.nil rfl) Lb ?_
 refine SR.nil rfl rfl ?_
 refine WL.callG (GU.nt rfl rfl) (fun hc => ⟨Ev.func, (E2 (Eg hc) (Eg hc)), sameZ_ct p.sp (hsr.mono Sb)⟩) Lb ?_
 refine WL.poG (GU.nf rfl rfl) (fun hc => PO.pickAndN hc rfl rfl) Lb ?_
 refine zG (fun hc => PO.pickOrN hc rfl rfl) ?_
 refine xP ?_
 refine xA ?_
 refine wn [2] ?_
 try clear hG ops
 refine WC.ret (wR (h) ?_)
 exact ⟨by rw [hu]; unfold plainU; rw [← hlo, show hi = lo from hhi.trans hlo.symm], rfl⟩
abbrev ctR (bc : Nat) (q : Int) : Res := .pt bc (.cells [.int .i64 q].toArray 120 (0, 0))
theorem mayH_at {l : List Pr} {x : Pr} (h : l[0]? = some x) (d q : Int) : mayH l d q = mayC x d false q := by
 cases l with
 | nil => cases h
 | cons y r => cases h; rfl
theorem mayC_rng {p : Pr} {d left : Int} {pl : Bool} (h0 : 0 ≤ left) (h : (mayC p d pl left).1 = true) : 0 ≤ (mayC p d pl left).2 ∧ (mayC p d pl left).2 ≤ left := by
 obtain ⟨h1, h2⟩ := (mayC_cnt p d pl left h0 h).2 h
 exact ⟨h2, by omega⟩
def mayR (p : Pr) (bl d : Int) (pl : Bool) (i : Nat) (q : Int) : Bool × Int := if (mayL (p.ll.drop i) bl pl q).1 then mayG p.gl (d + 2) (mayL (p.ll.drop i) bl pl q).2 else mayL (p.ll.drop i) bl pl q
set_option maxHeartbeats 4000000 in
theorem count_ct {m : View} (hg : Glob m) (p : Pr) : ∀ (h : List Res) (bc : Nat) (d left : Int) (pl : Bool), POk m h p → (0 ≤ d ∧ d ≤ 34) → (0 ≤ left ∧ left ≤ 2048) →
   CT Tryz.prog 53 [.pointer (some ⟨bc, 0, none⟩), prV p, .int .i64 d, .bool pl] (ctR bc left :: h) m (Pure1 (ctR bc (mayC p d pl left).2 :: h) (.bool (mayC p d pl left).1)) := by
 refine Pr.ind (q := fun p => ∀ (h : List Res) (bc : Nat) (d left : Int) (pl : Bool), POk m h p → (0 ≤ d ∧ d ≤ 34) → (0 ≤ left ∧ left ≤ 2048) →
   CT Tryz.prog 53 [.pointer (some ⟨bc, 0, none⟩), prV p, .int .i64 d, .bool pl] (ctR bc left :: h) m (Pure1 (ctR bc (mayC p d pl left).2 :: h) (.bool (mayC p d pl left).1))) (fun p ih h bc d left pl hP hd hlf => ?_) p
 have hO := hP.own
 have hlr := hO.l
 have hgr := hO.g
 have hbr := hO.sp.b
 have lmx := hlr.mx
 have lle := hlr.le
 have gmx := hgr.mx
 have gle := hgr.le
 have he := mayC_eq p d pl left
 obtain ⟨G, hG⟩ : ∃ G, G = mayC p d pl left := ⟨_, rfl⟩
 rw [← hG] at he ⊢
 refine CT.body Tryz.call53 Tryz.func53 rfl Tryz.ntmps53 Lb rfl ?_
 refine gD ?_; intros
 refine xX fun b5 => ?_
 refine xC ?_
 refine wn [0, 2, 3, 5] ?_
 refine gD ?_; intros
 refine xM ?_
 refine xG (PO.nilCheck Et) ?_
 refine xF u120 ?_
 refine xG (pL u3) ?_
 refine xG (PO.subI Et Ev.const (by omega)) ?_
 refine xG (PO.nilCheck Et) ?_
 refine xF u120 ?_
 refine xS ?_
 refine wn [0, 2, 3, 5] ?_
 refine gG ?_; intros; rename_i ops hG
 refine xM ?_
 refine xG (PO.nilCheck Et) ?_
 refine xF u120 ?_
 refine xG (pL u3) ?_
 refine bB ?_
 refine xM ?_
 refine zM ?_
 refine zG (fun hc => PO.bin (Eg hc) Ev.const rfl) ?_
 refine xQ ?_
 refine xM ?_
 refine zG (fun _ => pA u56) ?_
 refine WL.callG (GU.f (hG _ _ rfl) rfl) (fun hc => ⟨Ev.func, (E1 (Eg hc)), plain_ct hg p (hO.mono Sb)⟩) Lb ?_
 refine zG (fun hc => PO.not (Eg hc)) ?_
 refine xQ ?_
 refine xM ?_
 refine zG (fun _ => pF u56) ?_
 refine zG (fun hc => PO.load1 u41 rfl (Eg hc) Me rfl) ?_
 refine zG (fun hc => PO.bin (Eg hc) Ev.const rfl) ?_
 refine zV ?_
 refine zM ?_
 refine zG (fun hc => PO.not (Eg hc)) ?_
 refine zG (fun hc => PO.pickAndN hc rfl rfl) ?_
 refine xQ ?_
 refine wn [0, 2, 3, 5, 43] ?_
 try clear hG ops
 refine gE ?_; intros
 refine wc (fun c43 => ?_) fun c43 => ?_
 have hh : mayHead p d pl left = true := c43
 rw [hh, if_pos rfl] at he
 refine gD ?_; intros
 refine xC ?_
 refine wn [8] ?_
 refine WC.ret (wR (ctR bc (left - 1) :: h) ?_)
 exact ⟨by rw [he], by rw [he]⟩
 have hh : mayHead p d pl left = false := c43
 rw [hh, if_neg (by decide)] at he
 obtain ⟨⟨hl0, hd2⟩, hpl⟩ := head_no2 hh
 have hV := plain_spec hpl
 obtain ⟨y, hy⟩ : ∃ y : Pr, 0 < p.sp.bl.length → p.sp.bl[0]? = some y := by
   cases hb : p.sp.bl with
   | nil => exact ⟨p, fun q => absurd q (by simp)⟩
   | cons y r => exact ⟨y, fun _ => rfl⟩
 refine WC.skip (kp [0, 2, 3, 5] ?_)
 refine gD ?_; intros
 refine xM ?_
 refine bI ?_
 refine xA ?_
 refine wn [0, 2, 3, 5, 9] ?_
 refine gD ?_; intros
 refine xF u56 ?_
 refine xG (pL u41) ?_
 refine wn [0, 2, 3, 5, 9, 47] ?_
 (repeat refine WC.seqK fun K hK => ?_)
 refine WC.cutK (by assumption) [0, 2, 3, 5] rfl (fun F' h' => ∃ bl : Int, ∃ q : Int, ((0 ≤ bl ∧ bl ≤ 34) ∧ (0 ≤ q ∧ q ≤ 2048) ∧ G = mayR p bl d (pl && (p.k == 18)) 0 q) ∧ F' = [(9, .int .i64 bl)] ∧ .pt b5 (.cells (prE p).toArray 56 (0, 0)) :: ctR bc q :: h = h') ?_ ?_
 refine gD ?_; intros
 refine bB ?_
 refine xA ?_
 refine wn [0, 2, 3, 5, 9, 47, 48] ?_
 refine gE ?_; intros
 refine wc (fun c48 => ?_) fun c48 => ?_
 replace c48 := t_eq c48
 rw [if_neg (by omega), if_pos c48] at he
 refine gD ?_; intros
 refine xM ?_
 refine bI ?_
 refine xA ?_
 refine WL.nil (meetI [(9, .int .i64 (d + 2))] (h'' := .pt b5 (.cells (prE p).toArray 56 (0, 0)) :: ctR bc (left - 1) :: h) ?_ Su Sb ⟨d + 2, left - 1, ⟨⟨by omega, by omega⟩, ⟨by omega, by omega⟩, by rw [he, show (p.k == 18) = false by rw [c48]; rfl, Bool.and_false]; rfl⟩, rfl, rfl⟩)
 exact Su
 replace c48 := f_eq c48
 refine gD ?_; intros
 refine bB ?_
 refine xA ?_
 refine wn [0, 2, 3, 5, 9, 52] ?_
 refine gE ?_; intros
 refine wc (fun c52 => ?_) fun c52 => ?_
 replace c52 := t_eq c52
 rw [if_pos c52] at he
 have hsl : p.sp.bl.length ≤ 1 := sp_bl (hV.sp (by rw [c52]; rfl))
 have hyi : 0 < p.sp.bl.length → In y p := fun q => In.s (List.mem_of_getElem? (hy q))
 have hS := mayS_eq p.sp d (left - 1)
 have hS0 : ¬ 0 < p.sp.bl.length → mayH p.sp.bl (d + 1) (left - 1) = (true, left - 1) := fun q => by
   have hb : p.sp.bl = [] := List.eq_nil_of_length_eq_zero (by omega)
   rw [hb]
   rfl
 have hcall : (!(p.sp.cs && decide (d + 2 > 32)) && decide ((p.sp.bl.length : Int) > 0)) = true → CT Tryz.prog 53 [.pointer (some ⟨bc, 0, none⟩), prV y, .int .i64 (d + 1), .bool false] (.pt b5 (.cells (prE p).toArray 56 (0, 0)) :: ctR bc (left - 1) :: h) m
     (Pure1 (.pt b5 (.cells (prE p).toArray 56 (0, 0)) :: ctR bc (mayS p.sp d (left - 1)).2 :: h) (.bool (mayH p.sp.bl (d + 1) (left - 1)).1)) := by
   intro hc
   have h1 : 0 < p.sp.bl.length := by simp at hc; omega
   have h2 : ¬ (p.sp.cs && decide (d + 2 > 32)) = true := by intro q; rw [q] at hc; simp at hc
   rw [hS, if_neg h2, mayH_at (hy h1)]
   exact CT.perm (List.Perm.swap _ _ _) (ih y (hyi h1) (.pt b5 (.cells (prE p).toArray 56 (0, 0)) :: h) bc (d + 1) (left - 1) false ((hP.sub (hyi h1)).mono Sb) ⟨by omega, by omega⟩ ⟨by omega, by omega⟩) (List.Perm.swap _ _ _)
 have hskip : (!(p.sp.cs && decide (d + 2 > 32)) && decide ((p.sp.bl.length : Int) > 0)) = false → (Res.pt b5 (.cells (prE p).toArray 56 (0, 0)) :: ctR bc (mayS p.sp d (left - 1)).2 :: h) = .pt b5 (.cells (prE p).toArray 56 (0, 0)) :: ctR bc (left - 1) :: h := by
   intro hc
   have h3 : (mayS p.sp d (left - 1)).2 = left - 1 := by
     rw [hS]
     split
     · rfl
     · rename_i h2
       rw [hS0 (fun q => (by
         have h4 : decide ((p.sp.bl.length : Int) > 0) = true := by simp; omega
         rw [h4, Bool.and_true] at hc
         exact h2 (by simpa using hc)))]
   rw [h3]
 refine gD ?_; intros
 refine xM ?_
 refine xA ?_
 refine wn [0, 2, 3, 5, 9] ?_
 refine gG ?_; intros; rename_i ops hG
 refine xF u56 ?_
 refine xF u54 ?_
 refine xF u51 ?_
 refine xG (pL u4) ?_
 refine xM ?_
 refine zM ?_
 refine WL.poG (GU.t (hG _ _ rfl) rfl) (fun hc => PO.addI (Eg hc) Ev.const (by first | omega | (simp at hc; omega))) Lb ?_
 refine zG (fun hc => PO.bin (Eg hc) Ev.const rfl) ?_
 refine xP ?_
 refine xM ?_
 refine zG (fun _ => pF u56) ?_
 refine zG (fun hc => PO.fieldAddr u54 rfl (Nat.ne_of_beq_eq_false rfl) (Eg hc)) ?_
 refine zG (fun hc => PO.load1 u45 rfl (Eg hc) Me rfl) ?_
 refine zG (fun hc => PO.lenSl u45 (Eg hc)) ?_
 refine zG (fun hc => PO.bin (Eg hc) Ev.const rfl) ?_
 refine zV ?_
 refine zM ?_
 refine zG (fun _ => pF u56) ?_
 refine zG (fun hc => PO.fieldAddr u54 rfl (Nat.ne_of_beq_eq_false rfl) (Eg hc)) ?_
 refine zG (fun hc => PO.load1 u45 rfl (Eg hc) Me rfl) ?_
 refine WL.poG (GU.nt (hG _ _ rfl) rfl) (fun hc => PO.idx EL45.und EL45.size EL45.posz (Eg hc) Ev.const Rr rfl (q := 0) (by simp at hc; omega)) Lb ?_
 refine WL.poG (GU.nt (hG _ _ rfl) rfl) (fun hc => PO.loadFA u56 rfl rfl prE_len Rr (Eg hc) (hy (by simp at hc; omega)) rfl rfl (Nat.succ_pos _)) Lb ?_
 refine zM ?_
 refine WL.poG (GU.nt (hG _ _ rfl) rfl) (fun hc => PO.addI (Eg hc) Ev.const (by first | omega | (simp at hc; omega))) Lb ?_
 refine WL.callGK (GU.nt (hG _ _ rfl) rfl) (fun hc => ⟨Ev.func, (E4 (Eg hc) (Eg hc) (Eg hc) Ev.const), hcall hc⟩) (fun hc => (hskip hc)) Lb ?_
 refine zG (fun hc => PO.not (Eg hc)) ?_
 refine zG (fun hc => PO.pickAndN hc rfl rfl) ?_
 refine xQ ?_
 refine wn [0, 2, 3, 5, 9, 82] ?_
 try clear hG ops
 refine gE ?_; intros
 refine wc (fun c82 => ?_) fun c82 => ?_
 have d82 : ((p.sp.cs && decide (d + 2 > 32)) || (decide ((p.sp.bl.length : Int) > 0) && !(mayH p.sp.bl (d + 1) (left - 1)).1)) = true := c82
 have hS1 : (mayS p.sp d (left - 1)).1 = false := by
   rw [hS]
   split
   · rfl
   · rename_i h2
     rw [show (p.sp.cs && decide (d + 2 > 32)) = false by simpa using h2, Bool.false_or] at d82
     simp only [Bool.and_eq_true, Bool.not_eq_true'] at d82
     exact d82.2
 rw [hS1, if_neg (by decide)] at he
 refine gD ?_; intros
 refine xC ?_
 refine wn [8] ?_
 refine WC.ret (wR (ctR bc (mayS p.sp d (left - 1)).2 :: h) ?_)
 exact ⟨by rw [he, hS1], by rw [he]⟩
 have d82 : ((p.sp.cs && decide (d + 2 > 32)) || (decide ((p.sp.bl.length : Int) > 0) && !(mayH p.sp.bl (d + 1) (left - 1)).1)) = false := c82
 simp only [Bool.or_eq_false_iff] at d82
 have hSH : mayS p.sp d (left - 1) = mayH p.sp.bl (d + 1) (left - 1) := by rw [hS, if_neg (by rw [d82.1]; decide)]
 have hS1 : (mayS p.sp d (left - 1)).1 = true := by
   rw [hSH]
   by_cases hb : 0 < p.sp.bl.length
   · have h9 := d82.2
     rw [show decide ((p.sp.bl.length : Int) > 0) = true by simp; omega, Bool.true_and] at h9
     simpa using h9
   · rw [hS0 hb]
 have hrb : 0 ≤ (mayS p.sp d (left - 1)).2 ∧ (mayS p.sp d (left - 1)).2 ≤ left - 1 := by
   rw [hSH] at hS1 ⊢
   obtain ⟨_, r1, r2⟩ := mayH_cnt hl0 hsl (fun x _ d pl q h0 h => mayC_cnt x d pl q h0 h) hS1
   omega
 rw [hS1, if_pos rfl] at he
 refine WC.skip (meetI [(9, .int .i64 d)] (h'' := .pt b5 (.cells (prE p).toArray 56 (0, 0)) :: ctR bc ((mayS p.sp d (left - 1)).2) :: h) ?_ Su Sb ⟨d, (mayS p.sp d (left - 1)).2, ⟨⟨by omega, by omega⟩, ⟨by omega, by omega⟩, by rw [he, show (p.k == 18) = true by rw [c52]; rfl, Bool.and_true]; rfl⟩, rfl, rfl⟩)
 exact Su
 replace c52 := f_eq c52
 rw [if_neg c52, if_neg c48] at he
 refine WC.skip (meetI [(9, .int .i64 (d + 1))] (h'' := .pt b5 (.cells (prE p).toArray 56 (0, 0)) :: ctR bc (left - 1) :: h) ?_ Su Sb ⟨d + 1, left - 1, ⟨⟨by omega, by omega⟩, ⟨by omega, by omega⟩, by rw [he, show (p.k == 18) = false by simpa using c52, Bool.and_false]; rfl⟩, rfl, rfl⟩)
 exact Su
 rintro _ _ ⟨bl, q, ⟨hbl, hq, hG1⟩, rfl, rfl⟩
 refine WC.frm rfl ?_
 refine gD ?_; intros
 refine xF u56 ?_
 refine xG (pL u45) ?_
 refine xG (PO.lenSl u45 Et) ?_
 refine xK ?_
 refine wn [0, 2, 3, 5, 9, 84, 85, 86] ?_
 refine gE ?_; intros
 refine WC.loopI [0, 2, 3, 5, 9, 84, 85] rfl (fun μ F' h' => ∃ i : Nat, ∃ q : Int, ((i ≤ p.ll.length ∧ (0 ≤ q ∧ q ≤ 2048)) ∧ G = mayR p bl d (pl && (p.k == 18)) i q) ∧ p.ll.length - i = μ ∧ F' = [(86, .int .i64 i)] ∧ .pt b5 (.cells (prE p).toArray 56 (0, 0)) :: ctR bc q :: h = h') (p.ll.length - 0) [(86, .int .i64 0)] (h0 := .pt b5 (.cells (prE p).toArray 56 (0, 0)) :: ctR bc q :: h) ?_ Sb ⟨0, q, ⟨⟨by omega, hq⟩, hG1⟩, rfl, rfl, rfl⟩ ?_
 exact Su
 rintro _ _ _ ⟨i, q, ⟨⟨hk, hq⟩, hJ⟩, rfl, rfl, rfl⟩
 refine WC.frm rfl ?_
 refine gD ?_; intros
 refine bD ?_
 refine wn [0, 2, 3, 5, 9, 84, 85, 86, 87] ?_
 refine gE ?_; intros
 refine wc (fun c87 => ?_) fun c87 => ?_
 replace c87 := dT c87
 obtain ⟨x, hx⟩ := get_some (l := p.ll) (k := i) (by omega)
 have hxm := List.mem_of_getElem? hx
 have hL : mayL (p.ll.drop i) bl (pl && (p.k == 18)) q = if (mayC x bl (pl && (p.k == 18)) q).1 then mayL (p.ll.drop (i + 1)) bl (pl && (p.k == 18)) (mayC x bl (pl && (p.k == 18)) q).2 else mayC x bl (pl && (p.k == 18)) q := by rw [drop_at hx]; rfl
 unfold mayR at hJ
 rw [hL] at hJ
 refine WC.skip (kp [0, 2, 3, 5, 9, 84, 85, 86] ?_)
 refine gD ?_; intros
 refine xG (PO.idx EL45.und EL45.size EL45.posz (Ev.tmp rfl) (Ev.tmp rfl) Rr rfl (by omega)) ?_
 refine xG (PO.loadFA u56 rfl rfl prE_len Rr (Ev.tmp rfl) (by assumption) rfl rfl (Nat.succ_pos _)) ?_
 refine xW fun b11 => ?_
 refine xS ?_
 refine wn [0, 2, 3, 5, 9, 11, 84, 85, 86] ?_
 refine gG ?_; intros; rename_i ops hG
 refine xM ?_
 refine xG (pA u56) ?_
 refine xM ?_
 refine xM ?_
 refine xM ?_
 refine zG (fun _ => pF u56) ?_
 refine zG (fun hc => PO.load1 u41 rfl (Eg hc) Me rfl) ?_
 refine zG (fun hc => PO.bin (Eg hc) Ev.const rfl) ?_
 refine xP ?_
 refine xg (E4 Et Et Et Et) (CT.perm (List.perm_middle (l₁ := [_, _])) (ih x (In.l hxm) (.pt b11 (.cells (prE x).toArray 56 (0, 0)) :: .pt b5 (.cells (prE p).toArray 56 (0, 0)) :: h) bc bl q (pl && (p.k == 18)) ((hP.sub (In.l hxm)).mono Sb) hbl hq) (List.perm_middle (l₁ := [_, _])).symm) ?_
 rintro _ _ ⟨rfl, rfl⟩
 refine xG (PO.not Et) ?_
 refine wn [0, 2, 3, 5, 9, 84, 85, 86, 100] ?_
 try clear hG ops
 refine gE ?_; intros
 refine wc (fun c100 => ?_) fun c100 => ?_
 have hc0 : (mayC x bl (pl && (p.k == 18)) q).1 = false := by simpa using c100
 simp only [hc0, Bool.false_eq_true, if_false] at hJ
 refine gD ?_; intros
 refine xC ?_
 refine wn [8] ?_
 refine WC.ret (wR (ctR bc (mayC x bl (pl && (p.k == 18)) q).2 :: h) ?_)
 exact ⟨by rw [hJ, hc0], by rw [hJ]⟩
 have hc0 : (mayC x bl (pl && (p.k == 18)) q).1 = true := by simpa using c100
 rw [hc0, if_pos rfl] at hJ
 have hrg := mayC_rng hq.1 hc0
 refine WC.skip (kp [0, 2, 3, 5, 9, 84, 85, 86] ?_)
 refine gD ?_; intros
 refine bI ?_
 refine xM ?_
 refine WL.nil (loopBackI (p.ll.length - (i + 1)) [(86, .int .i64 (i + 1))] (h'' := .pt b5 (.cells (prE p).toArray 56 (0, 0)) :: ctR bc ((mayC x bl (pl && (p.k == 18)) q).2) :: h) (by omega) ?_ Su Sb ⟨i + 1, (mayC x bl (pl && (p.k == 18)) q).2, ⟨⟨by omega, ⟨by omega, by omega⟩⟩, hJ⟩, rfl, rfl, rfl⟩)
 exact Su
 replace c87 := dF c87
 have hJ : G = mayG (p.gl.drop 0) (d + 2) q := by
   rw [hJ]
   unfold mayR
   rw [show p.ll.drop i = [] from List.drop_eq_nil_of_le (by omega)]
   rfl
 refine WC.exit (kp [0, 2, 5] ?_)
 refine gD ?_; intros
 refine xF u56 ?_
 refine xG (pL u44) ?_
 refine xG (PO.lenSl u44 Et) ?_
 refine xK ?_
 refine wn [0, 2, 103, 104, 105] ?_
 refine gE ?_; intros
 refine WC.loopI [0, 2, 103, 104] rfl (fun μ F' h' => ∃ i : Nat, ∃ q : Int, ((i ≤ p.gl.length ∧ (0 ≤ q ∧ q ≤ 2048)) ∧ G = mayG (p.gl.drop i) (d + 2) q) ∧ p.gl.length - i = μ ∧ F' = [(105, .int .i64 i)] ∧ .pt b5 (.cells (prE p).toArray 56 (0, 0)) :: ctR bc q :: h = h') (p.gl.length - 0) [(105, .int .i64 0)] (h0 := .pt b5 (.cells (prE p).toArray 56 (0, 0)) :: ctR bc q :: h) ?_ Sb ⟨0, q, ⟨⟨by omega, hq⟩, hJ⟩, rfl, rfl, rfl⟩ ?_
 exact Su
 rintro _ _ _ ⟨i, q, ⟨⟨hk, hq⟩, hJ⟩, rfl, rfl, rfl⟩
 refine WC.frm rfl ?_
 refine gD ?_; intros
 refine bD ?_
 refine wn [0, 2, 103, 104, 105, 106] ?_
 refine gE ?_; intros
 refine wc (fun c106 => ?_) fun c106 => ?_
 replace c106 := dT c106
 obtain ⟨g, hgx⟩ := get_some (l := p.gl) (k := i) (by omega)
 have hgm := List.mem_of_getElem? hgx
 have hgv := gu_spec (hV.gs g hgm).1
 obtain ⟨x, hx⟩ := get_some (l := g.bl) (k := 0) (by have := hgv.body; omega)
 have hxi : In x p := In.g hgm (List.mem_of_getElem? hx)
 have hx1 : 0 < g.bl.length := (List.getElem?_eq_some_iff.1 hx).1
 have hgb := (hO.gs g hgm).b
 have hGG : mayG (p.gl.drop i) (d + 2) q = if (mayC x (d + 2) false q).1 then mayG (p.gl.drop (i + 1)) (d + 2) (mayC x (d + 2) false q).2 else mayC x (d + 2) false q := by
   rw [drop_at hgx, ← mayH_at hx, ← mayG1_eq]
   rfl
 rw [hGG] at hJ
 refine WC.skip (kp [0, 2, 103, 104, 105] ?_)
 refine gD ?_; intros
 refine xG (PO.idx EL44.und EL44.size EL44.posz (Ev.tmp rfl) (Ev.tmp rfl) Rr rfl (by omega)) ?_
 refine xG (PO.loadFA u70 rfl rfl guE_len Rr (Ev.tmp rfl) (by assumption) rfl rfl (Nat.succ_pos _)) ?_
 refine xW fun b13 => ?_
 refine xS ?_
 refine wn [0, 2, 13, 103, 104, 105] ?_
 refine gD ?_; intros
 refine xM ?_
 refine xF u70 ?_
 refine xG (pL u45) ?_
 refine xG (PO.idx EL45.und EL45.size EL45.posz (Ev.tmp rfl) Ev.const Rr rfl (q := 0) (by omega)) ?_
 refine xG (PO.loadFA u56 rfl rfl prE_len Rr (Ev.tmp rfl) (by assumption) rfl rfl (Nat.succ_pos _)) ?_
 refine xM ?_
 refine bI ?_
 refine xg (E4 Et Et Et Ev.const) (CT.perm (List.perm_middle (l₁ := [_, _])) (ih x hxi (.pt b13 (.cells (guE g).toArray 70 (0, 0)) :: .pt b5 (.cells (prE p).toArray 56 (0, 0)) :: h) bc (d + 2) q false ((hP.sub hxi).mono Sb) ⟨by omega, by omega⟩ hq) (List.perm_middle (l₁ := [_, _])).symm) ?_
 rintro _ _ ⟨rfl, rfl⟩
 refine xG (PO.not Et) ?_
 refine wn [0, 2, 103, 104, 105, 117] ?_
 refine gE ?_; intros
 refine wc (fun c117 => ?_) fun c117 => ?_
 have hc0 : (mayC x (d + 2) false q).1 = false := by simpa using c117
 rw [hc0, if_neg (by decide)] at hJ
 refine gD ?_; intros
 refine xC ?_
 refine wn [8] ?_
 refine WC.ret (wR (ctR bc (mayC x (d + 2) false q).2 :: h) ?_)
 exact ⟨by rw [hJ, hc0], by rw [hJ]⟩
 have hc0 : (mayC x (d + 2) false q).1 = true := by simpa using c117
 rw [hc0, if_pos rfl] at hJ
 have hrg := mayC_rng hq.1 hc0
 refine WC.skip (kp [0, 2, 103, 104, 105] ?_)
 refine gD ?_; intros
 refine bI ?_
 refine xM ?_
 refine WL.nil (loopBackI (p.gl.length - (i + 1)) [(105, .int .i64 (i + 1))] (h'' := .pt b5 (.cells (prE p).toArray 56 (0, 0)) :: ctR bc ((mayC x (d + 2) false q).2) :: h) (by omega) ?_ Su Sb ⟨i + 1, (mayC x (d + 2) false q).2, ⟨⟨by omega, ⟨by omega, by omega⟩⟩, hJ⟩, rfl, rfl, rfl⟩)
 exact Su
 replace c106 := dF c106
 have hJ : G = (true, q) := by rw [hJ, show p.gl.drop i = [] from List.drop_eq_nil_of_le (by omega)]; rfl
 refine WC.exit (kp [] ?_)
 refine gD ?_; intros
 refine xC ?_
 refine wn [8] ?_
 refine WC.ret (wR (ctR bc q :: h) ?_)
 exact ⟨by rw [hJ], by rw [hJ]⟩
theorem smay_ct {m : View} {h : List Res} (hg : Glob m) (p : Pr) (hP : POk m h p) : CT Tryz.prog 34 [prV p] h m (Pure1 h (.bool (mayP p))) := by
 refine CT.body Tryz.call34 Tryz.func34 rfl Tryz.ntmps34 Lb rfl ?_
 refine gD ?_; intros
 refine xX fun b1 => ?_
 refine xC ?_
 refine wn [1] ?_
 refine gD ?_; intros
 refine xG (PO.build u120 rfl rfl rfl (EvP.cons Ev.const EvP.nil) rfl) ?_
 refine xX fun b5 => ?_
 refine xA ?_
 refine wn [1, 3] ?_
 refine gD ?_; intros
 refine xM ?_
 refine xG (pA u56) ?_
 refine xg (E4 Et Et Ev.const Ev.const) (count_ct hg p (.pt b1 (.cells (prE p).toArray 56 (0, 0)) :: h) b5 0 2048 true (hP.mono Sb) ⟨by omega, by omega⟩ ⟨by omega, by omega⟩) ?_
 rintro _ _ ⟨rfl, rfl⟩
 refine xA ?_
 refine wn [2] ?_
 refine WC.ret (wR (h) ?_)
 exact ⟨rfl, rfl⟩
end Go.Proofs.YtdhmplmpbcnojaaGreatDoor
end
/- TpQ -/
section
namespace Go.Proofs.YtdhmplmpbcnojaaGreatDoor
open Go.Eng Go.Pc Go.Tg Go
open Go.Xp hiding B nameT
open Go.Ty (Ty Vr eqT tyV cellT PrOk VOk prL encV encV_len encI encI_len)
open Go.Lx (encB encB_len)
set_option maxRecDepth 100000
theorem processE_ct {m : View} {h : List Res} {s : List En} {a : Option Addr} {k c : Nat} (hg : Glob m) (p : Pr) (hv : Vld p) (hs : ScR m h a k c s) (hP : POk m h p) (hn : s.length + 16 * cntP p ≤ 1000000) :
   CT Tryz.prog 35 [.slice a k c, prV p] h m (Pure1 h (.int .i64 (chkP p (shL s)))) := process_ct hg p hv h s a k c hs hP hn
theorem check_ct {m : View} {h : List Res} (hg : Glob m) (p : Pr) (hP : POk m h p) (l : List Sp) (a : Option Addr) (k c : Nat) (hr : Rd m h a k c 16 (fl spE l)) (hv : VOkE m h l) (hn : l.length ≤ 900000) :
   CT Tryz.prog 16 [prV p, .slice a k c] h m (Pure1 h (.int .i64 (checkX (mayP p) (envX l) p))) := by
 refine CT.body Tryz.call16 Tryz.func16 rfl Tryz.ntmps16 Lb rfl ?_
 refine gD ?_; intros
 refine xX fun b2 => ?_
 refine xC ?_
 refine wn [1, 2] ?_
 refine gD ?_; intros
 refine xG (pA u56) ?_
 refine xf (E1 Et) (smay_ct hg p (hP.mono Sb)) ?_
 refine xG (PO.not Et) ?_
 refine wn [1, 2, 7] ?_
 refine gE ?_; intros
 refine wc (fun c7 => ?_) fun c7 => ?_
 have hm : mayP p = false := by simpa using c7
 refine gD ?_; intros
 refine xC ?_
 refine wn [4] ?_
 refine WC.ret (wR (h) ?_)
 exact ⟨by rw [hm]; rfl, rfl⟩
 have hm : mayP p = true := by simpa using c7
 obtain ⟨hvl, hcn⟩ := mayP_vld hm
 refine WC.skip (kp [1, 2] ?_)
 refine gE ?_; intros
 refine dS [1] (.op 0 (.op 2 (.op 1 .nil))) [3, 4] mixed ?_
 refine yG rfl (PO.move Et) ?_
 refine yG rfl (pA u56) ?_
 refine SR.callF rfl rfl Ev.func (E1 Et) (fun fr => environment_ct l a k c (hr.mono (View.le.refl _) Sb) (by omega)) Lb fun a9 c9 => ?_
 refine SR.nil rfl rfl ?_
 refine xf (E2 Et Et) (CT.knowRow Tryz.call35 (a := a9) Me (fun q1 q2 q3 => processE_ct hg p hvl (ScR.env (hv.mono Sb) (Rd.ofRow q3 q1 q2 Me)) (hP.mono Sb) (by rw [envS_len]; omega))) ?_
 refine xA ?_
 refine wn [4] ?_
 refine WC.ret (wR (h) ?_)
 exact ⟨by rw [hm]; rfl, rfl⟩
end Go.Proofs.YtdhmplmpbcnojaaGreatDoor
end
/- ExpF -/
section
namespace Go.Proofs.YtdhmplmpbcnojaaGreatDoor
open Go.Eng Go.Xp Go
open Go.Lx (encB encB_len)
set_option maxRecDepth 100000
theorem primR_ct (k : Int) (h : List Res) (m : View) : CT Tryz.prog 69 [.int .u8 k] h m (Pure1 h (.bool (((k == 1) || (k == 2)) || (k == 3)))) := by
 refine CT.body Tryz.call69 Tryz.func69 rfl Tryz.ntmps69 Lb rfl ?_
 refine gD ?_; intros
 refine xC ?_
 refine wn [0] ?_
 refine gG ?_; intros; rename_i ops hG
 refine xM ?_
 refine bB ?_
 refine xM ?_
 refine zM ?_
 refine zG (fun hc => PO.bin (Eg hc) Ev.const rfl) ?_
 refine xQ ?_
 refine xM ?_
 refine zM ?_
 refine zG (fun hc => PO.bin (Eg hc) Ev.const rfl) ?_
 refine xQ ?_
 refine xA ?_
 refine wn [2] ?_
 try clear hG ops
 refine WC.ret (wR (h) ?_)
 exact ⟨rfl, rfl⟩
theorem own_ct {m : View} (e : Ex) (hw : Wf e) (h : List Res) : CT Tryz.prog 50 [exV e] h m (Pure1 h (.bool (ownR e))) := by
 obtain ⟨⟨hk, ho, ht⟩, hn, hs⟩ := hw.spec
 have hs2 : e.s.length ≤ 9223372036854775807 := by omega
 refine CT.body Tryz.call50 Tryz.func50 rfl Tryz.ntmps50 Lb rfl ?_
 refine gD ?_; intros
 refine xX fun b1 => ?_
 refine xC ?_
 refine wn [1] ?_
 refine gD ?_; intros
 refine xF u27 ?_
 refine xG (pL u22) ?_
 refine xG (PO.build u27 rfl rfl rfl (EvP.cons Et EvP.nil) rfl) ?_
 refine xW fun b3 => ?_
 refine xS ?_
 refine wn [1, 3] ?_
 refine gD ?_; intros
 refine xC ?_
 refine wn [1, 3, 4] ?_
 refine gD ?_; intros
 refine xC ?_
 refine wn [1, 3, 4, 5] ?_
 refine gD ?_; intros
 refine xF u27 ?_
 refine xG (pL u22) ?_
 refine wn [1, 3, 4, 5, 10] ?_
 (repeat refine WC.seqK fun K hK => ?_)
 refine WC.cutK (by assumption) [1, 3] rfl (fun F' h' => ∃ f' : Bool, ∃ n' : Int, ∃ o' : Int, ∃ t' : Int, ∃ v' : Int, ∃ s' : B, (ownR e = finR e f' n' o' t' v' s') ∧ F' = [(4, .int .i64 n'), (5, .bool f')] ∧ .pt b3 (.cells [.int .u8 e.k, .int .u8 o', .int .u8 t', .int .i32 v', str s', .slice none 0 0].toArray 27 (0, 0)) :: .pt b1 (.cells (exE e).toArray 27 (0, 0)) :: h = h') ?_ ?_
 refine gD ?_; intros
 refine bB ?_
 refine xA ?_
 refine wn [1, 3, 4, 5, 10, 11] ?_
 refine gE ?_; intros
 refine wc (fun c11 => ?_) fun c11 => ?_
 replace c11 := t_eq c11
 refine gD ?_; intros
 refine xF u27 ?_
 refine xG (pL u21) ?_
 refine xF u27 ?_
 refine xS ?_
 refine WL.nil (meetI [(4, .int .i64 0), (5, .bool true)] (h'' := .pt b3 (.cells [.int .u8 e.k, .int .u8 0, .int .u8 0, .int .i32 (e.n), str ([]), .slice none 0 0].toArray 27 (0, 0)) :: .pt b1 (.cells (exE e).toArray 27 (0, 0)) :: h) ?_ Su Sb ⟨true, 0, 0, 0, e.n, [], own_num c11, rfl, rfl⟩)
 exact Su
 replace c11 := f_eq c11
 refine gD ?_; intros
 refine bB ?_
 refine xA ?_
 refine wn [1, 3, 4, 10, 16] ?_
 refine gE ?_; intros
 refine wc (fun c16 => ?_) fun c16 => ?_
 replace c16 := t_eq c16
 refine gD ?_; intros
 refine xF u27 ?_
 refine xG (pL u21) ?_
 refine xF u27 ?_
 refine xS ?_
 refine wn [1, 3, 4] ?_
 refine gG ?_; intros; rename_i ops hG
 refine xF u27 ?_
 refine xG (pL u21) ?_
 refine bB ?_
 refine xM ?_
 refine zG (fun _ => pF u27) ?_
 refine zG (fun hc => PO.load1 u21 rfl (Eg hc) Me rfl) ?_
 refine zG (fun hc => PO.bin (Eg hc) Ev.const rfl) ?_
 refine xP ?_
 refine xA ?_
 refine WL.nil (meetI [(4, .int .i64 0), (5, .bool ((decide (e.n ≥ 0) && decide (e.n ≤ 255))))] (h'' := .pt b3 (.cells [.int .u8 e.k, .int .u8 0, .int .u8 0, .int .i32 (e.n), str ([]), .slice none 0 0].toArray 27 (0, 0)) :: .pt b1 (.cells (exE e).toArray 27 (0, 0)) :: h) ?_ Su Sb ⟨(decide (e.n ≥ 0) && decide (e.n ≤ 255)), 0, 0, 0, e.n, [], own_byte hn c16, rfl, rfl⟩)
 exact Su
 replace c16 := f_eq c16
 refine gD ?_; intros
 refine bB ?_
 refine xA ?_
 refine wn [1, 3, 4, 10, 29] ?_
 refine gE ?_; intros
 refine wc (fun c29 => ?_) fun c29 => ?_
 replace c29 := t_eq c29
 have q3 := own_bool hn c29
 refine gD ?_; intros
 refine xF u27 ?_
 refine xG (pL u21) ?_
 refine xF u27 ?_
 refine xS ?_
 refine wn [1, 3, 4] ?_
 refine gG ?_; intros; rename_i ops hG
 refine xF u27 ?_
 refine xG (pL u21) ?_
 refine bB ?_
 refine xM ?_
 refine zG (fun _ => pF u27) ?_
 refine zG (fun hc => PO.load1 u21 rfl (Eg hc) Me rfl) ?_
 refine zG (fun hc => PO.bin (Eg hc) Ev.const rfl) ?_
 refine xQ ?_
 refine xA ?_
 refine WL.nil (meetI [(4, .int .i64 0), (5, .bool (((e.n == 0) || (e.n == 1))))] (h'' := .pt b3 (.cells [.int .u8 e.k, .int .u8 0, .int .u8 0, .int .i32 (e.n), str ([]), .slice none 0 0].toArray 27 (0, 0)) :: .pt b1 (.cells (exE e).toArray 27 (0, 0)) :: h) ?_ Su Sb ⟨((e.n == 0) || (e.n == 1)), 0, 0, 0, e.n, [], q3, rfl, rfl⟩)
 exact Su
 replace c29 := f_eq c29
 skip
 refine gD ?_; intros
 refine bB ?_
 refine xA ?_
 refine wn [1, 3, 4, 10, 42] ?_
 refine gE ?_; intros
 refine wc (fun c42 => ?_) fun c42 => ?_
 have hk4 : e.k = 4 := t_eq c42
 refine WC.skip (kp [1, 3, 4, 10, 42] ?_)
 refine gE ?_; intros
 refine wc (fun c42 => ?_) fun c42 => ?_
 have q4 := own_name (.inl hk4)
 refine gD ?_; intros
 refine xF u27 ?_
 refine xG (pL u9) ?_
 refine xF u27 ?_
 refine xS ?_
 refine wn [1, 3, 4] ?_
 refine gD ?_; intros
 refine xF u27 ?_
 refine xG (pL u9) ?_
 refine xf (E1 Et) (nameR_ct _ _ _ (by assumption)) ?_
 refine xA ?_
 refine WL.nil (meetI [(4, .int .i64 0), (5, .bool ((Go.Lx.nameR e.s)))] (h'' := .pt b3 (.cells [.int .u8 e.k, .int .u8 0, .int .u8 0, .int .i32 0, str (e.s), .slice none 0 0].toArray 27 (0, 0)) :: .pt b1 (.cells (exE e).toArray 27 (0, 0)) :: h) ?_ Su Sb ⟨(Go.Lx.nameR e.s), 0, 0, 0, 0, e.s, q4, rfl, rfl⟩)
 exact Su
 exact absurd hk4 (f_eq c42)
 have n4 : e.k ≠ 4 := f_eq c42
 refine gD ?_; intros
 refine bB ?_
 refine xA ?_
 refine wn [1, 3, 4, 10, 42] ?_
 refine gE ?_; intros
 refine wc (fun c42 => ?_) fun c42 => ?_
 have q4 := own_name (.inr (t_eq c42))
 refine gD ?_; intros
 refine xF u27 ?_
 refine xG (pL u9) ?_
 refine xF u27 ?_
 refine xS ?_
 refine wn [1, 3, 4] ?_
 refine gD ?_; intros
 refine xF u27 ?_
 refine xG (pL u9) ?_
 refine xf (E1 Et) (nameR_ct _ _ _ (by assumption)) ?_
 refine xA ?_
 refine WL.nil (meetI [(4, .int .i64 0), (5, .bool ((Go.Lx.nameR e.s)))] (h'' := .pt b3 (.cells [.int .u8 e.k, .int .u8 0, .int .u8 0, .int .i32 0, str (e.s), .slice none 0 0].toArray 27 (0, 0)) :: .pt b1 (.cells (exE e).toArray 27 (0, 0)) :: h) ?_ Su Sb ⟨(Go.Lx.nameR e.s), 0, 0, 0, 0, e.s, q4, rfl, rfl⟩)
 exact Su
 have n9 : e.k ≠ 9 := f_eq c42
 refine gD ?_; intros
 refine bB ?_
 refine xA ?_
 refine wn [1, 3, 10, 51] ?_
 refine gE ?_; intros
 refine wc (fun c51 => ?_) fun c51 => ?_
 replace c51 := t_eq c51
 refine gD ?_; intros
 refine xF u27 ?_
 refine xG (pL u9) ?_
 refine xF u27 ?_
 refine xS ?_
 refine wn [1, 3] ?_
 refine gD ?_; intros
 refine xF u27 ?_
 refine xG (pL u9) ?_
 refine xf (E1 Et) (nameR_ct _ _ _ (by assumption)) ?_
 refine xA ?_
 refine wn [1, 3, 5] ?_
 refine gD ?_; intros
 refine xC ?_
 refine WL.nil (meetI [(4, .int .i64 1), (5, .bool ((Go.Lx.nameR e.s)))] (h'' := .pt b3 (.cells [.int .u8 e.k, .int .u8 0, .int .u8 0, .int .i32 0, str (e.s), .slice none 0 0].toArray 27 (0, 0)) :: .pt b1 (.cells (exE e).toArray 27 (0, 0)) :: h) ?_ Su Sb ⟨(Go.Lx.nameR e.s), 1, 0, 0, 0, e.s, own_index c51, rfl, rfl⟩)
 exact Su
 replace c51 := f_eq c51
 refine gD ?_; intros
 refine bB ?_
 refine xA ?_
 refine wn [1, 3, 10, 59] ?_
 refine gE ?_; intros
 refine wc (fun c59 => ?_) fun c59 => ?_
 replace c59 := t_eq c59
 refine gD ?_; intros
 refine xF u27 ?_
 refine xG (pL u23) ?_
 refine xF u27 ?_
 refine xS ?_
 refine wn [1, 3] ?_
 refine gG ?_; intros; rename_i ops hG
 refine xF u27 ?_
 refine xG (pL u23) ?_
 refine bB ?_
 refine xM ?_
 refine zG (fun _ => pF u27) ?_
 refine zG (fun hc => PO.load1 u23 rfl (Eg hc) Me rfl) ?_
 refine zG (fun hc => PO.bin (Eg hc) Ev.const rfl) ?_
 refine xP ?_
 refine xA ?_
 refine wn [1, 3, 5] ?_
 try clear hG ops
 refine gD ?_; intros
 refine xC ?_
 refine WL.nil (meetI [(4, .int .i64 1), (5, .bool ((decide (e.o ≥ 23) && decide (e.o ≤ 26))))] (h'' := .pt b3 (.cells [.int .u8 e.k, .int .u8 (e.o), .int .u8 0, .int .i32 0, str ([]), .slice none 0 0].toArray 27 (0, 0)) :: .pt b1 (.cells (exE e).toArray 27 (0, 0)) :: h) ?_ Su Sb ⟨(decide (e.o ≥ 23) && decide (e.o ≤ 26)), 1, e.o, 0, 0, [], own_mon ho c59, rfl, rfl⟩)
 exact Su
 replace c59 := f_eq c59
 refine gD ?_; intros
 refine bB ?_
 refine xA ?_
 refine wn [1, 3, 10, 72] ?_
 refine gE ?_; intros
 refine wc (fun c72 => ?_) fun c72 => ?_
 replace c72 := t_eq c72
 refine gD ?_; intros
 refine xF u27 ?_
 refine xG (pL u23) ?_
 refine xF u27 ?_
 refine xS ?_
 refine wn [1, 3] ?_
 refine gG ?_; intros; rename_i ops hG
 refine xF u27 ?_
 refine xG (pL u23) ?_
 refine bB ?_
 refine xM ?_
 refine zG (fun _ => pF u27) ?_
 refine zG (fun hc => PO.load1 u23 rfl (Eg hc) Me rfl) ?_
 refine zG (fun hc => PO.bin (Eg hc) Ev.const rfl) ?_
 refine xP ?_
 refine xA ?_
 refine wn [1, 3, 5] ?_
 try clear hG ops
 refine gD ?_; intros
 refine xC ?_
 refine WL.nil (meetI [(4, .int .i64 2), (5, .bool ((decide (e.o ≥ 1) && decide (e.o ≤ 22))))] (h'' := .pt b3 (.cells [.int .u8 e.k, .int .u8 (e.o), .int .u8 0, .int .i32 0, str ([]), .slice none 0 0].toArray 27 (0, 0)) :: .pt b1 (.cells (exE e).toArray 27 (0, 0)) :: h) ?_ Su Sb ⟨(decide (e.o ≥ 1) && decide (e.o ≤ 22)), 2, e.o, 0, 0, [], own_dya c72, rfl, rfl⟩)
 exact Su
 replace c72 := f_eq c72
 refine gD ?_; intros
 refine bB ?_
 refine xA ?_
 refine wn [1, 3, 85] ?_
 refine gE ?_; intros
 refine wc (fun c85 => ?_) fun c85 => ?_
 replace c85 := t_eq c85
 have q8 := own_conv c85
 refine gD ?_; intros
 refine xF u27 ?_
 refine xG (pL u24) ?_
 refine xF u27 ?_
 refine xS ?_
 refine wn [1, 3] ?_
 refine gD ?_; intros
 refine xF u27 ?_
 refine xG (pL u24) ?_
 refine xf (E1 Et) (primR_ct _ _ _) ?_
 refine xA ?_
 refine wn [1, 3, 5] ?_
 refine gD ?_; intros
 refine xC ?_
 refine WL.nil (meetI [(4, .int .i64 1), (5, .bool ((((e.t == 1) || (e.t == 2)) || (e.t == 3))))] (h'' := .pt b3 (.cells [.int .u8 e.k, .int .u8 0, .int .u8 (e.t), .int .i32 0, str ([]), .slice none 0 0].toArray 27 (0, 0)) :: .pt b1 (.cells (exE e).toArray 27 (0, 0)) :: h) ?_ Su Sb ⟨(((e.t == 1) || (e.t == 2)) || (e.t == 3)), 1, 0, e.t, 0, [], q8, rfl, rfl⟩)
 exact Su
 replace c85 := f_eq c85
 refine gD ?_; intros
 refine xC ?_
 refine wn [2] ?_
 refine WC.ret (wR (h) ?_)
 exact ⟨by rw [own_none c11 c16 c29 n4 n9 c51 c59 c72 c85], rfl⟩
 rintro _ _ ⟨f', n', o', t', v', s', hJ, rfl, rfl⟩
 refine WC.frm rfl ?_
 refine gG ?_; intros; rename_i ops hG
 refine xM ?_
 refine xM ?_
 refine zG (fun _ => pF u27) ?_
 refine zG (fun hc => PO.load1 u25 rfl (Eg hc) Me rfl) ?_
 refine zG (fun hc => PO.lenSl u25 (Eg hc)) ?_
 refine zM ?_
 refine zG (fun hc => PO.bin (Eg hc) (Eg hc) rfl) ?_
 refine xP ?_
 refine xM ?_
 refine zG (fun _ => pF u27) ?_
 refine zG (fun hc => PO.load1 u23 rfl (Eg hc) Me rfl) ?_
 refine zG (fun _ => pF u27) ?_
 refine zG (fun hc => PO.load1 u23 rfl (Eg hc) Me rfl) ?_
 refine zG (fun hc => PO.bin (Eg hc) (Eg hc) rfl) ?_
 refine xP ?_
 refine xM ?_
 refine zG (fun _ => pF u27) ?_
 refine zG (fun hc => PO.load1 u24 rfl (Eg hc) Me rfl) ?_
 refine zG (fun _ => pF u27) ?_
 refine zG (fun hc => PO.load1 u24 rfl (Eg hc) Me rfl) ?_
 refine zG (fun hc => PO.bin (Eg hc) (Eg hc) rfl) ?_
 refine xP ?_
 refine xM ?_
 refine zG (fun _ => pF u27) ?_
 refine zG (fun hc => PO.load1 u21 rfl (Eg hc) Me rfl) ?_
 refine zG (fun _ => pF u27) ?_
 refine zG (fun hc => PO.load1 u21 rfl (Eg hc) Me rfl) ?_
 refine zG (fun hc => PO.bin (Eg hc) (Eg hc) rfl) ?_
 refine xP ?_
 refine xM ?_
 refine zG (fun _ => pF u27) ?_
 refine zG (fun hc => PO.load1 u9 rfl (Eg hc) Me rfl) ?_
 refine zG (fun _ => pF u27) ?_
 refine zG (fun hc => PO.load1 u9 rfl (Eg hc) Me rfl) ?_
 refine zG (fun hc => PO.eqlS (Eg hc) (Eg hc)) ?_
 refine xP ?_
 refine xA ?_
 refine wn [2] ?_
 try clear hG ops
 refine WC.ret (wR (h) ?_)
 exact ⟨by rw [hJ]; rfl, rfl⟩
theorem room_ct (e : Ex) : ∀ (h : List Res) (m : View) (a b : Int), TOk m h e → Wf e → (0 ≤ a ∧ a ≤ 32) → (0 ≤ b ∧ b ≤ 1000000) →
   CT Tryz.prog 30 [exV e, .int .i64 a, .int .i64 b] h m (Pure1 h (.int .i64 ((visitE (a + 1) b e).getD (-1)))) := by
 refine Ex.ind (p := fun e => ∀ (h : List Res) (m : View) (a b : Int), TOk m h e → Wf e → (0 ≤ a ∧ a ≤ 32) → (0 ≤ b ∧ b ≤ 1000000) →
   CT Tryz.prog 30 [exV e, .int .i64 a, .int .i64 b] h m (Pure1 h (.int .i64 ((visitE (a + 1) b e).getD (-1))))) (fun e ih h m a b hT hW ha hb => ?_) e
 have hr := hT.rd
 have hmx := hr.mx
 have hkx := hr.le
 have he := visitE_eq (a + 1) b e
 have hh := head_room (e := e) ha hb.1
 refine CT.body Tryz.call30 Tryz.func30 rfl Tryz.ntmps30 Lb rfl ?_
 refine gD ?_; intros
 refine xX fun b3 => ?_
 refine xC ?_
 refine wn [1, 2, 3] ?_
 refine gG ?_; intros; rename_i ops hG
 refine xM ?_
 refine bB ?_
 refine xM ?_
 refine zM ?_
 refine zG (fun hc => PO.bin (Eg hc) Ev.const rfl) ?_
 refine xQ ?_
 refine xM ?_
 refine zG (fun _ => pA u27) ?_
 refine WL.callG (GU.f (hG _ _ rfl) rfl) (fun hc => ⟨Ev.func, (E1 (Eg hc)), own_ct _ (by assumption) _⟩) Lb ?_
 refine zG (fun hc => PO.not (Eg hc)) ?_
 refine xQ ?_
 refine wn [1, 2, 3, 18] ?_
 try clear hG ops
 refine gE ?_; intros
 refine wc (fun c18 => ?_) fun c18 => ?_
 rw [hh.trans c18, if_pos rfl] at he
 refine gD ?_; intros
 refine xC ?_
 refine wn [6] ?_
 refine WC.ret (wR (h) ?_)
 exact ⟨by rw [he]; rfl, rfl⟩
 have hno := head_no (hh.trans c18)
 rw [hh.trans c18, if_neg (by decide)] at he
 refine WC.skip (kp [1, 2, 3] ?_)
 refine gD ?_; intros
 refine xM ?_
 refine xG (PO.subI Et Ev.const (by omega)) ?_
 refine xA ?_
 refine wn [1, 2, 3] ?_
 refine gD ?_; intros
 refine xC ?_
 refine wn [1, 2, 3, 7] ?_
 refine gE ?_; intros
 refine WC.loopI [1, 3] rfl (fun μ F' h' => ∃ k : Nat, ∃ z : Int, ((k ≤ e.l.length ∧ 0 ≤ z ∧ z ≤ b) ∧ visitE (a + 1) b e = visitL (a + 1 + 1) z (e.l.drop k)) ∧ e.l.length - k = μ ∧ F' = [(2, .int .i64 z), (7, .int .i64 k)] ∧ .pt b3 (.cells (exE e).toArray 27 (0, 0)) :: h = h') (e.l.length - 0) [(2, .int .i64 (b - 1)), (7, .int .i64 0)] (h0 := .pt b3 (.cells (exE e).toArray 27 (0, 0)) :: h) ?_ Sb ⟨0, b - 1, ⟨⟨by omega, by omega, by omega⟩, he⟩, rfl, rfl, rfl⟩ ?_
 exact Su
 rintro _ _ _ ⟨k, z, ⟨⟨hk, hz0, hz1⟩, hJ⟩, rfl, rfl, rfl⟩
 refine WC.frm rfl ?_
 have hrk : Rd m (.pt b3 (.cells (exE e).toArray 27 (0, 0)) :: h) e.a e.l.length e.c 6 (fl exE e.l) := hr.mono (View.le.refl m) Sb
 refine gD ?_; intros
 refine xM ?_
 refine xF u27 ?_
 refine xG (pL u25) ?_
 refine xG (PO.lenSl u25 Et) ?_
 refine bD ?_
 refine wn [1, 2, 3, 7, 25] ?_
 refine gE ?_; intros
 refine wc (fun c25 => ?_) fun c25 => ?_
 replace c25 := dT c25
 obtain ⟨x, hx⟩ := get_some (l := e.l) (k := k) (by omega)
 have hxm := List.mem_of_getElem? hx
 rw [visitL_at hx] at hJ
 refine WC.skip (kp [1, 2, 3, 7] ?_)
 refine gD ?_; intros
 refine xF u27 ?_
 refine xG (pL u25) ?_
 refine xM ?_
 refine xG (PO.idx EL25.und EL25.size EL25.posz (Ev.tmp rfl) (Ev.tmp rfl) Rr rfl (by omega)) ?_
 refine xG (PO.loadFA u27 rfl rfl exE_len Rr (Ev.tmp rfl) (by assumption) rfl rfl (Nat.succ_pos _)) ?_
 refine xM ?_
 refine bI ?_
 refine xM ?_
 refine xf (E3 Et Et Et) (ih x hxm _ _ (a + 1) z ((hT.part hxm).mono Sb) (hW.part hxm) (by omega) (by omega)) ?_
 refine WL.val (v' := .int .i64 ((visitE (a + 1 + 1) z x).getD (-1))) rfl ?_
 refine xA ?_
 refine wn [1, 2, 3, 7] ?_
 refine gD ?_; intros
 refine xM ?_
 refine bB ?_
 refine wn [1, 2, 3, 7, 38] ?_
 refine gE ?_; intros
 refine wc (fun c38 => ?_) fun c38 => ?_
 replace c38 := dT c38
 have hn : visitE (a + 1 + 1) z x = none := by
   cases hq : visitE (a + 1 + 1) z x with
   | none => rfl
   | some q =>
     have := visit_rng _ _ _ _ hz0 hq
     rw [hq] at c38
     simp at c38
     omega
 rw [hn] at hJ
 refine gD ?_; intros
 refine xC ?_
 refine wn [6] ?_
 refine WC.ret (wR (h) ?_)
 exact ⟨by rw [hJ]; rfl, rfl⟩
 replace c38 := dF c38
 obtain ⟨q, hq⟩ : ∃ q, visitE (a + 1 + 1) z x = some q := by
   cases hq : visitE (a + 1 + 1) z x with
   | none => rw [hq] at c38; simp at c38
   | some q => exact ⟨q, rfl⟩
 have hrg := visit_rng _ _ _ _ hz0 hq
 rw [hq] at hJ
 refine WC.skip (kp [1, 2, 3, 7] ?_)
 refine gD ?_; intros
 refine xM ?_
 refine bI ?_
 refine xA ?_
 refine WL.nil (loopBackI (e.l.length - (k + 1)) [(2, .int .i64 (((visitE (a + 1 + 1) z x).getD (-1)))), (7, .int .i64 (k + 1))] (h'' := .pt b3 (.cells (exE e).toArray 27 (0, 0)) :: h) (by omega) ?_ Su Sb ⟨k + 1, ((visitE (a + 1 + 1) z x).getD (-1)), ⟨⟨by omega, by rw [hq]; exact hrg.1, by rw [hq]; show q ≤ b; omega⟩, by rw [hJ, hq]; rfl⟩, rfl, rfl, rfl⟩)
 exact Su
 replace c25 := dF c25
 rw [List.drop_eq_nil_of_le (by omega)] at hJ
 replace hJ : visitE (a + 1) b e = some z := hJ
 refine WC.exit (kp [2] ?_)
 refine gD ?_; intros
 refine xM ?_
 refine xA ?_
 refine wn [6] ?_
 refine WC.ret (wR (h) ?_)
 exact ⟨by rw [hJ]; rfl, rfl⟩
theorem mayR_ct {m : View} (e : Ex) (h : List Res) (hT : TOk m h e) (hW : Wf e) : CT Tryz.prog 12 [exV e] h m (Pure1 h (.bool (mayE e))) := by
 have hq : decide ((visitE (0 + 1) 256 e).getD (-1) ≥ 0) = mayE e := by
   unfold mayE
   rw [show (0 + 1 : Int) = 1 from rfl]
   cases hv : visitE 1 256 e with
   | none => rfl
   | some q =>
     have := visit_rng _ _ _ _ (by omega) hv
     simpa using this.1
 refine CT.body Tryz.call12 Tryz.func12 rfl Tryz.ntmps12 Lb rfl ?_
 refine gD ?_; intros
 refine xX fun b1 => ?_
 refine xC ?_
 refine wn [1] ?_
 refine gD ?_; intros
 refine xG (pA u27) ?_
 refine xf (E3 Et Ev.const Ev.const) (room_ct e _ _ 0 256 (hT.mono Sb) hW (by omega) (by omega)) ?_
 refine bB ?_
 refine xA ?_
 refine wn [2] ?_
 refine WC.ret (wR (h) ?_)
 exact ⟨by rw [← hq], rfl⟩
end Go.Proofs.YtdhmplmpbcnojaaGreatDoor
end
/- TpR -/
section
namespace Go.Proofs.YtdhmplmpbcnojaaGreatDoor
open Go.Eng Go.Pc Go.Tg Go
open Go.Xp hiding B nameT
open Go.Ty (Ty Vr eqT tyV cellT PrOk VOk prL encV encV_len encI encI_len)
open Go.Lx (encB encB_len)
set_option maxRecDepth 100000
end Go.Proofs.YtdhmplmpbcnojaaGreatDoor
end
/- TpS -/
section
namespace Go.Proofs.YtdhmplmpbcnojaaGreatDoor
open Go.Eng Go.Pc Go.Tg Go
open Go.Xp hiding B nameT
open Go.Ty (Ty Vr eqT tyV cellT PrOk VOk prL encV encV_len encI encI_len)
open Go.Lx (encB encB_len)
set_option maxRecDepth 100000
end Go.Proofs.YtdhmplmpbcnojaaGreatDoor
end
/- LwA -/
section
namespace Go.Proofs.YtdhmplmpbcnojaaGreatDoor
open Go.Eng Go.Pc Go.Tg Go
open Go.Xp hiding B nameT zeroT
open Go.Ty (Ty Vr eqT tyV cellT PrOk VOk prL encV encV_len encI encI_len zeroT)
open Go.Lx (encB encB_len)
set_option maxRecDepth 100000
theorem appO_any : ∀ l r : List Res, appO l r = some (l ++ r)
 | [], _ => rfl
 | x :: l, r => by unfold appO; rw [appO_any l r]; rfl
theorem subR (fr l r t : List Res) : r.Sublist (fr ++ ((l ++ r) ++ t)) := ((List.sublist_append_right l r).trans (List.sublist_append_left _ t)).trans (List.sublist_append_right fr _)
def Law : Value → View → List Res → Prop := fun v _ _ => v = .bool true
theorem nameX_ct (s : B) (h : List Res) (m : View) : CT Tryz.prog 19 [str s] h m (Pure1 h (exV (nmX s))) := by
 refine CT.body Tryz.call19 Tryz.func19 rfl Tryz.ntmps19 Lb rfl ?_
 refine gD ?_; intros
 refine xW fun b2 => ?_
 refine wn [0, 2] ?_
 refine gD ?_; intros
 refine xM ?_
 refine xG (PO.build u27 rfl rfl rfl (EvP.cons Ev.const (EvP.cons Et EvP.nil)) rfl) ?_
 refine xS ?_
 refine wn [2] ?_
 refine WC.ret (end1 (h' := h) (.inl rfl) rfl (RV.cellA u27 rfl rfl rfl (by (repeat (first | exact mem0 _ | apply memT | apply List.mem_append_right))) rfl) (View.le.refl m) Sb ?_)
 exact ⟨rfl, rfl⟩
theorem numX_ct (n : Int) (h : List Res) (m : View) : CT Tryz.prog 14 [.int .i32 n] h m (Pure1 h (exV (nuX n))) := by
 refine CT.body Tryz.call14 Tryz.func14 rfl Tryz.ntmps14 Lb rfl ?_
 refine gD ?_; intros
 refine xW fun b2 => ?_
 refine wn [0, 2] ?_
 refine gD ?_; intros
 refine xM ?_
 refine xG (PO.build u27 rfl rfl rfl (EvP.cons Ev.const (EvP.cons Et EvP.nil)) rfl) ?_
 refine xS ?_
 refine wn [2] ?_
 refine WC.ret (end1 (h' := h) (.inl rfl) rfl (RV.cellA u27 rfl rfl rfl (by (repeat (first | exact mem0 _ | apply memT | apply List.mem_append_right))) rfl) (View.le.refl m) Sb ?_)
 exact ⟨rfl, rfl⟩
abbrev twoR (x y : Ex) (b : Nat) : Res := .pt b (.cells (exE x ++ exE y).toArray 27 (0, 0))
abbrev oneR (x : Ex) (b : Nat) : Res := .pt b (.cells (exE x).toArray 27 (0, 0))
theorem two_ct (o : Int) (x y : Ex) (h : List Res) (m : View) : CT Tryz.prog 18 [.int .u8 o, exV x, exV y] h m (fun v _ h' => ∃ b, v = exV (twoX o x y b) ∧ h' = twoR x y b :: h) := by
 refine CT.body Tryz.call18 Tryz.func18 rfl Tryz.ntmps18 Lb rfl ?_
 refine gD ?_; intros
 refine xX fun b4 => ?_
 refine xX fun b5 => ?_
 refine xW fun b6 => ?_
 refine wn [0, 4, 5, 6] ?_
 refine gD ?_; intros
 refine xM ?_
 refine xG (PO.loadA u27 rfl rfl Et (by (repeat (first | exact mem0 _ | apply memT | apply List.mem_append_right))) rfl) ?_
 refine xG (PO.loadA u27 rfl rfl Et (by (repeat (first | exact mem0 _ | apply memT | apply List.mem_append_right))) rfl) ?_
 refine xY EL25 (EvP.cons Et (EvP.cons Et EvP.nil)) fun b10 => ?_
 refine xG (PO.build u27 rfl rfl rfl (EvP.cons Ev.const (EvP.cons Et (EvP.cons Et EvP.nil))) rfl) ?_
 refine xS ?_
 refine wn [6] ?_
 refine WC.ret (end1 (h' := twoR x y b10 :: h) (.inl rfl) rfl (RV.cellA u27 rfl rfl rfl (by (repeat (first | exact mem0 _ | apply memT | apply List.mem_append_right))) rfl) (View.le.refl m) Sb ?_)
 exact ⟨b10, rfl, rfl⟩
theorem two_t (l t : List Res) (o : Int) (x y : Ex) (m : View) : CX Tryz.prog 18 [.int .u8 o, exV x, exV y] (l ++ t) m (fun v _ h' => ∃ hp', h' = hp' ++ t ∧ ∃ b, v = exV (twoX o x y b) ∧ hp' = twoR x y b :: l) (fun _ _ => False) :=
 (CX.ofCT (X := fun _ _ => False) (two_ct o x y (l ++ t) m)).mono (fun _ _ _ ⟨b, e1, e2⟩ => ⟨twoR x y b :: l, e2, b, e1, rfl⟩) (fun _ _ h => h)
abbrev nmR (s : B) (b : Nat) : Res := .pt b (.cells (fl encB [s]).toArray 9 (0, 0))
theorem decl_ct (s : B) (t : Ty) (h : List Res) (m : View) : CT Tryz.prog 21 [str s, tyV t] h m (fun v _ h' => ∃ b, v = spV (dclS s t b) ∧ h' = nmR s b :: h) := by
 refine CT.body Tryz.call21 Tryz.func21 rfl Tryz.ntmps21 Lb rfl ?_
 refine gD ?_; intros
 refine xX fun b3 => ?_
 refine xW fun b4 => ?_
 refine wn [0, 3, 4] ?_
 refine gD ?_; intros
 refine xG (PO.loadA u30 rfl rfl Et (by (repeat (first | exact mem0 _ | apply memT | apply List.mem_append_right))) rfl) ?_
 refine xM ?_
 refine xY EL48 (EvP.cons Et EvP.nil) fun b7 => ?_
 refine xG (PO.build u54 rfl rfl rfl (EvP.cons Ev.const (EvP.cons Et (EvP.cons Et EvP.nil))) rfl) ?_
 refine xS ?_
 refine wn [4] ?_
 refine WC.ret (end1 (h' := nmR s b7 :: h) (.inl rfl) rfl (RV.cellA u54 rfl rfl rfl (by (repeat (first | exact mem0 _ | apply memT | apply List.mem_append_right))) rfl) (View.le.refl m) Sb ?_)
 exact ⟨b7, rfl, rfl⟩
structure EnvOk (m : View) (r : List Res) (a : Option Addr) (c : Nat) (L : List Sp) : Prop where
 rd : Rd m r a 6 c 16 (fl spE L)
 ok : VOkE m r L
 env : envX L = someE
 len : L.length ≤ 900000
theorem EnvOk.mono {m : View} {r r' : List Res} {a : Option Addr} {c : Nat} {L : List Sp} (q : EnvOk m r a c L) (s : r.Sublist r') : EnvOk m r' a c L := ⟨q.rd.mono (View.le.refl m) s, q.ok.mono s, q.env, q.len⟩
def someR (b2 b4 b6 b10 b11 b12 b14 b18 b19 : Nat) : List Res :=
 [.pt b19 (.cells (fl spE (someL b2 b4 b6 b10 b11 b12 b14 b18)).toArray 54 (0, 0)), nmR [99] b18, .pt b14 (.cells (fl encV [vpr b12]).toArray 102 (0, 0)), .pt b12 (.cells (fl encI [1, 3]).toArray 24 (0, 0)), nmR [112] b11, nmR [116] b10, nmR [107] b6, nmR [118] b4, nmR [120] b2]
theorem some_ok (m : View) (b2 b4 b6 b10 b11 b12 b14 b18 b19 : Nat) : EnvOk m (someR b2 b4 b6 b10 b11 b12 b14 b18 b19) (some ⟨b19, 0, none⟩) 6 (someL b2 b4 b6 b10 b11 b12 b14 b18) where
 rd := Rd.ofPt rfl (by show 6 ≤ _; decide) (List.Mem.head _)
 env := some_env _ _ _ _ _ _ _ _
 len := by show 6 ≤ 900000; decide
 ok := by
   have nm : ∀ (s : B) (b : Nat), nmR s b ∈ someR b2 b4 b6 b10 b11 b12 b14 b18 b19 → Rd m (someR b2 b4 b6 b10 b11 b12 b14 b18 b19) (some ⟨b, 0, none⟩) 1 1 1 (fl encB [s]) := fun s b hb => Rd.ofPt rfl (by decide) hb
   have nv : PrOk m (someR b2 b4 b6 b10 b11 b12 b14 b18 b19) none 0 0 [] := ⟨Rd.nilF encV 2 m _, fun _ hx => (List.not_mem_nil hx).elim, fun _ hx => (List.not_mem_nil hx).elim⟩
   refine ⟨fun x hx => ?_, fun x hx => ?_, fun x hx => ?_⟩
   · unfold someL at hx
     simp only [List.mem_cons, List.not_mem_nil, or_false] at hx
     rcases hx with rfl | rfl | rfl | rfl | rfl | rfl <;> exact nm _ _ (by unfold someR; simp)
   · unfold someL at hx
     simp only [List.mem_cons, List.not_mem_nil, or_false] at hx
     rcases hx with rfl | rfl | rfl | rfl | rfl | rfl <;> exact Rd.nilF foE 6 m _
   · unfold someL at hx
     simp only [List.mem_cons, List.not_mem_nil, or_false] at hx
     rcases hx with rfl | rfl | rfl | rfl | rfl | rfl
     · exact nv
     · exact nv
     · exact nv
     · exact nv
     · have h1 : Rd m (someR b2 b4 b6 b10 b11 b12 b14 b18 b19) (some ⟨b14, 0, none⟩) 1 1 2 (fl encV [vpr b12]) := Rd.ofPt rfl (by decide) (show (.pt b14 (.cells (fl encV [vpr b12]).toArray 102 (0, 0)) : Res) ∈ someR b2 b4 b6 b10 b11 b12 b14 b18 b19 from (by unfold someR; simp))
       have h2 : Rd m (someR b2 b4 b6 b10 b11 b12 b14 b18 b19) (some ⟨b12, 0, none⟩) 2 2 1 (fl encI [1, 3]) := Rd.ofPt rfl (by decide) (show (.pt b12 (.cells (fl encI [1, 3]).toArray 24 (0, 0)) : Res) ∈ someR b2 b4 b6 b10 b11 b12 b14 b18 b19 from (by unfold someR; simp))
       refine ⟨h1, fun v hv => ?_, fun v hv => ?_⟩
       · replace hv : v ∈ [vpr b12] := hv
         rw [List.mem_singleton] at hv
         subst hv
         exact ⟨h2⟩
       · replace hv : v ∈ [vpr b12] := hv
         rw [List.mem_singleton] at hv
         subst hv
         exact Nat.zero_le _
     · exact nv
def Some1 (m : View) (h : List Res) (v : Value) (h' : List Res) : Prop := ∃ (a : Option Addr) (c : Nat) (L : List Sp) (r : List Res), v = .slice a 6 c ∧ h' = r ++ h ∧ EnvOk m r a c L
theorem some_ct (h : List Res) (m : View) : CT Tryz.prog 22 [] h m (fun v _ h' => Some1 m h v h') := by
 refine CT.body Tryz.call22 Tryz.func22 rfl Tryz.ntmps22 Lb rfl ?_
 refine gD ?_; intros
 refine xC ?_
 refine wn [] ?_
 refine gD ?_; intros
 refine xG (PO.build u30 rfl rfl rfl (EvP.cons Ev.const EvP.nil) rfl) ?_
 refine xg (E2 Ev.const Et) (decl_ct [120] (tyK 1) _ _) ?_
 rintro _ _ ⟨b2, rfl, rfl⟩
 refine xG (PO.build u30 rfl rfl rfl (EvP.cons Ev.const (EvP.cons Ev.const EvP.nil)) rfl) ?_
 refine xg (E2 Ev.const Et) (decl_ct [118] ⟨1, 4, 0, []⟩ _ _) ?_
 rintro _ _ ⟨b4, rfl, rfl⟩
 refine xG (PO.build u30 rfl rfl rfl (EvP.cons Ev.const EvP.nil) rfl) ?_
 refine xY EL48 (EvP.cons Ev.const EvP.nil) fun b6 => ?_
 refine xG (PO.build u27 rfl rfl rfl (EvP.cons Ev.const (EvP.cons Ev.const EvP.nil)) rfl) ?_
 refine xG (PO.build u54 rfl rfl rfl (EvP.cons Ev.const (EvP.cons Et (EvP.cons Et (EvP.cons Et EvP.nil)))) rfl) ?_
 refine xG (PO.build u30 rfl rfl rfl (EvP.cons Ev.const EvP.nil) rfl) ?_
 refine xg (E2 Ev.const Et) (decl_ct [116] (tyK 5) _ _) ?_
 rintro _ _ ⟨b10, rfl, rfl⟩
 refine xY EL48 (EvP.cons Ev.const EvP.nil) fun b11 => ?_
 refine xY EL100 (EvP.cons Ev.const (EvP.cons Ev.const EvP.nil)) fun b12 => ?_
 refine xG (PO.build u102 rfl rfl rfl (EvP.cons Et EvP.nil) rfl) ?_
 refine xY EL49 (EvP.cons Et EvP.nil) fun b14 => ?_
 refine xG (PO.build u51 rfl rfl rfl (EvP.cons Et EvP.nil) rfl) ?_
 refine xG (PO.build u54 rfl rfl rfl (EvP.cons Ev.const (EvP.cons Et (EvP.cons Et EvP.nil))) rfl) ?_
 refine xG (PO.build u30 rfl rfl rfl (EvP.cons Ev.const (EvP.cons Ev.const EvP.nil)) rfl) ?_
 refine xg (E2 Ev.const Et) (decl_ct [99] ⟨4, 0, 0, [112]⟩ _ _) ?_
 rintro _ _ ⟨b18, rfl, rfl⟩
 refine xY EL28 (EvP.cons Et (EvP.cons Et (EvP.cons Et (EvP.cons Et (EvP.cons Et (EvP.cons Et EvP.nil)))))) fun b19 => ?_
 refine xA ?_
 refine wn [0] ?_
 refine WC.ret (wR (someR b2 b4 b6 b10 b11 b12 b14 b18 b19 ++ h) ?_)
 exact ⟨_, _, _, _, rfl, rfl, some_ok m b2 b4 b6 b10 b11 b12 b14 b18 b19⟩
theorem some_t (l t : List Res) (m : View) : CX Tryz.prog 22 [] (l ++ t) m (fun v _ h' => ∃ hp', h' = hp' ++ t ∧ ∃ (a : Option Addr) (c : Nat) (L : List Sp) (r : List Res), v = .slice a 6 c ∧ hp' = l ++ r ∧ EnvOk m r a c L) (fun _ _ => False) :=
 CX.ofCT (X := fun _ _ => False) ((some_ct (l ++ t) m).conv fun v m2 h2 w2 _ st hR => by
   obtain ⟨a, c, L, r, e1, rfl, e3⟩ := hR
   exact ⟨m2, (l ++ r) ++ t, View.le.refl _, st.perm ((perm_mid r l t).trans (by rw [List.append_assoc])), l ++ r, rfl, a, c, L, r, e1, rfl, e3⟩)
structure Lies (m : View) (h : List Res) (e x : Ex) : Prop where
 t : TOk m h e
 w : Wf e
 s : strip e = x
theorem Lies.mono {m : View} {h h' : List Res} {e x : Ex} (q : Lies m h e x) (s : h.Sublist h') : Lies m h' e x := ⟨q.t.mono s, q.w, q.s⟩
theorem lies_leaf {m : View} {h : List Res} {k o t n : Int} {s : B} (hk : 0 ≤ k ∧ k ≤ 255) (ho : 0 ≤ o ∧ o ≤ 255) (ht : 0 ≤ t ∧ t ≤ 255) (hn : -2147483648 ≤ n ∧ n ≤ 2147483647) (hs : s.length ≤ 140737488355328) : Lies m h (sx k o t n s []) (sx k o t n s []) :=
 ⟨.mk (Rd.nilF exE 6 m h) (fun _ hx => (List.not_mem_nil hx).elim), .mk hk ho ht hn hs fun _ hx => (List.not_mem_nil hx).elim, rfl⟩
theorem lies_one {m : View} {h : List Res} {e x : Ex} (q : Lies m h e x) (b : Nat) {k o t n : Int} {s : B} (hb : oneR e b ∈ h) (hk : 0 ≤ k ∧ k ≤ 255) (ho : 0 ≤ o ∧ o ≤ 255) (ht : 0 ≤ t ∧ t ≤ 255) (hn : -2147483648 ≤ n ∧ n ≤ 2147483647) (hs : s.length ≤ 140737488355328) :
   Lies m h (.mk k o t n s (some ⟨b, 0, none⟩) 1 [e]) (sx k o t n s [x]) :=
 ⟨.mk (Rd.ofPt rfl (by show 1 ≤ _; decide) hb) (fun y hy => by rw [List.mem_singleton] at hy; subst hy; exact q.t), .mk hk ho ht hn hs fun y hy => by rw [List.mem_singleton] at hy; subst hy; exact q.w, by rw [← q.s]; rfl⟩
theorem lies_two {m : View} {h : List Res} {e f x y : Ex} (q : Lies m h e x) (r : Lies m h f y) (b : Nat) {o : Int} (hb : twoR e f b ∈ h) (ho : 0 ≤ o ∧ o ≤ 255) :
   Lies m h (twoX o e f b) (sx 7 o 0 0 [] [x, y]) :=
 ⟨.mk (Rd.ofPt rfl (by show 2 ≤ _; decide) hb) (fun z hz => by
   rcases List.mem_cons.1 hz with rfl | hz
   · exact q.t
   · rw [List.mem_singleton] at hz
     subst hz
     exact r.t), .mk (by decide) ho (by decide) (by decide) (by decide) fun z hz => (by
   rcases List.mem_cons.1 hz with rfl | hz
   · exact q.w
   · rw [List.mem_singleton] at hz
     subst hz
     exact r.w), by rw [← q.s, ← r.s]; rfl⟩
theorem hasX_ct {m : View} {h : List Res} (hg : Glob m) {e x : Ex} (q : Lies m h e x) (t : Ty) (w : Int) (hx : ofX someE x = (t, w)) : CT Tryz.prog 20 [exV e, tyV t, .int .i64 w] h m (Pure1 h (.bool true)) := by
 have ho : ofX someE e = (t, w) := by rw [← ofX_strip, q.s, hx]
 refine CT.body Tryz.call20 Tryz.func20 rfl Tryz.ntmps20 Lb rfl ?_
 refine gD ?_; intros
 refine xX fun b3 => ?_
 refine xX fun b4 => ?_
 refine xC ?_
 refine wn [2, 3, 4] ?_
 refine gE ?_; intros
 refine WC.drawL [1, 2] (.op 0 (.op 1 (.op 2 (.op 3 (.op 4 (.op 5 .nil)))))) [7, 8] [(6, 7)] _ [] mixed (fun _ _ _ _ _ h => h) [5] (by kernel_rfl) (Fls.cons rfl rfl rfl Lb rfl Fls.nil) rfl ?_
 refine yG rfl (PO.loadA u27 rfl rfl Et (by (repeat (first | exact mem0 _ | apply memT | apply List.mem_append_right))) rfl) ?_
 refine SR.callX rfl rfl Ev.func Evs.nil (fun fr => some_t [] _ _) Lb (fun fr v hv hx => ?_) fun v11 h11 hr11 => ?_
 · exact hx.elim
 obtain ⟨a11, c11, L, r, rfl, rfl, hE⟩ := hr11
 refine yf rfl (E2 Et Et) (fun fr => of_ct hg e (q.t.mono Sb) q.w L a11 6 c11 (hE.rd.mono (View.le.refl m) (subR fr [] h11 _)) (hE.ok.mono (subR fr [] h11 _)) hE.len) ?_
 refine yG rfl (PO.move Et) ?_
 refine yG rfl (PO.extract Et rfl) ?_
 refine yG rfl (PO.extract Et rfl) ?_
 refine SR.nilF rfl (appO_any _ _) fun b7 => ?_
 refine xS ?_
 refine xA ?_
 refine wn [2, 4, 7, 8] ?_
 refine gG ?_; intros; rename_i ops hG
 refine xG (PO.loadA u30 rfl rfl Et (by (repeat (first | exact mem0 _ | apply memT | apply List.mem_append_right))) rfl) ?_
 refine xG (PO.loadA u30 rfl rfl Et (by (repeat (first | exact mem0 _ | apply memT | apply List.mem_append_right))) rfl) ?_
 refine xG (PO.eqlA u30 (by kernel_rfl) (by kernel_rfl) Et Et rfl) ?_
 refine xM ?_
 refine zM ?_
 refine zM ?_
 refine zG (fun hc => PO.bin (Eg hc) (Eg hc) rfl) ?_
 refine xP ?_
 refine xA ?_
 refine wn [6] ?_
 try clear hG ops
 refine WC.ret (wR (h) ?_)
 exact ⟨by show Value.bool (eqT (ofX (envX L) e).1 t && ((ofX (envX L) e).2 == w)) = Value.bool true; rw [hE.env, ho]; simp [(Go.Ty.eqT_iff t t).2 rfl], rfl⟩
theorem sends_ct (s : B) (a : Option Addr) (k c : Nat) (l : List Ex) (hk : l.length = k) (h : List Res) (m : View) : CT Tryz.prog 29 [str s, .slice a k c] h m (Pure1 h (prV (flatP 5 [] (nmX s) nilS ⟨a, c, l⟩))) := by
 subst hk
 refine CT.body Tryz.call29 Tryz.func29 rfl Tryz.ntmps29 Lb rfl ?_
 refine gD ?_; intros
 refine xW fun b4 => ?_
 refine wn [0, 1, 4] ?_
 refine gD ?_; intros
 refine xM ?_
 refine xf (E1 Et) (nameX_ct _ _ _) ?_
 refine xM ?_
 refine xG (PO.build u56 rfl rfl rfl (EvP.cons Ev.const (EvP.cons Et (EvP.cons Et EvP.nil))) rfl) ?_
 refine xS ?_
 refine wn [4] ?_
 refine WC.ret (end1 (h' := h) (.inl rfl) rfl (RV.cellA u56 rfl rfl rfl (by (repeat (first | exact mem0 _ | apply memT | apply List.mem_append_right))) rfl) (View.le.refl m) Sb ?_)
 exact ⟨rfl, rfl⟩
theorem lok_nil (m : View) (h : List Res) : LOk m h nilS := ⟨Rd.nilF exE 6 m h, fun _ hx => (List.not_mem_nil hx).elim⟩
theorem eok_zero (m : View) (h : List Res) : EOk m h zeroE := ⟨.mk (Rd.nilF exE 6 m h) (fun _ hx => (List.not_mem_nil hx).elim), .mk (by decide) (by decide) (by decide) (by decide) (by decide) fun _ hx => (List.not_mem_nil hx).elim⟩
theorem sok_zero (m : View) (h : List Res) : SOk m h zeroS := ⟨by decide, ⟨by decide, by decide, by decide, by decide⟩, Rd.nilF encB 1 m h, fun _ hx => (List.not_mem_nil hx).elim, eok_zero m h, ⟨Rd.nilF encV 2 m h, fun _ hx => (List.not_mem_nil hx).elim, fun _ hx => (List.not_mem_nil hx).elim⟩, fun _ hx => (List.not_mem_nil hx).elim, Rd.nilF foE 6 m h, fun _ hx => (List.not_mem_nil hx).elim, Rd.nilF prE 42 m h⟩
theorem pok_flat {m : View} {h : List Res} {k : Int} {nm : B} {ch : Ex} {tg ex : Sli Ex} (hk : 0 ≤ k ∧ k ≤ 255) (hn : nm.length ≤ Big) (hc : EOk m h ch) (ht : LOk m h tg) (he : LOk m h ex) : POk m h (flatP k nm ch tg ex) :=
 .mk ⟨hk, hn, hc, ht, he, Nat.zero_le _, eok_zero m h, eok_zero m h, Rd.nilF guE 23 m h, fun _ hx => (List.not_mem_nil hx).elim, Rd.nilF prE 42 m h, Rd.nilF encN 1 m h, fun _ hx => (List.not_mem_nil hx).elim, sok_zero m h⟩
   fun x hx => by cases hx with
     | l q => exact (List.not_mem_nil q).elim
     | s q => exact (List.not_mem_nil q).elim
     | g q _ => exact (List.not_mem_nil q).elim
theorem Lies.e {m : View} {h : List Res} {e x : Ex} (q : Lies m h e x) : EOk m h e := ⟨q.t, q.w⟩
theorem lok_one {m : View} {h : List Res} {e : Ex} (q : EOk m h e) (b : Nat) (hb : oneR e b ∈ h) : LOk m h (oneS b e) := ⟨Rd.ofPt rfl (by show 1 ≤ _; decide) hb, fun y hy => by have hy : y ∈ [e] := hy; rw [List.mem_singleton] at hy; subst hy; exact q⟩
theorem lok_two {m : View} {h : List Res} {e f : Ex} (q : EOk m h e) (r : EOk m h f) (b : Nat) (hb : twoR e f b ∈ h) : LOk m h (twoS b e f) := ⟨Rd.ofPt rfl (by show 2 ≤ _; decide) hb, fun z hz => by
   rcases List.mem_cons.1 (show z ∈ [e, f] from hz) with rfl | hz
   · exact q
   · rw [List.mem_singleton] at hz
     subst hz
     exact r⟩
theorem chk_ct {m : View} {h : List Res} (hg : Glob m) {p : Pr} (hP : POk m h p) {a : Option Addr} {c : Nat} {L : List Sp} (hE : EnvOk m h a c L) (w : Int) (hw : checkE p = w) : CT Tryz.prog 16 [prV p, .slice a 6 c] h m (Pure1 h (.int .i64 w)) := by
 have := check_ct hg p hP L a 6 c hE.rd hE.ok hE.len
 rw [hE.env] at this
 rwa [show checkX (mayP p) someE p = w from hw] at this
theorem lies_nm {m : View} {h : List Res} {s : B} (hs : s.length ≤ 100) : Lies m h (nmX s) (nmX s) := lies_leaf (by decide) (by decide) (by decide) (by decide) (by omega)
theorem lies_nu {m : View} {h : List Res} {n : Int} (hn : 0 ≤ n ∧ n ≤ 100) : Lies m h (nuX n) (nuX n) := lies_leaf (by decide) (by decide) (by decide) (by omega) (by decide)
theorem worksX_ct {m : View} (hg : Glob m) (h : List Res) : CT Tryz.prog 10 [] h m (Pure1 h (.bool true)) := by
 refine CT.body Tryz.call10 Tryz.func10 rfl Tryz.ntmps10 Lb rfl ?_
 refine gD ?_; intros
 refine xC ?_
 refine wn [] ?_
 refine gD ?_; intros
 refine xf (E1 Ev.const) (nameX_ct _ _ _) ?_
 refine xY EL25 (EvP.cons Et EvP.nil) fun b6 => ?_
 refine xG (PO.build u27 rfl rfl rfl (EvP.cons Ev.const (EvP.cons Ev.const (EvP.cons Et EvP.nil))) rfl) ?_
 refine xW fun b1 => ?_
 refine xS ?_
 refine wn [1] ?_
 refine gE ?_; intros
 refine dS [0, 2, 4, 6, 7, 8, 10, 13] (.op 1 (.op 3 (.op 0 (.op 2 (.op 4 (.op 5 (.op 9 (.op 6 (.op 7 (.op 8 (.op 10 (.op 11 (.op 12 (.op 14 (.op 13 .nil))))))))))))))) [15, 16, 17] mixed ?_
 refine yG rfl (PO.loadA u27 rfl rfl Et (by (repeat (first | exact mem0 _ | apply memT | apply List.mem_append_right))) rfl) ?_
 refine yG rfl (PO.build u30 rfl rfl rfl (EvP.cons Ev.const EvP.nil) rfl) ?_
 refine yf rfl (E1 Ev.const) (fun fr => nameX_ct _ _ _) ?_
 refine SR.callX rfl rfl Ev.func (E3 Ev.const Et Et) (fun fr => two_t [] _ 1 (nmX [120]) (.mk 5 0 0 0 [118] (some ⟨b6, 0, none⟩) 1 [nmX [120]]) _) Lb (fun fr v hv hx => ?_) fun v10 h10 hr10 => ?_
 · exact hx.elim
 obtain ⟨b10, rfl, rfl⟩ := hr10
 refine yf rfl (E3 Et Et Ev.const) (fun fr => hasX_ct hg (lies_two (lies_nm (by decide)) (lies_one (lies_nm (by decide)) b6 (by (repeat (first | exact mem0 _ | apply memT | apply List.mem_append_right))) (by decide) (by decide) (by decide) (by decide) (by decide)) b10 (by (repeat (first | exact mem0 _ | apply memT | apply List.mem_append_right))) (by decide)) (tyK 1) 0 ex1) ?_
 refine yG rfl (PO.move Et) ?_
 refine yU rfl (PO.build u30 rfl rfl rfl EvP.nil rfl) ?_
 refine SR.callU rfl rfl (GU.t rfl rfl) rfl Ev.func (E1 Ev.const) (fun fr => nameX_ct _ _ _) Lb ?_
 refine SR.callU rfl rfl (GU.t rfl rfl) rfl Ev.func (E1 Ev.const) (fun fr => nameX_ct _ _ _) Lb ?_
 refine SR.callXU rfl rfl (GU.t rfl rfl) rfl Ev.func (E3 Ev.const Et Et) (fun fr => two_t [_] _ 1 (nmX [120]) (nmX [107]) _) Lb (fun fr v hv hx => ?_) fun v16 h16 hr16 => ?_
 · exact hx.elim
 obtain ⟨b16, rfl, rfl⟩ := hr16
 refine SR.callU rfl rfl (GU.t rfl rfl) rfl Ev.func (E3 Et Et Ev.const) (fun fr => hasX_ct hg (lies_two (lies_nm (by decide)) (lies_nm (by decide)) b16 (by (repeat (first | exact mem0 _ | apply memT | apply List.mem_append_right))) (by decide)) zeroT 130 ex2) Lb ?_
 refine yG rfl (PO.pickAnd rfl rfl) ?_
 refine yG rfl (PO.move Et) ?_
 refine yU rfl (PO.build u30 rfl rfl rfl EvP.nil rfl) ?_
 refine SR.callU rfl rfl (GU.t rfl rfl) rfl Ev.func (E1 Ev.const) (fun fr => nameX_ct _ _ _) Lb ?_
 refine SR.nil rfl (appO_any _ _) ?_
 refine zU ?_
 refine xf (E3 Et Et Ev.const) (hasX_ct hg (lies_nm (by decide)) zeroT 120 ex3) ?_
 refine xP ?_
 refine xA ?_
 refine wn [2] ?_
 try clear hG ops
 refine gD ?_; intros
 refine xf (E1 Ev.const) (nameX_ct _ _ _) ?_
 refine xf (E1 Ev.const) (numX_ct _ _ _) ?_
 refine xg (E3 Ev.const Et Et) (two_ct _ _ _ _ _) ?_
 rintro _ _ ⟨b27, rfl, rfl⟩
 refine xW fun b3 => ?_
 refine xS ?_
 refine wn [2, 3] ?_
 refine gD ?_; intros
 refine xf (E1 Ev.const) (nameX_ct _ _ _) ?_
 refine xY EL25 (EvP.cons Et EvP.nil) fun b29 => ?_
 refine xf (E1 Ev.const) (nameX_ct _ _ _) ?_
 refine xY EL25 (EvP.cons Et EvP.nil) fun b31 => ?_
 refine xG (PO.build u56 rfl rfl rfl (EvP.cons Ev.const (EvP.cons Et (EvP.cons Et EvP.nil))) rfl) ?_
 refine xW fun b4 => ?_
 refine xS ?_
 refine wn [2, 3, 4] ?_
 refine gE ?_; intros
 refine dS [2, 4, 5, 6, 7, 11, 12, 13, 14, 15, 20] (.op 0 (.op 1 (.op 3 (.op 2 (.op 4 (.op 5 (.op 6 (.op 7 (.op 8 (.op 9 (.op 10 (.op 11 (.op 12 (.op 13 (.op 14 (.op 15 (.op 16 (.op 17 (.op 18 (.op 19 (.op 20 .nil))))))))))))))))))))) [21, 22, 23, 24] mixed ?_
 refine yG rfl (PO.move Et) ?_
 refine yG rfl (PO.move Et) ?_
 refine yU rfl (PO.loadA u27 rfl rfl Et (by (repeat (first | exact mem0 _ | apply memT | apply List.mem_append_right))) rfl) ?_
 refine SR.callU rfl rfl (GU.t rfl rfl) rfl Ev.func (E1 Ev.const) (fun fr => nameX_ct _ _ _) Lb ?_
 refine SR.buildSliceU rfl rfl (GU.t rfl rfl) rfl EL25 rfl (EvP.cons Et (EvP.cons Et EvP.nil)) rfl rfl (by decide) rfl Lb fun b37 => ?_
 refine SR.callU rfl rfl (GU.t rfl rfl) rfl Ev.func (E2 Ev.const Et) (fun fr => sends_ct [99] _ _ _ [nmX [120], twoX 14 (nmX [120]) (nuX 1) b27] rfl _ _) Lb ?_
 refine SR.callXU rfl rfl (GU.t rfl rfl) rfl Ev.func Evs.nil (fun fr => some_t [_] _ _) Lb (fun fr v hv hx => ?_) fun v39 h39 hr39 => ?_
 · exact hx.elim
 obtain ⟨a39, c39, L39, r39, rfl, rfl, hE39⟩ := hr39
 refine SR.callU rfl rfl (GU.t rfl rfl) rfl Ev.func (E2 Et Et) (fun fr => chk_ct hg (pok_flat (by decide) (by decide) (lies_nm (by decide)).e (lok_nil _ _) (lok_two (lies_nm (by decide)).e (lies_two (lies_nm (by decide)) (lies_nu (by decide)) b27 (by (repeat (first | exact mem0 _ | apply memT | apply List.mem_append_right))) (by decide)).e b37 (by (repeat (first | exact mem0 _ | apply memT | apply List.mem_append_right))))) (hE39.mono (subR fr _ r39 _)) 0 (ck1 _ _)) Lb ?_
 refine yU rfl (PO.bin Et Ev.const rfl) ?_
 refine yG rfl (PO.pickAnd rfl rfl) ?_
 refine yG rfl (PO.move Et) ?_
 refine SR.callU rfl rfl (GU.t rfl rfl) rfl Ev.func (E1 Ev.const) (fun fr => nameX_ct _ _ _) Lb ?_
 refine SR.buildSliceU rfl rfl (GU.t rfl rfl) rfl EL25 rfl (EvP.cons Et EvP.nil) rfl rfl (by decide) rfl Lb fun b45 => ?_
 refine SR.callU rfl rfl (GU.t rfl rfl) rfl Ev.func (E2 Ev.const Et) (fun fr => sends_ct [99] _ _ _ [nmX [120]] rfl _ _) Lb ?_
 refine SR.callXU rfl rfl (GU.t rfl rfl) rfl Ev.func Evs.nil (fun fr => some_t _ _ _) Lb (fun fr v hv hx => ?_) fun v47 h47 hr47 => ?_
 · exact hx.elim
 obtain ⟨a47, c47, L47, r47, rfl, rfl, hE47⟩ := hr47
 refine SR.callU rfl rfl (GU.t rfl rfl) rfl Ev.func (E2 Et Et) (fun fr => chk_ct hg (pok_flat (by decide) (by decide) (lies_nm (by decide)).e (lok_nil _ _) (lok_one (lies_nm (by decide)).e b45 (by (repeat (first | exact mem0 _ | apply memT | apply List.mem_append_right))))) (hE47.mono (subR fr _ r47 _)) 130 (ck2 _)) Lb ?_
 refine yU rfl (PO.bin Et Ev.const rfl) ?_
 refine yG rfl (PO.pickAnd rfl rfl) ?_
 refine yG rfl (PO.move Et) ?_
 refine yU rfl (PO.loadA u56 rfl rfl Et (by (repeat (first | exact mem0 _ | apply memT | apply List.mem_append_right))) rfl) ?_
 refine SR.callXU rfl rfl (GU.t rfl rfl) rfl Ev.func Evs.nil (fun fr => some_t _ _ _) Lb (fun fr v hv hx => ?_) fun v53 h53 hr53 => ?_
 · exact hx.elim
 obtain ⟨a53, c53, L53, r53, rfl, rfl, hE53⟩ := hr53
 refine SR.nil rfl (appO_any _ _) ?_
 refine zU ?_
 refine xf (E2 Et Et) (chk_ct hg (pok_flat (by decide) (by decide) (eok_zero _ _) (lok_one (lies_nm (by decide)).e b29 (by (repeat (first | exact mem0 _ | apply memT | apply List.mem_append_right)))) (lok_one (lies_nm (by decide)).e b31 (by (repeat (first | exact mem0 _ | apply memT | apply List.mem_append_right))))) (hE53.mono ((List.sublist_append_right _ r53).trans (List.sublist_append_left _ _))) 130 (ck3 _ _)) ?_
 refine zU ?_
 refine bB ?_
 refine xP ?_
 refine xA ?_
 refine wn [0] ?_
 try clear hG ops
 refine WC.ret (wR (h) ?_)
 exact ⟨rfl, rfl⟩
end Go.Proofs.YtdhmplmpbcnojaaGreatDoor
end
/- LwB -/
section
namespace Go.Proofs.YtdhmplmpbcnojaaGreatDoor
open Go.Eng Go.Pc Go.Tg Go
open Go.Xp hiding B nameT zeroT
open Go.Ty (Ty Vr eqT tyV cellT PrOk VOk prL encV encV_len encI encI_len zeroT)
open Go.Lx (encB encB_len)
set_option maxRecDepth 100000
theorem env_cut {m : View} {h : List Res} {a : Option Addr} {k c : Nat} {l : List Sp} (hr : Rd m h a k c 16 (fl spE l)) (hv : VOkE m h l) :
   ∃ ls a2, ls.length = min 30 l.length ∧ a2 = sl1 a 0 c 16 ∧ Rd m h a2 ls.length c 16 (fl spE ls) ∧ VOkE m h ls ∧ ls.length ≤ 30 := by
 have hl := hr.lenF spE_len (by decide)
 subst hl
 obtain ⟨ls, hls⟩ : ∃ ls, ls = l.take 30 := ⟨_, rfl⟩
 have hn : ls.length = min 30 l.length := by rw [hls, List.length_take]
 refine ⟨ls, _, hn, rfl, ?_, ?_, by omega⟩
 · have := hr.takeF spE_len (j := min 30 l.length) (by omega)
   rwa [← hn, show l.take ls.length = ls by rw [hn, hls, ← List.take_eq_take_min]] at this
 · have hm : ∀ x ∈ ls, x ∈ l := fun x hx => List.mem_of_mem_take (hls ▸ hx)
   exact ⟨fun x hx => hv.nm x (hm x hx), fun x hx => hv.fr x (hm x hx), fun x hx => hv.pr x (hm x hx)⟩
end Go.Proofs.YtdhmplmpbcnojaaGreatDoor
end
/- FrA -/
section
namespace Go.Proofs.YtdhmplmpbcnojaaGreatDoor
open Go.Eng Go.Pc Go.Fr Go
open Go.Xp hiding B nameT
open Go.Ty (Ty Vr eqT tyV cellT PrOk VOk encV encV_len encI encI_len)
open Go.Lx (encB encB_len)
set_option maxRecDepth 100000
theorem inR_ct (a : Option Addr) (k c : Nat) (l : List B) (s : B) (h : List Res) (m : View) (hL : Rd m h a k c 1 (fl encB l)) : CT Tryz.prog 117 [.slice a k c, str s] h m (Pure1 h (.bool (l.contains s))) := by
 have hl := hL.lenF encB_len (by decide)
 subst hl
 have hmx := hL.mx
 have hle := hL.le
 refine CT.body Tryz.call117 Tryz.func117 rfl Tryz.ntmps117 Lb rfl ?_
 refine gD ?_; intros
 refine xC ?_
 refine wn [0, 1] ?_
 refine gD ?_; intros
 refine xC ?_
 refine wn [0, 1, 5] ?_
 refine gE ?_; intros
 refine WC.loopI [0, 1] rfl (fun μ F' h' => ∃ i : Nat, (i ≤ l.length ∧ l.contains s = (l.drop i).contains s) ∧ l.length - i = μ ∧ F' = [(5, .int .i64 i)] ∧ h = h') (l.length - 0) [(5, .int .i64 0)] (h0 := h) ?_ Sb ⟨0, ⟨by omega, by rw [List.drop_zero]⟩, rfl, rfl, rfl⟩ ?_
 exact Su
 rintro _ _ _ ⟨i, ⟨hk, hJ⟩, rfl, rfl, rfl⟩
 refine WC.frm rfl ?_
 refine gD ?_; intros
 refine xM ?_
 refine xM ?_
 refine xG (PO.lenSl u48 Et) ?_
 refine bD ?_
 refine wn [0, 1, 5, 9] ?_
 refine gE ?_; intros
 refine wc (fun c9 => ?_) fun c9 => ?_
 replace c9 := dT c9
 obtain ⟨x, hx⟩ := get_some (l := l) (k := i) (by omega)
 have hd : (l.drop i).contains s = ((x == s) || (l.drop (i + 1)).contains s) := by
   obtain ⟨hi, rfl⟩ := List.getElem?_eq_some_iff.1 hx
   rw [List.drop_eq_getElem_cons hi, List.contains_cons]
   rw [show (s == l[i]) = (l[i] == s) from Bool.beq_comm]
 rw [hd] at hJ
 refine WC.skip (kp [0, 1, 5] ?_)
 refine gD ?_; intros
 refine xM ?_
 refine xM ?_
 refine xG (PO.idx EL48.und EL48.size EL48.posz (Ev.tmp rfl) (Ev.tmp rfl) Rr rfl (by omega)) ?_
 refine xG (PO.loadF1 u9 rfl encB_len Rr (Ev.tmp rfl) (by assumption) rfl) ?_
 refine xM ?_
 refine xG (PO.eqlS Et Et) ?_
 refine wn [0, 1, 5, 17] ?_
 refine gE ?_; intros
 refine wc (fun c17 => ?_) fun c17 => ?_
 have d17 : (x == s) = true := c17
 rw [d17] at hJ
 refine gD ?_; intros
 refine xC ?_
 refine wn [4] ?_
 refine WC.ret (wR (h) ?_)
 exact ⟨by rw [hJ]; rfl, rfl⟩
 have d17 : (x == s) = false := c17
 rw [d17, Bool.false_or] at hJ
 refine WC.skip (kp [0, 1, 5] ?_)
 refine gD ?_; intros
 refine xM ?_
 refine bI ?_
 refine xA ?_
 refine WL.nil (loopBackI (l.length - (i + 1)) [(5, .int .i64 (i + 1))] (h'' := h) (by omega) ?_ Su Sb ⟨i + 1, ⟨by omega, hJ⟩, rfl, rfl, rfl⟩)
 exact Su
 replace c9 := dF c9
 rw [List.drop_eq_nil_of_le (by omega)] at hJ
 refine WC.exit (kp [] ?_)
 refine gD ?_; intros
 refine xC ?_
 refine wn [4] ?_
 refine WC.ret (wR (h) ?_)
 exact ⟨by rw [hJ]; rfl, rfl⟩
theorem wrapZ (z : Int) : ∃ c : UInt8, IntKind.u8.wrap z = (c.toNat : Int) := by
 refine ⟨UInt8.ofNat (z % 256).toNat, ?_⟩
 have h0 : 0 ≤ z % 256 := Int.emod_nonneg _ (by decide)
 have h1 : z % 256 < 256 := Int.emod_lt_of_pos _ (by decide)
 have h2 : IntKind.u8.wrap z = z % 256 := by unfold IntKind.wrap; simp [IntKind.bits, IntKind.signed]
 rw [h2, UInt8.toNat_ofNat']
 have h3 : (z % 256).toNat % 2 ^ 8 = (z % 256).toNat := Nat.mod_eq_of_lt (by show _ < 256; omega)
 rw [h3]
 omega
theorem tdivF {n : Nat} (h : n ≤ 4398046511104) : IntKind.i64.wrap ((n : Int).tdiv 10) = ((n / 10 : Nat) : Int) := by
 have : (n : Int).tdiv 10 = ((n / 10 : Nat) : Int) := rfl
 rw [this, IntKind.wrap_i64]
 omega
theorem digF_ct (n : Nat) (hn : n ≤ 4398046511104) (h : List Res) (m : View) : CT Tryz.prog 118 [.int .i64 n] h m (fun v _ h' => (∃ s : B, s.length ≤ n + 1 ∧ v = str s) ∧ h' = h) := by
 refine CT.body Tryz.call118 Tryz.func118 rfl Tryz.ntmps118 Lb rfl ?_
 refine gD ?_; intros
 refine xC ?_
 refine wn [0] ?_
 refine gD ?_; intros
 refine xM ?_
 refine xG (PO.rem Et Ev.const (by decide)) ?_
 refine WL.val (v' := .int .i64 ((n % 10 : Nat) : Int)) rfl ?_
 refine xG (PO.addI Ev.const Et (by omega)) ?_
 refine xG (PO.conv u3 u5 Et) ?_
 obtain ⟨z, hz⟩ := wrapZ (48 + ((n % 10 : Nat) : Int))
 refine WL.val (v' := .int .u8 (z.toNat : Int)) (congrArg (Value.int .u8) hz) ?_
 refine xY EL202 (EvP.cons Et EvP.nil) fun b8 => ?_
 refine xG (PO.strOf (bs := [z]) u202 u5 u9 Et (Rd.ofPt rfl (by decide) Me)) ?_
 refine xA ?_
 refine wn [0, 3] ?_
 refine gD ?_; intros
 refine xM ?_
 refine xG (PO.quo Et Ev.const (by decide)) ?_
 refine WL.val (v' := .int .i64 ((n / 10 : Nat) : Int)) (congrArg (Value.int .i64) (tdivF hn)) ?_
 refine xA ?_
 refine wn [0, 3] ?_
 refine gE ?_; intros
 refine WC.loopI [] rfl (fun μ F' h' => ∃ t : Nat, ∃ s : B, (s.length + t ≤ n + 1 ∧ t ≤ n) ∧ t = μ ∧ F' = [(0, .int .i64 t), (3, str s)] ∧ h = h') ((n / 10)) [(0, .int .i64 (n / 10)), (3, str ([z]))] (h0 := h) ?_ Sb ⟨n / 10, [z], ⟨by simp only [List.length_singleton]; omega, by omega⟩, rfl, rfl, rfl⟩ ?_
 exact Su
 rintro _ _ _ ⟨t, s, ⟨hs, ht⟩, rfl, rfl, rfl⟩
 refine WC.frm rfl ?_
 refine gD ?_; intros
 refine xM ?_
 refine bB ?_
 refine wn [0, 3, 13] ?_
 refine gE ?_; intros
 refine wc (fun c13 => ?_) fun c13 => ?_
 replace c13 := dT c13
 have ht0 : 0 < t := by omega
 refine WC.skip (kp [0, 3] ?_)
 refine gD ?_; intros
 refine xM ?_
 refine xG (PO.rem Et Ev.const (by decide)) ?_
 refine WL.val (v' := .int .i64 ((t % 10 : Nat) : Int)) rfl ?_
 refine xG (PO.addI Ev.const Et (by omega)) ?_
 refine xG (PO.conv u3 u5 Et) ?_
 obtain ⟨y, hy⟩ := wrapZ (48 + ((t % 10 : Nat) : Int))
 refine WL.val (v' := .int .u8 (y.toNat : Int)) (congrArg (Value.int .u8) hy) ?_
 refine xY EL202 (EvP.cons Et EvP.nil) fun b20 => ?_
 refine xG (PO.strOf (bs := [y]) u202 u5 u9 Et (Rd.ofPt rfl (by decide) Me)) ?_
 refine xM ?_
 refine xG (PO.catS Et Et (by simp; omega)) ?_
 refine xA ?_
 refine wn [0, 3] ?_
 refine gD ?_; intros
 refine xM ?_
 refine xG (PO.quo Et Ev.const (by decide)) ?_
 refine WL.val (v' := .int .i64 ((t / 10 : Nat) : Int)) (congrArg (Value.int .i64) (tdivF (by omega))) ?_
 refine xA ?_
 refine WL.nil (loopBackI ((t / 10)) [(0, .int .i64 (t / 10)), (3, str ([y] ++ s))] (h'' := h) (by omega) ?_ Su Sb ⟨t / 10, [y] ++ s, ⟨by simp only [List.length_append, List.length_singleton]; omega, by omega⟩, rfl, rfl, rfl⟩)
 exact Su
 replace c13 := dF c13
 refine WC.exit (kp [3] ?_)
 refine gD ?_; intros
 refine xM ?_
 refine xA ?_
 refine wn [2] ?_
 refine WC.ret (wR (h) ?_)
 exact ⟨⟨s, by omega, rfl⟩, rfl⟩
def EnvT (m : View) (h : List Res) (E : List Et) : Prop := ∀ x ∈ E, Rd m h x.ta x.tags.length x.tc 1 (fl encB x.tags)
theorem EnvT.mono {m : View} {h h' : List Res} {E : List Et} (q : EnvT m h E) (r : h.Sublist h') : EnvT m h' E := fun x hx => (q x hx).mono (View.le.refl m) r
def fndE (E : List Et) (nm : B) : Value := match lkE E nm with
 | some x => .tuple #[etV x, .bool true]
 | none => .tuple #[etV zeroT0, .bool false]
theorem findF_ct (a : Option Addr) (k c : Nat) (E : List Et) (nm : B) (h : List Res) (m : View) (hE : Rd m h a k c 4 (fl etE E)) : CT Tryz.prog 116 [.slice a k c, str nm] h m (Pure1 h (fndE E nm)) := by
 have hl := hE.lenF etE_len (by decide)
 subst hl
 have hmx := hE.mx
 have hle := hE.le
 refine CT.body Tryz.call116 Tryz.func116 rfl Tryz.ntmps116 Lb rfl ?_
 refine gD ?_; intros
 refine xW fun b4 => ?_
 refine xC ?_
 refine wn [0, 1, 4] ?_
 refine gD ?_; intros
 refine xM ?_
 refine xG (PO.lenSl u129 Et) ?_
 refine xG (PO.subI Et Ev.const (by omega)) ?_
 refine xA ?_
 refine wn [0, 1, 4, 6] ?_
 refine gE ?_; intros
 refine WC.loopI [0, 1, 4] rfl (fun μ F' h' => ∃ i : Nat, (i ≤ E.length ∧ lkE E nm = lkM E nm i) ∧ i = μ ∧ F' = [(6, .int .i64 ((i : Int) - 1))] ∧ .pt b4 (.cells (etE zeroT0).toArray 135 (0, 0)) :: h = h') ((E.length)) [(6, .int .i64 (((E.length) : Int) - 1))] (h0 := .pt b4 (.cells (etE zeroT0).toArray 135 (0, 0)) :: h) ?_ Sb ⟨E.length, ⟨by omega, rfl⟩, rfl, rfl, rfl⟩ ?_
 exact Su
 rintro _ _ _ ⟨i, ⟨hk, hJ⟩, rfl, rfl, rfl⟩
 refine WC.frm rfl ?_
 refine gD ?_; intros
 refine xM ?_
 refine bB ?_
 refine wn [0, 1, 4, 6, 11] ?_
 refine gE ?_; intros
 refine wc (fun c11 => ?_) fun c11 => ?_
 replace c11 := dT c11
 obtain ⟨j, rfl⟩ : ∃ j, i = j + 1 := ⟨i - 1, by omega⟩
 obtain ⟨x, hx⟩ := get_some (l := E) (k := j) (by omega)
 have hs : lkM E nm (j + 1) = if (x.name == nm) = true then some x else lkM E nm j := by
   show (match E[j]? with | some x => if (x.name == nm) = true then some x else lkM E nm j | none => lkM E nm j) = _
   rw [hx]
 rw [hs] at hJ
 refine WC.skip (kp [0, 1, 4, 6] ?_)
 refine gD ?_; intros
 refine xM ?_
 refine xM ?_
 refine WL.val (v' := .int .i64 (j : Int)) (congrArg (Value.int .i64) (by omega)) ?_
 refine xG (PO.idx EL129.und EL129.size EL129.posz (Ev.tmp rfl) (Ev.tmp rfl) Rr rfl (by omega)) ?_
 refine xG (PO.fieldF u135 rfl (Nat.ne_of_beq_eq_false rfl) etE_len (Nat.succ_pos _) Rr (by assumption) (Ev.tmp rfl)) ?_
 refine xG (PO.loadFf u9 rfl etE_len Rr (Ev.tmp rfl) (by assumption) rfl) ?_
 refine xM ?_
 refine xG (PO.eqlS Et Et) ?_
 refine wn [0, 1, 4, 6, 20] ?_
 refine gE ?_; intros
 refine wc (fun c20 => ?_) fun c20 => ?_
 have d20 : (x.name == nm) = true := c20
 rw [if_pos d20] at hJ
 refine gD ?_; intros
 refine xM ?_
 refine xM ?_
 refine WL.val (v' := .int .i64 (j : Int)) (congrArg (Value.int .i64) (by omega)) ?_
 refine xG (PO.idx EL129.und EL129.size EL129.posz (Ev.tmp rfl) (Ev.tmp rfl) Rr rfl (by omega)) ?_
 refine xG (PO.loadFA u135 rfl rfl etE_len Rr (Ev.tmp rfl) (by assumption) rfl rfl (Nat.succ_pos _)) ?_
 refine xS ?_
 refine xC ?_
 refine wn [4, 5] ?_
 refine WC.ret (end2 (h' := h) (.inl rfl) rfl (RV.cellA u135 rfl rfl rfl Me rfl) (RV.tmp rfl) (View.le.refl m) Sb ?_)
 exact ⟨by unfold fndE; rw [hJ]; rfl, rfl⟩
 have d20 : (x.name == nm) = false := c20
 rw [if_neg (by rw [d20]; decide)] at hJ
 refine WC.skip (kp [0, 1, 4, 6] ?_)
 refine gD ?_; intros
 refine xM ?_
 refine xG (PO.subI Et Ev.const (by omega)) ?_
 refine WL.val (v' := .int .i64 ((j : Int) - 1)) (congrArg (Value.int .i64) (by omega)) ?_
 refine xA ?_
 refine WL.nil (loopBackI (j) [(6, .int .i64 ((j : Int) - 1))] (h'' := .pt b4 (.cells (etE zeroT0).toArray 135 (0, 0)) :: h) (by omega) ?_ Su Sb ⟨j, ⟨by omega, hJ⟩, rfl, rfl, rfl⟩)
 exact Su
 replace c11 := dF c11
 obtain rfl : i = 0 := by omega
 refine WC.exit (kp [4] ?_)
 refine gD ?_; intros
 refine xG (PO.build u135 rfl rfl rfl EvP.nil rfl) ?_
 refine xS ?_
 refine xC ?_
 refine wn [4, 5] ?_
 refine WC.ret (end2 (h' := h) (.inl rfl) rfl (RV.cellA u135 rfl rfl rfl Me rfl) (RV.tmp rfl) (View.le.refl m) Sb ?_)
 exact ⟨by unfold fndE; rw [hJ]; rfl, rfl⟩
end Go.Proofs.YtdhmplmpbcnojaaGreatDoor
end
/- FrB -/
section
namespace Go.Proofs.YtdhmplmpbcnojaaGreatDoor
open Go.Eng Go.Pc Go.Fr Go
open Go.Xp hiding B nameT
open Go.Ty (Ty Vr eqT tyV cellT PrOk VOk encV encV_len encI encI_len)
open Go.Lx (encB encB_len)
set_option maxRecDepth 100000
structure Ws where
 a : Option Addr
 n : Nat
 c : Nat
 l : List Ev
 cnt : Nat
abbrev wdR (b : Nat) (w : Ws) : Res := .pt b (.cells [.slice w.a w.n w.c, .slice none 0 0, .int .i64 w.cnt].toArray 116 (0, 0))
abbrev evR (w : Ws) : Res := .row (.slice w.a w.n w.c) 94 2 w.n (fl evE w.l)
structure Stp (w w' : Ws) (e : List Ev) (d : Nat) : Prop where
 l : w'.l = w.l ++ e
 n : w'.n = w'.l.length
 lo : w.cnt ≤ w'.cnt
 hi : w'.cnt ≤ w.cnt + d
theorem Stp.refl {w : Ws} (h : w.n = w.l.length) (d : Nat) : Stp w w [] d := ⟨by simp, h, Nat.le_refl _, by omega⟩
theorem Stp.trans {w u v : Ws} {e f : List Ev} {d c : Nat} (p : Stp w u e d) (q : Stp u v f c) : Stp w v (e ++ f) (d + c) := ⟨by rw [q.l, p.l, List.append_assoc], q.n, Nat.le_trans p.lo q.lo, by have := p.hi; have := q.hi; omega⟩
abbrev Top : Nat := 1099511627776
theorem fndE_eq (E : List Et) (nm : B) : fndE E nm = .tuple #[etV ((lkE E nm).getD zeroT0), .bool (lkE E nm).isSome] := by
 unfold fndE
 cases lkE E nm <;> rfl
theorem evN_some {E : List Et} {s : B} (h : (lkE E s).isSome = true) : evN (E.map Et.f) s = [] := by
 have hq := lkE_eq E s
 unfold evN
 rw [← hq]
 cases hx : lkE E s with
 | none => rw [hx] at h; cases h
 | some x => rfl
theorem evN_none {E : List Et} {s : B} (h : (lkE E s).isSome = false) : evN (E.map Et.f) s = [(s, false)] := by
 have hq := lkE_eq E s
 unfold evN
 rw [← hq]
 cases hx : lkE E s with
 | none => rfl
 | some x => rw [hx] at h; cases h
theorem nameF_ct (b : Nat) (w : Ws) (hw : w.n = w.l.length) (s : B) (a : Option Addr) (k c : Nat) (E : List Et) (h : List Res) (m : View) (hE : Rd m h a k c 4 (fl etE E)) (hT : w.l.length + (evN (E.map Et.f) s).length ≤ Top) :
   CT Tryz.prog 72 [.pointer (some ⟨b, 0, none⟩), str s, .slice a k c] (wdR b w :: evR w :: h) m (fun v _ h' => ∃ s' w', v = str s' ∧ Stp w w' (evN (E.map Et.f) s) 0 ∧ h' = wdR b w' :: evR w' :: h) := by
 refine CT.body Tryz.call72 Tryz.func72 rfl Tryz.ntmps72 Lb rfl ?_
 refine gD ?_; intros
 refine xC ?_
 refine wn [0, 1, 2] ?_
 refine gD ?_; intros
 refine xM ?_
 refine xM ?_
 refine xf (E2 Et Et) (CT.val (findF_ct _ _ _ E s _ _ (hE.mono (View.le.refl m) Sb)) (fndE_eq E s)) ?_
 refine xM ?_
 refine xE ?_
 refine xE ?_
 refine xW fun b7 => ?_
 refine xS ?_
 refine xA ?_
 refine wn [0, 1, 7, 8] ?_
 refine gD ?_; intros
 refine xM ?_
 refine wn [0, 1, 7, 15] ?_
 refine gE ?_; intros
 refine wc (fun c15 => ?_) fun c15 => ?_
 have d15 := evN_some c15
 refine gD ?_; intros
 refine xF u135 ?_
 refine xG (pL u9) ?_
 refine xA ?_
 refine wn [6] ?_
 refine WC.ret (wR (wdR b w :: evR w :: h) ?_)
 exact ⟨_, w, rfl, by rw [d15]; exact Stp.refl hw 0, rfl⟩
 have d15 := evN_none c15
 rw [d15] at hT
 have hT : w.l.length + 1 ≤ 1099511627776 := hT
 refine WC.skip (kp [0, 1] ?_)
 refine gD ?_; intros
 refine xM ?_
 refine xM ?_
 refine xG (PO.nilCheck Et) ?_
 refine xF u116 ?_
 refine xG (pL u91) ?_
 refine xM ?_
 refine xG (PO.build u94 rfl rfl rfl (EvP.cons Et EvP.nil) rfl) ?_
 refine xY EL91 (EvP.cons Et EvP.nil) fun b25 => ?_
 refine xD EL91 (Ev.tmp rfl) (Ev.tmp rfl) rfl (fl_snoc (enc := evE) _ ((s, false))) fun a26 c26 => ?_
 refine xG (PO.nilCheck Et) ?_
 refine xF u116 ?_
 refine xS ?_
 refine wn [1] ?_
 refine gD ?_; intros
 refine xM ?_
 refine xA ?_
 refine wn [6] ?_
 refine WC.ret (wR (wdR b ⟨a26, w.n + 1, c26, w.l ++ [(s, false)], w.cnt⟩ :: evR ⟨a26, w.n + 1, c26, w.l ++ [(s, false)], w.cnt⟩ :: h) ?_)
 exact ⟨s, _, rfl, by rw [d15]; exact ⟨rfl, by show w.n + 1 = _; rw [hw, List.length_append]; rfl, Nat.le_refl _, Nat.le_refl _⟩, rfl⟩
def smE : Ex → Prop := fun e => cntE e ≤ 1048576
theorem cnt_len : ∀ l : List Ex, l.length ≤ cntL l
 | [] => Nat.le_refl _
 | x :: r => by
   have := cnt_len r
   have h1 : 1 ≤ cntE x := by cases x; show 1 ≤ 1 + _; omega
   show r.length + 1 ≤ cntE x + cntL r
   omega
theorem cnt_mem : ∀ {l : List Ex} {x : Ex}, x ∈ l → cntE x ≤ cntL l
 | y :: r, x, h => by
   have e : cntL (y :: r) = cntE y + cntL r := rfl
   rcases List.mem_cons.1 h with rfl | h
   · omega
   · have := cnt_mem h
     omega
theorem evXs_drop {E : List Fe} {l : List Ex} {i : Nat} {x : Ex} (h : l[i]? = some x) : evXs E (l.drop i) = evX E x ++ evXs E (l.drop (i + 1)) := by
 obtain ⟨hi, rfl⟩ := List.getElem?_eq_some_iff.1 h
 rw [List.drop_eq_getElem_cons hi]
 rfl
def ExsR (b : Nat) (w : Ws) (e : List Ev) (n : Nat) (h : List Res) : Value → List Res → Prop := fun v h' => ∃ a c l w', l.length = n ∧ v = .slice a l.length c ∧ Stp w w' e 0 ∧ h' = wdR b w' :: evR w' :: .row (.slice a l.length c) 27 6 l.length (fl exE l) :: h
def ExR (b : Nat) (w : Ws) (e : List Ev) (h : List Res) : Value → List Res → Prop := fun v h' => ∃ x w', v = exV x ∧ Stp w w' e 0 ∧ h' = wdR b w' :: evR w' :: h
theorem exprsF_ct (b : Nat) (l : List Ex) (a : Option Addr) (k c : Nat) (E : List Et) (ih : ∀ x ∈ l, ∀ (w : Ws) (h : List Res) (m : View), w.n = w.l.length → TOk m h x → Rd m h a k c 4 (fl etE E) → w.l.length + (evX (E.map Et.f) x).length ≤ Top →
     CT Tryz.prog 74 [.pointer (some ⟨b, 0, none⟩), exV x, .slice a k c] (wdR b w :: evR w :: h) m (fun v _ h' => ExR b w (evX (E.map Et.f) x) h v h'))
   (w : Ws) (hw : w.n = w.l.length) (a1 : Option Addr) (k1 c1 : Nat) (h : List Res) (m : View) (hL : Rd m h a1 k1 c1 6 (fl exE l)) (hok : ∀ x ∈ l, TOk m h x) (hl1 : l.length ≤ 1048576) (hE : Rd m h a k c 4 (fl etE E)) (hT : w.l.length + (evXs (E.map Et.f) l).length ≤ Top) :
   CT Tryz.prog 75 [.pointer (some ⟨b, 0, none⟩), .slice a1 k1 c1, .slice a k c] (wdR b w :: evR w :: h) m (fun v _ h' => ExsR b w (evXs (E.map Et.f) l) l.length h v h') := by
 have hl := hL.lenF exE_len (by decide)
 subst hl
 have hmx := hL.mx
 have hle := hL.le
 refine CT.body Tryz.call75 Tryz.func75 rfl Tryz.ntmps75 Lb rfl ?_
 refine gD ?_; intros
 refine xC ?_
 refine wn [0, 1, 2] ?_
 refine gD ?_; intros
 refine WL.addNil 27 6 ?_
 refine xC ?_
 refine wn [0, 1, 2, 7] ?_
 refine gD ?_; intros
 refine WL.take (r := evR w) De ?_
 refine WL.take (r := wdR b w) De ?_
 refine xC ?_
 refine wn [0, 1, 2, 7, 8] ?_
 refine gE ?_; intros
 refine WC.loopI [0, 1, 2] rfl (fun μ F' h' => ∃ i : Nat, ∃ a2 : Option Addr, ∃ c2 : Nat, ∃ l2 : List Ex, ∃ w2 : Ws, ∃ e1 : List Ev, ((i ≤ l.length ∧ l2.length = i) ∧ Stp w w2 e1 0 ∧ evXs (E.map Et.f) l = e1 ++ evXs (E.map Et.f) (l.drop i)) ∧ l.length - i = μ ∧ F' = [(7, .slice a2 i c2), (8, .int .i64 i)] ∧ wdR b w2 :: evR w2 :: .row (.slice a2 i c2) 27 6 i (fl exE l2) :: h = h') (l.length - 0) [(7, .slice none 0 0), (8, .int .i64 0)] (h0 := wdR b w :: evR w :: .row (.slice none 0 0) 27 6 0 (fl exE ([])) :: h) ?_ Sb ⟨0, none, 0, [], w, [], ⟨⟨by omega, rfl⟩, Stp.refl hw 0, by rw [List.drop_zero]; rfl⟩, rfl, rfl, rfl⟩ ?_
 exact Su
 rintro _ _ _ ⟨i, a2, c2, l2, w2, e1, ⟨⟨hi, hl2⟩, hS, hJ⟩, rfl, rfl, rfl⟩
 refine WC.frm rfl ?_
 refine gD ?_; intros
 refine xM ?_
 refine xM ?_
 refine xG (PO.lenSl u25 Et) ?_
 refine bD ?_
 refine wn [0, 1, 2, 7, 8, 12] ?_
 refine gE ?_; intros
 refine wc (fun c12 => ?_) fun c12 => ?_
 replace c12 := dT c12
 obtain ⟨x, hx⟩ := get_some (l := l) (k := i) (by omega)
 have hxm := List.mem_of_getElem? hx
 rw [evXs_drop hx] at hJ
 have hB : w2.l.length + (evX (E.map Et.f) x).length ≤ Top := by
   rw [hJ] at hT
   rw [hS.l]
   simp only [List.length_append] at hT ⊢
   omega
 refine WC.skip (kp [0, 1, 2, 7, 8] ?_)
 refine gD ?_; intros
 refine xM ?_
 refine xM ?_
 refine xM ?_
 refine xM ?_
 refine xG (PO.idx EL25.und EL25.size EL25.posz (Ev.tmp rfl) (Ev.tmp rfl) Rr rfl (by omega)) ?_
 refine xG (PO.loadFA u27 rfl rfl exE_len Rr (Ev.tmp rfl) (by assumption) rfl rfl (Nat.succ_pos _)) ?_
 refine xM ?_
 refine xg (E3 Et Et Et) (ih x hxm w2 _ m hS.n ((hok x hxm).mono Sb) (hE.mono (View.le.refl m) Sb) hB) ?_
 rintro _ _ ⟨y, w3, rfl, hS3, rfl⟩
 refine xY EL25 (EvP.cons Et EvP.nil) fun b23 => ?_
 refine xD EL25 (Ev.tmp rfl) (Ev.tmp rfl) rfl (fl_snoc (enc := exE) _ (y)) fun a24 c24 => ?_
 refine xA ?_
 refine wn [0, 1, 2, 7, 8] ?_
 refine gD ?_; intros
 refine xM ?_
 refine bI ?_
 refine xA ?_
 refine WL.nil (loopBackI (l.length - (i + 1)) [(7, .slice a24 (i + 1) c24), (8, .int .i64 (i + 1))] (h'' := wdR b w3 :: evR w3 :: .row (.slice a24 (i + 1) c24) 27 6 (i + 1) (fl exE (l2 ++ [y])) :: h) (by omega) ?_ Su Sb ⟨i + 1, a24, c24, l2 ++ [y], w3, e1 ++ evX (E.map Et.f) x, ⟨⟨by omega, by simp [hl2]⟩, hS.trans hS3, by rw [hJ, List.append_assoc]⟩, rfl, rfl, rfl⟩)
 exact Su
 replace c12 := dF c12
 obtain rfl : i = l.length := by omega
 rw [List.drop_length, show evXs (E.map Et.f) [] = [] from rfl, List.append_nil] at hJ
 refine WC.exit (kp [7] ?_)
 refine gD ?_; intros
 refine xM ?_
 refine xA ?_
 refine wn [6] ?_
 refine WC.ret (wR (wdR b w2 :: evR w2 :: .row (.slice a2 l.length c2) 27 6 l.length (fl exE l2) :: h) ?_)
 exact ⟨a2, c2, l2, w2, hl2, by rw [hl2], hJ ▸ hS, by rw [hl2]⟩
theorem exprF_ct (b : Nat) (a : Option Addr) (k c : Nat) (E : List Et) (e : Ex) : ∀ (w : Ws) (h : List Res) (m : View), smE e → w.n = w.l.length → TOk m h e → Rd m h a k c 4 (fl etE E) → w.l.length + (evX (E.map Et.f) e).length ≤ Top →
     CT Tryz.prog 74 [.pointer (some ⟨b, 0, none⟩), exV e, .slice a k c] (wdR b w :: evR w :: h) m (fun v _ h' => ExR b w (evX (E.map Et.f) e) h v h') := by
 refine Ex.ind (p := fun e => ∀ (w : Ws) (h : List Res) (m : View), smE e → w.n = w.l.length → TOk m h e → Rd m h a k c 4 (fl etE E) → w.l.length + (evX (E.map Et.f) e).length ≤ Top →
     CT Tryz.prog 74 [.pointer (some ⟨b, 0, none⟩), exV e, .slice a k c] (wdR b w :: evR w :: h) m (fun v _ h' => ExR b w (evX (E.map Et.f) e) h v h')) (fun e ih w h m hs hw hT hE hB => ?_) e
 have r1 := hT.rd
 have hev := evX_eq (E.map Et.f) e
 have hcl := cnt_len e.l
 have hce : cntE e = 1 + cntL e.l := by cases e; rfl
 have hs2 : cntE e ≤ 1048576 := hs
 rw [hev, List.length_append] at hB
 refine CT.body Tryz.call74 Tryz.func74 rfl Tryz.ntmps74 Lb rfl ?_
 refine gD ?_; intros
 refine xX fun b4 => ?_
 refine xW fun b6 => ?_
 refine wn [0, 2, 4, 6] ?_
 refine gG ?_; intros; rename_i ops hG
 refine WL.take (r := evR w) De ?_
 refine WL.take (r := wdR b w) De ?_
 refine xF u27 ?_
 refine xG (pL u22) ?_
 refine bB ?_
 refine xM ?_
 refine zG (fun _ => pF u27) ?_
 refine zG (fun hc => PO.load1 u22 rfl (Eg hc) Me rfl) ?_
 refine zG (fun hc => PO.bin (Eg hc) Ev.const rfl) ?_
 refine xQ ?_
 refine xM ?_
 refine zG (fun _ => pF u27) ?_
 refine zG (fun hc => PO.load1 u22 rfl (Eg hc) Me rfl) ?_
 refine zG (fun hc => PO.bin (Eg hc) Ev.const rfl) ?_
 refine xQ ?_
 refine wn [0, 2, 4, 6, 19] ?_
 try clear hG ops
 (repeat refine WC.seqK fun K hK => ?_)
 refine WC.cutK (by assumption) [0, 2, 4, 6] rfl (fun F' h' => ∃ s1 : B, ∃ w1 : Ws, (Stp w w1 (if e.k = 4 ∨ e.k = 5 ∨ e.k = 9 then evN (E.map Et.f) e.s else []) 0) ∧ F' = [] ∧ wdR b w1 :: evR w1 :: .pt b6 (.cells (exE zeroE).toArray 27 (0, 0)) :: .pt b4 (.cells (exE (.mk e.k e.o e.t e.n s1 e.a e.c e.l)).toArray 27 (0, 0)) :: h = h') ?_ ?_
 refine gE ?_; intros
 refine wc (fun c19 => ?_) fun c19 => ?_
 have d19 : e.k = 4 ∨ e.k = 5 ∨ e.k = 9 := by
   have c : (((e.k == 4) || (e.k == 5)) || (e.k == 9)) = true := c19
   simp at c
   omega
 rw [if_pos d19] at hB hev
 refine gD ?_; intros
 refine xM ?_
 refine xF u27 ?_
 refine xG (pL u9) ?_
 refine xM ?_
 refine xg (E3 Et Et Et) (nameF_ct b w hw e.s a k c E _ m (hE.mono (View.le.refl m) Sb) (by omega)) ?_
 rintro _ _ ⟨s1, w1, rfl, hS1, rfl⟩
 refine xF u27 ?_
 refine xS ?_
 refine WL.nil (meetI [] (h'' := wdR b w1 :: evR w1 :: .pt b6 (.cells (exE zeroE).toArray 27 (0, 0)) :: .pt b4 (.cells (exE (.mk e.k e.o e.t e.n s1 e.a e.c e.l)).toArray 27 (0, 0)) :: h) ?_ Su Sb ⟨s1, w1, by rw [if_pos d19]; exact hS1, rfl, rfl⟩)
 exact Su
 have d19 : ¬ (e.k = 4 ∨ e.k = 5 ∨ e.k = 9) := by
   have c : (((e.k == 4) || (e.k == 5)) || (e.k == 9)) = false := c19
   simp at c
   omega
 rw [if_neg d19] at hB hev
 refine WC.skip (meetI [] (h'' := wdR b w :: evR w :: .pt b6 (.cells (exE zeroE).toArray 27 (0, 0)) :: .pt b4 (.cells (exE (.mk e.k e.o e.t e.n (e.s) e.a e.c e.l)).toArray 27 (0, 0)) :: h) ?_ Su Sb ⟨e.s, w, by rw [if_neg d19]; exact Stp.refl hw 0, rfl, rfl⟩)
 exact Su
 rintro _ _ ⟨s1, w1, hS, rfl, rfl⟩
 refine WC.frm rfl ?_
 refine gD ?_; intros
 refine xM ?_
 refine xF u27 ?_
 refine xG (pL u25) ?_
 refine xM ?_
 refine xg (E3 Et Et Et) (exprsF_ct b e.l a k c E (fun x hx w h m q1 q2 q3 q4 => ih x hx w h m (Nat.le_trans (cnt_mem hx) (by omega)) q1 q2 q3 q4) w1 hS.n _ _ _ _ m (r1.mono (View.le.refl m) Sb) (fun x hx => (hT.part hx).mono Sb) (by omega) (hE.mono (View.le.refl m) Sb) (by rw [hS.l, List.length_append]; omega)) ?_
 rintro _ _ ⟨a2, c2, l2, w2, hl2, rfl, hS2, rfl⟩
 refine xF u27 ?_
 refine xS ?_
 refine wn [4, 6] ?_
 refine gD ?_; intros
 refine xG (pA u27) ?_
 refine xS ?_
 refine wn [6] ?_
 refine WC.ret (end1 (h' := wdR b w2 :: evR w2 :: h) (.inl rfl) rfl (RV.cellA u27 rfl rfl rfl Me rfl) (View.le.refl m) Sb ?_)
 exact ⟨.mk e.k e.o e.t e.n s1 a2 c2 l2, w2, rfl, by rw [hev]; exact hS.trans hS2, rfl⟩
end Go.Proofs.YtdhmplmpbcnojaaGreatDoor
end
/- FrC -/
section
namespace Go.Proofs.YtdhmplmpbcnojaaGreatDoor
open Go.Eng Go.Pc Go.Fr Go
open Go.Xp hiding B nameT
open Go.Ty (Ty Vr eqT tyV cellT PrOk VOk encV encV_len encI encI_len)
open Go.Lx (encB encB_len)
set_option maxRecDepth 100000
theorem twG_at {l : List B} {i : Nat} {x : B} (h : l[i]? = some x) : twG (l.take i) (l.drop i) = (if (l.take i).contains x then [(x, true)] else []) ++ twG (l.take (i + 1)) (l.drop (i + 1)) := by
 obtain ⟨hi, rfl⟩ := List.getElem?_eq_some_iff.1 h
 rw [List.drop_eq_getElem_cons hi, List.take_succ_eq_append_getElem hi]
 rfl
theorem twiceF_ct (b : Nat) (w : Ws) (hw : w.n = w.l.length) (a : Option Addr) (k c : Nat) (l : List B) (h : List Res) (m : View) (hL : Rd m h a k c 1 (fl encB l)) (hT : w.l.length + (twG [] l).length ≤ Top) :
   CT Tryz.prog 119 [.pointer (some ⟨b, 0, none⟩), .slice a k c] (wdR b w :: evR w :: h) m (fun _ _ h' => ∃ w', Stp w w' (twG [] l) 0 ∧ h' = wdR b w' :: evR w' :: h) := by
 have hl := hL.lenF encB_len (by decide)
 subst hl
 have hmx := hL.mx
 have hle := hL.le
 refine CT.body Tryz.call119 Tryz.func119 rfl Tryz.ntmps119 Lb rfl ?_
 refine gD ?_; intros
 refine xC ?_
 refine wn [0, 1, 4] ?_
 refine gE ?_; intros
 refine WC.loopI [0, 1] rfl (fun μ F' h' => ∃ i : Nat, ∃ w2 : Ws, ∃ e1 : List Ev, (i ≤ l.length ∧ Stp w w2 e1 0 ∧ twG [] l = e1 ++ twG (l.take i) (l.drop i)) ∧ l.length - i = μ ∧ F' = [(4, .int .i64 i)] ∧ wdR b w2 :: evR w2 :: h = h') (l.length - 0) [(4, .int .i64 0)] (h0 := wdR b w :: evR w :: h) ?_ Sb ⟨0, w, [], ⟨by omega, Stp.refl hw 0, rfl⟩, rfl, rfl, rfl⟩ ?_
 exact Su
 rintro _ _ _ ⟨i, w2, e1, ⟨hi, hS, hJ⟩, rfl, rfl, rfl⟩
 refine WC.frm rfl ?_
 refine gD ?_; intros
 refine xM ?_
 refine xM ?_
 refine xG (PO.lenSl u48 Et) ?_
 refine bD ?_
 refine wn [0, 1, 4, 8] ?_
 refine gE ?_; intros
 refine wc (fun c8 => ?_) fun c8 => ?_
 replace c8 := dT c8
 obtain ⟨x, hx⟩ := get_some (l := l) (k := i) (by omega)
 have hpr := hL.takeF encB_len (j := i) (by omega)
 rw [twG_at hx] at hJ
 refine WC.skip (kp [0, 1, 4] ?_)
 refine gE ?_; intros
 refine dS [] (.op 0 (.op 1 (.op 2 (.op 3 (.op 4 (.op 5 (.op 6 .nil))))))) [7] mixed ?_
 refine yG rfl (PO.move Et) ?_
 refine yG rfl (PO.move Et) ?_
 refine yG rfl (PO.sliceH EL48.und EL48.size Et Et rfl (by omega)) ?_
 refine yG rfl (PO.move Et) ?_
 refine yG rfl (PO.move Et) ?_
 refine yG rfl (PO.idx EL48.und EL48.size EL48.posz (Ev.tmp rfl) (Ev.tmp rfl) Rr rfl (by omega)) ?_
 refine yG rfl (PO.loadF1 u9 rfl encB_len Rr (Ev.tmp rfl) (by assumption) rfl) ?_
 refine SR.nil rfl rfl ?_
 refine xf (E2 Et Et) (inR_ct _ _ _ (l.take i) x _ _ (hpr.mono (View.le.refl m) Sb)) ?_
 refine wn [0, 1, 4, 18] ?_
 refine gE ?_; intros
 refine wc (fun c18 => ?_) fun c18 => ?_
 have d18 : (l.take i).contains x = true := c18
 rw [if_pos d18] at hJ
 have hT2 : w2.l.length + 1 ≤ 1099511627776 := by
   have h1 := hS.l
   rw [hJ] at hT
   rw [h1]
   simp only [List.length_append, List.length_cons, List.length_nil] at hT ⊢
   have : w.l.length + (e1.length + (0 + 1 + (twG (l.take (i + 1)) (l.drop (i + 1))).length)) ≤ 1099511627776 := hT
   omega
 have hn2 := hS.n
 refine gE ?_; intros
 refine WC.drawS [4, 10] (.op 0 (.op 1 (.op 2 (.op 3 (.op 5 (.op 6 (.op 7 (.op 8 (.op 9 (.op 4 (.op 10 .nil))))))))))) [11, 12, 13, 14] _ [_, _] mixed (fun _ _ _ _ _ h => h) [0] (by kernel_rfl) ?_
 refine yG rfl (PO.move Et) ?_
 refine yG rfl (PO.move Et) ?_
 refine yG rfl (PO.nilCheck Et) ?_
 refine yG rfl (pF u116) ?_
 refine yG rfl (PO.move Et) ?_
 refine yG rfl (PO.move Et) ?_
 refine yG rfl (PO.idx EL48.und EL48.size EL48.posz (Ev.tmp rfl) (Ev.tmp rfl) Rr rfl (by omega)) ?_
 refine yG rfl (PO.loadF1 u9 rfl encB_len Rr (Ev.tmp rfl) (by assumption) rfl) ?_
 refine yG rfl (PO.build u94 rfl rfl rfl (EvP.cons Et (EvP.cons Ev.const EvP.nil)) rfl) ?_
 refine SR.poE rfl rfl (fun fr => PO.load1 u91 rfl Et (List.mem_append_right _ Me) rfl) Lb ?_
 refine SR.buildSlice rfl rfl EL91 rfl (EvP.cons Et EvP.nil) rfl rfl (by decide) rfl Lb fun b29 => ?_
 refine SR.nil rfl rfl ?_
 refine xD EL91 (Ev.tmp rfl) (Ev.tmp rfl) rfl (fl_snoc (enc := evE) _ ((x, true))) fun a30 c30 => ?_
 refine xG (PO.nilCheck Et) ?_
 refine xF u116 ?_
 refine xS ?_
 refine wn [0, 1, 4] ?_
 refine gD ?_; intros
 refine xM ?_
 refine bI ?_
 refine xA ?_
 refine WL.nil (loopBackI (l.length - (i + 1)) [(4, .int .i64 (i + 1))] (h'' := wdR b (⟨a30, w2.n + 1, c30, w2.l ++ [(x, true)], w2.cnt⟩) :: evR (⟨a30, w2.n + 1, c30, w2.l ++ [(x, true)], w2.cnt⟩) :: h) (by omega) ?_ Su Sb ⟨i + 1, ⟨a30, w2.n + 1, c30, w2.l ++ [(x, true)], w2.cnt⟩, e1 ++ [(x, true)], ⟨by omega, hS.trans (e := e1) (f := [(x, true)]) (c := 0) ⟨rfl, by show w2.n + 1 = _; rw [hS.n, List.length_append]; rfl, Nat.le_refl _, Nat.le_refl _⟩, by rw [hJ, List.append_assoc]⟩, rfl, rfl, rfl⟩)
 exact Su
 have d18 : (l.take i).contains x = false := c18
 rw [if_neg (by rw [d18]; decide), List.nil_append] at hJ
 refine WC.skip (kp [0, 1, 4] ?_)
 refine gD ?_; intros
 refine xM ?_
 refine bI ?_
 refine xA ?_
 refine WL.nil (loopBackI (l.length - (i + 1)) [(4, .int .i64 (i + 1))] (h'' := wdR b w2 :: evR w2 :: h) (by omega) ?_ Su Sb ⟨i + 1, w2, e1, ⟨by omega, hS, hJ⟩, rfl, rfl, rfl⟩)
 exact Su
 replace c8 := dF c8
 obtain rfl : i = l.length := by omega
 rw [List.drop_length, show twG (l.take l.length) [] = [] from rfl, List.append_nil] at hJ
 refine WC.exit (end0 (h' := wdR b w2 :: evR w2 :: h) (.inr rfl) rfl  (View.le.refl m) Sb ?_)
 exact ⟨w2, hJ ▸ hS, rfl⟩
abbrev Ws.up (w : Ws) : Ws := ⟨w.a, w.n, w.c, w.l, w.cnt + 1⟩
theorem Stp.up {w : Ws} (h : w.n = w.l.length) : Stp w w.up [] 1 := ⟨by simp, h, Nat.le_succ _, Nat.le_refl _⟩
theorem declF_ct (b : Nat) (w : Ws) (hc : w.cnt + 1 ≤ 4398046511104) (s : B) (h : List Res) (m : View) :
   CT Tryz.prog 76 [.pointer (some ⟨b, 0, none⟩), str s] (wdR b w :: evR w :: h) m (fun v _ h' => ∃ nw, v = etV ⟨s, nw, false, none, 0, []⟩ ∧ h' = wdR b w.up :: evR w.up :: h) := by
 refine CT.body Tryz.call76 Tryz.func76 rfl Tryz.ntmps76 Lb rfl ?_
 refine gD ?_; intros
 refine xW fun b4 => ?_
 refine wn [0, 1, 4] ?_
 refine gD ?_; intros
 refine xM ?_
 refine xG (PO.nilCheck Et) ?_
 refine xF u116 ?_
 refine xG (pL u3) ?_
 refine bI ?_
 refine xG (PO.nilCheck Et) ?_
 refine xF u116 ?_
 refine xS ?_
 refine wn [0, 1, 4] ?_
 refine gE ?_; intros
 refine WC.loopI [0, 1, 4] rfl (fun μ F' h' => (True) ∧ 0 = μ ∧ F' = [] ∧ .pt b4 (.cells (etE zeroT0).toArray 135 (0, 0)) :: wdR b w.up :: evR w.up :: h = h') (0) [] (h0 := .pt b4 (.cells (etE zeroT0).toArray 135 (0, 0)) :: wdR b w.up :: evR w.up :: h) ?_ Sb ⟨trivial, rfl, rfl, rfl⟩ ?_
 exact Su
 rintro _ _ _ ⟨hx, rfl, rfl, rfl⟩
 refine WC.frm rfl ?_
 refine gE ?_; intros
 refine dS [8] (.op 0 (.op 1 (.op 2 (.op 3 (.op 4 (.op 5 (.op 6 (.op 7 (.op 8 (.op 9 .nil)))))))))) [10] mixed ?_
 refine yG rfl (PO.move Et) ?_
 refine yG rfl (PO.nilCheck Et) ?_
 refine yG rfl (pF u116) ?_
 refine yG rfl (pL u48) ?_
 refine yG rfl (PO.move Et) ?_
 refine yG rfl (PO.nilCheck Et) ?_
 refine yG rfl (pF u116) ?_
 refine yG rfl (pL u3) ?_
 refine SR.callV rfl rfl Ev.func (E1 Et) (fun fr => digF_ct (w.cnt + 1) hc _ _) Lb ?_
 rintro _ ⟨s20, hs20, rfl⟩
 refine yG rfl (PO.catS Ev.const Et (by simp; omega)) ?_
 refine SR.nil rfl rfl ?_
 refine xf (E2 Et Et) (inR_ct none 0 0 [] ([110] ++ s20) _ _ (Rd.nilF encB 1 m _)) ?_
 refine wn [0, 1, 4, 22] ?_
 refine gE ?_; intros
 refine wc (fun c22 => ?_) fun c22 => ?_
 cases c22
 refine WC.exit (kp [0, 1, 4] ?_)
 refine gD ?_; intros
 refine xM ?_
 refine xM ?_
 refine xG (PO.nilCheck Et) ?_
 refine xF u116 ?_
 refine xG (pL u3) ?_
 refine xg (E1 Et) (digF_ct (w.cnt + 1) hc _ _) ?_
 rintro _ _ ⟨⟨s35, hs35, rfl⟩, rfl⟩
 refine xG (PO.catS Ev.const Et (by simp; omega)) ?_
 refine xG (PO.build u135 rfl rfl rfl (EvP.cons Et (EvP.cons Et EvP.nil)) rfl) ?_
 refine xS ?_
 refine wn [4] ?_
 refine WC.ret (end1 (h' := wdR b w.up :: evR w.up :: h) (.inl rfl) rfl (RV.cellA u135 rfl rfl rfl Me rfl) (View.le.refl m) Sb ?_)
 exact ⟨_, rfl, rfl⟩
theorem withF_ct (a1 a2 : Option Addr) (k1 c1 k2 c2 : Nat) (E1 E2 : List Et) (h : List Res) (m : View) (h1 : Rd m h a1 k1 c1 4 (fl etE E1)) (h2 : Rd m h a2 k2 c2 4 (fl etE E2)) (hk : k1 + k2 ≤ Top) :
   CT Tryz.prog 77 [.slice a1 k1 c1, .slice a2 k2 c2] h m (fun v _ h' => ∃ a c, v = .slice a (k1 + k2) c ∧ h' = .row (.slice a (k1 + k2) c) 135 4 (k1 + k2) (fl etE (E1 ++ E2)) :: h) := by
 have hk2 : k1 + k2 ≤ 1099511627776 := hk
 refine CT.body Tryz.call77 Tryz.func77 rfl Tryz.ntmps77 Lb rfl ?_
 refine gD ?_; intros
 refine WL.addNil 135 4 ?_
 refine xC ?_
 refine wn [0, 1] ?_
 refine gD ?_; intros
 refine WL.addNil 135 4 ?_
 refine xC ?_
 refine wn [0, 1, 5] ?_
 refine gD ?_; intros
 refine xM ?_
 refine xM ?_
 refine xD EL129 (Ev.tmp rfl) (Ev.tmp rfl) (Nat.zero_add _) (by rw [List.nil_append]) fun a8 c8 => ?_
 refine xA ?_
 refine wn [1, 5] ?_
 refine gD ?_; intros
 refine xM ?_
 refine xM ?_
 refine xD EL129 (Ev.tmp rfl) (Ev.tmp rfl) rfl (fl_app _ _).symm fun a11 c11 => ?_
 refine xA ?_
 refine wn [4] ?_
 refine WC.ret (wR (.row (.slice a11 (k1 + k2) c11) 135 4 (k1 + k2) (fl etE (E1 ++ E2)) :: h) ?_)
 exact ⟨a11, c11, rfl, rfl⟩
def tyX0 (x : Et) (E : List Et) (t : Ty) : Et := match lkE E t.proto with
 | some p => if t.kind = 4 ∧ t.proto ≠ [] ∧ p.proto = true then ⟨x.name, x.new, x.proto, p.ta, p.tc, p.tags⟩ else x
 | none => x
theorem tyX0_eq (x : Et) (E : List Et) (t : Ty) : tyX0 x E t = if ((((t.kind == 4) && !(t.proto == [])) && (lkE E t.proto).isSome) && ((lkE E t.proto).getD zeroT0).proto) = true then ⟨x.name, x.new, x.proto, ((lkE E t.proto).getD zeroT0).ta, ((lkE E t.proto).getD zeroT0).tc, ((lkE E t.proto).getD zeroT0).tags⟩ else x := by
 unfold tyX0
 cases lkE E t.proto with
 | none => simp
 | some p =>
   dsimp only
   by_cases hk : t.kind = 4 ∧ t.proto ≠ [] ∧ p.proto = true
   · rw [if_pos hk, if_pos (by simp [hk.1, hk.2.1, hk.2.2])]
     rfl
   · rw [if_neg hk, if_neg (by simpa using hk)]
theorem typedF_ct (x : Et) (t : Ty) (a : Option Addr) (k c : Nat) (E : List Et) (h : List Res) (m : View) (hE : Rd m h a k c 4 (fl etE E)) :
   CT Tryz.prog 120 [etV x, tyV t, .slice a k c] h m (Pure1 h (etV (tyX0 x E t))) := by
 have he := tyX0_eq x E t
 refine CT.body Tryz.call120 Tryz.func120 rfl Tryz.ntmps120 Lb rfl ?_
 refine gD ?_; intros
 refine xX fun b3 => ?_
 refine xX fun b4 => ?_
 refine xW fun b6 => ?_
 refine wn [2, 3, 4, 6] ?_
 refine gD ?_; intros
 refine xM ?_
 refine xF u30 ?_
 refine xG (pL u9) ?_
 refine xf (E2 Et Et) (CT.val (findF_ct _ _ _ E t.proto _ _ (hE.mono (View.le.refl m) Sb)) (fndE_eq E t.proto)) ?_
 refine xM ?_
 refine xE ?_
 refine xE ?_
 refine xW fun b7 => ?_
 refine xS ?_
 refine xA ?_
 refine wn [3, 4, 6, 7, 8] ?_
 refine gG ?_; intros; rename_i ops hG
 refine xF u30 ?_
 refine xG (pL u24) ?_
 refine bB ?_
 refine xM ?_
 refine zG (fun _ => pF u30) ?_
 refine zG (fun hc => PO.load1 u9 rfl (Eg hc) Me rfl) ?_
 refine zG (fun hc => PO.neqS (Eg hc) Ev.const) ?_
 refine xP ?_
 refine xM ?_
 refine zM ?_
 refine xP ?_
 refine xM ?_
 refine zG (fun _ => pF u135) ?_
 refine zG (fun hc => PO.load1 u4 rfl (Eg hc) Me rfl) ?_
 refine xP ?_
 refine wn [3, 6, 7, 30] ?_
 try clear hG ops
 (repeat refine WC.seqK fun K hK => ?_)
 refine WC.cutK (by assumption) [3, 6] rfl (fun F' h' => ∃ y : Et, (y = tyX0 x E t) ∧ F' = [] ∧ .pt b7 (.cells (etE ((lkE E t.proto).getD zeroT0)).toArray 135 (0, 0)) :: .pt b6 (.cells (etE zeroT0).toArray 135 (0, 0)) :: .pt b4 (.cells (cellT t).toArray 30 (0, 0)) :: .pt b3 (.cells (etE y).toArray 135 (0, 0)) :: h = h') ?_ ?_
 refine gE ?_; intros
 refine wc (fun c30 => ?_) fun c30 => ?_
 rw [if_pos c30] at he
 refine gD ?_; intros
 refine xF u135 ?_
 refine xG (pL u48) ?_
 refine xF u135 ?_
 refine xS ?_
 refine WL.nil (meetI [] (h'' := .pt b7 (.cells (etE ((lkE E t.proto).getD zeroT0)).toArray 135 (0, 0)) :: .pt b6 (.cells (etE zeroT0).toArray 135 (0, 0)) :: .pt b4 (.cells (cellT t).toArray 30 (0, 0)) :: .pt b3 (.cells (etE (⟨x.name, x.new, x.proto, ((lkE E t.proto).getD zeroT0).ta, ((lkE E t.proto).getD zeroT0).tc, ((lkE E t.proto).getD zeroT0).tags⟩)).toArray 135 (0, 0)) :: h) ?_ Su Sb ⟨⟨x.name, x.new, x.proto, ((lkE E t.proto).getD zeroT0).ta, ((lkE E t.proto).getD zeroT0).tc, ((lkE E t.proto).getD zeroT0).tags⟩, he.symm, rfl, rfl⟩)
 exact Su
 rw [if_neg (by rw [c30]; decide)] at he
 refine WC.skip (meetI [] (h'' := .pt b7 (.cells (etE ((lkE E t.proto).getD zeroT0)).toArray 135 (0, 0)) :: .pt b6 (.cells (etE zeroT0).toArray 135 (0, 0)) :: .pt b4 (.cells (cellT t).toArray 30 (0, 0)) :: .pt b3 (.cells (etE x).toArray 135 (0, 0)) :: h) ?_ Su Sb ⟨x, he.symm, rfl, rfl⟩)
 exact Su
 rintro _ _ ⟨y, hy, rfl, rfl⟩
 refine WC.frm rfl ?_
 refine gD ?_; intros
 refine xG (pA u135) ?_
 refine xS ?_
 refine wn [6] ?_
 refine WC.ret (end1 (h' := h) (.inl rfl) rfl (RV.cellA u135 rfl rfl rfl Me rfl) (View.le.refl m) Sb ?_)
 exact ⟨by rw [hy]; rfl, rfl⟩
theorem taggedF_eq {E : List Et} {k : Int} {ch : Ex} {ex : List Ex} : taggedF (E.map Et.f) k ch ex = (((((k == 5) && ((hdE1 ex).k == 4)) && (lkE E ch.s).isSome) && !((lkE E ch.s).getD zeroT0).proto) && ((lkE E ch.s).getD zeroT0).tags.contains (hdE1 ex).s) := by
 unfold taggedF
 rw [← lkE_eq]
 cases lkE E ch.s with
 | none => simp
 | some x => simp [Et.f]
theorem tags_rd {m : View} {h : List Res} {E : List Et} (q : EnvT m h E) (nm : B) : Rd m h ((lkE E nm).getD zeroT0).ta ((lkE E nm).getD zeroT0).tags.length ((lkE E nm).getD zeroT0).tc 1 (fl encB ((lkE E nm).getD zeroT0).tags) := by
 cases hx : lkE E nm with
 | none => exact Rd.nilF encB 1 m h
 | some x => exact q x (lkM_mem hx)
theorem taggedF_ct (p : Pr) (a : Option Addr) (k c : Nat) (E : List Et) (h : List Res) (m : View) (hX : LOk m h p.ex) (hne : p.k = 5 → p.ex.l ≠ []) (hE : Rd m h a k c 4 (fl etE E)) (hTg : EnvT m h E) :
   CT Tryz.prog 73 [prV p, .slice a k c] h m (Pure1 h (.bool (taggedF (E.map Et.f) p.k p.ch p.ex.l))) := by
 have he := taggedF_eq (E := E) (k := p.k) (ch := p.ch) (ex := p.ex.l)
 have hx := hX.rd
 have hxm := hx.mx
 have hxl := hx.le
 have hT := tags_rd hTg p.ch.s
 have h0 : p.k = 5 → p.ex.l[0]? = some (hdE1 p.ex.l) := fun q => by
   cases hl : p.ex.l with
   | nil => exact absurd hl (hne q)
   | cons y r => rfl
 have h1 : p.k = 5 → 0 < p.ex.l.length := fun q => (List.getElem?_eq_some_iff.1 (h0 q)).1
 refine CT.body Tryz.call73 Tryz.func73 rfl Tryz.ntmps73 Lb rfl ?_
 refine gD ?_; intros
 refine xX fun b2 => ?_
 refine xC ?_
 refine wn [1, 2] ?_
 refine gD ?_; intros
 refine xM ?_
 refine xF u56 ?_
 refine xF u27 ?_
 refine xG (pL u9) ?_
 refine xf (E2 Et Et) (CT.val (findF_ct _ _ _ E p.ch.s _ _ (hE.mono (View.le.refl m) Sb)) (fndE_eq E p.ch.s)) ?_
 refine xM ?_
 refine xE ?_
 refine xE ?_
 refine xW fun b5 => ?_
 refine xS ?_
 refine xA ?_
 refine wn [2, 5, 6] ?_
 refine gE ?_; intros
 refine dS [] (.op 0 (.op 1 (.op 2 (.op 3 (.op 4 (.op 5 (.op 6 (.op 7 (.op 8 (.op 9 (.op 10 (.op 11 (.op 12 (.op 13 (.op 14 (.op 15 (.op 16 (.op 17 (.op 18 (.op 19 (.op 20 (.op 21 (.op 22 (.op 23 (.op 24 (.op 25 (.op 26 .nil))))))))))))))))))))))))))) [27, 28, 29] mixed ?_
 refine yG rfl (pF u56) ?_
 refine yG rfl (pL u41) ?_
 refine yG rfl (PO.bin Et Ev.const rfl) ?_
 refine yG rfl (PO.move Et) ?_
 refine SR.poG rfl rfl (GU.t rfl rfl) (fun hc => PO.fieldAddr u56 rfl (Nat.ne_of_beq_eq_false rfl) Et) Lb ?_
 refine SR.poG rfl rfl (GU.t rfl rfl) (fun hc => PO.load1 u25 rfl (Eg hc) Me rfl) Lb ?_
 refine SR.poG rfl rfl (GU.t rfl rfl) (fun hc => PO.idx EL25.und EL25.size EL25.posz (Eg hc) Ev.const Rr rfl (q := 0) (h1 (by simpa using hc))) Lb ?_
 refine SR.poG rfl rfl (GU.t rfl rfl) (fun hc => PO.fieldF u27 rfl (Nat.ne_of_beq_eq_false rfl) exE_len (Nat.succ_pos _) Rr (h0 (by simpa using hc)) (Eg hc)) Lb ?_
 refine SR.poG rfl rfl (GU.t rfl rfl) (fun hc => PO.loadFf u22 rfl exE_len Rr (Eg hc) (h0 (by simpa using hc)) rfl) Lb ?_
 refine SR.poG rfl rfl (GU.t rfl rfl) (fun hc => PO.bin (Eg hc) Ev.const rfl) Lb ?_
 refine yG rfl (PO.pickAnd rfl rfl) ?_
 refine yG rfl (PO.move Et) ?_
 refine SR.poG rfl rfl (GU.t rfl rfl) (fun hc => PO.move Et) Lb ?_
 refine yG rfl (PO.pickAnd rfl rfl) ?_
 refine yG rfl (PO.move Et) ?_
 refine SR.poG rfl rfl (GU.t rfl rfl) (fun hc => PO.fieldAddr u135 rfl (Nat.ne_of_beq_eq_false rfl) Et) Lb ?_
 refine SR.poG rfl rfl (GU.t rfl rfl) (fun hc => PO.load1 u4 rfl (Eg hc) Me rfl) Lb ?_
 refine SR.poG rfl rfl (GU.t rfl rfl) (fun hc => PO.not (Eg hc)) Lb ?_
 refine yG rfl (PO.pickAnd rfl rfl) ?_
 refine yG rfl (PO.move Et) ?_
 refine SR.poG rfl rfl (GU.t rfl rfl) (fun hc => PO.fieldAddr u135 rfl (Nat.ne_of_beq_eq_false rfl) Et) Lb ?_
 refine SR.poG rfl rfl (GU.t rfl rfl) (fun hc => PO.load1 u48 rfl (Eg hc) Me rfl) Lb ?_
 refine SR.poG rfl rfl (GU.t rfl rfl) (fun hc => PO.fieldAddr u56 rfl (Nat.ne_of_beq_eq_false rfl) Et) Lb ?_
 refine SR.poG rfl rfl (GU.t rfl rfl) (fun hc => PO.load1 u25 rfl (Eg hc) Me rfl) Lb ?_
 refine SR.poG rfl rfl (GU.t rfl rfl) (fun hc => PO.idx EL25.und EL25.size EL25.posz (Eg hc) Ev.const Rr rfl (q := 0) (h1 (by simp at hc; exact hc.1.1.1))) Lb ?_
 refine SR.poG rfl rfl (GU.t rfl rfl) (fun hc => PO.fieldF u27 rfl (Nat.ne_of_beq_eq_false rfl) exE_len (Nat.succ_pos _) Rr (h0 (by simp at hc; exact hc.1.1.1)) (Eg hc)) Lb ?_
 refine SR.poG rfl rfl (GU.t rfl rfl) (fun hc => PO.loadFf u9 rfl exE_len Rr (Eg hc) (h0 (by simp at hc; exact hc.1.1.1)) rfl) Lb ?_
 refine SR.nil rfl rfl ?_
 refine WL.callG (GU.t rfl rfl) (fun hc => ⟨Ev.func, (E2 (Eg hc) (Eg hc)), inR_ct _ _ _ ((lkE E p.ch.s).getD zeroT0).tags (hdE1 p.ex.l).s _ _ (hT.mono (View.le.refl m) Sb)⟩) Lb ?_
 refine xP ?_
 refine xA ?_
 refine wn [4] ?_
 try clear hG ops
 refine WC.ret (wR (h) ?_)
 exact ⟨by rw [he], rfl⟩
end Go.Proofs.YtdhmplmpbcnojaaGreatDoor
end
/- FrD -/
section
namespace Go.Proofs.YtdhmplmpbcnojaaGreatDoor
open Go.Eng Go.Pc Go.Fr Go
open Go.Xp hiding B nameT
open Go.Ty (Ty Vr eqT tyV cellT PrOk VOk encV encV_len encI encI_len)
open Go.Lx (encB encB_len)
set_option maxRecDepth 100000
structure SmG (g : Gu) : Prop where
 cond : smE g.cond
 ch : smE g.ch
 time : smE g.time
 tg : ∀ x ∈ g.tg.l, smE x
 tn : g.tg.l.length ≤ 1048576
 vl : ∀ x ∈ g.vl.l, smE x
 vn : g.vl.l.length ≤ 1048576
 bn : g.bl.length ≤ 1048576
structure Sm1 (p : Pr) : Prop where
 ch : smE p.ch
 tg : ∀ x ∈ p.tg.l, smE x
 tn : p.tg.l.length ≤ 1048576
 ex : ∀ x ∈ p.ex.l, smE x
 en : p.ex.l.length ≤ 1048576
 rb : smE p.rep.base
 rc : smE p.rep.count
 gs : ∀ g ∈ p.gl, SmG g
 gn : p.gl.length ≤ 1048576
 ln : p.ll.length ≤ 1048576
 sn : p.sp.names.l.length ≤ 1048576
 sf : p.sp.fs.l.length ≤ 1048576
 sv : p.sp.vs.l.length ≤ 1048576
 se : smE p.sp.e
 sb : p.sp.bl.length ≤ 1048576
 s4 : p.sp.k = 4 → p.sp.ty = Go.Ty.zeroT
 ne : p.k = 5 → p.ex.l ≠ []
inductive SmP : Pr → Prop
 | mk {p : Pr} (o : Sm1 p) (s : ∀ x, In x p → SmP x) : SmP p
theorem SmP.own {p : Pr} (q : SmP p) : Sm1 p := by cases q; assumption
theorem SmP.sub {p x : Pr} (q : SmP p) (hx : In x p) : SmP x := by cases q with | mk o s => exact s x hx
def PrF (b : Nat) (p : Pr) : Prop := ∀ (w : Ws) (h : List Res) (m : View) (a : Option Addr) (k c : Nat) (E : List Et), SmP p → w.n = w.l.length → POk m h p → Rd m h a k c 4 (fl etE E) → EnvT m h E → E.length + dcP p ≤ Top →
 w.l.length + (evP p (E.map Et.f)).length ≤ Top → w.cnt + dcP p ≤ Top →
 CT Tryz.prog 52 [.pointer (some ⟨b, 0, none⟩), prV p, .slice a k c] (wdR b w :: evR w :: h) m (fun v _ h' => ∃ q w', v = prV q ∧ Stp w w' (evP p (E.map Et.f)) (dcP p) ∧ h' = wdR b w' :: evR w' :: h)
theorem evPs_drop {E : List Fe} {l : List Pr} {i : Nat} {x : Pr} (h : l[i]? = some x) : evPs (l.drop i) E = evP x E ++ evPs (l.drop (i + 1)) E := by
 obtain ⟨hi, rfl⟩ := List.getElem?_eq_some_iff.1 h
 rw [List.drop_eq_getElem_cons hi]
 rfl
theorem dcPs_drop {l : List Pr} {i : Nat} {x : Pr} (h : l[i]? = some x) : dcPs (l.drop i) = dcP x + dcPs (l.drop (i + 1)) := by
 obtain ⟨hi, rfl⟩ := List.getElem?_eq_some_iff.1 h
 rw [List.drop_eq_getElem_cons hi]
 rfl
theorem evGs_drop {E : List Fe} {l : List Gu} {i : Nat} {x : Gu} (h : l[i]? = some x) : evGs (l.drop i) E = evG x E ++ evGs (l.drop (i + 1)) E := by
 obtain ⟨hi, rfl⟩ := List.getElem?_eq_some_iff.1 h
 rw [List.drop_eq_getElem_cons hi]
 rfl
theorem dcGs_drop {l : List Gu} {i : Nat} {x : Gu} (h : l[i]? = some x) : dcGs (l.drop i) = dcG x + dcGs (l.drop (i + 1)) := by
 obtain ⟨hi, rfl⟩ := List.getElem?_eq_some_iff.1 h
 rw [List.drop_eq_getElem_cons hi]
 rfl
def PrsR (b : Nat) (w : Ws) (e : List Ev) (d n : Nat) (h : List Res) : Value → List Res → Prop := fun v h' => ∃ a c l w', l.length = n ∧ v = .slice a l.length c ∧ Stp w w' e d ∧ h' = wdR b w' :: evR w' :: .row (.slice a l.length c) 56 42 l.length (fl prE l) :: h
def GusR (b : Nat) (w : Ws) (e : List Ev) (d n : Nat) (h : List Res) : Value → List Res → Prop := fun v h' => ∃ a c l w', l.length = n ∧ v = .slice a l.length c ∧ Stp w w' e d ∧ h' = wdR b w' :: evR w' :: .row (.slice a l.length c) 70 23 l.length (fl guE l) :: h
theorem procsF_ct (b : Nat) (l : List Pr) (ih : ∀ x ∈ l, PrF b x) (w : Ws) (hw : w.n = w.l.length) (a1 : Option Addr) (k1 c1 : Nat) (a : Option Addr) (k c : Nat) (E : List Et) (h : List Res) (m : View) (hL : Rd m h a1 k1 c1 42 (fl prE l)) (hsm : ∀ x ∈ l, SmP x) (hok : ∀ x ∈ l, POk m h x) (hl1 : l.length ≤ 1048576)
   (hE : Rd m h a k c 4 (fl etE E)) (hEt : EnvT m h E) (hd : E.length + dcPs l ≤ Top) (hT : w.l.length + (evPs l (E.map Et.f)).length ≤ Top) (hc : w.cnt + dcPs l ≤ Top) :
   CT Tryz.prog 80 [.pointer (some ⟨b, 0, none⟩), .slice a1 k1 c1, .slice a k c] (wdR b w :: evR w :: h) m (fun v _ h' => PrsR b w (evPs l (E.map Et.f)) (dcPs l) l.length h v h') := by
 have hl := hL.lenF prE_len (by decide)
 subst hl
 have hmx := hL.mx
 have hle := hL.le
 refine CT.body Tryz.call80 Tryz.func80 rfl Tryz.ntmps80 Lb rfl ?_
 refine gD ?_; intros
 refine xC ?_
 refine wn [0, 1, 2] ?_
 refine gD ?_; intros
 refine WL.addNil 56 42 ?_
 refine xC ?_
 refine wn [0, 1, 2, 7] ?_
 refine gD ?_; intros
 refine WL.take (r := evR w) De ?_
 refine WL.take (r := wdR b w) De ?_
 refine xC ?_
 refine wn [0, 1, 2, 7, 8] ?_
 refine gE ?_; intros
 refine WC.loopI [0, 1, 2] rfl (fun μ F' h' => ∃ i : Nat, ∃ a2 : Option Addr, ∃ c2 : Nat, ∃ l2 : List Pr, ∃ w2 : Ws, ∃ e1 : List Ev, ∃ d1 : Nat, ((i ≤ l.length ∧ l2.length = i) ∧ Stp w w2 e1 d1 ∧ evPs l (E.map Et.f) = e1 ++ evPs (l.drop i) (E.map Et.f) ∧ dcPs l = d1 + dcPs (l.drop i)) ∧ l.length - i = μ ∧ F' = [(7, .slice a2 i c2), (8, .int .i64 i)] ∧ wdR b w2 :: evR w2 :: .row (.slice a2 i c2) 56 42 i (fl prE l2) :: h = h') (l.length - 0) [(7, .slice none 0 0), (8, .int .i64 0)] (h0 := wdR b w :: evR w :: .row (.slice none 0 0) 56 42 0 (fl prE ([])) :: h) ?_ Sb ⟨0, none, 0, [], w, [], 0, ⟨⟨by omega, rfl⟩, Stp.refl hw 0, by rw [List.drop_zero]; rfl, by rw [List.drop_zero]; omega⟩, rfl, rfl, rfl⟩ ?_
 exact Su
 rintro _ _ _ ⟨i, a2, c2, l2, w2, e1, d1, ⟨⟨hi, hl2⟩, hS, hJ, hD⟩, rfl, rfl, rfl⟩
 refine WC.frm rfl ?_
 refine gD ?_; intros
 refine xM ?_
 refine xM ?_
 refine xG (PO.lenSl u45 Et) ?_
 refine bD ?_
 refine wn [0, 1, 2, 7, 8, 12] ?_
 refine gE ?_; intros
 refine wc (fun c12 => ?_) fun c12 => ?_
 replace c12 := dT c12
 obtain ⟨x, hx⟩ := get_some (l := l) (k := i) (by omega)
 have hxm := List.mem_of_getElem? hx
 rw [evPs_drop hx] at hJ
 rw [dcPs_drop hx] at hD
 have hB : w2.l.length + (evP x (E.map Et.f)).length ≤ Top := by
   rw [hJ] at hT
   rw [hS.l]
   simp only [List.length_append] at hT ⊢
   omega
 have hlo := hS.lo
 have hhi := hS.hi
 refine WC.skip (kp [0, 1, 2, 7, 8] ?_)
 refine gD ?_; intros
 refine xM ?_
 refine xM ?_
 refine xM ?_
 refine xM ?_
 refine xG (PO.idx EL45.und EL45.size EL45.posz (Ev.tmp rfl) (Ev.tmp rfl) Rr rfl (by omega)) ?_
 refine xG (PO.loadFA u56 rfl rfl prE_len Rr (Ev.tmp rfl) (by assumption) rfl rfl (Nat.succ_pos _)) ?_
 refine xM ?_
 refine xg (E3 Et Et Et) (ih x hxm w2 _ m a k c E (hsm x hxm) hS.n ((hok x hxm).mono Sb) (hE.mono (View.le.refl m) Sb) (hEt.mono Sb) (by omega) hB (by omega)) ?_
 rintro _ _ ⟨y, w3, rfl, hS3, rfl⟩
 refine xY EL45 (EvP.cons Et EvP.nil) fun b23 => ?_
 refine xD EL45 (Ev.tmp rfl) (Ev.tmp rfl) rfl (fl_snoc (enc := prE) _ (y)) fun a24 c24 => ?_
 refine xA ?_
 refine wn [0, 1, 2, 7, 8] ?_
 refine gD ?_; intros
 refine xM ?_
 refine bI ?_
 refine xA ?_
 refine WL.nil (loopBackI (l.length - (i + 1)) [(7, .slice a24 (i + 1) c24), (8, .int .i64 (i + 1))] (h'' := wdR b w3 :: evR w3 :: .row (.slice a24 (i + 1) c24) 56 42 (i + 1) (fl prE (l2 ++ [y])) :: h) (by omega) ?_ Su Sb ⟨i + 1, a24, c24, l2 ++ [y], w3, e1 ++ evP x (E.map Et.f), d1 + dcP x, ⟨⟨by omega, by simp [hl2]⟩, hS.trans hS3, by rw [hJ, List.append_assoc], by omega⟩, rfl, rfl, rfl⟩)
 exact Su
 replace c12 := dF c12
 obtain rfl : i = l.length := by omega
 rw [List.drop_length, show evPs [] (E.map Et.f) = [] from rfl, List.append_nil] at hJ
 rw [List.drop_length, show dcPs [] = 0 from rfl, Nat.add_zero] at hD
 refine WC.exit (kp [7] ?_)
 refine gD ?_; intros
 refine xM ?_
 refine xA ?_
 refine wn [6] ?_
 refine WC.ret (wR (wdR b w2 :: evR w2 :: .row (.slice a2 l.length c2) 56 42 l.length (fl prE l2) :: h) ?_)
 exact ⟨a2, c2, l2, w2, hl2, by rw [hl2], by rw [hJ, hD]; exact hS, by rw [hl2]⟩
theorem Stp.len {w w' : Ws} {e : List Ev} {d : Nat} (q : Stp w w' e d) : w'.l.length = w.l.length + e.length := by rw [q.l, List.length_append]
theorem Stp.cast {w w' : Ws} {e e' : List Ev} {d d' : Nat} (q : Stp w w' e d) (h : e = e') (hd : d ≤ d') : Stp w w' e' d' := ⟨h ▸ q.l, q.n, q.lo, Nat.le_trans q.hi (by omega)⟩
set_option maxHeartbeats 1000000 in
theorem guardsF_ct (b : Nat) (l : List Gu) (ih : ∀ g ∈ l, ∀ x ∈ g.bl, PrF b x) (w : Ws) (hw : w.n = w.l.length) (a1 : Option Addr) (k1 c1 : Nat) (a : Option Addr) (k c : Nat) (E : List Et) (h : List Res) (m : View) (hL : Rd m h a1 k1 c1 23 (fl guE l)) (hsm : ∀ g ∈ l, SmG g ∧ ∀ x ∈ g.bl, SmP x) (hok : ∀ g ∈ l, GOk m h g ∧ ∀ x ∈ g.bl, POk m h x) (hl1 : l.length ≤ 1048576)
   (hE : Rd m h a k c 4 (fl etE E)) (hEt : EnvT m h E) (hd : E.length + dcGs l ≤ Top) (hT : w.l.length + (evGs l (E.map Et.f)).length ≤ Top) (hc : w.cnt + dcGs l ≤ Top) :
   CT Tryz.prog 79 [.pointer (some ⟨b, 0, none⟩), .slice a1 k1 c1, .slice a k c] (wdR b w :: evR w :: h) m (fun v _ h' => GusR b w (evGs l (E.map Et.f)) (dcGs l) l.length h v h') := by
 have hl := hL.lenF guE_len (by decide)
 subst hl
 have hmx := hL.mx
 have hle := hL.le
 have v0 := View.le.refl m
 refine CT.body Tryz.call79 Tryz.func79 rfl Tryz.ntmps79 Lb rfl ?_
 refine gD ?_; intros
 refine xC ?_
 refine wn [0, 1, 2] ?_
 refine gD ?_; intros
 refine WL.addNil 70 23 ?_
 refine xC ?_
 refine wn [0, 1, 2, 7] ?_
 refine gD ?_; intros
 refine WL.take (r := evR w) De ?_
 refine WL.take (r := wdR b w) De ?_
 refine xC ?_
 refine wn [0, 1, 2, 7, 8] ?_
 refine gE ?_; intros
 refine WC.loopI [0, 1, 2] rfl (fun μ F' h' => ∃ i : Nat, ∃ a2 : Option Addr, ∃ c2 : Nat, ∃ l2 : List Gu, ∃ w2 : Ws, ∃ e1 : List Ev, ∃ d1 : Nat, ((i ≤ l.length ∧ l2.length = i) ∧ Stp w w2 e1 d1 ∧ evGs l (E.map Et.f) = e1 ++ evGs (l.drop i) (E.map Et.f) ∧ dcGs l = d1 + dcGs (l.drop i)) ∧ l.length - i = μ ∧ F' = [(7, .slice a2 i c2), (8, .int .i64 i)] ∧ wdR b w2 :: evR w2 :: .row (.slice a2 i c2) 70 23 i (fl guE l2) :: h = h') (l.length - 0) [(7, .slice none 0 0), (8, .int .i64 0)] (h0 := wdR b w :: evR w :: .row (.slice none 0 0) 70 23 0 (fl guE ([])) :: h) ?_ Sb ⟨0, none, 0, [], w, [], 0, ⟨⟨by omega, rfl⟩, Stp.refl hw 0, by rw [List.drop_zero]; rfl, by rw [List.drop_zero]; omega⟩, rfl, rfl, rfl⟩ ?_
 exact Su
 rintro _ _ _ ⟨i, a2, c2, l2, w2, e1, d1, ⟨⟨hi, hl2⟩, hS, hJ, hD⟩, rfl, rfl, rfl⟩
 refine WC.frm rfl ?_
 refine gD ?_; intros
 refine xM ?_
 refine xM ?_
 refine xG (PO.lenSl u44 Et) ?_
 refine bD ?_
 refine wn [0, 1, 2, 7, 8, 13] ?_
 refine gE ?_; intros
 refine wc (fun c13 => ?_) fun c13 => ?_
 replace c13 := dT c13
 obtain ⟨g, hg⟩ := get_some (l := l) (k := i) (by omega)
 have hgm := List.mem_of_getElem? hg
 rw [evGs_drop hg] at hJ
 rw [dcGs_drop hg] at hD
 obtain ⟨sg, sb⟩ := hsm g hgm
 obtain ⟨og, ob⟩ := hok g hgm
 have hge := evG_eq g (E.map Et.f)
 have hdg := dcG_eq g
 have hB : w2.l.length + ((evX (E.map Et.f) g.cond).length + ((evX (E.map Et.f) g.ch).length + ((evXs (E.map Et.f) g.tg.l).length + ((evXs (E.map Et.f) g.vl.l).length + ((evX (E.map Et.f) g.time).length + (evPs g.bl (E.map Et.f)).length))))) ≤ Top := by
   rw [hJ, hge] at hT
   rw [hS.l]
   simp only [List.length_append] at hT ⊢
   omega
 have hlo := hS.lo
 have hhi := hS.hi
 refine WC.skip (kp [0, 1, 2, 7, 8] ?_)
 refine gD ?_; intros
 refine xM ?_
 refine xM ?_
 refine xG (PO.idx EL44.und EL44.size EL44.posz (Ev.tmp rfl) (Ev.tmp rfl) Rr rfl (by omega)) ?_
 refine xG (PO.loadFA u70 rfl rfl guE_len Rr (Ev.tmp rfl) (by assumption) rfl rfl (Nat.succ_pos _)) ?_
 refine xW fun b9 => ?_
 refine xS ?_
 refine wn [0, 1, 2, 7, 8, 9] ?_
 refine gD ?_; intros
 refine WL.take (r := evR w2) De ?_
 refine WL.take (r := wdR b w2) De ?_
 refine xM ?_
 refine xF u70 ?_
 refine xG (pA u27) ?_
 refine xM ?_
 refine xg (E3 Et Et Et) (exprF_ct b a k c E g.cond w2 _ m sg.cond hS.n (og.cond.t.mono Sb) (hE.mono v0 Sb) (by omega)) ?_
 rintro _ _ ⟨x1, w3, rfl, hS1, rfl⟩
 have q1 := hS1.len
 refine xF u70 ?_
 refine xS ?_
 refine wn [0, 1, 2, 7, 8, 9] ?_
 refine gD ?_; intros
 refine xM ?_
 refine xF u70 ?_
 refine xG (pA u27) ?_
 refine xM ?_
 refine xg (E3 Et Et Et) (exprF_ct b a k c E g.ch w3 _ m sg.ch hS1.n (og.ch.t.mono Sb) (hE.mono v0 Sb) (by omega)) ?_
 rintro _ _ ⟨x2, w4, rfl, hS2, rfl⟩
 have q2 := hS2.len
 refine xF u70 ?_
 refine xS ?_
 refine wn [0, 1, 2, 7, 8, 9] ?_
 refine gD ?_; intros
 refine xM ?_
 refine xF u70 ?_
 refine xG (pL u25) ?_
 refine xM ?_
 refine xg (E3 Et Et Et) (exprsF_ct b g.tg.l a k c E (fun x hx w h m p1 p2 p3 p4 => exprF_ct b a k c E x w h m (sg.tg x hx) p1 p2 p3 p4) w4 hS2.n _ _ _ _ m (og.tg.rd.mono v0 Sb) (fun x hx => (og.tg.ok x hx).t.mono Sb) sg.tn (hE.mono v0 Sb) (by omega)) ?_
 rintro _ _ ⟨a3, c3, l3, w5, hl3, rfl, hS3, rfl⟩
 have q3 := hS3.len
 refine xF u70 ?_
 refine xS ?_
 refine wn [0, 1, 2, 7, 8, 9] ?_
 refine gD ?_; intros
 refine xM ?_
 refine xF u70 ?_
 refine xG (pL u25) ?_
 refine xM ?_
 refine xg (E3 Et Et Et) (exprsF_ct b g.vl.l a k c E (fun x hx w h m p1 p2 p3 p4 => exprF_ct b a k c E x w h m (sg.vl x hx) p1 p2 p3 p4) w5 hS3.n _ _ _ _ m (og.vl.rd.mono v0 Sb) (fun x hx => (og.vl.ok x hx).t.mono Sb) sg.vn (hE.mono v0 Sb) (by omega)) ?_
 rintro _ _ ⟨a4, c4, l4, w6, hl4, rfl, hS4, rfl⟩
 have q4 := hS4.len
 refine xF u70 ?_
 refine xS ?_
 refine wn [0, 1, 2, 7, 8, 9] ?_
 refine gD ?_; intros
 refine xM ?_
 refine xF u70 ?_
 refine xG (pA u27) ?_
 refine xM ?_
 refine xg (E3 Et Et Et) (exprF_ct b a k c E g.time w6 _ m sg.time hS4.n (og.time.t.mono Sb) (hE.mono v0 Sb) (by omega)) ?_
 rintro _ _ ⟨x5, w7, rfl, hS5, rfl⟩
 have q5 := hS5.len
 refine xF u70 ?_
 refine xS ?_
 refine wn [0, 1, 2, 7, 8, 9] ?_
 refine gD ?_; intros
 refine xM ?_
 refine xF u70 ?_
 refine xG (pL u45) ?_
 refine xM ?_
 refine xg (E3 Et Et Et) (procsF_ct b g.bl (ih g hgm) w7 hS5.n _ _ _ a k c E _ m (og.b.mono v0 Sb) sb (fun x hx => (ob x hx).mono Sb) sg.bn (hE.mono v0 Sb) (hEt.mono Sb) (by omega) (by omega) (by have h1 := hS1.hi; have h2 := hS2.hi; have h3 := hS3.hi; have h4 := hS4.hi; have h5 := hS5.hi; omega)) ?_
 rintro _ _ ⟨a6, c6, l6, w8, hl6, rfl, hS6, rfl⟩
 refine xF u70 ?_
 refine xS ?_
 refine wn [0, 1, 2, 7, 8, 9] ?_
 refine gD ?_; intros
 refine xM ?_
 refine xG (pA u70) ?_
 refine xY EL44 (EvP.cons Et EvP.nil) fun b58 => ?_
 refine xD EL44 (Ev.tmp rfl) (Ev.tmp rfl) rfl (fl_snoc (enc := guE) _ ((Gu.mk g.k g.name x1 x2 ⟨a3, c3, l3⟩ ⟨a4, c4, l4⟩ x5 a6 c6 l6))) fun a59 c59 => ?_
 refine xA ?_
 refine wn [0, 1, 2, 7, 8] ?_
 refine gD ?_; intros
 refine xM ?_
 refine bI ?_
 refine xA ?_
 refine WL.nil (loopBackI (l.length - (i + 1)) [(7, .slice a59 (i + 1) c59), (8, .int .i64 (i + 1))] (h'' := wdR b w8 :: evR w8 :: .row (.slice a59 (i + 1) c59) 70 23 (i + 1) (fl guE (l2 ++ [Gu.mk g.k g.name x1 x2 ⟨a3, c3, l3⟩ ⟨a4, c4, l4⟩ x5 a6 c6 l6])) :: h) (by omega) ?_ Su Sb ⟨i + 1, a59, c59, l2 ++ [Gu.mk g.k g.name x1 x2 ⟨a3, c3, l3⟩ ⟨a4, c4, l4⟩ x5 a6 c6 l6], w8, e1 ++ evG g (E.map Et.f), d1 + dcG g, ⟨⟨by omega, by simp [hl2]⟩, (hS.trans (hS1.trans (hS2.trans (hS3.trans (hS4.trans (hS5.trans hS6)))))).cast (by rw [hge]) (by omega), by rw [hJ, List.append_assoc], by omega⟩, rfl, rfl, rfl⟩)
 exact Su
 replace c13 := dF c13
 obtain rfl : i = l.length := by omega
 rw [List.drop_length, show evGs [] (E.map Et.f) = [] from rfl, List.append_nil] at hJ
 rw [List.drop_length, show dcGs [] = 0 from rfl, Nat.add_zero] at hD
 refine WC.exit (kp [7] ?_)
 refine gD ?_; intros
 refine xM ?_
 refine xA ?_
 refine wn [6] ?_
 refine WC.ret (wR (wdR b w2 :: evR w2 :: .row (.slice a2 l.length c2) 70 23 l.length (fl guE l2) :: h) ?_)
 exact ⟨a2, c2, l2, w2, hl2, by rw [hl2], by rw [hJ, hD]; exact hS, by rw [hl2]⟩
end Go.Proofs.YtdhmplmpbcnojaaGreatDoor
end
/- FrE -/
section
namespace Go.Proofs.YtdhmplmpbcnojaaGreatDoor
open Go.Eng Go.Pc Go.Fr Go
open Go.Xp hiding B nameT
open Go.Ty (Ty Vr eqT tyV cellT PrOk VOk encV encV_len encI encI_len)
open Go.Lx (encB encB_len)
set_option maxRecDepth 100000
theorem WC.last {P : Program} {c : Code} {Q : Exit → Act → World → Prop} {n : Cx} {F : Fm} {x : Res} {l : List Res} {m : View} (l' : List Res) (e : l ++ [x] = l') (k : WC P c Q n F l' m) : WC P c Q n F (x :: l) m := .mk fun a w ha hs => k.e a w ha (hs.perm (by rw [← e]; exact (List.perm_append_singleton x l).symm))
theorem WL.last {P : Program} {ops : Array Oper} {Q : Exit → Act → World → Prop} {n : Cx} {o : List Oper} {F : Fm} {x : Res} {l : List Res} {m : View} (l' : List Res) (e : l ++ [x] = l') (k : WL P ops Q n o F l' m) : WL P ops Q n o F (x :: l) m := .mk fun a w ha hs => k.e a w ha (hs.perm (by rw [← e]; exact (List.perm_append_singleton x l).symm))
theorem declF_t (b : Nat) (w : Ws) (hc : w.cnt + 1 ≤ 4398046511104) (s : B) (t : List Res) (m : View) :
   CX Tryz.prog 76 [.pointer (some ⟨b, 0, none⟩), str s] ([wdR b w, evR w] ++ t) m (fun v _ h' => ∃ hp', h' = hp' ++ t ∧ ∃ nw, v = etV ⟨s, nw, false, none, 0, []⟩ ∧ hp' = [wdR b w.up, evR w.up]) (fun _ _ => False) :=
 (CX.ofCT (X := fun _ _ => False) (declF_ct b w hc s t m)).mono (fun _ _ _ ⟨nw, e1, e2⟩ => ⟨[wdR b w.up, evR w.up], e2, nw, e1, rfl⟩) (fun _ _ h => h)
def SpR (b : Nat) (w : Ws) (e : List Ev) (d : Nat) (own : List Fe) (h0 h : List Res) (m : View) : Value → List Res → Prop := fun v h' => ∃ (q : Sp) (a : Option Addr) (c : Nat) (O : List Et) (r : List Res) (w' : Ws), v = .tuple #[spV q, .slice a O.length c] ∧ Stp w w' e d ∧ O.map Et.f = own ∧ Rd m (h0 ++ r) a O.length c 4 (fl etE O) ∧ EnvT m (h0 ++ r) O ∧ h' = wdR b w' :: evR w' :: (h ++ r)
theorem takeM_at {l : List Fo} {i : Nat} {x : Fo} (h : l[i]? = some x) : (l.map (·.name)).take (i + 1) = (l.map (·.name)).take i ++ [x.name] := by
 obtain ⟨hi, rfl⟩ := List.getElem?_eq_some_iff.1 h
 rw [List.take_succ_eq_append_getElem (by simpa using hi)]
 simp
theorem tyX0_zero (x : Et) (E : List Et) : tyX0 x E Go.Ty.zeroT = x := by
 unfold tyX0
 cases lkE E Go.Ty.zeroT.proto with
 | none => rfl
 | some p => exact if_neg (fun q => absurd q.1 (by decide))
theorem tagT_zero (E : List Fe) : tagT E Go.Ty.zeroT = [] := by
 unfold tagT
 cases lk E Go.Ty.zeroT.proto with
 | none => rfl
 | some p => exact if_neg (fun q => absurd q.1 (by decide))
theorem tyX0_f (n nw : B) (E : List Et) (t : Ty) : (tyX0 ⟨n, nw, false, none, 0, []⟩ E t).f = ⟨n, false, tagT (E.map Et.f) t⟩ := by
 unfold tyX0 tagT
 rw [← lkE_eq]
 cases lkE E t.proto with
 | none => rfl
 | some p =>
   dsimp only [Option.map_some, Et.f]
   split <;> rfl
theorem tyX0_rd {m : View} {h : List Res} {E : List Et} (q : EnvT m h E) (n nw : B) (t : Ty) : Rd m h (tyX0 ⟨n, nw, false, none, 0, []⟩ E t).ta (tyX0 ⟨n, nw, false, none, 0, []⟩ E t).tags.length (tyX0 ⟨n, nw, false, none, 0, []⟩ E t).tc 1 (fl encB (tyX0 ⟨n, nw, false, none, 0, []⟩ E t).tags) := by
 unfold tyX0
 cases hx : lkE E t.proto with
 | none => exact Rd.nilF encB 1 m h
 | some p =>
   dsimp only
   split
   · exact q p (lkM_mem hx)
   · exact Rd.nilF encB 1 m h
theorem ownF_at {E : List Fe} {s : Sp} {i : Nat} {n : B} (h : s.names.l[i]? = some n) : (ownF E s).take (i + 1) = (ownF E s).take i ++ [⟨n, s.k == 4, tagT E s.ty ++ (if s.k = 4 ∧ s.cs = true then s.vs.l.map (·.tag) else [])⟩] := by
 have : (ownF E s)[i]? = some ⟨n, s.k == 4, tagT E s.ty ++ (if s.k = 4 ∧ s.cs = true then s.vs.l.map (·.tag) else [])⟩ := by
   unfold ownF
   rw [List.getElem?_map, h]
   rfl
 obtain ⟨hi, e⟩ := List.getElem?_eq_some_iff.1 this
 rw [List.take_succ_eq_append_getElem hi, e]
theorem takeV_at {l : List Vr} {i : Nat} {x : Vr} (h : l[i]? = some x) : (l.map (·.tag)).take (i + 1) = (l.map (·.tag)).take i ++ [x.tag] := by
 obtain ⟨hi, rfl⟩ := List.getElem?_eq_some_iff.1 h
 rw [List.take_succ_eq_append_getElem (by simpa using hi)]
 simp
theorem innF_at {E : List Fe} {l : List Fo} {i : Nat} {f : Fo} (h : l[i]? = some f) : (innF E l).take (i + 1) = (innF E l).take i ++ [⟨f.name, false, tagT E f.ty⟩] := by
 obtain ⟨hi, rfl⟩ := List.getElem?_eq_some_iff.1 h
 unfold innF
 rw [List.take_succ_eq_append_getElem (by simpa using hi)]
 simp
theorem takeT_at {l : List Fo} {i : Nat} {x : Fo} (h : l[i]? = some x) : (l.map (·.ty)).take (i + 1) = (l.map (·.ty)).take i ++ [x.ty] := by
 obtain ⟨hi, rfl⟩ := List.getElem?_eq_some_iff.1 h
 rw [List.take_succ_eq_append_getElem (by simpa using hi)]
 simp
theorem dropR2 {α : Type} {l : List α} {i : Nat} {x : α} (h : l[i]? = some x) : l.drop i = x :: l.drop (i + 1) := by
 obtain ⟨hi, rfl⟩ := List.getElem?_eq_some_iff.1 h
 exact List.drop_eq_getElem_cons hi
theorem fl_proto (s : B) : ∀ {l : List Fo} {i : Nat} {g : Fo}, l[i]? = some g → (fl foE l).set (i * 6 + 4) (str s) = fl foE (l.set i ⟨g.val, ⟨g.ty.kind, g.ty.dim, g.ty.item, s⟩, g.name⟩)
 | x :: r, 0, g, h => by cases h; rfl
 | x :: r, i + 1, g, h => by
   have e : fl foE (x :: r) = foE x ++ fl foE r := by simp [fl]
   have e2 : fl foE ((x :: r).set (i + 1) ⟨g.val, ⟨g.ty.kind, g.ty.dim, g.ty.item, s⟩, g.name⟩) = foE x ++ fl foE (r.set i ⟨g.val, ⟨g.ty.kind, g.ty.dim, g.ty.item, s⟩, g.name⟩) := by simp [fl]
   rw [e, e2, List.set_append_right _ _ (by rw [foE_len]; omega), foE_len, show (i + 1) * 6 + 4 - 6 = i * 6 + 4 by omega, fl_proto s (l := r) (i := i) (by simpa using h)]
theorem EnvT.snoc {m : View} {h : List Res} {O : List Et} {x : Et} (q : EnvT m h O) (hx : Rd m h x.ta x.tags.length x.tc 1 (fl encB x.tags)) : EnvT m h (O ++ [x]) := fun y hy => by
 rcases List.mem_append.1 hy with h1 | h1
 · exact q y h1
 · rw [List.mem_singleton] at h1; subst h1; exact hx
theorem EnvT.app {m : View} {h : List Res} {O I : List Et} (q : EnvT m h O) (r : EnvT m h I) : EnvT m h (O ++ I) := fun y hy => (List.mem_append.1 hy).elim (q y) (r y)
theorem withF_o (a1 a2 : Option Addr) (k1 c1 k2 c2 : Nat) (E1 E2 : List Et) (h : List Res) (m : View) (h1 : Rd m h a1 k1 c1 4 (fl etE E1)) (h2 : Rd m h a2 k2 c2 4 (fl etE E2)) (hk : E1.length + E2.length ≤ Top) :
   CT Tryz.prog 77 [.slice a1 k1 c1, .slice a2 k2 c2] h m (fun v _ h' => OwnF etE 135 4 h (E1 ++ E2) v h') := by
 have l1 := h1.lenF etE_len (by decide)
 have l2 := h2.lenF etE_len (by decide)
 exact (withF_ct a1 a2 k1 c1 k2 c2 E1 E2 h m h1 h2 (by omega)).mono fun v _ h' _ ⟨a, c, e1, e2⟩ => ⟨a, c, k1 + k2, by rw [List.length_append, l1, l2], e1, e2⟩
set_option maxHeartbeats 4000000 in
theorem specF_ct (b : Nat) (s : Sp) (ih : ∀ x ∈ s.bl, PrF b x) (w : Ws) (hw : w.n = w.l.length) (a : Option Addr) (k c : Nat) (E : List Et) (h0 h : List Res) (hs0 : h0.Sublist h) (m : View) (hO : SOk m h s) (hOb : ∀ x ∈ s.bl, POk m h x) (sn : s.names.l.length ≤ 1048576) (sf : s.fs.l.length ≤ 1048576) (sv : s.vs.l.length ≤ 1048576) (se : smE s.e) (sb : s.bl.length ≤ 1048576) (s4 : s.k = 4 → s.ty = Go.Ty.zeroT)
   (hsm : ∀ x ∈ s.bl, SmP x) (hE : Rd m h a k c 4 (fl etE E)) (hEt : EnvT m h0 E) (hd : E.length + dcS s ≤ Top) (hT : w.l.length + (evS s (E.map Et.f)).length ≤ Top) (hc : w.cnt + dcS s ≤ Top) :
   CT Tryz.prog 78 [.pointer (some ⟨b, 0, none⟩), spV s, .slice a k c] (wdR b w :: evR w :: h) m (fun v _ h' => SpR b w (evS s (E.map Et.f)) (dcS s) (ownF (E.map Et.f) s) h0 h m v h') := by
 have v0 := View.le.refl m
 have hev := evS_eq s (E.map Et.f)
 have hdc := dcS_eq s
 have f1 := hO.fr
 have f2 := f1.mx
 have f3 := f1.le
 have n1 := hO.nr
 have n2 := n1.mx
 have n3 := n1.le
 have u1 := hO.v.rd
 have u2 := u1.mx
 have u3 := u1.le
 have hc2 : w.cnt + dcS s ≤ 1099511627776 := hc
 have hB : w.l.length + ((twG [] s.names.l).length + ((twG [] (s.fs.l.map (·.name))).length + ((evT (E.map Et.f) s.ty.proto).length + ((evTs (E.map Et.f) s.fs.l).length + ((evX (E.map Et.f) s.e).length + (evPs s.bl ((E.map Et.f) ++ innF (E.map Et.f) s.fs.l)).length))))) ≤ Top := by
   rw [hev] at hT
   simpa only [List.length_append] using hT
 refine CT.body Tryz.call78 Tryz.func78 rfl Tryz.ntmps78 Lb rfl ?_
 refine gD ?_; intros
 refine xX fun b4 => ?_
 refine xW fun b6 => ?_
 refine xC ?_
 refine wn [0, 2, 4, 6] ?_
 refine gD ?_; intros
 refine WL.addNil 9 1 ?_
 refine xC ?_
 refine wn [0, 2, 4, 6, 8] ?_
 refine gD ?_; intros
 refine WL.take (r := evR w) De ?_
 refine WL.take (r := wdR b w) De ?_
 refine xC ?_
 refine wn [0, 2, 4, 6, 8, 9] ?_
 refine gE ?_; intros
 refine WC.loopI [0, 2, 4, 6] rfl (fun μ F' h' => ∃ i : Nat, ∃ a8 : Option Addr, ∃ c8 : Nat, ∃ l8 : List B, ((i ≤ s.fs.l.length ∧ l8.length = i) ∧ l8 = (s.fs.l.map (·.name)).take i) ∧ s.fs.l.length - i = μ ∧ F' = [(8, .slice a8 i c8), (9, .int .i64 i)] ∧ wdR b w :: evR w :: .row (.slice a8 i c8) 9 1 i (fl encB l8) :: .pt b6 (.cells (spE zeroS).toArray 54 (0, 0)) :: .pt b4 (.cells (spE s).toArray 54 (0, 0)) :: h = h') (s.fs.l.length - 0) [(8, .slice none 0 0), (9, .int .i64 0)] (h0 := wdR b w :: evR w :: .row (.slice none 0 0) 9 1 0 (fl encB ([])) :: .pt b6 (.cells (spE zeroS).toArray 54 (0, 0)) :: .pt b4 (.cells (spE s).toArray 54 (0, 0)) :: h) ?_ Sb ⟨0, none, 0, [], ⟨⟨by omega, rfl⟩, rfl⟩, rfl, rfl, rfl⟩ ?_
 exact Su
 rintro _ _ _ ⟨i, a8, c8, l8, ⟨⟨hi, hl8⟩, hJ⟩, rfl, rfl, rfl⟩
 refine WC.frm rfl ?_
 refine gD ?_; intros
 refine xM ?_
 refine xF u54 ?_
 refine xG (pL u52) ?_
 refine xG (PO.lenSl u52 Et) ?_
 refine bD ?_
 refine wn [0, 2, 4, 6, 8, 9, 25] ?_
 refine gE ?_; intros
 refine wc (fun c25 => ?_) fun c25 => ?_
 replace c25 := dT c25
 obtain ⟨f, hf⟩ := get_some (l := s.fs.l) (k := i) (by omega)
 refine WC.skip (kp [0, 2, 4, 6, 8, 9] ?_)
 refine gD ?_; intros
 refine xM ?_
 refine xF u54 ?_
 refine xG (pL u52) ?_
 refine xM ?_
 refine xG (PO.idx EL52.und EL52.size EL52.posz (Ev.tmp rfl) (Ev.tmp rfl) Rr rfl (by omega)) ?_
 refine xG (PO.fieldF u60 rfl (Nat.ne_of_beq_eq_false rfl) foE_len (Nat.succ_pos _) Rr (by assumption) (Ev.tmp rfl)) ?_
 refine xG (PO.loadFf u9 rfl foE_len Rr (Ev.tmp rfl) (by assumption) rfl) ?_
 refine xY EL48 (EvP.cons Et EvP.nil) fun b35 => ?_
 refine xD EL48 (Ev.tmp rfl) (Ev.tmp rfl) rfl (fl_snoc (enc := encB) _ (f.name)) fun a36 c36 => ?_
 refine xA ?_
 refine wn [0, 2, 4, 6, 8, 9] ?_
 refine gD ?_; intros
 refine xM ?_
 refine bI ?_
 refine xA ?_
 refine WL.nil (loopBackI (s.fs.l.length - (i + 1)) [(8, .slice a36 (i + 1) c36), (9, .int .i64 (i + 1))] (h'' := wdR b w :: evR w :: .row (.slice a36 (i + 1) c36) 9 1 (i + 1) (fl encB (l8 ++ [f.name])) :: .pt b6 (.cells (spE zeroS).toArray 54 (0, 0)) :: .pt b4 (.cells (spE s).toArray 54 (0, 0)) :: h) (by omega) ?_ Su Sb ⟨i + 1, a36, c36, l8 ++ [f.name], ⟨⟨by omega, by simp [hl8]⟩, by rw [takeM_at hf, hJ]⟩, rfl, rfl, rfl⟩)
 exact Su
 replace c25 := dF c25
 obtain rfl : i = s.fs.l.length := by omega
 rw [List.take_of_length_le (by simp)] at hJ
 refine WC.exit (kp [0, 2, 4, 6, 8] ?_)
 refine gD ?_; intros
 refine xM ?_
 refine xF u54 ?_
 refine xG (pL u48) ?_
 refine xg (E2 Et Et) (twiceF_ct b w hw _ _ _ s.names.l _ m (n1.mono v0 Sb) (by omega)) ?_
 rintro _ _ ⟨w1, hS1, rfl⟩
 have q1 := hS1.len
 refine wn [0, 2, 4, 6, 8] ?_
 refine gD ?_; intros
 refine WL.knowRow (a := a8) Me fun p8 r8 t8 => ?_
 refine xM ?_
 refine xM ?_
 refine xg (E2 Et Et) (twiceF_ct b w1 hS1.n _ _ _ l8 _ m Rr (by rw [hJ]; omega)) ?_
 rintro _ _ ⟨w2, hS2, rfl⟩
 have q2 := hS2.len
 refine wn [0, 2, 4, 6, 8] ?_
 refine gD ?_; intros
 refine WL.addNil 135 4 ?_
 refine xC ?_
 refine WL.addNil 135 4 ?_
 refine xC ?_
 refine wn [0, 2, 4, 6, 8, 10, 11] ?_
 refine gD ?_; intros
 refine WL.addNil 9 1 ?_
 refine xC ?_
 refine wn [0, 2, 4, 6, 8, 10, 11, 12] ?_
 refine gD ?_; intros
 refine WL.take (r := evR w2) De ?_
 refine WL.take (r := wdR b w2) De ?_
 refine xC ?_
 refine wn [0, 2, 4, 6, 8, 10, 11, 12, 13] ?_
 refine gE ?_; intros
 refine WC.loopI [0, 2, 4, 6, 8, 11] rfl (fun μ F' h' => ∃ i : Nat, ∃ a10 : Option Addr, ∃ c10 : Nat, ∃ O : List Et, ∃ a12 : Option Addr, ∃ c12 : Nat, ∃ n12 : List B, ∃ w3 : Ws, ∃ H : List Res, ∃ R : List Res, (((i ≤ s.names.l.length ∧ O.length = i) ∧ n12.length = i) ∧ Stp w2 w3 [] i ∧ O.map Et.f = (ownF (E.map Et.f) s).take i ∧ H = h ++ R ∧ EnvT m (h0 ++ R) O) ∧ s.names.l.length - i = μ ∧ F' = [(10, .slice a10 i c10), (12, .slice a12 i c12), (13, .int .i64 i)] ∧ wdR b w3 :: evR w3 :: .row (.slice a12 i c12) 9 1 i (fl encB n12) :: .row (.slice none 0 0) 135 4 0 [] :: .row (.slice a10 i c10) 135 4 i (fl etE O) :: .row (.slice a8 s.fs.l.length c8) 9 1 s.fs.l.length (fl encB l8) :: .pt b6 (.cells (spE zeroS).toArray 54 (0, 0)) :: .pt b4 (.cells (spE s).toArray 54 (0, 0)) :: H = h') (s.names.l.length - 0) [(10, .slice none 0 0), (12, .slice none 0 0), (13, .int .i64 0)] (h0 := wdR b w2 :: evR w2 :: .row (.slice none 0 0) 9 1 0 (fl encB ([])) :: .row (.slice none 0 0) 135 4 0 [] :: .row (.slice none 0 0) 135 4 0 (fl etE ([])) :: .row (.slice a8 s.fs.l.length c8) 9 1 s.fs.l.length (fl encB l8) :: .pt b6 (.cells (spE zeroS).toArray 54 (0, 0)) :: .pt b4 (.cells (spE s).toArray 54 (0, 0)) :: h) ?_ Sb ⟨0, none, 0, [], none, 0, [], w2, h, [], ⟨⟨⟨by omega, rfl⟩, rfl⟩, Stp.refl hS2.n 0, rfl, by simp, fun _ hx => (List.not_mem_nil hx).elim⟩, rfl, rfl, rfl⟩ ?_
 exact Su
 rintro _ _ _ ⟨i, a10, c10, O, a12, c12, n12, w3, H, R, ⟨⟨⟨hi, hOl⟩, hnl⟩, hS3, hOf, hR, hOt⟩, rfl, rfl, rfl⟩
 refine WC.frm rfl ?_
 refine gD ?_; intros
 refine xM ?_
 refine xF u54 ?_
 refine xG (pL u48) ?_
 refine xG (PO.lenSl u48 Et) ?_
 refine bD ?_
 refine wn [0, 2, 4, 6, 8, 10, 11, 12, 13, 48] ?_
 refine gE ?_; intros
 refine wc (fun c48 => ?_) fun c48 => ?_
 replace c48 := dT c48
 subst hR
 obtain ⟨n, hn⟩ := get_some (l := s.names.l) (k := i) (by omega)
 have hcn := hS3.hi
 have hc1 := hS1.hi
 have hc2' := hS2.hi
 refine WC.skip (kp [0, 2, 4, 6, 8, 10, 11, 12, 13] ?_)
 refine gE ?_; intros
 refine WC.drawL [6, 10] (.op 0 (.op 1 (.op 2 (.op 3 (.op 4 (.op 5 (.op 7 (.op 8 (.op 9 (.op 6 (.op 10 .nil))))))))))) [12] [(11, 14)] _ [_, _] mixed (fun _ _ _ _ _ h => h) [] (by kernel_rfl) (Fls.cons rfl rfl rfl Lb rfl Fls.nil) rfl ?_
 refine yG rfl (PO.move Et) ?_
 refine yG rfl (pF u54) ?_
 refine yG rfl (pL u48) ?_
 refine yG rfl (PO.move Et) ?_
 refine yG rfl (PO.idx EL48.und EL48.size EL48.posz (Ev.tmp rfl) (Ev.tmp rfl) Rr rfl (by omega)) ?_
 refine yG rfl (PO.loadF1 u9 rfl encB_len Rr (Ev.tmp rfl) (by assumption) rfl) ?_
 refine yG rfl (pF u54) ?_
 refine yG rfl (pA u30) ?_
 refine yG rfl (PO.move Et) ?_
 refine SR.callX rfl rfl Ev.func (E2 Et Et) (fun fr => declF_t b w3 (by omega) n _ m) Lb (fun fr v hv hx => ?_) fun v57 h57 hr57 => ?_
 · exact hx.elim
 obtain ⟨nw, rfl, rfl⟩ := hr57
 refine yf rfl (E3 Et Et Et) (fun fr => typedF_ct ⟨n, nw, false, none, 0, []⟩ s.ty a k c E _ m (hE.mono v0 Sb)) ?_
 refine SR.nilF rfl rfl fun b14 => ?_
 refine xS ?_
 refine wn [0, 2, 4, 6, 8, 10, 11, 12, 13, 14] ?_
 refine gD ?_; intros
 obtain ⟨X, hX⟩ : ∃ X, X = tyX0 ⟨n, nw, false, none, 0, []⟩ E s.ty := ⟨_, rfl⟩
 rw [← hX]
 refine xF u54 ?_
 refine xG (pL u47) ?_
 refine bB ?_
 refine wn [0, 2, 4, 6, 8, 10, 11, 12, 13, 14, 64] ?_
 (repeat refine WC.seqK fun K hK => ?_)
 refine WC.cutK (by assumption) [0, 2, 4, 6, 8, 10, 11, 12, 13, 14] rfl (fun F' h' => ∃ x : Et, ∃ H2 : List Res, ∃ R2 : List Res, (x.f = ⟨n, s.k == 4, tagT (E.map Et.f) s.ty ++ (if s.k = 4 ∧ s.cs = true then s.vs.l.map (·.tag) else [])⟩ ∧ H2 = h ++ R2 ∧ EnvT m (h0 ++ R2) O ∧ Rd m (h0 ++ R2) x.ta x.tags.length x.tc 1 (fl encB x.tags)) ∧ F' = [] ∧ .pt b14 (.cells (etE x).toArray 135 (0, 0)) :: wdR b w3.up :: evR w3.up :: .row (.slice a12 i c12) 9 1 i (fl encB n12) :: .row (.slice none 0 0) 135 4 0 [] :: .row (.slice a10 i c10) 135 4 i (fl etE O) :: .row (.slice a8 s.fs.l.length c8) 9 1 s.fs.l.length (fl encB l8) :: .pt b6 (.cells (spE zeroS).toArray 54 (0, 0)) :: .pt b4 (.cells (spE s).toArray 54 (0, 0)) :: H2 = h') ?_ ?_
 refine gE ?_; intros
 refine wc (fun c64 => ?_) fun c64 => ?_
 replace c64 := t_eq c64
 rw [s4 c64, tyX0_zero] at hX
 subst hX
 refine gD ?_; intros
 refine xF u135 ?_
 refine xS ?_
 refine wn [0, 2, 4, 6, 8, 10, 11, 12, 13, 14] ?_
 refine gD ?_; intros
 refine WL.addNil 9 1 ?_
 refine xC ?_
 refine wn [0, 2, 4, 6, 8, 10, 11, 12, 13, 14, 15] ?_
 refine gE ?_; intros
 refine WC.loopI [0, 2, 4, 6, 8, 10, 11, 12, 13, 14] rfl (fun μ F' h' => ∃ j : Nat, ∃ a3 : Option Addr, ∃ c3 : Nat, ∃ l3 : List B, ((j ≤ s.vs.l.length ∧ (s.cs = true ∨ j = 0)) ∧ l3 = (s.vs.l.map (·.tag)).take j) ∧ s.vs.l.length - j = μ ∧ F' = [(15, .int .i64 j)] ∧ .row (.slice a3 l3.length c3) 9 1 l3.length (fl encB l3) :: .pt b14 (.cells (etE ⟨n, nw, true, a3, c3, l3⟩).toArray 135 (0, 0)) :: wdR b w3.up :: evR w3.up :: .row (.slice a12 i c12) 9 1 i (fl encB n12) :: .row (.slice none 0 0) 135 4 0 [] :: .row (.slice a10 i c10) 135 4 i (fl etE O) :: .row (.slice a8 s.fs.l.length c8) 9 1 s.fs.l.length (fl encB l8) :: .pt b6 (.cells (spE zeroS).toArray 54 (0, 0)) :: .pt b4 (.cells (spE s).toArray 54 (0, 0)) :: h ++ R = h') (s.vs.l.length - 0) [(15, .int .i64 0)] (h0 := .row (.slice none ([]).length 0) 9 1 ([]).length (fl encB ([])) :: .pt b14 (.cells (etE ⟨n, nw, true, none, 0, ([])⟩).toArray 135 (0, 0)) :: wdR b w3.up :: evR w3.up :: .row (.slice a12 i c12) 9 1 i (fl encB n12) :: .row (.slice none 0 0) 135 4 0 [] :: .row (.slice a10 i c10) 135 4 i (fl etE O) :: .row (.slice a8 s.fs.l.length c8) 9 1 s.fs.l.length (fl encB l8) :: .pt b6 (.cells (spE zeroS).toArray 54 (0, 0)) :: .pt b4 (.cells (spE s).toArray 54 (0, 0)) :: h ++ R) ?_ Sb ⟨0, none, 0, [], ⟨⟨by omega, .inr rfl⟩, rfl⟩, rfl, rfl, rfl⟩ ?_
 exact Su
 rintro _ _ _ ⟨j, a3, c3, l3, ⟨⟨hj, hcs⟩, hl3⟩, rfl, rfl, rfl⟩
 refine WC.frm rfl ?_
 refine gG ?_; intros; rename_i ops hG
 refine xM ?_
 refine xF u54 ?_
 refine xF u51 ?_
 refine xG (pL u49) ?_
 refine xG (PO.lenSl u49 Et) ?_
 refine bD ?_
 refine xM ?_
 refine zG (fun _ => pF u54) ?_
 refine zG (fun hc => PO.fieldAddr u51 rfl (Nat.ne_of_beq_eq_false rfl) (Eg hc)) ?_
 refine zG (fun hc => PO.load1 u4 rfl (Eg hc) Me rfl) ?_
 refine xP ?_
 refine wn [0, 2, 4, 6, 8, 10, 11, 12, 13, 14, 15, 76] ?_
 try clear hG ops
 refine gE ?_; intros
 refine wc (fun c76 => ?_) fun c76 => ?_
 have d76 : j < s.vs.l.length ∧ s.cs = true := by
   have q : (decide ((j : Int) < (s.vs.l.length : Int)) && s.cs) = true := c76
   simp only [Bool.and_eq_true, decide_eq_true_eq] at q
   exact ⟨by omega, q.2⟩
 obtain ⟨v, hv⟩ := get_some (l := s.vs.l) (k := j) (by omega)
 have hl3n : l3.length ≤ 1048576 := by rw [hl3, List.length_take, List.length_map]; omega
 have hl3m : (l3 ++ [v.tag]).length ≤ 1048577 := by rw [List.length_append]; exact Nat.succ_le_succ hl3n
 refine WC.skip (kp [0, 2, 4, 6, 8, 10, 11, 12, 13, 14, 15] ?_)
 refine gE ?_; intros
 refine WC.drawS [9] (.op 0 (.op 1 (.op 2 (.op 3 (.op 4 (.op 5 (.op 6 (.op 7 (.op 8 (.op 9 .nil)))))))))) [10, 11, 12] _ [_] mixed (fun _ _ _ _ _ h => h) [] (by kernel_rfl) ?_
 refine yG rfl (pF u135) ?_
 refine yG rfl (pL u48) ?_
 refine yG rfl (pF u54) ?_
 refine yG rfl (pF u51) ?_
 refine yG rfl (pL u49) ?_
 refine yG rfl (PO.move Et) ?_
 refine yG rfl (PO.idx EL49.und EL49.size EL49.posz (Ev.tmp rfl) (Ev.tmp rfl) Rr rfl (by omega)) ?_
 refine yG rfl (PO.fieldF u102 rfl (Nat.ne_of_beq_eq_false rfl) encV_len (Nat.succ_pos _) Rr (by assumption) (Ev.tmp rfl)) ?_
 refine yG rfl (PO.loadFf u9 rfl encV_len Rr (Ev.tmp rfl) (by assumption) rfl) ?_
 refine SR.buildSlice rfl rfl EL48 rfl (EvP.cons Et EvP.nil) rfl rfl (by decide) rfl Lb fun b88 => ?_
 refine SR.nil rfl rfl ?_
 refine xD EL48 (Ev.tmp rfl) (Ev.tmp rfl) (show l3.length + 1 = (l3 ++ [v.tag]).length by simp) (fl_snoc (enc := encB) _ (v.tag)) fun a89 c89 => ?_
 refine xF u135 ?_
 refine xS ?_
 refine wn [0, 2, 4, 6, 8, 10, 11, 12, 13, 14, 15] ?_
 refine gD ?_; intros
 refine xM ?_
 refine bI ?_
 refine xA ?_
 refine WL.nil (loopBackI (s.vs.l.length - (j + 1)) [(15, .int .i64 (j + 1))] (h'' := .row (.slice a89 (l3 ++ [v.tag]).length c89) 9 1 (l3 ++ [v.tag]).length (fl encB (l3 ++ [v.tag])) :: .pt b14 (.cells (etE ⟨n, nw, true, a89, c89, (l3 ++ [v.tag])⟩).toArray 135 (0, 0)) :: wdR b w3.up :: evR w3.up :: .row (.slice a12 i c12) 9 1 i (fl encB n12) :: .row (.slice none 0 0) 135 4 0 [] :: .row (.slice a10 i c10) 135 4 i (fl etE O) :: .row (.slice a8 s.fs.l.length c8) 9 1 s.fs.l.length (fl encB l8) :: .pt b6 (.cells (spE zeroS).toArray 54 (0, 0)) :: .pt b4 (.cells (spE s).toArray 54 (0, 0)) :: h ++ R) (by omega) ?_ Su Sb ⟨j + 1, a89, c89, l3 ++ [v.tag], ⟨⟨by omega, .inl d76.2⟩, by rw [takeV_at hv, hl3]⟩, rfl, rfl, rfl⟩)
 exact Su
 have hl4 : l3 = (if s.k = 4 ∧ s.cs = true then s.vs.l.map (·.tag) else []) := by
   rcases hcs with hcs | hcs
   · rw [if_pos ⟨c64, hcs⟩, hl3]
     have q : ¬ j < s.vs.l.length := fun q => by
       have q2 : (j : Int) < (s.vs.l.length : Int) := by omega
       simp [q2, hcs] at c76
     exact List.take_of_length_le (by rw [List.length_map]; omega)
   · rw [hl3, hcs, List.take_zero]
     by_cases hcs2 : s.cs = true
     · rw [if_pos ⟨c64, hcs2⟩]
       have q1 : (decide ((j : Int) < (s.vs.l.length : Int)) && s.cs) = false := c76
       rw [hcs2, Bool.and_true] at q1
       have q : ¬ 0 < s.vs.l.length := fun q => by
         have := of_decide_eq_false q1
         omega
       rw [List.eq_nil_of_length_eq_zero (by omega : s.vs.l.length = 0)]
       rfl
     · rw [if_neg (fun q => hcs2 q.2)]
 refine WC.knowRow (a := a3) Me fun p3 r3 t3 => ?_
 refine WC.last _ rfl ?_
 refine WC.exit (meetI [] (h'' := .pt b14 (.cells (etE (⟨n, nw, true, a3, c3, l3⟩)).toArray 135 (0, 0)) :: wdR b w3.up :: evR w3.up :: .row (.slice a12 i c12) 9 1 i (fl encB n12) :: .row (.slice none 0 0) 135 4 0 [] :: .row (.slice a10 i c10) 135 4 i (fl etE O) :: .row (.slice a8 s.fs.l.length c8) 9 1 s.fs.l.length (fl encB l8) :: .pt b6 (.cells (spE zeroS).toArray 54 (0, 0)) :: .pt b4 (.cells (spE s).toArray 54 (0, 0)) :: ((h ++ R) ++ [.row (.slice a3 l3.length c3) 9 1 l3.length (fl encB l3)])) ?_ Su Sb ⟨⟨n, nw, true, a3, c3, l3⟩, (h ++ R) ++ [.row (.slice a3 l3.length c3) 9 1 l3.length (fl encB l3)], R ++ [.row (.slice a3 l3.length c3) 9 1 l3.length (fl encB l3)], ⟨by show (⟨n, true, l3⟩ : Fe) = _; rw [hl4, s4 c64, tagT_zero, c64]; rfl, by rw [List.append_assoc], hOt.mono (by rw [← List.append_assoc]; exact List.sublist_append_left _ _), Rd.inRow (List.mem_append_right _ (List.mem_append_right _ (List.Mem.head _))) (by assumption) (by assumption) (by assumption)⟩, rfl, rfl⟩)
 exact Su
 replace c64 := f_eq c64
 refine WC.skip (meetI [] (h'' := .pt b14 (.cells (etE X).toArray 135 (0, 0)) :: wdR b w3.up :: evR w3.up :: .row (.slice a12 i c12) 9 1 i (fl encB n12) :: .row (.slice none 0 0) 135 4 0 [] :: .row (.slice a10 i c10) 135 4 i (fl etE O) :: .row (.slice a8 s.fs.l.length c8) 9 1 s.fs.l.length (fl encB l8) :: .pt b6 (.cells (spE zeroS).toArray 54 (0, 0)) :: .pt b4 (.cells (spE s).toArray 54 (0, 0)) :: (h ++ R)) ?_ Su Sb ⟨X, h ++ R, R, ⟨by rw [hX, tyX0_f, if_neg (fun q => c64 q.1), List.append_nil, show (s.k == 4) = false by simpa using c64], rfl, hOt, hX ▸ (tyX0_rd hEt n nw s.ty).mono v0 (List.sublist_append_left _ _)⟩, rfl, rfl⟩)
 exact Su
 rintro _ _ ⟨x, H2, R2, ⟨hxf, hH2, hO2, hxt⟩, rfl, rfl⟩
 refine WC.frm rfl ?_
 refine gD ?_; intros
 refine xM ?_
 refine xG (pA u135) ?_
 refine xY EL129 (EvP.cons Et EvP.nil) fun b93 => ?_
 refine xD EL129 (Ev.tmp rfl) (Ev.tmp rfl) rfl (fl_snoc (enc := etE) _ (x)) fun a94 c94 => ?_
 refine xA ?_
 refine wn [0, 2, 4, 6, 8, 10, 11, 12, 13, 14] ?_
 refine gD ?_; intros
 refine xM ?_
 refine xF u135 ?_
 refine xG (pL u9) ?_
 refine xY EL48 (EvP.cons Et EvP.nil) fun b98 => ?_
 refine xD EL48 (Ev.tmp rfl) (Ev.tmp rfl) rfl (fl_snoc (enc := encB) _ (x.new)) fun a99 c99 => ?_
 refine xA ?_
 refine wn [0, 2, 4, 6, 8, 10, 11, 12, 13] ?_
 refine gD ?_; intros
 refine xM ?_
 refine bI ?_
 refine xA ?_
 refine WL.nil (loopBackI (s.names.l.length - (i + 1)) [(10, .slice a94 (i + 1) c94), (12, .slice a99 (i + 1) c99), (13, .int .i64 (i + 1))] (h'' := wdR b (w3.up) :: evR (w3.up) :: .row (.slice a99 (i + 1) c99) 9 1 (i + 1) (fl encB (n12 ++ [x.new])) :: .row (.slice none 0 0) 135 4 0 [] :: .row (.slice a94 (i + 1) c94) 135 4 (i + 1) (fl etE (O ++ [x])) :: .row (.slice a8 s.fs.l.length c8) 9 1 s.fs.l.length (fl encB l8) :: .pt b6 (.cells (spE zeroS).toArray 54 (0, 0)) :: .pt b4 (.cells (spE s).toArray 54 (0, 0)) :: H2) (by omega) ?_ Su Sb ⟨i + 1, a94, c94, O ++ [x], a99, c99, n12 ++ [x.new], w3.up, H2, R2, ⟨⟨⟨by omega, by simp [hOl]⟩, by simp [hnl]⟩, (hS3.trans (Stp.up hS3.n)).cast (by simp) (Nat.le_refl _), by rw [List.map_append, hOf, ownF_at hn, ← hxf]; rfl, hH2, hO2.snoc hxt⟩, rfl, rfl, rfl⟩)
 exact Su
 replace c48 := dF c48
 obtain rfl : i = s.names.l.length := by omega
 rw [List.take_of_length_le (by unfold ownF; rw [List.length_map]; exact Nat.le_refl _)] at hOf
 subst hR
 refine WC.exit (kp [0, 2, 4, 6, 8, 10, 11, 12] ?_)
 refine gD ?_; intros
 refine WL.addNil 60 6 ?_
 refine xC ?_
 refine wn [0, 2, 4, 6, 8, 10, 11, 12, 16] ?_
 refine gD ?_; intros
 refine WL.take (r := evR w3) De ?_
 refine WL.take (r := wdR b w3) De ?_
 refine xC ?_
 refine wn [0, 2, 4, 6, 8, 10, 11, 12, 16, 17] ?_
 refine gE ?_; intros
 refine WC.loopI [0, 2, 4, 6, 8, 10, 12] rfl (fun μ F' h' => ∃ i : Nat, ∃ a11 : Option Addr, ∃ c11 : Nat, ∃ I : List Et, ∃ a16 : Option Addr, ∃ c16 : Nat, ∃ l16 : List Fo, ∃ w4 : Ws, (((i ≤ s.fs.l.length ∧ I.length = i) ∧ l16.length = i) ∧ Stp w3 w4 [] i ∧ I.map Et.f = (innF (E.map Et.f) s.fs.l).take i ∧ EnvT m (h ++ R) I ∧ l16.map (·.ty) = (s.fs.l.map (·.ty)).take i) ∧ s.fs.l.length - i = μ ∧ F' = [(11, .slice a11 i c11), (16, .slice a16 i c16), (17, .int .i64 i)] ∧ wdR b w4 :: evR w4 :: .row (.slice a16 i c16) 60 6 i (fl foE l16) :: .row (.slice a12 s.names.l.length c12) 9 1 s.names.l.length (fl encB n12) :: .row (.slice a11 i c11) 135 4 i (fl etE I) :: .row (.slice a10 s.names.l.length c10) 135 4 s.names.l.length (fl etE O) :: .row (.slice a8 s.fs.l.length c8) 9 1 s.fs.l.length (fl encB l8) :: .pt b6 (.cells (spE zeroS).toArray 54 (0, 0)) :: .pt b4 (.cells (spE s).toArray 54 (0, 0)) :: (h ++ R) = h') (s.fs.l.length - 0) [(11, .slice none 0 0), (16, .slice none 0 0), (17, .int .i64 0)] (h0 := wdR b w3 :: evR w3 :: .row (.slice none 0 0) 60 6 0 (fl foE ([])) :: .row (.slice a12 s.names.l.length c12) 9 1 s.names.l.length (fl encB n12) :: .row (.slice none 0 0) 135 4 0 (fl etE ([])) :: .row (.slice a10 s.names.l.length c10) 135 4 s.names.l.length (fl etE O) :: .row (.slice a8 s.fs.l.length c8) 9 1 s.fs.l.length (fl encB l8) :: .pt b6 (.cells (spE zeroS).toArray 54 (0, 0)) :: .pt b4 (.cells (spE s).toArray 54 (0, 0)) :: (h ++ R)) ?_ Sb ⟨0, none, 0, [], none, 0, [], w3, ⟨⟨⟨by omega, rfl⟩, rfl⟩, Stp.refl hS3.n 0, rfl, fun _ hx => (List.not_mem_nil hx).elim, rfl⟩, rfl, rfl, rfl⟩ ?_
 exact Su
 rintro _ _ _ ⟨i, a11, c11, I, a16, c16, l16, w4, ⟨⟨⟨hi, hIl⟩, hll⟩, hS4, hIf, hIt, hlt⟩, rfl, rfl, rfl⟩
 refine WC.frm rfl ?_
 refine gD ?_; intros
 refine xM ?_
 refine xF u54 ?_
 refine xG (pL u52) ?_
 refine xG (PO.lenSl u52 Et) ?_
 refine bD ?_
 refine wn [0, 2, 4, 6, 8, 10, 11, 12, 16, 17, 104] ?_
 refine gE ?_; intros
 refine wc (fun c104 => ?_) fun c104 => ?_
 replace c104 := dT c104
 obtain ⟨f, hf⟩ := get_some (l := s.fs.l) (k := i) (by omega)
 have hn8 : l8[i]? = some f.name := by rw [hJ, List.getElem?_map, hf]; rfl
 have hcn := hS3.hi
 have hcn4 := hS4.hi
 have hc1 := hS1.hi
 have hc2' := hS2.hi
 refine WC.skip (kp [0, 2, 4, 6, 8, 10, 11, 12, 16, 17] ?_)
 refine gE ?_; intros
 refine WC.drawL [5, 13] (.op 0 (.op 1 (.op 2 (.op 3 (.op 4 (.op 6 (.op 7 (.op 8 (.op 9 (.op 10 (.op 11 (.op 12 (.op 5 (.op 13 .nil)))))))))))))) [15] [(14, 18)] _ [_, _] mixed (fun _ _ _ _ _ h => h) [] (by kernel_rfl) (Fls.cons rfl rfl rfl Lb rfl Fls.nil) rfl ?_
 refine yG rfl (PO.move Et) ?_
 refine yG rfl (PO.move Et) ?_
 refine yG rfl (PO.move Et) ?_
 refine yG rfl (PO.idx EL48.und EL48.size EL48.posz (Ev.tmp rfl) (Ev.tmp rfl) Rr rfl (by omega)) ?_
 refine yG rfl (PO.loadF1 u9 rfl encB_len Rr (Ev.tmp rfl) (by assumption) rfl) ?_
 refine yG rfl (pF u54) ?_
 refine yG rfl (pL u52) ?_
 refine yG rfl (PO.move Et) ?_
 refine yG rfl (PO.idx EL52.und EL52.size EL52.posz (Ev.tmp rfl) (Ev.tmp rfl) Rr rfl (by omega)) ?_
 refine yG rfl (PO.fieldF u60 rfl (Nat.ne_of_beq_eq_false rfl) foE_len (Nat.succ_pos _) Rr (by assumption) (Ev.tmp rfl)) ?_
 refine yG rfl (PO.loadFfA u30 rfl rfl foE_len Rr (Ev.tmp rfl) (by assumption) rfl rfl (Nat.succ_pos _)) ?_
 refine yG rfl (PO.move Et) ?_
 refine SR.callX rfl rfl Ev.func (E2 Et Et) (fun fr => declF_t b w4 (by omega) f.name _ m) Lb (fun fr v hv hx => ?_) fun v112 h112 hr112 => ?_
 · exact hx.elim
 obtain ⟨nw, rfl, rfl⟩ := hr112
 refine yf rfl (E3 Et Et Et) (fun fr => typedF_ct ⟨f.name, nw, false, none, 0, []⟩ f.ty a k c E _ m (hE.mono v0 Sb)) ?_
 refine SR.nilF rfl rfl fun b18 => ?_
 refine xS ?_
 refine wn [0, 2, 4, 6, 8, 10, 11, 12, 16, 17, 18] ?_
 refine gD ?_; intros
 obtain ⟨X, hX⟩ : ∃ X, X = tyX0 ⟨f.name, nw, false, none, 0, []⟩ E f.ty := ⟨_, rfl⟩
 rw [← hX]
 refine xM ?_
 refine xG (pA u135) ?_
 refine xY EL129 (EvP.cons Et EvP.nil) fun b123 => ?_
 refine xD EL129 (Ev.tmp rfl) (Ev.tmp rfl) rfl (fl_snoc (enc := etE) _ (X)) fun a124 c124 => ?_
 refine xA ?_
 refine wn [0, 2, 4, 6, 8, 10, 11, 12, 16, 17, 18] ?_
 refine gD ?_; intros
 refine xF u54 ?_
 refine xG (pL u52) ?_
 refine xM ?_
 refine xG (PO.idx EL52.und EL52.size EL52.posz (Ev.tmp rfl) (Ev.tmp rfl) Rr rfl (by omega)) ?_
 refine xG (PO.loadFA u60 rfl rfl foE_len Rr (Ev.tmp rfl) (by assumption) rfl rfl (Nat.succ_pos _)) ?_
 refine xW fun b19 => ?_
 refine xS ?_
 refine wn [0, 2, 4, 6, 8, 10, 11, 12, 16, 17, 18, 19] ?_
 refine gD ?_; intros
 refine xF u135 ?_
 refine xG (pL u9) ?_
 refine xF u60 ?_
 refine xS ?_
 refine wn [0, 2, 4, 6, 8, 10, 11, 12, 16, 17, 19] ?_
 refine gD ?_; intros
 refine xM ?_
 refine xG (pA u60) ?_
 refine xY EL52 (EvP.cons Et EvP.nil) fun b135 => ?_
 refine xD EL52 (Ev.tmp rfl) (Ev.tmp rfl) rfl (fl_snoc (enc := foE) _ ((Fo.mk f.val f.ty X.new))) fun a136 c136 => ?_
 refine xA ?_
 refine wn [0, 2, 4, 6, 8, 10, 11, 12, 16, 17] ?_
 refine gD ?_; intros
 refine xM ?_
 refine bI ?_
 refine xA ?_
 refine WL.nil (loopBackI (s.fs.l.length - (i + 1)) [(11, .slice a124 (i + 1) c124), (16, .slice a136 (i + 1) c136), (17, .int .i64 (i + 1))] (h'' := wdR b (w4.up) :: evR (w4.up) :: .row (.slice a136 (i + 1) c136) 60 6 (i + 1) (fl foE (l16 ++ [Fo.mk f.val f.ty X.new])) :: .row (.slice a12 s.names.l.length c12) 9 1 s.names.l.length (fl encB n12) :: .row (.slice a124 (i + 1) c124) 135 4 (i + 1) (fl etE (I ++ [X])) :: .row (.slice a10 s.names.l.length c10) 135 4 s.names.l.length (fl etE O) :: .row (.slice a8 s.fs.l.length c8) 9 1 s.fs.l.length (fl encB l8) :: .pt b6 (.cells (spE zeroS).toArray 54 (0, 0)) :: .pt b4 (.cells (spE s).toArray 54 (0, 0)) :: (h ++ R)) (by omega) ?_ Su Sb ⟨i + 1, a124, c124, I ++ [X], a136, c136, l16 ++ [Fo.mk f.val f.ty X.new], w4.up, ⟨⟨⟨by omega, by simp [hIl]⟩, by simp [hll]⟩, (hS4.trans (Stp.up hS4.n)).cast (by simp) (Nat.le_refl _), by rw [List.map_append, hIf, innF_at hf, hX]; exact congrArg (_ ++ [·]) (tyX0_f f.name nw E f.ty), hIt.snoc (hX ▸ (tyX0_rd hEt f.name nw f.ty).mono v0 (hs0.trans (List.sublist_append_left _ _))), by rw [List.map_append, hlt, takeT_at hf]; rfl⟩, rfl, rfl, rfl⟩)
 exact Su
 replace c104 := dF c104
 obtain rfl : i = s.fs.l.length := by omega
 rw [List.take_of_length_le (by unfold innF; rw [List.length_map]; exact Nat.le_refl _)] at hIf
 rw [List.take_of_length_le (by rw [List.length_map]; exact Nat.le_refl _)] at hlt
 rw [hJ] at q2
 have q3 := hS3.len
 have q4 := hS4.len
 simp only [List.length_nil, Nat.add_zero] at q3 q4
 refine WC.exit (kp [0, 2, 4, 6, 10, 11, 12, 16] ?_)
 refine gD ?_; intros
 refine xM ?_
 refine xF u54 ?_
 refine xS ?_
 refine wn [0, 2, 4, 6, 10, 11, 16] ?_
 refine gD ?_; intros
 refine xF u54 ?_
 refine xF u30 ?_
 refine xG (pL u9) ?_
 refine xG (PO.neqS Et Ev.const) ?_
 refine wn [0, 2, 4, 6, 10, 11, 16, 142] ?_
 (repeat refine WC.seqK fun K hK => ?_)
 refine WC.cutK (by assumption) [0, 2, 4, 6, 10, 11, 16] rfl (fun F' h' => ∃ p1 : B, ∃ w5 : Ws, (Stp w4 w5 (evT (E.map Et.f) s.ty.proto) 0) ∧ F' = [] ∧ wdR b w5 :: evR w5 :: .row (.slice a16 s.fs.l.length c16) 60 6 s.fs.l.length (fl foE l16) :: .row (.slice a12 s.names.l.length c12) 9 1 s.names.l.length (fl encB n12) :: .row (.slice a11 s.fs.l.length c11) 135 4 s.fs.l.length (fl etE I) :: .row (.slice a10 s.names.l.length c10) 135 4 s.names.l.length (fl etE O) :: .row (.slice a8 s.fs.l.length c8) 9 1 s.fs.l.length (fl encB l8) :: .pt b6 (.cells (spE zeroS).toArray 54 (0, 0)) :: .pt b4 (.cells (spE (Sp.mk s.k ⟨s.ty.kind, s.ty.dim, s.ty.item, p1⟩ ⟨a12, c12, s.names.l⟩ s.e s.cs s.vs s.fs s.ba s.bc s.bl)).toArray 54 (0, 0)) :: (h ++ R) = h') ?_ ?_
 refine gE ?_; intros
 refine wc (fun c142 => ?_) fun c142 => ?_
 have d142 : s.ty.proto ≠ [] := by
   have q : (!(s.ty.proto == [])) = true := c142
   simpa using q
 have e142 : evT (E.map Et.f) s.ty.proto = evN (E.map Et.f) s.ty.proto := by unfold evT; rw [if_neg d142]
 refine gD ?_; intros
 refine xM ?_
 refine xF u54 ?_
 refine xF u30 ?_
 refine xG (pL u9) ?_
 refine xM ?_
 refine xg (E3 Et Et Et) (nameF_ct b w4 hS4.n s.ty.proto a k c E _ m (hE.mono v0 Sb) (by rw [← e142]; omega)) ?_
 rintro _ _ ⟨p1, w5, rfl, hS5, rfl⟩
 refine xF u54 ?_
 refine xF u30 ?_
 refine xS ?_
 refine WL.nil (meetI [] (h'' := wdR b w5 :: evR w5 :: .row (.slice a16 s.fs.l.length c16) 60 6 s.fs.l.length (fl foE l16) :: .row (.slice a12 s.names.l.length c12) 9 1 s.names.l.length (fl encB n12) :: .row (.slice a11 s.fs.l.length c11) 135 4 s.fs.l.length (fl etE I) :: .row (.slice a10 s.names.l.length c10) 135 4 s.names.l.length (fl etE O) :: .row (.slice a8 s.fs.l.length c8) 9 1 s.fs.l.length (fl encB l8) :: .pt b6 (.cells (spE zeroS).toArray 54 (0, 0)) :: .pt b4 (.cells (spE (Sp.mk s.k ⟨s.ty.kind, s.ty.dim, s.ty.item, p1⟩ ⟨a12, c12, s.names.l⟩ s.e s.cs s.vs s.fs s.ba s.bc s.bl)).toArray 54 (0, 0)) :: (h ++ R)) ?_ Su Sb ⟨p1, w5, by rw [e142]; exact hS5, rfl, rfl⟩)
 exact Su
 have d142 : s.ty.proto = [] := by
   have q : (!(s.ty.proto == [])) = false := c142
   simpa using q
 refine WC.skip (meetI [] (h'' := wdR b w4 :: evR w4 :: .row (.slice a16 s.fs.l.length c16) 60 6 s.fs.l.length (fl foE l16) :: .row (.slice a12 s.names.l.length c12) 9 1 s.names.l.length (fl encB n12) :: .row (.slice a11 s.fs.l.length c11) 135 4 s.fs.l.length (fl etE I) :: .row (.slice a10 s.names.l.length c10) 135 4 s.names.l.length (fl etE O) :: .row (.slice a8 s.fs.l.length c8) 9 1 s.fs.l.length (fl encB l8) :: .pt b6 (.cells (spE zeroS).toArray 54 (0, 0)) :: .pt b4 (.cells (spE (Sp.mk s.k ⟨s.ty.kind, s.ty.dim, s.ty.item, (s.ty.proto)⟩ ⟨a12, c12, s.names.l⟩ s.e s.cs s.vs s.fs s.ba s.bc s.bl)).toArray 54 (0, 0)) :: (h ++ R)) ?_ Su Sb ⟨s.ty.proto, w4, by unfold evT; rw [if_pos d142]; exact Stp.refl hS4.n 0, rfl, rfl⟩)
 exact Su
 rintro _ _ ⟨p1, w5, hS5, rfl, rfl⟩
 refine WC.frm rfl ?_
 refine gD ?_; intros
 have q5 := hS5.len
 refine WL.knowRow (a := a16) Me fun p16 r16 t16 => ?_
 refine WL.knowRow (a := a11) Me fun p11 r11 t11 => ?_
 refine WL.knowRow (a := a10) Me fun p10 r10 t10 => ?_
 refine xC ?_
 refine wn [0, 2, 4, 6, 10, 11, 16, 20] ?_
 refine gE ?_; intros
 refine WC.loopI [0, 2, 4, 6, 10, 11, 16] rfl (fun μ F' h' => ∃ i : Nat, ∃ l17 : List Fo, ∃ w6 : Ws, ∃ e6 : List Ev, ((i ≤ s.fs.l.length ∧ l17.length = s.fs.l.length) ∧ Stp w5 w6 e6 0 ∧ evTs (E.map Et.f) s.fs.l = e6 ++ evTs (E.map Et.f) (s.fs.l.drop i) ∧ (l17.drop i).map (·.ty) = (s.fs.l.drop i).map (·.ty)) ∧ s.fs.l.length - i = μ ∧ F' = [(20, .int .i64 i)] ∧ wdR b w6 :: evR w6 :: .row (.slice a16 s.fs.l.length c16) 60 6 s.fs.l.length (fl foE l17) :: .row (.slice a12 s.names.l.length c12) 9 1 s.names.l.length (fl encB n12) :: .row (.slice a11 s.fs.l.length c11) 135 4 s.fs.l.length (fl etE I) :: .row (.slice a10 s.names.l.length c10) 135 4 s.names.l.length (fl etE O) :: .row (.slice a8 s.fs.l.length c8) 9 1 s.fs.l.length (fl encB l8) :: .pt b6 (.cells (spE zeroS).toArray 54 (0, 0)) :: .pt b4 (.cells (spE (Sp.mk s.k ⟨s.ty.kind, s.ty.dim, s.ty.item, p1⟩ ⟨a12, c12, s.names.l⟩ s.e s.cs s.vs s.fs s.ba s.bc s.bl)).toArray 54 (0, 0)) :: (h ++ R) = h') (s.fs.l.length - 0) [(20, .int .i64 0)] (h0 := wdR b w5 :: evR w5 :: .row (.slice a16 s.fs.l.length c16) 60 6 s.fs.l.length (fl foE l16) :: .row (.slice a12 s.names.l.length c12) 9 1 s.names.l.length (fl encB n12) :: .row (.slice a11 s.fs.l.length c11) 135 4 s.fs.l.length (fl etE I) :: .row (.slice a10 s.names.l.length c10) 135 4 s.names.l.length (fl etE O) :: .row (.slice a8 s.fs.l.length c8) 9 1 s.fs.l.length (fl encB l8) :: .pt b6 (.cells (spE zeroS).toArray 54 (0, 0)) :: .pt b4 (.cells (spE (Sp.mk s.k ⟨s.ty.kind, s.ty.dim, s.ty.item, p1⟩ ⟨a12, c12, s.names.l⟩ s.e s.cs s.vs s.fs s.ba s.bc s.bl)).toArray 54 (0, 0)) :: (h ++ R)) ?_ Sb ⟨0, l16, w5, [], ⟨⟨by omega, by have := congrArg List.length hlt; simpa using this⟩, Stp.refl hS5.n 0, by rw [List.drop_zero]; rfl, by rw [List.drop_zero, List.drop_zero]; exact hlt⟩, rfl, rfl, rfl⟩ ?_
 exact Su
 rintro _ _ _ ⟨i, l17, w6, e6, ⟨⟨hi, hl17⟩, hS6, hJ6, hlt6⟩, rfl, rfl, rfl⟩
 refine WC.frm rfl ?_
 refine gD ?_; intros
 refine xM ?_
 refine xM ?_
 refine xG (PO.lenSl u52 Et) ?_
 refine bD ?_
 refine wn [0, 2, 4, 6, 10, 11, 16, 20, 154] ?_
 refine gE ?_; intros
 refine wc (fun c154 => ?_) fun c154 => ?_
 replace c154 := dT c154
 obtain ⟨f, hf⟩ := get_some (l := s.fs.l) (k := i) (by omega)
 obtain ⟨g, hg⟩ := get_some (l := l17) (k := i) (by omega)
 rw [dropR2 hf, dropR2 hg, List.map_cons, List.map_cons, List.cons.injEq] at hlt6
 rw [dropR2 hf] at hJ6
 have t17 : (fl foE l17).length = s.fs.l.length * 6 := by rw [fl_len foE_len, hl17]
 have rd17 : ∀ H' : List Res, Res.row (.slice a16 s.fs.l.length c16) 60 6 s.fs.l.length (fl foE l17) ∈ H' → Rd m H' a16 s.fs.l.length c16 6 (fl foE l17) := fun H' hm => Rd.inRow hm (by assumption) (by assumption) (by assumption)
 have hgt : g.ty.proto = f.ty.proto := congrArg Ty.proto hlt6.1
 have hJ7 : evTs (E.map Et.f) s.fs.l = e6 ++ (evT (E.map Et.f) f.ty.proto ++ evTs (E.map Et.f) (s.fs.l.drop (i + 1))) := hJ6
 have q6 := hS6.len
 have q7 := congrArg List.length hJ7
 simp only [List.length_append] at q7
 refine WC.skip (kp [0, 2, 4, 6, 10, 11, 16, 20] ?_)
 refine gD ?_; intros
 refine xM ?_
 refine xM ?_
 refine xG (PO.idx EL52.und EL52.size EL52.posz Et Et (rd17 _ Me) rfl (by omega)) ?_
 refine xG (PO.fieldF u60 rfl (Nat.ne_of_beq_eq_false rfl) foE_len (Nat.succ_pos _) (rd17 _ Me) (by assumption) Et) ?_
 refine xG (PO.fieldF u30 rfl (Nat.ne_of_beq_eq_false rfl) foE_len (Nat.succ_pos _) (rd17 _ Me) (by assumption) Et) ?_
 refine WL.val (v' := .pointer (elt a16 (i * 6 + 4))) rfl ?_
 refine xG (PO.loadFf u9 rfl foE_len (rd17 _ Me) Et (by assumption) rfl) ?_
 refine xG (PO.neqS Et Ev.const) ?_
 refine wn [0, 2, 4, 6, 10, 11, 16, 20, 163] ?_
 refine gE ?_; intros
 refine wc (fun c163 => ?_) fun c163 => ?_
 have d163 : f.ty.proto ≠ [] := by
   have q : (!(g.ty.proto == [])) = true := c163
   rw [← hgt]
   simpa using q
 have e163 : evT (E.map Et.f) f.ty.proto = evN (E.map Et.f) f.ty.proto := by unfold evT; rw [if_neg d163]
 have b163 : (evT (E.map Et.f) f.ty.proto).length = (evN (E.map Et.f) f.ty.proto).length := congrArg List.length e163
 refine gD ?_; intros
 refine xM ?_
 refine xM ?_
 refine xM ?_
 refine xM ?_
 refine xM ?_
 refine xG (PO.idx EL52.und EL52.size EL52.posz Et Et (rd17 _ Me) rfl (by omega)) ?_
 refine xG (PO.fieldF u60 rfl (Nat.ne_of_beq_eq_false rfl) foE_len (Nat.succ_pos _) (rd17 _ Me) (by assumption) Et) ?_
 refine xG (PO.fieldF u30 rfl (Nat.ne_of_beq_eq_false rfl) foE_len (Nat.succ_pos _) (rd17 _ Me) (by assumption) Et) ?_
 refine WL.val (v' := .pointer (elt a16 (i * 6 + 4))) rfl ?_
 refine xG (PO.loadFf u9 rfl foE_len (rd17 _ Me) Et (by assumption) rfl) ?_
 refine xM ?_
 refine xg (E3 Et Et Et) (nameF_ct b w6 hS6.n g.ty.proto a k c E _ m (hE.mono v0 Sb) (by rw [hgt]; omega)) ?_
 rintro _ _ ⟨s7, w7, rfl, hS7, rfl⟩
 refine xG (PO.idx EL52.und EL52.size EL52.posz Et Et (rd17 _ Me) rfl (by omega)) ?_
 refine xG (PO.fieldF u60 rfl (Nat.ne_of_beq_eq_false rfl) foE_len (Nat.succ_pos _) (rd17 _ Me) (by assumption) Et) ?_
 refine xG (PO.fieldF u30 rfl (Nat.ne_of_beq_eq_false rfl) foE_len (Nat.succ_pos _) (rd17 _ Me) (by assumption) Et) ?_
 refine WL.val (v' := .pointer (elt a16 (i * 6 + 4))) rfl ?_
 refine WL.storeR (o := i * 6 + 4) rfl Et Et rfl rfl (by rw [t17]; omega) Up ?_
 rw [fl_proto s7 hg]
 refine wn [0, 2, 4, 6, 10, 11, 16, 20] ?_
 refine gD ?_; intros
 refine xM ?_
 refine bI ?_
 refine xA ?_
 refine WL.nil (loopBackI (s.fs.l.length - (i + 1)) [(20, .int .i64 (i + 1))] (h'' := wdR b w7 :: evR w7 :: .row (.slice a16 s.fs.l.length c16) 60 6 s.fs.l.length (fl foE (l17.set i ⟨g.val, ⟨g.ty.kind, g.ty.dim, g.ty.item, s7⟩, g.name⟩)) :: .row (.slice a12 s.names.l.length c12) 9 1 s.names.l.length (fl encB n12) :: .row (.slice a11 s.fs.l.length c11) 135 4 s.fs.l.length (fl etE I) :: .row (.slice a10 s.names.l.length c10) 135 4 s.names.l.length (fl etE O) :: .row (.slice a8 s.fs.l.length c8) 9 1 s.fs.l.length (fl encB l8) :: .pt b6 (.cells (spE zeroS).toArray 54 (0, 0)) :: .pt b4 (.cells (spE (Sp.mk s.k ⟨s.ty.kind, s.ty.dim, s.ty.item, p1⟩ ⟨a12, c12, s.names.l⟩ s.e s.cs s.vs s.fs s.ba s.bc s.bl)).toArray 54 (0, 0)) :: (h ++ R)) (by omega) ?_ Su Sb ⟨i + 1, l17.set i ⟨g.val, ⟨g.ty.kind, g.ty.dim, g.ty.item, s7⟩, g.name⟩, w7, e6 ++ evT (E.map Et.f) f.ty.proto, ⟨⟨by omega, by simp [hl17]⟩, (hS6.trans hS7).cast (by rw [e163, hgt]) (Nat.le_refl _), by rw [hJ7, List.append_assoc], by rw [List.drop_set_of_lt (by omega)]; exact hlt6.2⟩, rfl, rfl, rfl⟩)
 exact Su
 have d163 : f.ty.proto = [] := by
   have q : (!(g.ty.proto == [])) = false := c163
   rw [← hgt]
   simpa using q
 have e163 : evT (E.map Et.f) f.ty.proto = [] := by unfold evT; rw [if_pos d163]
 refine WC.skip (kp [0, 2, 4, 6, 10, 11, 16, 20] ?_)
 refine gD ?_; intros
 refine xM ?_
 refine bI ?_
 refine xA ?_
 refine WL.nil (loopBackI (s.fs.l.length - (i + 1)) [(20, .int .i64 (i + 1))] (h'' := wdR b w6 :: evR w6 :: .row (.slice a16 s.fs.l.length c16) 60 6 s.fs.l.length (fl foE l17) :: .row (.slice a12 s.names.l.length c12) 9 1 s.names.l.length (fl encB n12) :: .row (.slice a11 s.fs.l.length c11) 135 4 s.fs.l.length (fl etE I) :: .row (.slice a10 s.names.l.length c10) 135 4 s.names.l.length (fl etE O) :: .row (.slice a8 s.fs.l.length c8) 9 1 s.fs.l.length (fl encB l8) :: .pt b6 (.cells (spE zeroS).toArray 54 (0, 0)) :: .pt b4 (.cells (spE (Sp.mk s.k ⟨s.ty.kind, s.ty.dim, s.ty.item, p1⟩ ⟨a12, c12, s.names.l⟩ s.e s.cs s.vs s.fs s.ba s.bc s.bl)).toArray 54 (0, 0)) :: (h ++ R)) (by omega) ?_ Su Sb ⟨i + 1, l17, w6, e6, ⟨⟨by omega, hl17⟩, hS6, by rw [hJ7, e163]; rfl, hlt6.2⟩, rfl, rfl, rfl⟩)
 exact Su
 replace c154 := dF c154
 obtain rfl : i = s.fs.l.length := by omega
 rw [List.drop_length, show evTs (E.map Et.f) [] = [] from rfl, List.append_nil] at hJ6
 have q6 := hS6.len
 have q7 := congrArg List.length hJ6
 refine WC.exit (kp [0, 2, 4, 6, 10, 11, 16] ?_)
 refine gD ?_; intros
 refine xM ?_
 refine xF u54 ?_
 refine xS ?_
 refine wn [0, 2, 4, 6, 10, 11] ?_
 refine gD ?_; intros
 refine xM ?_
 refine xF u54 ?_
 refine xG (pA u27) ?_
 refine xM ?_
 refine xg (E3 Et Et Et) (exprF_ct b a k c E s.e w6 _ m se hS6.n (hO.e.t.mono Sb) (hE.mono v0 Sb) (by omega)) ?_
 rintro _ _ ⟨y8, w8, rfl, hS8, rfl⟩
 have q8 := hS8.len
 refine xF u54 ?_
 refine xS ?_
 refine wn [0, 2, 4, 6, 10, 11] ?_
 refine gE ?_; intros
 refine dS [5] (.op 0 (.op 1 (.op 2 (.op 3 (.op 4 (.op 5 .nil)))))) [6, 7, 8] mixed ?_
 refine yG rfl (PO.move Et) ?_
 refine yG rfl (pF u54) ?_
 refine yG rfl (pL u45) ?_
 refine yG rfl (PO.move Et) ?_
 refine yG rfl (PO.move Et) ?_
 refine SR.callF rfl rfl Ev.func (E2 Et Et) (fun fr => withF_o _ _ _ _ _ _ E I _ m (hE.mono v0 Sb) (Rd.fr (Rd.inRow Me t11 p11 r11) fr) (by omega)) Lb fun a191 c191 => ?_
 refine SR.nil rfl rfl ?_
 refine WL.knowRow (a := a191) Me fun p91 r91 t91 => ?_
 refine WL.take (r := evR w8) De ?_
 refine WL.take (r := wdR b w8) De ?_
 have i1 := hS1.hi
 have i2 := hS2.hi
 have i3 := hS3.hi
 have i4 := hS4.hi
 have i5 := hS5.hi
 have i6 := hS6.hi
 have i8 := hS8.hi
 have hEI : (E ++ I).map Et.f = E.map Et.f ++ innF (E.map Et.f) s.fs.l := by rw [List.map_append, hIf]
 have hEl : (E ++ I).length = E.length + s.fs.l.length := by rw [List.length_append, hIl]
 refine xg (E3 Et Et Et) (procsF_ct b s.bl ih w8 hS8.n _ _ _ a191 (E ++ I).length c191 (E ++ I) _ m (hO.b.mono v0 Sb) hsm (fun x hx => (hOb x hx).mono Sb) sb (Rd.inRow Me t91 p91 r91) (EnvT.app (hEt.mono (hs0.trans Sb)) (hIt.mono Sb)) (by omega) (by rw [hEI]; omega) (by omega)) ?_
 rintro _ _ ⟨a9, c9, l9, w9, hl9, rfl, hS9, rfl⟩
 refine xF u54 ?_
 refine xS ?_
 refine wn [4, 6, 10] ?_
 refine gD ?_; intros
 refine xG (pA u54) ?_
 refine xM ?_
 refine xS ?_
 refine xA ?_
 rw [hEI] at hS9
 refine WL.take (r := .row (.slice a10 s.names.l.length c10) 135 4 s.names.l.length (fl etE O)) De ?_
 refine WL.last _ rfl ?_
 refine wn [6, 7] ?_
 refine WC.ret (end2 (h' := wdR b w9 :: evR w9 :: ((h ++ R) ++ [.row (.slice a10 s.names.l.length c10) 135 4 s.names.l.length (fl etE O)])) (.inl rfl) rfl (RV.cellA u54 rfl rfl rfl Me rfl) (RV.tmp rfl) (View.le.refl m) Sb ?_)
 exact ⟨.mk s.k ⟨s.ty.kind, s.ty.dim, s.ty.item, p1⟩ ⟨a12, c12, s.names.l⟩ y8 s.cs s.vs ⟨a16, c16, s.fs.l⟩ a9 c9 l9, a10, c10, O, R ++ [.row (.slice a10 s.names.l.length c10) 135 4 s.names.l.length (fl etE O)], w9, by rw [hOl]; rfl, (hS1.trans (hS2.trans (hS3.trans (hS4.trans (hS5.trans (hS6.trans (hS8.trans hS9))))))).cast (by rw [hev, hJ, hJ6]; rfl) (by omega), hOf, by rw [hOl]; exact Rd.inRow (List.mem_append_right _ (List.mem_append_right _ (List.Mem.head _))) t10 p10 r10, by rw [← List.append_assoc]; exact hOt.mono (List.sublist_append_left _ _), by rw [List.append_assoc]⟩
end Go.Proofs.YtdhmplmpbcnojaaGreatDoor
end
/- FrF -/
section
namespace Go.Proofs.YtdhmplmpbcnojaaGreatDoor
open Go.Eng Go.Pc Go.Fr Go Go.RowKit
open Go.Xp hiding B nameT
open Go.Ty (Ty Vr eqT tyV cellT PrOk VOk encV encV_len encI encI_len)
open Go.Lx (encB encB_len)
set_option maxRecDepth 100000
def zPF : Pr := Pr.mk 0 [] zeroE nilS nilS ⟨[], zeroE, zeroE⟩ none 0 [] none 0 [] nilS zeroS
theorem WL.ptRow {P : Program} {ops : Array Oper} {Q : Exit → Act → World → Prop} {n : Cx} {l : List Oper} {F : Fm} {h h' : List Res} {m : View} {b k sz : Nat} {e : TypeId} {cs : List Value}
   (u : Upd h (.pt b (.cells cs.toArray e (0, 0))) (.row (.slice (some ⟨b, 0, none⟩) k k) e sz k cs) h') (hn : k ≤ 9223372036854775807) (hl : cs.length = k * sz) (kk : WL P ops Q n l F h' m) : WL P ops Q n l F h m :=
 WL.conv u rfl (fun w hh => by
   have := row_of_cells (sz := sz) (n := k) (cap := k) hh (Nat.le_refl _) (by unfold maxLen; omega) (by simpa using hl)
   rwa [List.toList_toArray, List.take_of_length_le (by omega)] at this) kk
theorem tagged_k {E : List Fe} {k : Int} {ch : Ex} {ex : List Ex} (h : taggedF E k ch ex = true) : k = 5 := by
 unfold taggedF at h
 split at h
 · simp only [Bool.and_eq_true, beq_iff_eq] at h
   exact h.1.1.1
 · cases h
set_option maxHeartbeats 8000000 in
theorem procF_ct (b : Nat) (p : Pr) : PrF b p := by
 refine Pr.ind (q := fun p => PrF b p) (fun p ih => ?_) p
 intro w h m a k c E hsm hw hP hE hEt hd hT hc
 have o := hsm.own
 have x := hP.own
 have v0 := View.le.refl m
 have xr := x.ex.rd
 have xm := xr.mx
 have xl := xr.le
 have hdc := dcP_eq p
 have hds := dcS_eq p.sp
 have hEl := hE.lenF etE_len (by decide)
 have hev := evP_eq p (E.map Et.f)
 have hd2 : E.length + dcP p ≤ 1099511627776 := hd
 have hc2 : w.cnt + dcP p ≤ 1099511627776 := hc
 have hB := hT
 rw [hev] at hB
 simp only [List.length_append] at hB
 refine CT.body Tryz.call52 Tryz.func52 rfl Tryz.ntmps52 Lb rfl ?_
 refine gD ?_; intros
 refine xX fun b4 => ?_
 refine xW fun b6 => ?_
 refine wn [0, 2, 4, 6] ?_
 refine gD ?_; intros
 refine WL.take (r := evR w) De ?_
 refine WL.take (r := wdR b w) De ?_
 refine xF u56 ?_
 refine xG (pL u41) ?_
 refine bB ?_
 refine wn [0, 2, 4, 6, 15] ?_
 (repeat refine WC.seqK fun K hK => ?_)
 refine WC.cutK (by assumption) [0, 2, 4, 6] rfl (fun F' h' => ∃ nm1 : B, ∃ w1 : Ws, (Stp w w1 (if p.k = 17 then evN (E.map Et.f) p.name else []) 0) ∧ F' = [] ∧ wdR b w1 :: evR w1 :: .pt b6 (.cells (prE zPF).toArray 56 (0, 0)) :: .pt b4 (.cells (prE (Pr.mk p.k nm1 p.ch p.tg p.ex p.rep p.ga p.gc p.gl p.la p.lc p.ll p.pn p.sp)).toArray 56 (0, 0)) :: h = h') ?_ ?_
 refine gE ?_; intros
 refine wc (fun c15 => ?_) fun c15 => ?_
 replace c15 := t_eq c15
 have e15 : (if p.k = 17 then evN (E.map Et.f) p.name else []) = evN (E.map Et.f) p.name := if_pos c15
 refine gD ?_; intros
 refine xM ?_
 refine xF u56 ?_
 refine xG (pL u9) ?_
 refine xM ?_
 refine xg (E3 Et Et Et) (nameF_ct b w hw p.name a k c E _ m (hE.mono v0 Sb) (by rw [← e15]; omega)) ?_
 rintro _ _ ⟨nm1, w1, rfl, hS1, rfl⟩
 refine xF u56 ?_
 refine xS ?_
 refine WL.nil (meetI [] (h'' := wdR b w1 :: evR w1 :: .pt b6 (.cells (prE zPF).toArray 56 (0, 0)) :: .pt b4 (.cells (prE (Pr.mk p.k nm1 p.ch p.tg p.ex p.rep p.ga p.gc p.gl p.la p.lc p.ll p.pn p.sp)).toArray 56 (0, 0)) :: h) ?_ Su Sb ⟨nm1, w1, by rw [e15]; exact hS1, rfl, rfl⟩)
 exact Su
 replace c15 := f_eq c15
 have e15 : (if p.k = 17 then evN (E.map Et.f) p.name else []) = [] := if_neg c15
 refine WC.skip (meetI [] (h'' := wdR b w :: evR w :: .pt b6 (.cells (prE zPF).toArray 56 (0, 0)) :: .pt b4 (.cells (prE (Pr.mk p.k (p.name) p.ch p.tg p.ex p.rep p.ga p.gc p.gl p.la p.lc p.ll p.pn p.sp)).toArray 56 (0, 0)) :: h) ?_ Su Sb ⟨p.name, w, by rw [e15]; exact Stp.refl hw 0, rfl, rfl⟩)
 exact Su
 rintro _ _ ⟨nm1, w1, hS1, rfl, rfl⟩
 refine WC.frm rfl ?_
 refine gD ?_; intros
 have q1 := hS1.len
 refine xG (pA u56) ?_
 refine xM ?_
 refine xf (E2 Et Et) (taggedF_ct (Pr.mk p.k nm1 p.ch p.tg p.ex p.rep p.ga p.gc p.gl p.la p.lc p.ll p.pn p.sp) a k c E _ m (x.ex.mono Sb) o.ne (hE.mono v0 Sb) (hEt.mono Sb)) ?_
 refine xA ?_
 refine wn [0, 2, 4, 6, 7] ?_
 refine gD ?_; intros
 refine xM ?_
 refine xF u56 ?_
 refine xG (pA u27) ?_
 refine xM ?_
 refine xg (E3 Et Et Et) (exprF_ct b a k c E p.ch w1 _ m o.ch hS1.n (x.ch.t.mono Sb) (hE.mono v0 Sb) (by omega)) ?_
 rintro _ _ ⟨ch1, w2, rfl, hS2, rfl⟩
 have q2 := hS2.len
 refine xF u56 ?_
 refine xS ?_
 refine wn [0, 2, 4, 6, 7] ?_
 refine gD ?_; intros
 refine xM ?_
 refine xF u56 ?_
 refine xG (pL u25) ?_
 refine xM ?_
 refine xg (E3 Et Et Et) (exprsF_ct b p.tg.l a k c E (fun x hx w h m p1 p2 p3 p4 => exprF_ct b a k c E x w h m (o.tg x hx) p1 p2 p3 p4) w2 hS2.n _ _ _ _ m (x.tg.rd.mono v0 Sb) (fun z hz => (x.tg.ok z hz).t.mono Sb) o.tn (hE.mono v0 Sb) (by omega)) ?_
 rintro _ _ ⟨a5, c5, l5, w3, hl5, rfl, hS3, rfl⟩
 have q3 := hS3.len
 refine xF u56 ?_
 refine xS ?_
 refine wn [0, 2, 4, 6, 7] ?_
 refine gD ?_; intros
 refine xM ?_
 refine wn [0, 2, 4, 6, 37] ?_
 (repeat refine WC.seqK fun K hK => ?_)
 refine WC.cutK (by assumption) [0, 2, 4, 6] rfl (fun F' h' => ∃ x1 : Sli Ex, ∃ w4 : Ws, (Stp w3 w4 (evXs (E.map Et.f) (if taggedF (E.map Et.f) p.k p.ch p.ex.l then p.ex.l.drop 1 else p.ex.l)) 0) ∧ F' = [] ∧ wdR b w4 :: evR w4 :: .pt b6 (.cells (prE zPF).toArray 56 (0, 0)) :: .pt b4 (.cells (prE (Pr.mk p.k nm1 ch1 ⟨a5, c5, l5⟩ x1 p.rep p.ga p.gc p.gl p.la p.lc p.ll p.pn p.sp)).toArray 56 (0, 0)) :: h = h') ?_ ?_
 refine gE ?_; intros
 refine wc (fun c37 => ?_) fun c37 => ?_
 have d37 : taggedF (E.map Et.f) p.k p.ch p.ex.l = true := c37
 have hk5 := tagged_k d37
 obtain ⟨e0, he0⟩ : ∃ e0, p.ex.l[0]? = some e0 := by
   cases hx : p.ex.l with
   | nil => exact absurd hx (o.ne hk5)
   | cons y r => exact ⟨y, rfl⟩
 have hx1 : 0 < p.ex.l.length := (List.getElem?_eq_some_iff.1 he0).1
 have eT : (if taggedF (E.map Et.f) p.k p.ch p.ex.l then p.ex.l.drop 1 else p.ex.l) = p.ex.l.drop 1 := if_pos d37
 rw [eT] at hB
 have hdr : (p.ex.l.drop 1).length ≤ 1048576 := by rw [List.length_drop]; have := o.en; omega
 refine gD ?_; intros
 refine xM ?_
 refine xF u56 ?_
 refine xG (pL u25) ?_
 refine xG (PO.sliceL EL25.und EL25.size Et Ev.const (l := 1) rfl (show 1 ≤ p.ex.l.length from hx1)) ?_
 refine xM ?_
 refine xg (E3 Et Et Et) (exprsF_ct b (p.ex.l.drop 1) a k c E (fun x hx w h m p1 p2 p3 p4 => exprF_ct b a k c E x w h m (o.ex x (List.mem_of_mem_drop hx)) p1 p2 p3 p4) w3 hS3.n _ _ _ _ m ((xr.dropF exE_len (by decide) (i := 1) (by omega)).mono v0 Sb) (fun z hz => (x.ex.ok z (List.mem_of_mem_drop hz)).t.mono Sb) hdr (hE.mono v0 Sb) (by omega)) ?_
 rintro _ _ ⟨a8, c8, l8, w4, hl8, rfl, hS4, rfl⟩
 refine xA ?_
 refine wn [0, 2, 4, 6, 8] ?_
 refine gD ?_; intros
 refine xF u56 ?_
 refine xG (pL u25) ?_
 refine xG (PO.idx EL25.und EL25.size EL25.posz (Ev.tmp rfl) Ev.const Rr rfl (q := 0) (show 0 < p.ex.l.length from hx1)) ?_
 refine xG (PO.loadFA u27 rfl rfl exE_len Rr (Ev.tmp rfl) (by assumption) rfl rfl (Nat.succ_pos _)) ?_
 refine xY EL25 (EvP.cons Et EvP.nil) fun b48 => ?_
 refine xA ?_
 refine wn [0, 2, 4, 6, 8, 9] ?_
 refine gD ?_; intros
 refine WL.knowRow (a := a8) Me fun p8 r8 t8 => ?_
 refine WL.ptRow (b := b48) (k := 1) (sz := 6) Up (by omega) rfl ?_
 refine xM ?_
 refine xM ?_
 refine xD EL25 (Ev.tmp rfl) (Ev.tmp rfl) (Nat.add_comm 1 l8.length) rfl fun a51 c51 => ?_
 refine xF u56 ?_
 refine xS ?_
 refine WL.nil (meetI [] (h'' := wdR b w4 :: evR w4 :: .pt b6 (.cells (prE zPF).toArray 56 (0, 0)) :: .pt b4 (.cells (prE (Pr.mk p.k nm1 ch1 ⟨a5, c5, l5⟩ (⟨a51, c51, e0 :: l8⟩) p.rep p.ga p.gc p.gl p.la p.lc p.ll p.pn p.sp)).toArray 56 (0, 0)) :: h) ?_ Su Sb ⟨⟨a51, c51, e0 :: l8⟩, w4, by rw [eT]; exact hS4, rfl, rfl⟩)
 exact Su
 have d37 : taggedF (E.map Et.f) p.k p.ch p.ex.l = false := c37
 have eT : (if taggedF (E.map Et.f) p.k p.ch p.ex.l then p.ex.l.drop 1 else p.ex.l) = p.ex.l := if_neg (by rw [d37]; decide)
 rw [eT] at hB
 refine gD ?_; intros
 refine xM ?_
 refine xF u56 ?_
 refine xG (pL u25) ?_
 refine xM ?_
 refine xg (E3 Et Et Et) (exprsF_ct b p.ex.l a k c E (fun x hx w h m p1 p2 p3 p4 => exprF_ct b a k c E x w h m (o.ex x hx) p1 p2 p3 p4) w3 hS3.n _ _ _ _ m (xr.mono v0 Sb) (fun z hz => (x.ex.ok z hz).t.mono Sb) o.en (hE.mono v0 Sb) (by omega)) ?_
 rintro _ _ ⟨a8, c8, l8, w4, hl8, rfl, hS4, rfl⟩
 refine xF u56 ?_
 refine xS ?_
 refine WL.nil (meetI [] (h'' := wdR b w4 :: evR w4 :: .pt b6 (.cells (prE zPF).toArray 56 (0, 0)) :: .pt b4 (.cells (prE (Pr.mk p.k nm1 ch1 ⟨a5, c5, l5⟩ (⟨a8, c8, l8⟩) p.rep p.ga p.gc p.gl p.la p.lc p.ll p.pn p.sp)).toArray 56 (0, 0)) :: h) ?_ Su Sb ⟨⟨a8, c8, l8⟩, w4, by rw [eT]; exact hS4, rfl, rfl⟩)
 exact Su
 rintro _ _ ⟨x1, w4, hS4, rfl, rfl⟩
 refine WC.frm rfl ?_
 refine gD ?_; intros
 have q4 := hS4.len
 refine xF u56 ?_
 refine xF u43 ?_
 refine xG (pL u9) ?_
 refine xG (PO.neqS Et Ev.const) ?_
 refine wn [0, 2, 4, 6, 62] ?_
 (repeat refine WC.seqK fun K hK => ?_)
 refine WC.cutK (by assumption) [0, 4, 6] rfl (fun F' h' => ∃ rep1 : Rp, ∃ w6 : Ws, ∃ ae : Option Addr, ∃ ke : Nat, ∃ ce : Nat, ∃ E1 : List Et, ∃ H : List Res, ((Stp w4 w6 (if p.rep.name = [] then [] else evX (E.map Et.f) p.rep.base ++ evX (E.map Et.f) p.rep.count) 1 ∧ E1.map Et.f = repF (E.map Et.f) p.rep) ∧ (Rd m H ae ke ce 4 (fl etE E1) ∧ EnvT m H E1) ∧ h.Sublist H ∧ E1.length ≤ E.length + 1) ∧ F' = [(2, .slice ae ke ce)] ∧ wdR b w6 :: evR w6 :: .pt b6 (.cells (prE zPF).toArray 56 (0, 0)) :: .pt b4 (.cells (prE (Pr.mk p.k nm1 ch1 ⟨a5, c5, l5⟩ x1 rep1 p.ga p.gc p.gl p.la p.lc p.ll p.pn p.sp)).toArray 56 (0, 0)) :: H = h') ?_ ?_
 refine gE ?_; intros
 refine wc (fun c62 => ?_) fun c62 => ?_
 have d62 : p.rep.name ≠ [] := by
   have q : (!(p.rep.name == [])) = true := c62
   simpa using q
 have e62 : (if p.rep.name = [] then [] else evX (E.map Et.f) p.rep.base ++ evX (E.map Et.f) p.rep.count) = evX (E.map Et.f) p.rep.base ++ evX (E.map Et.f) p.rep.count := if_neg d62
 have r62 : repF (E.map Et.f) p.rep = E.map Et.f ++ [⟨p.rep.name, false, []⟩] := if_neg d62
 have hB2 := hB
 rw [e62, List.length_append] at hB2
 refine gD ?_; intros
 refine xM ?_
 refine xF u56 ?_
 refine xF u43 ?_
 refine xG (pL u9) ?_
 refine xg (E2 Et Et) (declF_ct b w4 (by have h1 := hS1.hi; have h2 := hS2.hi; have h3 := hS3.hi; have h4 := hS4.hi; omega) p.rep.name _ m) ?_
 rintro _ _ ⟨nw, rfl, rfl⟩
 refine xW fun b10 => ?_
 refine xS ?_
 refine wn [0, 2, 4, 6, 10] ?_
 refine gD ?_; intros
 refine xF u135 ?_
 refine xG (pL u9) ?_
 refine xF u56 ?_
 refine xF u43 ?_
 refine xS ?_
 refine wn [0, 2, 4, 6, 10] ?_
 refine gD ?_; intros
 refine WL.take (r := evR w4.up) De ?_
 refine WL.take (r := wdR b w4.up) De ?_
 have qu : w4.up.l.length = w4.l.length := rfl
 refine xM ?_
 refine xF u56 ?_
 refine xF u43 ?_
 refine xG (pA u27) ?_
 refine xM ?_
 refine xg (E3 Et Et Et) (exprF_ct b a k c E p.rep.base w4.up _ m o.rb hS4.n (x.rb.t.mono Sb) (hE.mono v0 Sb) (by omega)) ?_
 rintro _ _ ⟨y1, w5, rfl, hS5, rfl⟩
 have q5 := hS5.len
 refine xF u56 ?_
 refine xF u43 ?_
 refine xS ?_
 refine wn [0, 2, 4, 6, 10] ?_
 refine gD ?_; intros
 refine xM ?_
 refine xF u56 ?_
 refine xF u43 ?_
 refine xG (pA u27) ?_
 refine xM ?_
 refine xg (E3 Et Et Et) (exprF_ct b a k c E p.rep.count w5 _ m o.rc hS5.n (x.rc.t.mono Sb) (hE.mono v0 Sb) (by omega)) ?_
 rintro _ _ ⟨y2, w6, rfl, hS6, rfl⟩
 refine xF u56 ?_
 refine xF u43 ?_
 refine xS ?_
 refine wn [0, 2, 4, 6, 10] ?_
 refine gD ?_; intros
 refine xM ?_
 refine xG (pA u135) ?_
 refine xY EL129 (EvP.cons Et EvP.nil) fun b90 => ?_
 refine xg (E2 Et Et) (withF_ct a _ k c 1 1 E [⟨p.rep.name, nw, false, none, 0, []⟩] _ m (hE.mono v0 Sb) (Rd.ofPt rfl (by decide) Me) (by omega)) ?_
 rintro _ _ ⟨a91, c91, rfl, rfl⟩
 refine xA ?_
 refine WL.knowRow (a := a91) Me fun p91 r91 t91 => ?_
 refine WL.take (r := .pt b4 _) De ?_
 refine WL.take (r := .pt b6 _) De ?_
 refine WL.take (r := evR w6) De ?_
 refine WL.take (r := wdR b w6) De ?_
 refine WL.nil (meetI [(2, .slice a91 (k + 1) c91)] (h'' := wdR b w6 :: evR w6 :: .pt b6 (.cells (prE zPF).toArray 56 (0, 0)) :: .pt b4 (.cells (prE (Pr.mk p.k nm1 ch1 ⟨a5, c5, l5⟩ x1 (⟨nw, y1, y2⟩) p.ga p.gc p.gl p.la p.lc p.ll p.pn p.sp)).toArray 56 (0, 0)) :: (.row (.slice a91 (k + 1) c91) 135 4 (k + 1) (fl etE (E ++ [⟨p.rep.name, nw, false, none, 0, []⟩])) :: h)) ?_ Su Sb ⟨⟨nw, y1, y2⟩, w6, a91, k + 1, c91, E ++ [⟨p.rep.name, nw, false, none, 0, []⟩], .row (.slice a91 (k + 1) c91) 135 4 (k + 1) (fl etE (E ++ [⟨p.rep.name, nw, false, none, 0, []⟩])) :: h, ⟨⟨((Stp.up hS4.n).trans (hS5.trans hS6)).cast (by rw [e62]; rfl) (by omega), by rw [r62, List.map_append]; rfl⟩, ⟨Rd.inRow (List.Mem.head _) t91 p91 r91, EnvT.app (hEt.mono (List.sublist_cons_self _ _)) (fun y hy => by rw [List.mem_singleton] at hy; subst hy; exact Rd.nilF encB 1 m _)⟩, List.sublist_cons_self _ _, by rw [List.length_append]; exact Nat.le_refl _⟩, rfl, rfl⟩)
 exact Su
 have d62 : p.rep.name = [] := by
   have q : (!(p.rep.name == [])) = false := c62
   simpa using q
 have e62 : (if p.rep.name = [] then [] else evX (E.map Et.f) p.rep.base ++ evX (E.map Et.f) p.rep.count) = [] := if_pos d62
 refine WC.skip (meetI [(2, .slice a k c)] (h'' := wdR b w4 :: evR w4 :: .pt b6 (.cells (prE zPF).toArray 56 (0, 0)) :: .pt b4 (.cells (prE (Pr.mk p.k nm1 ch1 ⟨a5, c5, l5⟩ x1 (p.rep) p.ga p.gc p.gl p.la p.lc p.ll p.pn p.sp)).toArray 56 (0, 0)) :: h) ?_ Su Sb ⟨p.rep, w4, a, k, c, E, h, ⟨⟨by rw [e62]; exact Stp.refl hS4.n 1, by unfold repF; rw [if_pos d62]⟩, ⟨hE, hEt⟩, List.Sublist.refl _, by omega⟩, rfl, rfl⟩)
 exact Su
 rintro _ _ ⟨rep1, w6, ae, ke, ce, E1, H, ⟨⟨hS6, hE1f⟩, ⟨hE1, hE1t⟩, hsub, hE1l⟩, rfl, rfl⟩
 refine WC.frm rfl ?_
 refine gD ?_; intros
 have q6 := hS6.len
 have hE1k := hE1.lenF etE_len (by decide)
 have hPH := hP.mono hsub
 have xH := hPH.own
 refine xF u56 ?_
 refine xG (pL u41) ?_
 refine bB ?_
 refine wn [0, 2, 4, 6, 94] ?_
 (repeat refine WC.seqK fun K hK => ?_)
 refine WC.cutK (by assumption) [0, 4, 6] rfl (fun F' h' => ∃ sp1 : Sp, ∃ w7 : Ws, ∃ a2 : Option Addr, ∃ k2 : Nat, ∃ c2 : Nat, ∃ E2 : List Et, ∃ H2 : List Res, ((Stp w6 w7 (if p.k = 18 then evS p.sp (repF (E.map Et.f) p.rep) else []) (dcS p.sp) ∧ E2.map Et.f = (if p.k = 18 then repF (E.map Et.f) p.rep ++ ownF (repF (E.map Et.f) p.rep) p.sp else repF (E.map Et.f) p.rep)) ∧ (Rd m H2 a2 k2 c2 4 (fl etE E2) ∧ EnvT m H2 E2) ∧ h.Sublist H2 ∧ E2.length ≤ E.length + 1 + p.sp.names.l.length) ∧ F' = [(2, .slice a2 k2 c2)] ∧ wdR b w7 :: evR w7 :: .pt b6 (.cells (prE zPF).toArray 56 (0, 0)) :: .pt b4 (.cells (prE (Pr.mk p.k nm1 ch1 ⟨a5, c5, l5⟩ x1 rep1 p.ga p.gc p.gl p.la p.lc p.ll p.pn sp1)).toArray 56 (0, 0)) :: H2 = h') ?_ ?_
 refine gE ?_; intros
 refine wc (fun c94 => ?_) fun c94 => ?_
 replace c94 := t_eq c94
 have e94 : (if p.k = 18 then evS p.sp (repF (E.map Et.f) p.rep) else []) = evS p.sp (repF (E.map Et.f) p.rep) := if_pos c94
 have f94 : (if p.k = 18 then repF (E.map Et.f) p.rep ++ ownF (repF (E.map Et.f) p.rep) p.sp else repF (E.map Et.f) p.rep) = repF (E.map Et.f) p.rep ++ ownF (repF (E.map Et.f) p.rep) p.sp := if_pos c94
 have hB3 := hB
 rw [e94] at hB3
 refine gD ?_; intros
 refine xM ?_
 refine xF u56 ?_
 refine xG (pA u54) ?_
 refine xM ?_
 refine xg (E3 Et Et Et) (specF_ct b p.sp (fun z hz => ih z (.s hz)) w6 hS6.n ae ke ce E1 H _ Sb m (xH.sp.mono Sb) (fun z hz => (hPH.sub (.s hz)).mono Sb) o.sn o.sf o.sv o.se o.sb o.s4 (fun z hz => hsm.sub (.s hz)) (hE1.mono v0 Sb) hE1t (by omega) (by rw [hE1f]; omega) (by have h1 := hS1.hi; have h2 := hS2.hi; have h3 := hS3.hi; have h4 := hS4.hi; have h6 := hS6.hi; omega)) ?_
 rintro _ _ ⟨q, ao, co, O, r, w7, rfl, hS7, hOf, hOr, hOt, rfl⟩
 rw [hE1f] at hS7 hOf
 simp only [List.cons_append]
 refine xM ?_
 refine xE ?_
 refine xE ?_
 refine xW fun b11 => ?_
 refine xS ?_
 refine xA ?_
 refine wn [0, 2, 4, 6, 11, 12] ?_
 refine gD ?_; intros
 refine xG (pA u54) ?_
 refine xF u56 ?_
 refine xS ?_
 refine wn [0, 2, 4, 6, 12] ?_
 refine gD ?_; intros
 refine xM ?_
 refine xM ?_
 refine xg (E2 Et Et) (withF_ct ae ao ke ce O.length co E1 O _ m (hE1.mono v0 ((List.sublist_append_left H r).trans Sb)) (hOr.mono v0 Sb) (by have hol := congrArg List.length hOf; rw [List.length_map] at hol; unfold ownF at hol; rw [List.length_map] at hol; omega)) ?_
 rintro _ _ ⟨a107, c107, rfl, rfl⟩
 refine xA ?_
 refine WL.knowRow (a := a107) Me fun p107 r107 t107 => ?_
 refine WL.take (r := .pt b4 _) De ?_
 refine WL.take (r := .pt b6 _) De ?_
 refine WL.take (r := evR w7) De ?_
 refine WL.take (r := wdR b w7) De ?_
 have hol := congrArg List.length hOf
 rw [List.length_map] at hol
 unfold ownF at hol
 rw [List.length_map] at hol
 refine WL.nil (meetI [(2, .slice a107 (ke + O.length) c107)] (h'' := wdR b w7 :: evR w7 :: .pt b6 (.cells (prE zPF).toArray 56 (0, 0)) :: .pt b4 (.cells (prE (Pr.mk p.k nm1 ch1 ⟨a5, c5, l5⟩ x1 rep1 p.ga p.gc p.gl p.la p.lc p.ll p.pn q)).toArray 56 (0, 0)) :: (.row (.slice a107 (ke + O.length) c107) 135 4 (ke + O.length) (fl etE (E1 ++ O)) :: (H ++ r))) ?_ Su Sb ⟨q, w7, a107, ke + O.length, c107, E1 ++ O, .row (.slice a107 (ke + O.length) c107) 135 4 (ke + O.length) (fl etE (E1 ++ O)) :: (H ++ r), ⟨⟨by rw [e94]; exact hS7, by rw [f94, List.map_append, hE1f, hOf]⟩, ⟨Rd.inRow (List.Mem.head _) t107 p107 r107, EnvT.app (hE1t.mono ((List.sublist_append_left H r).trans (List.sublist_cons_self _ _))) (hOt.mono (List.sublist_cons_self _ _))⟩, hsub.trans ((List.sublist_append_left H r).trans (List.sublist_cons_self _ _)), by rw [List.length_append]; omega⟩, rfl, rfl⟩)
 exact Su
 replace c94 := f_eq c94
 have e94 : (if p.k = 18 then evS p.sp (repF (E.map Et.f) p.rep) else []) = [] := if_neg c94
 have f94 : (if p.k = 18 then repF (E.map Et.f) p.rep ++ ownF (repF (E.map Et.f) p.rep) p.sp else repF (E.map Et.f) p.rep) = repF (E.map Et.f) p.rep := if_neg c94
 refine WC.skip (meetI [(2, .slice ae ke ce)] (h'' := wdR b w6 :: evR w6 :: .pt b6 (.cells (prE zPF).toArray 56 (0, 0)) :: .pt b4 (.cells (prE (Pr.mk p.k nm1 ch1 ⟨a5, c5, l5⟩ x1 rep1 p.ga p.gc p.gl p.la p.lc p.ll p.pn (p.sp))).toArray 56 (0, 0)) :: H) ?_ Su Sb ⟨p.sp, w6, ae, ke, ce, E1, H, ⟨⟨by rw [e94]; exact Stp.refl hS6.n _, by rw [f94]; exact hE1f⟩, ⟨hE1, hE1t⟩, hsub, by omega⟩, rfl, rfl⟩)
 exact Su
 rintro _ _ ⟨sp1, w7, a2, k2, c2, E2, H2, ⟨⟨hS7, hE2f⟩, ⟨hE2, hE2t⟩, hsub2, hE2l⟩, rfl, rfl⟩
 refine WC.frm rfl ?_
 refine gD ?_; intros
 have q7 := hS7.len
 have hP2 := hP.mono hsub2
 have x2 := hP2.own
 have h1 := hS1.hi
 have h2 := hS2.hi
 have h3 := hS3.hi
 have h4 := hS4.hi
 have h6 := hS6.hi
 have h7 := hS7.hi
 rw [← hE2f] at hB hev
 refine xM ?_
 refine xF u56 ?_
 refine xG (pL u44) ?_
 refine xM ?_
 refine xg (E3 Et Et Et) (guardsF_ct b p.gl (fun g hg z hz => ih z (.g hg hz)) w7 hS7.n _ _ _ a2 k2 c2 E2 _ m (x2.g.mono v0 Sb) (fun g hg => ⟨o.gs g hg, fun z hz => hsm.sub (.g hg hz)⟩) (fun g hg => ⟨(x2.gs g hg).mono Sb, fun z hz => (hP2.sub (.g hg hz)).mono Sb⟩) o.gn (hE2.mono v0 Sb) (hE2t.mono Sb) (by omega) (by omega) (by omega)) ?_
 rintro _ _ ⟨a8, c8, l8, w8, hl8, rfl, hS8, rfl⟩
 have q8 := hS8.len
 have h8 := hS8.hi
 refine xF u56 ?_
 refine xS ?_
 refine wn [0, 2, 4, 6] ?_
 refine gD ?_; intros
 refine xM ?_
 refine xF u56 ?_
 refine xG (pL u45) ?_
 refine xM ?_
 refine xg (E3 Et Et Et) (procsF_ct b p.ll (fun z hz => ih z (.l hz)) w8 hS8.n _ _ _ a2 k2 c2 E2 _ m (x2.l.mono v0 Sb) (fun z hz => hsm.sub (.l hz)) (fun z hz => (hP2.sub (.l hz)).mono Sb) o.ln (hE2.mono v0 Sb) (hE2t.mono Sb) (by omega) (by omega) (by omega)) ?_
 rintro _ _ ⟨a9, c9, l9, w9, hl9, rfl, hS9, rfl⟩
 refine xF u56 ?_
 refine xS ?_
 refine wn [4, 6] ?_
 refine gD ?_; intros
 refine xG (pA u56) ?_
 refine xS ?_
 refine WL.drop (h' := wdR b w9 :: evR w9 :: .pt b6 _ :: h) (List.Sublist.cons_cons _ (List.Sublist.cons_cons _ (List.Sublist.cons _ (List.Sublist.cons _ (List.Sublist.cons_cons _ (List.Sublist.cons _ hsub2)))))) ?_
 refine wn [6] ?_
 refine WC.ret (end1 (h' := wdR b w9 :: evR w9 :: h) (.inl rfl) rfl (RV.cellA u56 rfl rfl rfl Me rfl) (View.le.refl m) Sb ?_)
 exact ⟨Pr.mk p.k nm1 ch1 ⟨a5, c5, l5⟩ x1 rep1 a8 c8 l8 a9 c9 l9 p.pn sp1, w9, rfl, (hS1.trans (hS2.trans (hS3.trans (hS4.trans (hS6.trans (hS7.trans (hS8.trans hS9))))))).cast (by rw [hev]) (by omega), rfl⟩
end Go.Proofs.YtdhmplmpbcnojaaGreatDoor
end
/- RvA -/
section
namespace Go.Proofs.YtdhmplmpbcnojaaGreatDoor
open Go.Eng Go.Pc Go
open Go.Xp hiding B nameT
open Go.Ty (Ty Vr eqT tyV cellT PrOk VOk prL encV encV_len encI encI_len)
open Go.Lx (encB encB_len)
set_option maxRecDepth 100000
theorem any_at {α : Type} {l : List α} {i : Nat} {x : α} (h : l[i]? = some x) (q : α → Bool) : (l.drop i).any q = (q x || (l.drop (i + 1)).any q) := by
 obtain ⟨hi, rfl⟩ := List.getElem?_eq_some_iff.1 h
 rw [List.drop_eq_getElem_cons hi, List.any_cons]
theorem each_far {α : Type} {l : List α} {lo hi : Int} {q : α → Bool} (h : (decide ((l.length : Int) < lo) || decide ((l.length : Int) > hi)) = true) : each l lo hi q = false := by
 unfold each span
 simp only [Bool.or_eq_true, decide_eq_true_eq] at h
 by_cases h1 : (l.length : Int) ≥ lo
 · have h2 : ¬ (l.length : Int) ≤ hi := by omega
   simp [h2]
 · simp [h1]
theorem each_near {α : Type} {l : List α} {lo hi : Int} {q : α → Bool} (h : (decide ((l.length : Int) < lo) || decide ((l.length : Int) > hi)) = false) : each l lo hi q = !(l.any fun x => !q x) := by
 unfold each span
 simp only [Bool.or_eq_false_iff, decide_eq_false_iff_not] at h
 have h1 : (l.length : Int) ≥ lo := by omega
 have h2 : (l.length : Int) ≤ hi := by omega
 simp [h1, h2]
theorem tokR_zero (m : View) (h : List Res) : TOk m h zeroE := .mk (Rd.nilF exE 6 m h) (fun _ hx => by cases hx)
theorem elemR_ct {m : View} {h : List Res} (e : Ex) (hE : EOk m h e) : CT Tryz.prog 111 [exV e] h m (Pure1 h (.bool (elemE e))) := by
 have hT := hE.t
 have hW := hE.w
 refine CT.body Tryz.call111 Tryz.func111 rfl Tryz.ntmps111 Lb rfl ?_
 refine gD ?_; intros
 refine xX fun b1 => ?_
 refine xC ?_
 refine wn [1] ?_
 refine gG ?_; intros; rename_i ops hG
 refine xF u27 ?_
 refine xG (pL u22) ?_
 refine bB ?_
 refine xM ?_
 refine zG (fun _ => pF u27) ?_
 refine zG (fun hc => PO.load1 u22 rfl (Eg hc) Me rfl) ?_
 refine zG (fun hc => PO.bin (Eg hc) Ev.const rfl) ?_
 refine xQ ?_
 refine xM ?_
 refine zG (fun _ => pA u27) ?_
 refine WL.callG (GU.t (hG _ _ rfl) rfl) (fun hc => ⟨Ev.func, (E1 (Eg hc)), mayR_ct e _ (hT.mono Sb) hW⟩) Lb ?_
 refine xP ?_
 refine xA ?_
 refine wn [2] ?_
 try clear hG ops
 refine WC.ret (wR (h) ?_)
 exact ⟨rfl, rfl⟩
theorem noneR_ct {m : View} {h : List Res} (e : Ex) (hT : TOk m h e) : CT Tryz.prog 156 [exV e] h m (Pure1 h (.bool (noneE e))) := by
 refine CT.body Tryz.call156 Tryz.func156 rfl Tryz.ntmps156 Lb rfl ?_
 refine gD ?_; intros
 refine xX fun b1 => ?_
 refine xC ?_
 refine wn [1] ?_
 refine gD ?_; intros
 refine xG (pA u27) ?_
 refine xG (PO.build u27 rfl rfl rfl EvP.nil rfl) ?_
 refine xf (E2 Et Et) (sameR_ct e zeroE _ _ (hT.mono Sb) (tokR_zero _ _)) ?_
 refine xA ?_
 refine wn [2] ?_
 refine WC.ret (wR (h) ?_)
 exact ⟨rfl, rfl⟩
theorem elmsR_ct (a : Option Addr) (k c : Nat) (l : List Ex) (lo hi : Int) (h : List Res) (m : View) (hL : Rd m h a k c 6 (fl exE l)) (hok : ∀ x ∈ l, EOk m h x) :
   CT Tryz.prog 109 [.slice a k c, .int .i64 lo, .int .i64 hi] h m (Pure1 h (.bool (each l lo hi elemE))) := by
 have hl := hL.lenF exE_len (by decide)
 subst hl
 have hmx := hL.mx
 have hle := hL.le
 refine CT.body Tryz.call109 Tryz.func109 rfl Tryz.ntmps109 Lb rfl ?_
 refine gD ?_; intros
 refine xC ?_
 refine wn [0, 1, 2] ?_
 refine gG ?_; intros; rename_i ops hG
 refine xM ?_
 refine xG (PO.lenSl u25 Et) ?_
 refine xM ?_
 refine bD ?_
 refine xM ?_
 refine zM ?_
 refine zG (fun hc => PO.lenSl u25 (Eg hc)) ?_
 refine zM ?_
 refine zG (fun hc => PO.bin (Eg hc) (Eg hc) rfl) ?_
 refine xQ ?_
 refine wn [0, 17] ?_
 try clear hG ops
 refine gE ?_; intros
 refine wc (fun c17 => ?_) fun c17 => ?_
 refine gD ?_; intros
 refine xC ?_
 refine wn [6] ?_
 refine WC.ret (wR (h) ?_)
 exact ⟨by rw [each_far c17], rfl⟩
 have d17 := each_near (q := elemE) c17
 refine WC.skip (kp [0] ?_)
 refine gD ?_; intros
 refine xC ?_
 refine wn [0, 7] ?_
 refine gE ?_; intros
 refine WC.loopI [0] rfl (fun μ F' h' => ∃ i : Nat, (i ≤ l.length ∧ each l lo hi elemE = !((l.drop i).any fun x => !elemE x)) ∧ l.length - i = μ ∧ F' = [(7, .int .i64 i)] ∧ h = h') (l.length - 0) [(7, .int .i64 0)] (h0 := h) ?_ Sb ⟨0, ⟨by omega, d17⟩, rfl, rfl, rfl⟩ ?_
 exact Su
 rintro _ _ _ ⟨i, ⟨hk, hJ⟩, rfl, rfl, rfl⟩
 refine WC.frm rfl ?_
 refine gD ?_; intros
 refine xM ?_
 refine xM ?_
 refine xG (PO.lenSl u25 Et) ?_
 refine bD ?_
 refine wn [0, 7, 21] ?_
 refine gE ?_; intros
 refine wc (fun c21 => ?_) fun c21 => ?_
 replace c21 := dT c21
 obtain ⟨x, hx⟩ := get_some (l := l) (k := i) (by omega)
 rw [any_at hx] at hJ
 have hxo := hok x (List.mem_of_getElem? hx)
 refine WC.skip (kp [0, 7] ?_)
 refine gD ?_; intros
 refine xM ?_
 refine xM ?_
 refine xG (PO.idx EL25.und EL25.size EL25.posz (Ev.tmp rfl) (Ev.tmp rfl) Rr rfl (by omega)) ?_
 refine xG (PO.loadFA u27 rfl rfl exE_len Rr (Ev.tmp rfl) (by assumption) rfl rfl (Nat.succ_pos _)) ?_
 refine xf (E1 Et) (elemR_ct x ⟨hxo.t.mono Sb, hxo.w⟩) ?_
 refine xG (PO.not Et) ?_
 refine wn [0, 7, 29] ?_
 refine gE ?_; intros
 refine wc (fun c29 => ?_) fun c29 => ?_
 have d29 : (!elemE x) = true := c29
 rw [d29] at hJ
 refine gD ?_; intros
 refine xC ?_
 refine wn [6] ?_
 refine WC.ret (wR (h) ?_)
 exact ⟨by rw [hJ]; rfl, rfl⟩
 have d29 : (!elemE x) = false := c29
 rw [d29] at hJ
 refine WC.skip (kp [0, 7] ?_)
 refine gD ?_; intros
 refine xM ?_
 refine bI ?_
 refine xA ?_
 refine WL.nil (loopBackI (l.length - (i + 1)) [(7, .int .i64 (i + 1))] (h'' := h) (by omega) ?_ Su Sb ⟨i + 1, ⟨by omega, by simpa using hJ⟩, rfl, rfl, rfl⟩)
 exact Su
 replace c21 := dF c21
 rw [List.drop_eq_nil_of_le (by omega)] at hJ
 refine WC.exit (kp [] ?_)
 refine gD ?_; intros
 refine xC ?_
 refine wn [6] ?_
 refine WC.ret (wR (h) ?_)
 exact ⟨by rw [hJ]; rfl, rfl⟩
theorem exsR_ct (a : Option Addr) (k c : Nat) (l : List Ex) (lo hi : Int) (h : List Res) (m : View) (hL : Rd m h a k c 6 (fl exE l)) (hok : ∀ x ∈ l, EOk m h x) :
   CT Tryz.prog 110 [.slice a k c, .int .i64 lo, .int .i64 hi] h m (Pure1 h (.bool (each l lo hi mayE))) := by
 have hl := hL.lenF exE_len (by decide)
 subst hl
 have hmx := hL.mx
 have hle := hL.le
 refine CT.body Tryz.call110 Tryz.func110 rfl Tryz.ntmps110 Lb rfl ?_
 refine gD ?_; intros
 refine xC ?_
 refine wn [0, 1, 2] ?_
 refine gG ?_; intros; rename_i ops hG
 refine xM ?_
 refine xG (PO.lenSl u25 Et) ?_
 refine xM ?_
 refine bD ?_
 refine xM ?_
 refine zM ?_
 refine zG (fun hc => PO.lenSl u25 (Eg hc)) ?_
 refine zM ?_
 refine zG (fun hc => PO.bin (Eg hc) (Eg hc) rfl) ?_
 refine xQ ?_
 refine wn [0, 17] ?_
 try clear hG ops
 refine gE ?_; intros
 refine wc (fun c17 => ?_) fun c17 => ?_
 refine gD ?_; intros
 refine xC ?_
 refine wn [6] ?_
 refine WC.ret (wR (h) ?_)
 exact ⟨by rw [each_far c17], rfl⟩
 have d17 := each_near (q := mayE) c17
 refine WC.skip (kp [0] ?_)
 refine gD ?_; intros
 refine xC ?_
 refine wn [0, 7] ?_
 refine gE ?_; intros
 refine WC.loopI [0] rfl (fun μ F' h' => ∃ i : Nat, (i ≤ l.length ∧ each l lo hi mayE = !((l.drop i).any fun x => !mayE x)) ∧ l.length - i = μ ∧ F' = [(7, .int .i64 i)] ∧ h = h') (l.length - 0) [(7, .int .i64 0)] (h0 := h) ?_ Sb ⟨0, ⟨by omega, d17⟩, rfl, rfl, rfl⟩ ?_
 exact Su
 rintro _ _ _ ⟨i, ⟨hk, hJ⟩, rfl, rfl, rfl⟩
 refine WC.frm rfl ?_
 refine gD ?_; intros
 refine xM ?_
 refine xM ?_
 refine xG (PO.lenSl u25 Et) ?_
 refine bD ?_
 refine wn [0, 7, 21] ?_
 refine gE ?_; intros
 refine wc (fun c21 => ?_) fun c21 => ?_
 replace c21 := dT c21
 obtain ⟨x, hx⟩ := get_some (l := l) (k := i) (by omega)
 rw [any_at hx] at hJ
 have hxo := hok x (List.mem_of_getElem? hx)
 refine WC.skip (kp [0, 7] ?_)
 refine gD ?_; intros
 refine xM ?_
 refine xM ?_
 refine xG (PO.idx EL25.und EL25.size EL25.posz (Ev.tmp rfl) (Ev.tmp rfl) Rr rfl (by omega)) ?_
 refine xG (PO.loadFA u27 rfl rfl exE_len Rr (Ev.tmp rfl) (by assumption) rfl rfl (Nat.succ_pos _)) ?_
 refine xf (E1 Et) (mayR_ct x _ (hxo.t.mono Sb) hxo.w) ?_
 refine xG (PO.not Et) ?_
 refine wn [0, 7, 29] ?_
 refine gE ?_; intros
 refine wc (fun c29 => ?_) fun c29 => ?_
 have d29 : (!mayE x) = true := c29
 rw [d29] at hJ
 refine gD ?_; intros
 refine xC ?_
 refine wn [6] ?_
 refine WC.ret (wR (h) ?_)
 exact ⟨by rw [hJ]; rfl, rfl⟩
 have d29 : (!mayE x) = false := c29
 rw [d29] at hJ
 refine WC.skip (kp [0, 7] ?_)
 refine gD ?_; intros
 refine xM ?_
 refine bI ?_
 refine xA ?_
 refine WL.nil (loopBackI (l.length - (i + 1)) [(7, .int .i64 (i + 1))] (h'' := h) (by omega) ?_ Su Sb ⟨i + 1, ⟨by omega, by simpa using hJ⟩, rfl, rfl, rfl⟩)
 exact Su
 replace c21 := dF c21
 rw [List.drop_eq_nil_of_le (by omega)] at hJ
 refine WC.exit (kp [] ?_)
 refine gD ?_; intros
 refine xC ?_
 refine wn [6] ?_
 refine WC.ret (wR (h) ?_)
 exact ⟨by rw [hJ]; rfl, rfl⟩
theorem nmsR_ct (a : Option Addr) (k c : Nat) (l : List B) (lo hi : Int) (h : List Res) (m : View) (hL : Rd m h a k c 1 (fl encB l)) (hok : ∀ x ∈ l, x.length ≤ Big) :
   CT Tryz.prog 151 [.slice a k c, .int .i64 lo, .int .i64 hi] h m (Pure1 h (.bool (each l lo hi Go.Lx.name))) := by
 have hl := hL.lenF encB_len (by decide)
 subst hl
 have hmx := hL.mx
 have hle := hL.le
 refine CT.body Tryz.call151 Tryz.func151 rfl Tryz.ntmps151 Lb rfl ?_
 refine gD ?_; intros
 refine xC ?_
 refine wn [0, 1, 2] ?_
 refine gG ?_; intros; rename_i ops hG
 refine xM ?_
 refine xG (PO.lenSl u48 Et) ?_
 refine xM ?_
 refine bD ?_
 refine xM ?_
 refine zM ?_
 refine zG (fun hc => PO.lenSl u48 (Eg hc)) ?_
 refine zM ?_
 refine zG (fun hc => PO.bin (Eg hc) (Eg hc) rfl) ?_
 refine xQ ?_
 refine wn [0, 17] ?_
 try clear hG ops
 refine gE ?_; intros
 refine wc (fun c17 => ?_) fun c17 => ?_
 refine gD ?_; intros
 refine xC ?_
 refine wn [6] ?_
 refine WC.ret (wR (h) ?_)
 exact ⟨by rw [each_far c17], rfl⟩
 have d17 := each_near (q := Go.Lx.name) c17
 refine WC.skip (kp [0] ?_)
 refine gD ?_; intros
 refine xC ?_
 refine wn [0, 7] ?_
 refine gE ?_; intros
 refine WC.loopI [0] rfl (fun μ F' h' => ∃ i : Nat, (i ≤ l.length ∧ each l lo hi Go.Lx.name = !((l.drop i).any fun x => !Go.Lx.name x)) ∧ l.length - i = μ ∧ F' = [(7, .int .i64 i)] ∧ h = h') (l.length - 0) [(7, .int .i64 0)] (h0 := h) ?_ Sb ⟨0, ⟨by omega, d17⟩, rfl, rfl, rfl⟩ ?_
 exact Su
 rintro _ _ _ ⟨i, ⟨hk, hJ⟩, rfl, rfl, rfl⟩
 refine WC.frm rfl ?_
 refine gD ?_; intros
 refine xM ?_
 refine xM ?_
 refine xG (PO.lenSl u48 Et) ?_
 refine bD ?_
 refine wn [0, 7, 21] ?_
 refine gE ?_; intros
 refine wc (fun c21 => ?_) fun c21 => ?_
 replace c21 := dT c21
 obtain ⟨x, hx⟩ := get_some (l := l) (k := i) (by omega)
 rw [any_at hx] at hJ
 have hxo := hok x (List.mem_of_getElem? hx)
 refine WC.skip (kp [0, 7] ?_)
 refine gD ?_; intros
 refine xM ?_
 refine xM ?_
 refine xG (PO.idx EL48.und EL48.size EL48.posz (Ev.tmp rfl) (Ev.tmp rfl) Rr rfl (by omega)) ?_
 refine xG (PO.loadF1 u9 rfl encB_len Rr (Ev.tmp rfl) (by assumption) rfl) ?_
 refine xf (E1 Et) (CT.val (nameR_ct x _ _ (Nat.le_trans hxo (by decide))) (congrArg Value.bool (Go.Lx.name_eq x).symm)) ?_
 refine xG (PO.not Et) ?_
 refine wn [0, 7, 29] ?_
 refine gE ?_; intros
 refine wc (fun c29 => ?_) fun c29 => ?_
 have d29 : (!Go.Lx.name x) = true := c29
 rw [d29] at hJ
 refine gD ?_; intros
 refine xC ?_
 refine wn [6] ?_
 refine WC.ret (wR (h) ?_)
 exact ⟨by rw [hJ]; rfl, rfl⟩
 have d29 : (!Go.Lx.name x) = false := c29
 rw [d29] at hJ
 refine WC.skip (kp [0, 7] ?_)
 refine gD ?_; intros
 refine xM ?_
 refine bI ?_
 refine xA ?_
 refine WL.nil (loopBackI (l.length - (i + 1)) [(7, .int .i64 (i + 1))] (h'' := h) (by omega) ?_ Su Sb ⟨i + 1, ⟨by omega, by simpa using hJ⟩, rfl, rfl, rfl⟩)
 exact Su
 replace c21 := dF c21
 rw [List.drop_eq_nil_of_le (by omega)] at hJ
 refine WC.exit (kp [] ?_)
 refine gD ?_; intros
 refine xC ?_
 refine wn [6] ?_
 refine WC.ret (wR (h) ?_)
 exact ⟨by rw [hJ]; rfl, rfl⟩
theorem may_prim {t : Ty} (h : Go.Ty.mayR t = true) : decide (t.kind ≤ 3) = Go.Ty.prim t.kind := by
 cases hp : Go.Ty.prim t.kind with
 | true =>
   unfold Go.Ty.prim at hp
   simp only [Bool.or_eq_true, beq_iff_eq] at hp
   simp only [decide_eq_true_eq]
   omega
 | false =>
   unfold Go.Ty.mayR at h
   rw [hp] at h
   by_cases hf : Go.Ty.far t = true
   · rw [if_pos hf] at h; cases h
   rw [if_neg hf, if_neg (by decide)] at h
   by_cases h4 : (t.kind == 4) = true
   · rw [beq_iff_eq] at h4
     rw [h4]
     rfl
   · rw [if_neg h4] at h
     have := (Go.Ty.eqT_iff t Go.Ty.timer).1 h
     rw [this]
     rfl
theorem primT_eq (t : Ty) : primT t = (Go.Ty.mayR t && Go.Ty.prim t.kind && (t.dim == 0)) := by
 unfold primT
 rw [Go.Ty.may_eq]
 cases hm : Go.Ty.mayR t with
 | false => rfl
 | true =>
   rw [may_prim hm, Bool.true_and, Bool.true_and]
   exact Bool.and_comm _ _
theorem primtR_ct (t : Ty) (h : List Res) (m : View) (hs : t.proto.length ≤ 9223372036854775807) : CT Tryz.prog 152 [tyV t] h m (Pure1 h (.bool (primT t))) := by
 refine CT.body Tryz.call152 Tryz.func152 rfl Tryz.ntmps152 Lb rfl ?_
 refine gD ?_; intros
 refine xX fun b1 => ?_
 refine xC ?_
 refine wn [1] ?_
 refine gG ?_; intros; rename_i ops hG
 refine xG (pA u30) ?_
 refine xf (E1 Et) (Ty9.mayR_ct t _ _ hs) ?_
 refine xM ?_
 refine zG (fun _ => pF u30) ?_
 refine zG (fun hc => PO.load1 u24 rfl (Eg hc) Me rfl) ?_
 refine WL.callG (GU.t (hG _ _ rfl) rfl) (fun hc => ⟨Ev.func, (E1 (Eg hc)), Ty9.prim_ct t.kind _ _⟩) Lb ?_
 refine xP ?_
 refine xM ?_
 refine zG (fun _ => pF u30) ?_
 refine zG (fun hc => PO.load1 u3 rfl (Eg hc) Me rfl) ?_
 refine zG (fun hc => PO.bin (Eg hc) Ev.const rfl) ?_
 refine xP ?_
 refine xA ?_
 refine wn [2] ?_
 try clear hG ops
 refine WC.ret (wR (h) ?_)
 exact ⟨by rw [primT_eq], rfl⟩
theorem foR_ct {m : View} {h : List Res} (f : Fo) (hw : FoW f) : CT Tryz.prog 154 [foV f] h m (Pure1 h (.bool (foP f))) := by
 have hn2 : f.name.length ≤ 9223372036854775807 := Nat.le_trans hw.n (by decide)
 have hp2 : f.ty.proto.length ≤ 9223372036854775807 := Nat.le_trans hw.t.p (by decide)
 refine CT.body Tryz.call154 Tryz.func154 rfl Tryz.ntmps154 Lb rfl ?_
 refine gD ?_; intros
 refine xX fun b1 => ?_
 refine xC ?_
 refine wn [1] ?_
 refine gG ?_; intros; rename_i ops hG
 refine xF u60 ?_
 refine xG (pL u9) ?_
 refine xf (E1 Et) (nameR_ct f.name _ _ hn2) ?_
 refine xM ?_
 refine zG (fun _ => pF u60) ?_
 refine zG (fun hc => PO.loadA u30 rfl rfl (Eg hc) Me rfl) ?_
 refine WL.callG (GU.t (hG _ _ rfl) rfl) (fun hc => ⟨Ev.func, (E1 (Eg hc)), Ty9.mayR_ct f.ty _ _ hp2⟩) Lb ?_
 refine xP ?_
 refine xM ?_
 refine zG (fun _ => pF u60) ?_
 refine zG (fun hc => PO.load1 u4 rfl (Eg hc) Me rfl) ?_
 refine zG (fun hc => PO.not (Eg hc)) ?_
 refine zV ?_
 refine zG (fun _ => pF u60) ?_
 refine zG (fun hc => PO.loadA u30 rfl rfl (Eg hc) Me rfl) ?_
 refine WL.callG (GU.nf (hG _ _ rfl) rfl) (fun hc => ⟨Ev.func, (E1 (Eg hc)), primtR_ct f.ty _ _ hp2⟩) Lb ?_
 refine zG (fun hc => PO.pickOrN hc rfl rfl) ?_
 refine xP ?_
 refine xA ?_
 refine wn [2] ?_
 try clear hG ops
 refine WC.ret (wR (h) ?_)
 exact ⟨by unfold foP; rw [Go.Lx.name_eq, Go.Ty.may_eq], rfl⟩
theorem repR_ct {m : View} {h : List Res} (r : Rp) (hn : r.name.length ≤ Big) (hb : EOk m h r.base) (hcn : EOk m h r.count) : CT Tryz.prog 114 [rpV r] h m (Pure1 h (.bool (repP r))) := by
 have hn2 : r.name.length ≤ 9223372036854775807 := Nat.le_trans hn (by decide)
 refine CT.body Tryz.call114 Tryz.func114 rfl Tryz.ntmps114 Lb rfl ?_
 refine gD ?_; intros
 refine xX fun b1 => ?_
 refine xC ?_
 refine wn [1] ?_
 refine gD ?_; intros
 refine xF u43 ?_
 refine xG (pL u9) ?_
 refine xG (PO.eqlS Et Ev.const) ?_
 refine wn [1, 5] ?_
 refine gE ?_; intros
 refine wc (fun c5 => ?_) fun c5 => ?_
 have hR : repP r = (noneE r.base && noneE r.count) := by unfold repP; rw [if_pos c5]
 refine gG ?_; intros; rename_i ops hG
 refine xF u43 ?_
 refine xG (pA u27) ?_
 refine xf (E1 Et) (noneR_ct r.base (hb.t.mono Sb)) ?_
 refine xM ?_
 refine zG (fun _ => pF u43) ?_
 refine zG (fun hc => PO.loadA u27 rfl rfl (Eg hc) Me rfl) ?_
 refine WL.callG (GU.t (hG _ _ rfl) rfl) (fun hc => ⟨Ev.func, (E1 (Eg hc)), noneR_ct r.count (hcn.t.mono Sb)⟩) Lb ?_
 refine xP ?_
 refine xA ?_
 refine wn [2] ?_
 try clear hG ops
 refine WC.ret (wR (h) ?_)
 exact ⟨by rw [hR], rfl⟩
 have hR : repP r = (Go.Lx.nameR r.name && mayE r.base && mayE r.count) := by unfold repP; rw [if_neg (by rw [c5]; decide), Go.Lx.name_eq]
 refine WC.skip (kp [1] ?_)
 refine gG ?_; intros; rename_i ops hG
 refine xF u43 ?_
 refine xG (pL u9) ?_
 refine xf (E1 Et) (nameR_ct r.name _ _ hn2) ?_
 refine xM ?_
 refine zG (fun _ => pF u43) ?_
 refine zG (fun hc => PO.loadA u27 rfl rfl (Eg hc) Me rfl) ?_
 refine WL.callG (GU.t (hG _ _ rfl) rfl) (fun hc => ⟨Ev.func, (E1 (Eg hc)), mayR_ct r.base _ (hb.t.mono Sb) hb.w⟩) Lb ?_
 refine xP ?_
 refine xM ?_
 refine zG (fun _ => pF u43) ?_
 refine zG (fun hc => PO.loadA u27 rfl rfl (Eg hc) Me rfl) ?_
 refine WL.callG (GU.t (hG _ _ rfl) rfl) (fun hc => ⟨Ev.func, (E1 (Eg hc)), mayR_ct r.count _ (hcn.t.mono Sb) hcn.w⟩) Lb ?_
 refine xP ?_
 refine xA ?_
 refine wn [2] ?_
 try clear hG ops
 refine WC.ret (wR (h) ?_)
 exact ⟨by rw [hR], rfl⟩
end Go.Proofs.YtdhmplmpbcnojaaGreatDoor
end

/- RvB RvC RvD RvE FrG FrJ LwO -/
import Derived.Test.YtdhmplmpbcnojaaGreatDoorLOutsideX6
/- RvB -/
section
namespace Go.Proofs.YtdhmplmpbcnojaaGreatDoor
open Go.Eng Go.Pc Go
open Go.Xp hiding B nameT
open Go.Ty (Ty Vr eqT tyV cellT PrOk VOk encV encV_len encI encI_len eqI eqI_eq eqI_ne)
open Go.Lx (encB encB_len)
set_option maxRecDepth 100000
def eqB (x y : B) : Bool := x == y
theorem eqB_ne {x y : B} (h : (!(x == y)) = true) : eqB x y = false := by simpa [eqB] using h
theorem eqB_eq {x y : B} (h : (!(x == y)) = false) : eqB x y = true := by simpa [eqB] using h
theorem equal183_ct (s1 s2 : Option Addr) (n1 c1 n2 c2 : Nat) (xs ys : List _) (h : List Res) (m : View) (h1 : Rd m h s1 n1 c1 1 (fl encB xs)) (h2 : Rd m h s2 n2 c2 1 (fl encB ys)) :
   CT Tryz.prog 183 [.slice s1 n1 c1, .slice s2 n2 c2] h m (Pure1 h (.bool (eqL eqB xs ys))) := by
 have l1 := h1.lenF encB_len (by decide)
 have l2 := h2.lenF encB_len (by decide)
 have m1 := h1.mx
 have m2 := h2.mx
 have k1 := h1.le
 have k2 := h2.le
 refine CT.body Tryz.call183 Tryz.func183 rfl Tryz.ntmps183 Lb rfl ?_
 refine gD ?_; intros
 refine xC ?_
 refine wn [0, 1] ?_
 refine gD ?_; intros
 refine xM ?_
 refine xG (PO.lenSl u48 Et) ?_
 refine xM ?_
 refine xG (PO.lenSl u48 Et) ?_
 refine bD ?_
 refine wn [0, 1, 10] ?_
 refine gE ?_; intros
 refine wc (fun c10 => ?_) fun c10 => ?_
 replace c10 := t_ne c10
 refine gD ?_; intros
 refine xC ?_
 refine wn [4] ?_
 refine WC.ret (wR (h) ?_)
 exact ⟨by rw [eqL_len _ _ _ (by omega)], rfl⟩
 replace c10 := f_ne c10
 refine WC.skip (kp [0, 1] ?_)
 refine gD ?_; intros
 refine xC ?_
 refine wn [0, 1, 5] ?_
 refine gE ?_; intros
 refine WC.loopI [0, 1] rfl (fun μ F' h' => ∃ k : Nat, (k ≤ n1 ∧ eqL eqB xs ys = eqL eqB (xs.drop k) (ys.drop k)) ∧ n1 - k = μ ∧ F' = [(5, .int .i64 k)] ∧ h = h') (n1 - 0) [(5, .int .i64 0)] (h0 := h) ?_ Sb ⟨0, ⟨by omega, by simp⟩, rfl, rfl, rfl⟩ ?_
 exact Su
 rintro _ _ _ ⟨k, ⟨hk, hJ⟩, rfl, rfl, rfl⟩
 refine WC.frm rfl ?_
 refine gD ?_; intros
 refine xM ?_
 refine xM ?_
 refine xG (PO.lenSl u48 Et) ?_
 refine bD ?_
 refine wn [0, 1, 5, 14] ?_
 refine gE ?_; intros
 refine wc (fun c14 => ?_) fun c14 => ?_
 replace c14 := dT c14
 obtain ⟨x, hx⟩ := get_some (l := xs) (k := k) (by omega)
 obtain ⟨y, hy⟩ := get_some (l := ys) (k := k) (by omega)
 rw [eqL_drop _ hx hy] at hJ
 refine WC.skip (kp [0, 1, 5] ?_)
 refine gE ?_; intros
 refine dS [] (.op 0 (.op 1 (.op 2 (.op 3 (.op 4 (.op 5 (.op 6 (.op 7 .nil)))))))) [8] mixed ?_
 refine yG rfl (PO.move Et) ?_
 refine yG rfl (PO.move Et) ?_
 refine yG rfl (PO.idx EL48.und EL48.size EL48.posz (Ev.tmp rfl) (Ev.tmp rfl) Rr rfl (by omega)) ?_
 refine yG rfl (PO.loadF1 u9 rfl encB_len Rr (Ev.tmp rfl) (by assumption) rfl) ?_
 refine yG rfl (PO.move Et) ?_
 refine yG rfl (PO.move Et) ?_
 refine yG rfl (PO.idx EL48.und EL48.size EL48.posz (Ev.tmp rfl) (Ev.tmp rfl) Rr rfl (by omega)) ?_
 refine yG rfl (PO.loadF1 u9 rfl encB_len Rr (Ev.tmp rfl) (by assumption) rfl) ?_
 refine SR.nil rfl rfl ?_
 refine xG (PO.neqS Et Et) ?_
 refine wn [0, 1, 5, 25] ?_
 refine gE ?_; intros
 refine wc (fun c25 => ?_) fun c25 => ?_
 refine gD ?_; intros
 refine xC ?_
 refine wn [4] ?_
 refine WC.ret (wR (h) ?_)
 exact ⟨by rw [hJ, eqB_ne c25]; rfl, rfl⟩
 rw [eqB_eq c25, Bool.true_and] at hJ
 refine WC.skip (kp [0, 1, 5] ?_)
 refine gD ?_; intros
 refine xM ?_
 refine bI ?_
 refine xA ?_
 refine WL.nil (loopBackI (n1 - (k + 1)) [(5, .int .i64 (k + 1))] (h'' := h) (by omega) ?_ Su Sb ⟨k + 1, ⟨by omega, hJ⟩, rfl, rfl, rfl⟩)
 exact Su
 replace c14 := dF c14
 refine WC.exit (kp [] ?_)
 refine gD ?_; intros
 refine xC ?_
 refine wn [4] ?_
 refine WC.ret (wR (h) ?_)
 exact ⟨by rw [hJ, List.drop_eq_nil_of_le (by omega), List.drop_eq_nil_of_le (by omega)]; rfl, rfl⟩
theorem equal207_ct (s1 s2 : Option Addr) (n1 c1 n2 c2 : Nat) (xs ys : List _) (h : List Res) (m : View) (h1 : Rd m h s1 n1 c1 1 (fl encI xs)) (h2 : Rd m h s2 n2 c2 1 (fl encI ys)) :
   CT Tryz.prog 207 [.slice s1 n1 c1, .slice s2 n2 c2] h m (Pure1 h (.bool (eqL eqI xs ys))) := by
 have l1 := h1.lenF encI_len (by decide)
 have l2 := h2.lenF encI_len (by decide)
 have m1 := h1.mx
 have m2 := h2.mx
 have k1 := h1.le
 have k2 := h2.le
 refine CT.body Tryz.call207 Tryz.func207 rfl Tryz.ntmps207 Lb rfl ?_
 refine gD ?_; intros
 refine xC ?_
 refine wn [0, 1] ?_
 refine gD ?_; intros
 refine xM ?_
 refine xG (PO.lenSl u100 Et) ?_
 refine xM ?_
 refine xG (PO.lenSl u100 Et) ?_
 refine bD ?_
 refine wn [0, 1, 10] ?_
 refine gE ?_; intros
 refine wc (fun c10 => ?_) fun c10 => ?_
 replace c10 := t_ne c10
 refine gD ?_; intros
 refine xC ?_
 refine wn [4] ?_
 refine WC.ret (wR (h) ?_)
 exact ⟨by rw [eqL_len _ _ _ (by omega)], rfl⟩
 replace c10 := f_ne c10
 refine WC.skip (kp [0, 1] ?_)
 refine gD ?_; intros
 refine xC ?_
 refine wn [0, 1, 5] ?_
 refine gE ?_; intros
 refine WC.loopI [0, 1] rfl (fun μ F' h' => ∃ k : Nat, (k ≤ n1 ∧ eqL eqI xs ys = eqL eqI (xs.drop k) (ys.drop k)) ∧ n1 - k = μ ∧ F' = [(5, .int .i64 k)] ∧ h = h') (n1 - 0) [(5, .int .i64 0)] (h0 := h) ?_ Sb ⟨0, ⟨by omega, by simp⟩, rfl, rfl, rfl⟩ ?_
 exact Su
 rintro _ _ _ ⟨k, ⟨hk, hJ⟩, rfl, rfl, rfl⟩
 refine WC.frm rfl ?_
 refine gD ?_; intros
 refine xM ?_
 refine xM ?_
 refine xG (PO.lenSl u100 Et) ?_
 refine bD ?_
 refine wn [0, 1, 5, 14] ?_
 refine gE ?_; intros
 refine wc (fun c14 => ?_) fun c14 => ?_
 replace c14 := dT c14
 obtain ⟨x, hx⟩ := get_some (l := xs) (k := k) (by omega)
 obtain ⟨y, hy⟩ := get_some (l := ys) (k := k) (by omega)
 rw [eqL_drop _ hx hy] at hJ
 refine WC.skip (kp [0, 1, 5] ?_)
 refine gE ?_; intros
 refine dS [] (.op 0 (.op 1 (.op 2 (.op 3 (.op 4 (.op 5 (.op 6 (.op 7 .nil)))))))) [8] mixed ?_
 refine yG rfl (PO.move Et) ?_
 refine yG rfl (PO.move Et) ?_
 refine yG rfl (PO.idx EL100.und EL100.size EL100.posz (Ev.tmp rfl) (Ev.tmp rfl) Rr rfl (by omega)) ?_
 refine yG rfl (PO.loadF1 u24 rfl encI_len Rr (Ev.tmp rfl) (by assumption) rfl) ?_
 refine yG rfl (PO.move Et) ?_
 refine yG rfl (PO.move Et) ?_
 refine yG rfl (PO.idx EL100.und EL100.size EL100.posz (Ev.tmp rfl) (Ev.tmp rfl) Rr rfl (by omega)) ?_
 refine yG rfl (PO.loadF1 u24 rfl encI_len Rr (Ev.tmp rfl) (by assumption) rfl) ?_
 refine SR.nil rfl rfl ?_
 refine bD ?_
 refine wn [0, 1, 5, 25] ?_
 refine gE ?_; intros
 refine wc (fun c25 => ?_) fun c25 => ?_
 refine gD ?_; intros
 refine xC ?_
 refine wn [4] ?_
 refine WC.ret (wR (h) ?_)
 exact ⟨by rw [hJ, eqI_ne c25]; rfl, rfl⟩
 rw [eqI_eq c25, Bool.true_and] at hJ
 refine WC.skip (kp [0, 1, 5] ?_)
 refine gD ?_; intros
 refine xM ?_
 refine bI ?_
 refine xA ?_
 refine WL.nil (loopBackI (n1 - (k + 1)) [(5, .int .i64 (k + 1))] (h'' := h) (by omega) ?_ Su Sb ⟨k + 1, ⟨by omega, hJ⟩, rfl, rfl, rfl⟩)
 exact Su
 replace c14 := dF c14
 refine WC.exit (kp [] ?_)
 refine gD ?_; intros
 refine xC ?_
 refine wn [4] ?_
 refine WC.ret (wR (h) ?_)
 exact ⟨by rw [hJ, List.drop_eq_nil_of_le (by omega), List.drop_eq_nil_of_le (by omega)]; rfl, rfl⟩
structure GK (m : View) (h : List Res) (g : Gu) : Prop where
 o : GOk m h g
 b : ∀ x ∈ g.bl, POk m h x
theorem GK.mono {m : View} {h h' : List Res} {g : Gu} (q : GK m h g) (r : h.Sublist h') : GK m h' g := ⟨q.o.mono r, fun x hx => (q.b x hx).mono r⟩
theorem sameExsR_ct (xs : List Ex) (ys : List Ex) (s1 s2 : Option Addr) (n1 c1 n2 c2 : Nat) (h : List Res) (m : View) (h1 : Rd m h s1 n1 c1 6 (fl exE xs)) (h2 : Rd m h s2 n2 c2 6 (fl exE ys)) (o1 : ∀ x ∈ xs, TOk m h x) (o2 : ∀ x ∈ ys, TOk m h x) :
   CT Tryz.prog 158 [.slice s1 n1 c1, .slice s2 n2 c2] h m (Pure1 h (.bool (eqL sameE xs ys))) := by
 have l1 := h1.lenF exE_len (by decide)
 have l2 := h2.lenF exE_len (by decide)
 have m1 := h1.mx
 have m2 := h2.mx
 have k1 := h1.le
 have k2 := h2.le
 refine CT.body Tryz.call158 Tryz.func158 rfl Tryz.ntmps158 Lb rfl ?_
 refine gD ?_; intros
 refine xC ?_
 refine wn [0, 1] ?_
 refine gD ?_; intros
 refine xM ?_
 refine xG (PO.lenSl u25 Et) ?_
 refine xM ?_
 refine xG (PO.lenSl u25 Et) ?_
 refine bD ?_
 refine wn [0, 1, 10] ?_
 refine gE ?_; intros
 refine wc (fun c10 => ?_) fun c10 => ?_
 replace c10 := t_ne c10
 refine gD ?_; intros
 refine xC ?_
 refine wn [4] ?_
 refine WC.ret (wR (h) ?_)
 exact ⟨by rw [eqL_len _ _ _ (by omega)], rfl⟩
 replace c10 := f_ne c10
 refine WC.skip (kp [0, 1] ?_)
 refine gD ?_; intros
 refine xC ?_
 refine wn [0, 1, 5] ?_
 refine gE ?_; intros
 refine WC.loopI [0, 1] rfl (fun μ F' h' => ∃ k : Nat, (k ≤ n1 ∧ eqL sameE xs ys = eqL sameE (xs.drop k) (ys.drop k)) ∧ n1 - k = μ ∧ F' = [(5, .int .i64 k)] ∧ h = h') (n1 - 0) [(5, .int .i64 0)] (h0 := h) ?_ Sb ⟨0, ⟨by omega, by simp⟩, rfl, rfl, rfl⟩ ?_
 exact Su
 rintro _ _ _ ⟨k, ⟨hk, hJ⟩, rfl, rfl, rfl⟩
 refine WC.frm rfl ?_
 refine gD ?_; intros
 refine xM ?_
 refine xM ?_
 refine xG (PO.lenSl u25 Et) ?_
 refine bD ?_
 refine wn [0, 1, 5, 14] ?_
 refine gE ?_; intros
 refine wc (fun c14 => ?_) fun c14 => ?_
 replace c14 := dT c14
 obtain ⟨x, hx⟩ := get_some (l := xs) (k := k) (by omega)
 obtain ⟨y, hy⟩ := get_some (l := ys) (k := k) (by omega)
 rw [eqL_drop _ hx hy] at hJ
 have hxm := List.mem_of_getElem? hx
 have hxo := o1 x hxm
 have hyo := o2 y (List.mem_of_getElem? hy)
 refine WC.skip (kp [0, 1, 5] ?_)
 refine gE ?_; intros
 refine dS [] (.op 0 (.op 1 (.op 2 (.op 3 (.op 4 (.op 5 (.op 6 (.op 7 .nil)))))))) [8, 9] mixed ?_
 refine yG rfl (PO.move Et) ?_
 refine yG rfl (PO.move Et) ?_
 refine yG rfl (PO.idx EL25.und EL25.size EL25.posz (Ev.tmp rfl) (Ev.tmp rfl) Rr rfl (by omega)) ?_
 refine yG rfl (PO.loadFA u27 rfl rfl exE_len Rr (Ev.tmp rfl) (by assumption) rfl rfl (Nat.succ_pos _)) ?_
 refine yG rfl (PO.move Et) ?_
 refine yG rfl (PO.move Et) ?_
 refine yG rfl (PO.idx EL25.und EL25.size EL25.posz (Ev.tmp rfl) (Ev.tmp rfl) Rr rfl (by omega)) ?_
 refine yG rfl (PO.loadFA u27 rfl rfl exE_len Rr (Ev.tmp rfl) (by assumption) rfl rfl (Nat.succ_pos _)) ?_
 refine SR.nil rfl rfl ?_
 refine xf (E2 Et Et) (sameR_ct x y _ _ (hxo.mono Sb) (hyo.mono Sb)) ?_
 refine xG (PO.not Et) ?_
 refine wn [0, 1, 5, 26] ?_
 refine gE ?_; intros
 refine wc (fun c26 => ?_) fun c26 => ?_
 have d26 : sameE x y = false := by simpa using c26
 rw [d26] at hJ
 refine gD ?_; intros
 refine xC ?_
 refine wn [4] ?_
 refine WC.ret (wR (h) ?_)
 exact ⟨by rw [hJ]; rfl, rfl⟩
 have d26 : sameE x y = true := by simpa using c26
 rw [d26, Bool.true_and] at hJ
 refine WC.skip (kp [0, 1, 5] ?_)
 refine gD ?_; intros
 refine xM ?_
 refine bI ?_
 refine xA ?_
 refine WL.nil (loopBackI (n1 - (k + 1)) [(5, .int .i64 (k + 1))] (h'' := h) (by omega) ?_ Su Sb ⟨k + 1, ⟨by omega, hJ⟩, rfl, rfl, rfl⟩)
 exact Su
 replace c14 := dF c14
 refine WC.exit (kp [] ?_)
 refine gD ?_; intros
 refine xC ?_
 refine wn [4] ?_
 refine WC.ret (wR (h) ?_)
 exact ⟨by rw [hJ, List.drop_eq_nil_of_le (by omega), List.drop_eq_nil_of_le (by omega)]; rfl, rfl⟩
theorem sameAllR_ct (xs : List Pr) (ih : ∀ x ∈ xs, ∀ (y : Pr) (h : List Res) (m : View), POk m h x → POk m h y → CT Tryz.prog 115 [prV x, prV y] h m (Pure1 h (.bool (sameP x y)))) (ys : List Pr) (s1 s2 : Option Addr) (n1 c1 n2 c2 : Nat) (h : List Res) (m : View) (h1 : Rd m h s1 n1 c1 42 (fl prE xs)) (h2 : Rd m h s2 n2 c2 42 (fl prE ys)) (o1 : ∀ x ∈ xs, POk m h x) (o2 : ∀ x ∈ ys, POk m h x) :
   CT Tryz.prog 160 [.slice s1 n1 c1, .slice s2 n2 c2] h m (Pure1 h (.bool (eqL sameP xs ys))) := by
 have l1 := h1.lenF prE_len (by decide)
 have l2 := h2.lenF prE_len (by decide)
 have m1 := h1.mx
 have m2 := h2.mx
 have k1 := h1.le
 have k2 := h2.le
 refine CT.body Tryz.call160 Tryz.func160 rfl Tryz.ntmps160 Lb rfl ?_
 refine gD ?_; intros
 refine xC ?_
 refine wn [0, 1] ?_
 refine gD ?_; intros
 refine xM ?_
 refine xG (PO.lenSl u45 Et) ?_
 refine xM ?_
 refine xG (PO.lenSl u45 Et) ?_
 refine bD ?_
 refine wn [0, 1, 10] ?_
 refine gE ?_; intros
 refine wc (fun c10 => ?_) fun c10 => ?_
 replace c10 := t_ne c10
 refine gD ?_; intros
 refine xC ?_
 refine wn [4] ?_
 refine WC.ret (wR (h) ?_)
 exact ⟨by rw [eqL_len _ _ _ (by omega)], rfl⟩
 replace c10 := f_ne c10
 refine WC.skip (kp [0, 1] ?_)
 refine gD ?_; intros
 refine xC ?_
 refine wn [0, 1, 5] ?_
 refine gE ?_; intros
 refine WC.loopI [0, 1] rfl (fun μ F' h' => ∃ k : Nat, (k ≤ n1 ∧ eqL sameP xs ys = eqL sameP (xs.drop k) (ys.drop k)) ∧ n1 - k = μ ∧ F' = [(5, .int .i64 k)] ∧ h = h') (n1 - 0) [(5, .int .i64 0)] (h0 := h) ?_ Sb ⟨0, ⟨by omega, by simp⟩, rfl, rfl, rfl⟩ ?_
 exact Su
 rintro _ _ _ ⟨k, ⟨hk, hJ⟩, rfl, rfl, rfl⟩
 refine WC.frm rfl ?_
 refine gD ?_; intros
 refine xM ?_
 refine xM ?_
 refine xG (PO.lenSl u45 Et) ?_
 refine bD ?_
 refine wn [0, 1, 5, 14] ?_
 refine gE ?_; intros
 refine wc (fun c14 => ?_) fun c14 => ?_
 replace c14 := dT c14
 obtain ⟨x, hx⟩ := get_some (l := xs) (k := k) (by omega)
 obtain ⟨y, hy⟩ := get_some (l := ys) (k := k) (by omega)
 rw [eqL_drop _ hx hy] at hJ
 have hxm := List.mem_of_getElem? hx
 have hxo := o1 x hxm
 have hyo := o2 y (List.mem_of_getElem? hy)
 refine WC.skip (kp [0, 1, 5] ?_)
 refine gE ?_; intros
 refine dS [] (.op 0 (.op 1 (.op 2 (.op 3 (.op 4 (.op 5 (.op 6 (.op 7 .nil)))))))) [8, 9] mixed ?_
 refine yG rfl (PO.move Et) ?_
 refine yG rfl (PO.move Et) ?_
 refine yG rfl (PO.idx EL45.und EL45.size EL45.posz (Ev.tmp rfl) (Ev.tmp rfl) Rr rfl (by omega)) ?_
 refine yG rfl (PO.loadFA u56 rfl rfl prE_len Rr (Ev.tmp rfl) (by assumption) rfl rfl (Nat.succ_pos _)) ?_
 refine yG rfl (PO.move Et) ?_
 refine yG rfl (PO.move Et) ?_
 refine yG rfl (PO.idx EL45.und EL45.size EL45.posz (Ev.tmp rfl) (Ev.tmp rfl) Rr rfl (by omega)) ?_
 refine yG rfl (PO.loadFA u56 rfl rfl prE_len Rr (Ev.tmp rfl) (by assumption) rfl rfl (Nat.succ_pos _)) ?_
 refine SR.nil rfl rfl ?_
 refine xf (E2 Et Et) (ih x hxm y _ _ (hxo.mono Sb) (hyo.mono Sb)) ?_
 refine xG (PO.not Et) ?_
 refine wn [0, 1, 5, 26] ?_
 refine gE ?_; intros
 refine wc (fun c26 => ?_) fun c26 => ?_
 have d26 : sameP x y = false := by simpa using c26
 rw [d26] at hJ
 refine gD ?_; intros
 refine xC ?_
 refine wn [4] ?_
 refine WC.ret (wR (h) ?_)
 exact ⟨by rw [hJ]; rfl, rfl⟩
 have d26 : sameP x y = true := by simpa using c26
 rw [d26, Bool.true_and] at hJ
 refine WC.skip (kp [0, 1, 5] ?_)
 refine gD ?_; intros
 refine xM ?_
 refine bI ?_
 refine xA ?_
 refine WL.nil (loopBackI (n1 - (k + 1)) [(5, .int .i64 (k + 1))] (h'' := h) (by omega) ?_ Su Sb ⟨k + 1, ⟨by omega, hJ⟩, rfl, rfl, rfl⟩)
 exact Su
 replace c14 := dF c14
 refine WC.exit (kp [] ?_)
 refine gD ?_; intros
 refine xC ?_
 refine wn [4] ?_
 refine WC.ret (wR (h) ?_)
 exact ⟨by rw [hJ, List.drop_eq_nil_of_le (by omega), List.drop_eq_nil_of_le (by omega)]; rfl, rfl⟩
theorem eqI_iffR (x y : Int) : eqI x y = true ↔ x = y := by simp [eqI]
theorem eqL_beqI (xs ys : List Int) : eqL eqI xs ys = (xs == ys) := by
 rw [Bool.eq_iff_iff, eqL_iff eqI_iffR]
 simp
theorem vok_rd {m : View} {h : List Res} {v : Vr} (q : VOk m h v) : Rd m h v.a v.n v.c 1 (fl encI v.items) := q.rd
theorem sameProtoR_ct (u1 u2 : Bool) (s1 s2 : Option Addr) (n1 c1 n2 c2 : Nat) (xs ys : List Vr) (h : List Res) (m : View) (p1 : PrOk m h s1 n1 c1 xs) (p2 : PrOk m h s2 n2 c2 ys) :
   CT Tryz.prog 184 [.agg #[.bool u1, .slice s1 n1 c1], .agg #[.bool u2, .slice s2 n2 c2]] h m (Pure1 h (.bool (sameVs u1 xs u2 ys))) := by
 have h1 := p1.rd
 have h2 := p2.rd
 have l1 := h1.lenF encV_len (by decide)
 have l2 := h2.lenF encV_len (by decide)
 have m1 := h1.mx
 have m2 := h2.mx
 have k1 := h1.le
 have k2 := h2.le
 have e0 : sameVs u1 xs u2 ys = ((u1 == u2) && eqL sameVr xs ys) := rfl
 refine CT.body Tryz.call184 Tryz.func184 rfl Tryz.ntmps184 Lb rfl ?_
 refine gD ?_; intros
 refine xX fun b2 => ?_
 refine xX fun b3 => ?_
 refine xC ?_
 refine wn [2, 3] ?_
 refine gG ?_; intros; rename_i ops hG
 refine xF u51 ?_
 refine xG (pL u4) ?_
 refine xF u51 ?_
 refine xG (pL u4) ?_
 refine xG (PO.neqB u4 Et Et) ?_
 refine xM ?_
 refine zG (fun _ => pF u51) ?_
 refine zG (fun hc => PO.load1 u49 rfl (Eg hc) Me rfl) ?_
 refine zG (fun hc => PO.lenSl u49 (Eg hc)) ?_
 refine zG (fun _ => pF u51) ?_
 refine zG (fun hc => PO.load1 u49 rfl (Eg hc) Me rfl) ?_
 refine zG (fun hc => PO.lenSl u49 (Eg hc)) ?_
 refine zG (fun hc => PO.bin (Eg hc) (Eg hc) rfl) ?_
 refine xQ ?_
 refine wn [2, 3, 19] ?_
 try clear hG ops
 refine gE ?_; intros
 refine wc (fun c19 => ?_) fun c19 => ?_
 have d19 : sameVs u1 xs u2 ys = false := by
   rw [e0]
   rcases Bool.or_eq_true_iff.1 c19 with c | c
   · have : (u1 == u2) = false := by simpa using c
     rw [this]; rfl
   · rw [eqL_len sameVr xs ys (by simp at c; omega), Bool.and_false]
 refine gD ?_; intros
 refine xC ?_
 refine wn [4] ?_
 refine WC.ret (wR (h) ?_)
 exact ⟨by rw [d19], rfl⟩
 have d19 : (u1 == u2) = true ∧ n1 = n2 := by
   have := Bool.or_eq_false_iff.1 c19
   exact ⟨by simpa using this.1, by have := this.2; simp at this; omega⟩
 rw [d19.1, Bool.true_and] at e0
 refine WC.skip (kp [2, 3] ?_)
 refine gD ?_; intros
 refine xC ?_
 refine wn [2, 3, 5] ?_
 refine gE ?_; intros
 refine WC.loopI [2, 3] rfl (fun μ F' h' => ∃ k : Nat, (k ≤ n1 ∧ sameVs u1 xs u2 ys = eqL sameVr (xs.drop k) (ys.drop k)) ∧ n1 - k = μ ∧ F' = [(5, .int .i64 k)] ∧ .pt b3 (.cells [.bool u2, .slice s2 n2 c2].toArray 51 (0, 0)) :: .pt b2 (.cells [.bool u1, .slice s1 n1 c1].toArray 51 (0, 0)) :: h = h') (n1 - 0) [(5, .int .i64 0)] (h0 := .pt b3 (.cells [.bool u2, .slice s2 n2 c2].toArray 51 (0, 0)) :: .pt b2 (.cells [.bool u1, .slice s1 n1 c1].toArray 51 (0, 0)) :: h) ?_ Sb ⟨0, ⟨by omega, by rw [e0]; simp⟩, rfl, rfl, rfl⟩ ?_
 exact Su
 rintro _ _ _ ⟨k, ⟨hk, hJ⟩, rfl, rfl, rfl⟩
 refine WC.frm rfl ?_
 refine gD ?_; intros
 refine xM ?_
 refine xF u51 ?_
 refine xG (pL u49) ?_
 refine xG (PO.lenSl u49 Et) ?_
 refine bD ?_
 refine wn [2, 3, 5, 24] ?_
 refine gE ?_; intros
 refine wc (fun c24 => ?_) fun c24 => ?_
 replace c24 := dT c24
 obtain ⟨x, hx⟩ := get_some (l := xs) (k := k) (by omega)
 obtain ⟨y, hy⟩ := get_some (l := ys) (k := k) (by omega)
 rw [eqL_drop _ hx hy] at hJ
 have hxo := vok_rd (p1.ok x (List.mem_of_getElem? hx))
 have hyo := vok_rd (p2.ok y (List.mem_of_getElem? hy))
 have hi := eqL_beqI x.items y.items
 refine WC.skip (kp [2, 3, 5] ?_)
 refine gE ?_; intros
 refine dS [] (.op 0 (.op 1 (.op 2 (.op 3 (.op 4 (.op 5 (.op 6 (.op 7 (.op 8 (.op 9 (.op 10 (.op 11 (.op 12 (.op 13 (.op 14 (.op 15 (.op 16 (.op 17 (.op 18 (.op 19 (.op 20 (.op 21 (.op 22 (.op 23 (.op 24 (.op 25 .nil)))))))))))))))))))))))))) [26, 27, 28] mixed ?_
 refine yG rfl (pF u51) ?_
 refine yG rfl (pL u49) ?_
 refine yG rfl (PO.move Et) ?_
 refine yG rfl (PO.idx EL49.und EL49.size EL49.posz (Ev.tmp rfl) (Ev.tmp rfl) Rr rfl (by omega)) ?_
 refine yG rfl (PO.fieldF u102 rfl (Nat.ne_of_beq_eq_false rfl) encV_len (Nat.succ_pos _) Rr (by assumption) (Ev.tmp rfl)) ?_
 refine yG rfl (PO.loadFf u9 rfl encV_len Rr (Ev.tmp rfl) (by assumption) rfl) ?_
 refine yG rfl (pF u51) ?_
 refine yG rfl (pL u49) ?_
 refine yG rfl (PO.move Et) ?_
 refine yG rfl (PO.idx EL49.und EL49.size EL49.posz (Ev.tmp rfl) (Ev.tmp rfl) Rr rfl (by omega)) ?_
 refine yG rfl (PO.fieldF u102 rfl (Nat.ne_of_beq_eq_false rfl) encV_len (Nat.succ_pos _) Rr (by assumption) (Ev.tmp rfl)) ?_
 refine yG rfl (PO.loadFf u9 rfl encV_len Rr (Ev.tmp rfl) (by assumption) rfl) ?_
 refine yG rfl (PO.neqS Et Et) ?_
 refine yG rfl (PO.move Et) ?_
 refine SR.poG rfl rfl (GU.f rfl rfl) (fun hc => PO.fieldAddr u51 rfl (Nat.ne_of_beq_eq_false rfl) Et) Lb ?_
 refine SR.poG rfl rfl (GU.f rfl rfl) (fun hc => PO.load1 u49 rfl (Eg hc) Me rfl) Lb ?_
 refine SR.poG rfl rfl (GU.f rfl rfl) (fun hc => PO.move Et) Lb ?_
 refine SR.poG rfl rfl (GU.f rfl rfl) (fun hc => PO.idx EL49.und EL49.size EL49.posz (Eg hc) (Eg hc) (h1.mono (View.le.refl _) Sb) rfl (by omega)) Lb ?_
 refine SR.poG rfl rfl (GU.f rfl rfl) (fun hc => PO.fieldF u102 rfl (Nat.ne_of_beq_eq_false rfl) encV_len (Nat.succ_pos _) (h1.mono (View.le.refl _) Sb) (by assumption) (Eg hc)) Lb ?_
 refine SR.poG rfl rfl (GU.f rfl rfl) (fun hc => PO.loadFf u100 rfl encV_len (h1.mono (View.le.refl _) Sb) (Eg hc) (by assumption) rfl) Lb ?_
 refine SR.poG rfl rfl (GU.f rfl rfl) (fun hc => PO.fieldAddr u51 rfl (Nat.ne_of_beq_eq_false rfl) Et) Lb ?_
 refine SR.poG rfl rfl (GU.f rfl rfl) (fun hc => PO.load1 u49 rfl (Eg hc) Me rfl) Lb ?_
 refine SR.poG rfl rfl (GU.f rfl rfl) (fun hc => PO.move Et) Lb ?_
 refine SR.poG rfl rfl (GU.f rfl rfl) (fun hc => PO.idx EL49.und EL49.size EL49.posz (Eg hc) (Eg hc) (h2.mono (View.le.refl _) Sb) rfl (by omega)) Lb ?_
 refine SR.poG rfl rfl (GU.f rfl rfl) (fun hc => PO.fieldF u102 rfl (Nat.ne_of_beq_eq_false rfl) encV_len (Nat.succ_pos _) (h2.mono (View.le.refl _) Sb) (by assumption) (Eg hc)) Lb ?_
 refine SR.poG rfl rfl (GU.f rfl rfl) (fun hc => PO.loadFf u100 rfl encV_len (h2.mono (View.le.refl _) Sb) (Eg hc) (by assumption) rfl) Lb ?_
 refine SR.nil rfl rfl ?_
 refine WL.callG (GU.f rfl rfl) (fun hc => ⟨Ev.func, (E2 (Eg hc) (Eg hc)), equal207_ct _ _ _ _ _ _ x.items y.items _ _ (hxo.mono (View.le.refl _) Sb) (hyo.mono (View.le.refl _) Sb)⟩) Lb ?_
 refine zG (fun hc => PO.not (Eg hc)) ?_
 refine xQ ?_
 refine wn [2, 3, 5, 55] ?_
 try clear hG ops
 refine gE ?_; intros
 refine wc (fun c55 => ?_) fun c55 => ?_
 replace c55 : ((!(x.tag == y.tag)) || !(eqL eqI x.items y.items)) = true := c55
 have d55 : sameVr x y = false := by
   unfold sameVr
   rw [← hi]
   cases hq : (x.tag == y.tag) <;> cases hr : eqL eqI x.items y.items <;> simp_all
 rw [d55] at hJ
 refine gD ?_; intros
 refine xC ?_
 refine wn [4] ?_
 refine WC.ret (wR (h) ?_)
 exact ⟨by rw [hJ]; rfl, rfl⟩
 replace c55 : ((!(x.tag == y.tag)) || !(eqL eqI x.items y.items)) = false := c55
 have d55 : sameVr x y = true := by
   unfold sameVr
   rw [← hi]
   cases hq : (x.tag == y.tag) <;> cases hr : eqL eqI x.items y.items <;> simp_all
 rw [d55, Bool.true_and] at hJ
 refine WC.skip (kp [2, 3, 5] ?_)
 refine gD ?_; intros
 refine xM ?_
 refine bI ?_
 refine xA ?_
 refine WL.nil (loopBackI (n1 - (k + 1)) [(5, .int .i64 (k + 1))] (h'' := .pt b3 (.cells [.bool u2, .slice s2 n2 c2].toArray 51 (0, 0)) :: .pt b2 (.cells [.bool u1, .slice s1 n1 c1].toArray 51 (0, 0)) :: h) (by omega) ?_ Su Sb ⟨k + 1, ⟨by omega, hJ⟩, rfl, rfl, rfl⟩)
 exact Su
 replace c24 := dF c24
 refine WC.exit (kp [] ?_)
 refine gD ?_; intros
 refine xC ?_
 refine wn [4] ?_
 refine WC.ret (wR (h) ?_)
 exact ⟨by rw [hJ, List.drop_eq_nil_of_le (by omega), List.drop_eq_nil_of_le (by omega)]; rfl, rfl⟩
theorem sameGuardR_ct (x : Gu) (ih : ∀ z ∈ x.bl, ∀ (y : Pr) (h : List Res) (m : View), POk m h z → POk m h y → CT Tryz.prog 115 [prV z, prV y] h m (Pure1 h (.bool (sameP z y)))) (y : Gu) (h : List Res) (m : View) (hx : GK m h x) (hy : GK m h y) :
   CT Tryz.prog 180 [guV x, guV y] h m (Pure1 h (.bool (sameG x y))) := by
 have v0 := View.le.refl m
 refine CT.body Tryz.call180 Tryz.func180 rfl Tryz.ntmps180 Lb rfl ?_
 refine gD ?_; intros
 refine xX fun b2 => ?_
 refine xX fun b3 => ?_
 refine xC ?_
 refine wn [2, 3] ?_
 refine gG ?_; intros; rename_i ops hG
 refine xF u70 ?_
 refine xG (pL u68) ?_
 refine xF u70 ?_
 refine xG (pL u68) ?_
 refine bD ?_
 refine xM ?_
 refine zG (fun _ => pF u70) ?_
 refine zG (fun hc => PO.load1 u9 rfl (Eg hc) Me rfl) ?_
 refine zG (fun _ => pF u70) ?_
 refine zG (fun hc => PO.load1 u9 rfl (Eg hc) Me rfl) ?_
 refine zG (fun hc => PO.eqlS (Eg hc) (Eg hc)) ?_
 refine xP ?_
 refine xM ?_
 refine zG (fun _ => pF u70) ?_
 refine zG (fun hc => PO.loadA u27 rfl rfl (Eg hc) Me rfl) ?_
 refine zG (fun _ => pF u70) ?_
 refine zG (fun hc => PO.loadA u27 rfl rfl (Eg hc) Me rfl) ?_
 refine WL.callG (GU.t (hG _ _ rfl) rfl) (fun hc => ⟨Ev.func, (E2 (Eg hc) (Eg hc)), sameR_ct x.cond y.cond _ _ (hx.o.cond.t.mono Sb) (hy.o.cond.t.mono Sb)⟩) Lb ?_
 refine xP ?_
 refine xM ?_
 refine zG (fun _ => pF u70) ?_
 refine zG (fun hc => PO.loadA u27 rfl rfl (Eg hc) Me rfl) ?_
 refine zG (fun _ => pF u70) ?_
 refine zG (fun hc => PO.loadA u27 rfl rfl (Eg hc) Me rfl) ?_
 refine WL.callG (GU.t (hG _ _ rfl) rfl) (fun hc => ⟨Ev.func, (E2 (Eg hc) (Eg hc)), sameR_ct x.ch y.ch _ _ (hx.o.ch.t.mono Sb) (hy.o.ch.t.mono Sb)⟩) Lb ?_
 refine xP ?_
 refine xM ?_
 refine zG (fun _ => pF u70) ?_
 refine zG (fun hc => PO.loadA u27 rfl rfl (Eg hc) Me rfl) ?_
 refine zG (fun _ => pF u70) ?_
 refine zG (fun hc => PO.loadA u27 rfl rfl (Eg hc) Me rfl) ?_
 refine WL.callG (GU.t (hG _ _ rfl) rfl) (fun hc => ⟨Ev.func, (E2 (Eg hc) (Eg hc)), sameR_ct x.time y.time _ _ (hx.o.time.t.mono Sb) (hy.o.time.t.mono Sb)⟩) Lb ?_
 refine xP ?_
 refine xM ?_
 refine zG (fun _ => pF u70) ?_
 refine zG (fun hc => PO.load1 u25 rfl (Eg hc) Me rfl) ?_
 refine zG (fun _ => pF u70) ?_
 refine zG (fun hc => PO.load1 u25 rfl (Eg hc) Me rfl) ?_
 refine WL.callG (GU.t (hG _ _ rfl) rfl) (fun hc => ⟨Ev.func, (E2 (Eg hc) (Eg hc)), sameExsR_ct x.tg.l y.tg.l _ _ _ _ _ _ _ _ (hx.o.tg.rd.mono v0 Sb) (hy.o.tg.rd.mono v0 Sb) (fun z hz => (hx.o.tg.ok z hz).t.mono Sb) (fun z hz => (hy.o.tg.ok z hz).t.mono Sb)⟩) Lb ?_
 refine xP ?_
 refine xM ?_
 refine zG (fun _ => pF u70) ?_
 refine zG (fun hc => PO.load1 u25 rfl (Eg hc) Me rfl) ?_
 refine zG (fun _ => pF u70) ?_
 refine zG (fun hc => PO.load1 u25 rfl (Eg hc) Me rfl) ?_
 refine WL.callG (GU.t (hG _ _ rfl) rfl) (fun hc => ⟨Ev.func, (E2 (Eg hc) (Eg hc)), sameExsR_ct x.vl.l y.vl.l _ _ _ _ _ _ _ _ (hx.o.vl.rd.mono v0 Sb) (hy.o.vl.rd.mono v0 Sb) (fun z hz => (hx.o.vl.ok z hz).t.mono Sb) (fun z hz => (hy.o.vl.ok z hz).t.mono Sb)⟩) Lb ?_
 refine xP ?_
 refine xM ?_
 refine zG (fun _ => pF u70) ?_
 refine zG (fun hc => PO.load1 u45 rfl (Eg hc) Me rfl) ?_
 refine zG (fun _ => pF u70) ?_
 refine zG (fun hc => PO.load1 u45 rfl (Eg hc) Me rfl) ?_
 refine WL.callG (GU.t (hG _ _ rfl) rfl) (fun hc => ⟨Ev.func, (E2 (Eg hc) (Eg hc)), sameAllR_ct x.bl ih y.bl _ _ _ _ _ _ _ _ (hx.o.b.mono v0 Sb) (hy.o.b.mono v0 Sb) (fun z hz => (hx.b z hz).mono Sb) (fun z hz => (hy.b z hz).mono Sb)⟩) Lb ?_
 refine xP ?_
 refine xA ?_
 refine wn [4] ?_
 try clear hG ops
 refine WC.ret (wR (h) ?_)
 exact ⟨by rw [sameG_eq], rfl⟩
theorem sameGuardsR_ct (xs : List Gu) (ih : ∀ x ∈ xs, ∀ z ∈ x.bl, ∀ (y : Pr) (h : List Res) (m : View), POk m h z → POk m h y → CT Tryz.prog 115 [prV z, prV y] h m (Pure1 h (.bool (sameP z y)))) (ys : List Gu) (s1 s2 : Option Addr) (n1 c1 n2 c2 : Nat) (h : List Res) (m : View) (h1 : Rd m h s1 n1 c1 23 (fl guE xs)) (h2 : Rd m h s2 n2 c2 23 (fl guE ys)) (o1 : ∀ x ∈ xs, GK m h x) (o2 : ∀ x ∈ ys, GK m h x) :
   CT Tryz.prog 159 [.slice s1 n1 c1, .slice s2 n2 c2] h m (Pure1 h (.bool (eqL sameG xs ys))) := by
 have l1 := h1.lenF guE_len (by decide)
 have l2 := h2.lenF guE_len (by decide)
 have m1 := h1.mx
 have m2 := h2.mx
 have k1 := h1.le
 have k2 := h2.le
 refine CT.body Tryz.call159 Tryz.func159 rfl Tryz.ntmps159 Lb rfl ?_
 refine gD ?_; intros
 refine xC ?_
 refine wn [0, 1] ?_
 refine gD ?_; intros
 refine xM ?_
 refine xG (PO.lenSl u44 Et) ?_
 refine xM ?_
 refine xG (PO.lenSl u44 Et) ?_
 refine bD ?_
 refine wn [0, 1, 10] ?_
 refine gE ?_; intros
 refine wc (fun c10 => ?_) fun c10 => ?_
 replace c10 := t_ne c10
 refine gD ?_; intros
 refine xC ?_
 refine wn [4] ?_
 refine WC.ret (wR (h) ?_)
 exact ⟨by rw [eqL_len _ _ _ (by omega)], rfl⟩
 replace c10 := f_ne c10
 refine WC.skip (kp [0, 1] ?_)
 refine gD ?_; intros
 refine xC ?_
 refine wn [0, 1, 5] ?_
 refine gE ?_; intros
 refine WC.loopI [0, 1] rfl (fun μ F' h' => ∃ k : Nat, (k ≤ n1 ∧ eqL sameG xs ys = eqL sameG (xs.drop k) (ys.drop k)) ∧ n1 - k = μ ∧ F' = [(5, .int .i64 k)] ∧ h = h') (n1 - 0) [(5, .int .i64 0)] (h0 := h) ?_ Sb ⟨0, ⟨by omega, by simp⟩, rfl, rfl, rfl⟩ ?_
 exact Su
 rintro _ _ _ ⟨k, ⟨hk, hJ⟩, rfl, rfl, rfl⟩
 refine WC.frm rfl ?_
 refine gD ?_; intros
 refine xM ?_
 refine xM ?_
 refine xG (PO.lenSl u44 Et) ?_
 refine bD ?_
 refine wn [0, 1, 5, 14] ?_
 refine gE ?_; intros
 refine wc (fun c14 => ?_) fun c14 => ?_
 replace c14 := dT c14
 obtain ⟨x, hx⟩ := get_some (l := xs) (k := k) (by omega)
 obtain ⟨y, hy⟩ := get_some (l := ys) (k := k) (by omega)
 rw [eqL_drop _ hx hy] at hJ
 have hxm := List.mem_of_getElem? hx
 have hxo := o1 x hxm
 have hyo := o2 y (List.mem_of_getElem? hy)
 refine WC.skip (kp [0, 1, 5] ?_)
 refine gE ?_; intros
 refine dS [] (.op 0 (.op 1 (.op 2 (.op 3 (.op 4 (.op 5 (.op 6 (.op 7 .nil)))))))) [8, 9] mixed ?_
 refine yG rfl (PO.move Et) ?_
 refine yG rfl (PO.move Et) ?_
 refine yG rfl (PO.idx EL44.und EL44.size EL44.posz (Ev.tmp rfl) (Ev.tmp rfl) Rr rfl (by omega)) ?_
 refine yG rfl (PO.loadFA u70 rfl rfl guE_len Rr (Ev.tmp rfl) (by assumption) rfl rfl (Nat.succ_pos _)) ?_
 refine yG rfl (PO.move Et) ?_
 refine yG rfl (PO.move Et) ?_
 refine yG rfl (PO.idx EL44.und EL44.size EL44.posz (Ev.tmp rfl) (Ev.tmp rfl) Rr rfl (by omega)) ?_
 refine yG rfl (PO.loadFA u70 rfl rfl guE_len Rr (Ev.tmp rfl) (by assumption) rfl rfl (Nat.succ_pos _)) ?_
 refine SR.nil rfl rfl ?_
 refine xf (E2 Et Et) (sameGuardR_ct x (ih x hxm) y _ _ (hxo.mono Sb) (hyo.mono Sb)) ?_
 refine xG (PO.not Et) ?_
 refine wn [0, 1, 5, 26] ?_
 refine gE ?_; intros
 refine wc (fun c26 => ?_) fun c26 => ?_
 have d26 : sameG x y = false := by simpa using c26
 rw [d26] at hJ
 refine gD ?_; intros
 refine xC ?_
 refine wn [4] ?_
 refine WC.ret (wR (h) ?_)
 exact ⟨by rw [hJ]; rfl, rfl⟩
 have d26 : sameG x y = true := by simpa using c26
 rw [d26, Bool.true_and] at hJ
 refine WC.skip (kp [0, 1, 5] ?_)
 refine gD ?_; intros
 refine xM ?_
 refine bI ?_
 refine xA ?_
 refine WL.nil (loopBackI (n1 - (k + 1)) [(5, .int .i64 (k + 1))] (h'' := h) (by omega) ?_ Su Sb ⟨k + 1, ⟨by omega, hJ⟩, rfl, rfl, rfl⟩)
 exact Su
 replace c14 := dF c14
 refine WC.exit (kp [] ?_)
 refine gD ?_; intros
 refine xC ?_
 refine wn [4] ?_
 refine WC.ret (wR (h) ?_)
 exact ⟨by rw [hJ, List.drop_eq_nil_of_le (by omega), List.drop_eq_nil_of_le (by omega)]; rfl, rfl⟩
structure SK (m : View) (h : List Res) (s : Sp) : Prop where
 o : SOk m h s
 b : ∀ x ∈ s.bl, POk m h x
theorem SK.mono {m : View} {h h' : List Res} {s : Sp} (q : SK m h s) (r : h.Sublist h') : SK m h' s := ⟨q.o.mono r, fun x hx => (q.b x hx).mono r⟩
theorem eqFo_neR {x y : Fo} (h : (!(eqFo x y)) = true) : eqFo x y = false := by simpa using h
theorem eqFo_eqR {x y : Fo} (h : (!(eqFo x y)) = false) : eqFo x y = true := by simpa using h
set_option maxHeartbeats 1000000 in
theorem sameSpecR_ct (x : Sp) (ih : ∀ z ∈ x.bl, ∀ (y : Pr) (h : List Res) (m : View), POk m h z → POk m h y → CT Tryz.prog 115 [prV z, prV y] h m (Pure1 h (.bool (sameP z y)))) (y : Sp) (h : List Res) (m : View) (hx : SK m h x) (hy : SK m h y) :
   CT Tryz.prog 155 [spV x, spV y] h m (Pure1 h (.bool (sameS x y))) := by
 have v0 := View.le.refl m
 have f1 := hx.o.fr
 have f2 := hy.o.fr
 have m1 := f1.mx
 have m2 := f2.mx
 have k1 := f1.le
 have k2 := f2.le
 refine CT.body Tryz.call155 Tryz.func155 rfl Tryz.ntmps155 Lb rfl ?_
 refine gD ?_; intros
 refine xX fun b2 => ?_
 refine xX fun b3 => ?_
 refine xC ?_
 refine wn [2, 3] ?_
 refine gG ?_; intros; rename_i ops hG
 refine xF u54 ?_
 refine xG (pL u47) ?_
 refine xF u54 ?_
 refine xG (pL u47) ?_
 refine bD ?_
 refine xM ?_
 refine zG (fun _ => pF u54) ?_
 refine zG (fun hc => PO.loadA u30 rfl rfl (Eg hc) Me rfl) ?_
 refine zG (fun _ => pF u54) ?_
 refine zG (fun hc => PO.loadA u30 rfl rfl (Eg hc) Me rfl) ?_
 refine WL.poG (GU.f (hG _ _ rfl) rfl) (fun hc => PO.neqA u30 (by kernel_rfl) (by kernel_rfl) (Eg hc) (Eg hc) rfl) Lb ?_
 refine xQ ?_
 refine xM ?_
 refine zG (fun _ => pF u54) ?_
 refine zG (fun hc => PO.load1 u52 rfl (Eg hc) Me rfl) ?_
 refine zG (fun hc => PO.lenSl u52 (Eg hc)) ?_
 refine zG (fun _ => pF u54) ?_
 refine zG (fun hc => PO.load1 u52 rfl (Eg hc) Me rfl) ?_
 refine zG (fun hc => PO.lenSl u52 (Eg hc)) ?_
 refine zG (fun hc => PO.bin (Eg hc) (Eg hc) rfl) ?_
 refine xQ ?_
 refine wn [2, 3, 26] ?_
 try clear hG ops
 refine gE ?_; intros
 refine wc (fun c26 => ?_) fun c26 => ?_
 have d26 : sameS x y = false := sameS_far c26
 refine gD ?_; intros
 refine xC ?_
 refine wn [4] ?_
 refine WC.ret (wR (h) ?_)
 exact ⟨by rw [d26], rfl⟩
 have d26 := sameS_near (x := x) (y := y) c26
 obtain ⟨hlen, e0⟩ := d26
 refine WC.skip (kp [2, 3] ?_)
 refine gD ?_; intros
 refine xC ?_
 refine wn [2, 3, 5] ?_
 refine gE ?_; intros
 refine WC.loopI [2, 3] rfl (fun μ F' h' => ∃ k : Nat, (k ≤ x.fs.l.length ∧ eqL eqFo x.fs.l y.fs.l = eqL eqFo (x.fs.l.drop k) (y.fs.l.drop k)) ∧ x.fs.l.length - k = μ ∧ F' = [(5, .int .i64 k)] ∧ .pt b3 (.cells (spE y).toArray 54 (0, 0)) :: .pt b2 (.cells (spE x).toArray 54 (0, 0)) :: h = h') (x.fs.l.length - 0) [(5, .int .i64 0)] (h0 := .pt b3 (.cells (spE y).toArray 54 (0, 0)) :: .pt b2 (.cells (spE x).toArray 54 (0, 0)) :: h) ?_ Sb ⟨0, ⟨by omega, by simp⟩, rfl, rfl, rfl⟩ ?_
 exact Su
 rintro _ _ _ ⟨k, ⟨hk, hJ⟩, rfl, rfl, rfl⟩
 refine WC.frm rfl ?_
 refine gD ?_; intros
 refine xM ?_
 refine xF u54 ?_
 refine xG (pL u52) ?_
 refine xG (PO.lenSl u52 Et) ?_
 refine bD ?_
 refine wn [2, 3, 5, 31] ?_
 refine gE ?_; intros
 refine wc (fun c31 => ?_) fun c31 => ?_
 replace c31 := dT c31
 obtain ⟨u, hu⟩ := get_some (l := x.fs.l) (k := k) (by omega)
 obtain ⟨v, hv⟩ := get_some (l := y.fs.l) (k := k) (by omega)
 rw [eqL_drop _ hu hv] at hJ
 refine WC.skip (kp [2, 3, 5] ?_)
 refine gE ?_; intros
 refine dS [] (.op 0 (.op 1 (.op 2 (.op 3 (.op 4 (.op 5 (.op 6 (.op 7 (.op 8 (.op 9 .nil)))))))))) [10] mixed ?_
 refine yG rfl (pF u54) ?_
 refine yG rfl (pL u52) ?_
 refine yG rfl (PO.move Et) ?_
 refine yG rfl (PO.idx EL52.und EL52.size EL52.posz (Ev.tmp rfl) (Ev.tmp rfl) Rr rfl (by omega)) ?_
 refine yG rfl (PO.loadFA u60 rfl rfl foE_len Rr (Ev.tmp rfl) (by assumption) rfl rfl (Nat.succ_pos _)) ?_
 refine yG rfl (pF u54) ?_
 refine yG rfl (pL u52) ?_
 refine yG rfl (PO.move Et) ?_
 refine yG rfl (PO.idx EL52.und EL52.size EL52.posz (Ev.tmp rfl) (Ev.tmp rfl) Rr rfl (by omega)) ?_
 refine yG rfl (PO.loadFA u60 rfl rfl foE_len Rr (Ev.tmp rfl) (by assumption) rfl rfl (Nat.succ_pos _)) ?_
 refine SR.nil rfl rfl ?_
 refine xG (PO.neqA2 (o := 30) u60 (by kernel_rfl) (by kernel_rfl) Et Et (by kernel_rfl) rfl) ?_
 refine wn [2, 3, 5, 44] ?_
 refine gE ?_; intros
 refine wc (fun c44 => ?_) fun c44 => ?_
 rw [eqFo_neR (x := u) (y := v) c44] at hJ
 refine gD ?_; intros
 refine xC ?_
 refine wn [4] ?_
 refine WC.ret (wR (h) ?_)
 exact ⟨by rw [e0, hJ]; rfl, rfl⟩
 rw [eqFo_eqR (x := u) (y := v) c44, Bool.true_and] at hJ
 refine WC.skip (kp [2, 3, 5] ?_)
 refine gD ?_; intros
 refine xM ?_
 refine bI ?_
 refine xA ?_
 refine WL.nil (loopBackI (x.fs.l.length - (k + 1)) [(5, .int .i64 (k + 1))] (h'' := .pt b3 (.cells (spE y).toArray 54 (0, 0)) :: .pt b2 (.cells (spE x).toArray 54 (0, 0)) :: h) (by omega) ?_ Su Sb ⟨k + 1, ⟨by omega, hJ⟩, rfl, rfl, rfl⟩)
 exact Su
 replace c31 := dF c31
 rw [List.drop_eq_nil_of_le (by omega), List.drop_eq_nil_of_le (by omega)] at hJ
 refine WC.exit (kp [2, 3] ?_)
 refine gG ?_; intros; rename_i ops hG
 refine xF u54 ?_
 refine xG (pL u48) ?_
 refine xF u54 ?_
 refine xG (pL u48) ?_
 refine xf (E2 Et Et) (equal183_ct _ _ _ _ _ _ x.names.l y.names.l _ _ (hx.o.nr.mono v0 Sb) (hy.o.nr.mono v0 Sb)) ?_
 refine xM ?_
 refine zG (fun _ => pF u54) ?_
 refine zG (fun hc => PO.loadA u27 rfl rfl (Eg hc) Me rfl) ?_
 refine zG (fun _ => pF u54) ?_
 refine zG (fun hc => PO.loadA u27 rfl rfl (Eg hc) Me rfl) ?_
 refine WL.callG (GU.t (hG _ _ rfl) rfl) (fun hc => ⟨Ev.func, (E2 (Eg hc) (Eg hc)), sameR_ct x.e y.e _ _ (hx.o.e.t.mono Sb) (hy.o.e.t.mono Sb)⟩) Lb ?_
 refine xP ?_
 refine xM ?_
 refine zG (fun _ => pF u54) ?_
 refine zG (fun hc => PO.loadA u51 rfl rfl (Eg hc) Me rfl) ?_
 refine zG (fun _ => pF u54) ?_
 refine zG (fun hc => PO.loadA u51 rfl rfl (Eg hc) Me rfl) ?_
 refine WL.callG (GU.t (hG _ _ rfl) rfl) (fun hc => ⟨Ev.func, (E2 (Eg hc) (Eg hc)), sameProtoR_ct x.cs y.cs _ _ _ _ _ _ x.vs.l y.vs.l _ _ (hx.o.v.mono v0 Sb) (hy.o.v.mono v0 Sb)⟩) Lb ?_
 refine xP ?_
 refine xM ?_
 refine zG (fun _ => pF u54) ?_
 refine zG (fun hc => PO.load1 u45 rfl (Eg hc) Me rfl) ?_
 refine zG (fun _ => pF u54) ?_
 refine zG (fun hc => PO.load1 u45 rfl (Eg hc) Me rfl) ?_
 refine WL.callG (GU.t (hG _ _ rfl) rfl) (fun hc => ⟨Ev.func, (E2 (Eg hc) (Eg hc)), sameAllR_ct x.bl ih y.bl _ _ _ _ _ _ _ _ (hx.o.b.mono v0 Sb) (hy.o.b.mono v0 Sb) (fun z hz => (hx.b z hz).mono Sb) (fun z hz => (hy.b z hz).mono Sb)⟩) Lb ?_
 refine xP ?_
 refine xA ?_
 refine wn [4] ?_
 try clear hG ops
 refine WC.ret (wR (h) ?_)
 exact ⟨by rw [e0, hJ]; rfl, rfl⟩
theorem pokGk {m : View} {h : List Res} {p : Pr} (q : POk m h p) : ∀ g ∈ p.gl, GK m h g := fun g hg => ⟨q.own.gs g hg, fun _ hx => q.sub (.g hg hx)⟩
theorem pokSk {m : View} {h : List Res} {p : Pr} (q : POk m h p) : SK m h p.sp := ⟨q.own.sp, fun _ hx => q.sub (.s hx)⟩
set_option maxHeartbeats 2000000 in
theorem sameP_ct (p : Pr) : ∀ (q : Pr) (h : List Res) (m : View), POk m h p → POk m h q → CT Tryz.prog 115 [prV p, prV q] h m (Pure1 h (.bool (sameP p q))) := by
 refine Pr.ind (q := fun p => ∀ (q : Pr) (h : List Res) (m : View), POk m h p → POk m h q → CT Tryz.prog 115 [prV p, prV q] h m (Pure1 h (.bool (sameP p q)))) (fun p ih q h m hp hq => ?_) p
 have v0 := View.le.refl m
 have e0 := sameP_eq p q
 have x1 := hp.own
 have y1 := hq.own
 have f1 := x1.pn
 have f2 := y1.pn
 have m1 := f1.mx
 have m2 := f2.mx
 have k1 := f1.le
 have k2 := f2.le
 refine CT.body Tryz.call115 Tryz.func115 rfl Tryz.ntmps115 Lb rfl ?_
 refine gD ?_; intros
 refine xX fun b2 => ?_
 refine xX fun b3 => ?_
 refine xC ?_
 refine wn [2, 3] ?_
 refine gD ?_; intros
 refine xF u56 ?_
 refine xG (pL u46) ?_
 refine xG (PO.lenSl u46 Et) ?_
 refine xF u56 ?_
 refine xG (pL u46) ?_
 refine xG (PO.lenSl u46 Et) ?_
 refine bD ?_
 refine wn [2, 3, 13] ?_
 refine gE ?_; intros
 refine wc (fun c13 => ?_) fun c13 => ?_
 replace c13 := t_ne c13
 rw [eqL_len _ p.pn.l q.pn.l (by omega), Bool.false_and] at e0
 refine gD ?_; intros
 refine xC ?_
 refine wn [4] ?_
 refine WC.ret (wR (h) ?_)
 exact ⟨by rw [e0], rfl⟩
 replace c13 := f_ne c13
 refine WC.skip (kp [2, 3] ?_)
 refine gD ?_; intros
 refine xC ?_
 refine wn [2, 3, 5] ?_
 refine gE ?_; intros
 refine WC.loopI [2, 3] rfl (fun μ F' h' => ∃ k : Nat, (k ≤ p.pn.l.length ∧ eqL (fun a b : Int => a == b) p.pn.l q.pn.l = eqL (fun a b : Int => a == b) (p.pn.l.drop k) (q.pn.l.drop k)) ∧ p.pn.l.length - k = μ ∧ F' = [(5, .int .i64 k)] ∧ .pt b3 (.cells (prE q).toArray 56 (0, 0)) :: .pt b2 (.cells (prE p).toArray 56 (0, 0)) :: h = h') (p.pn.l.length - 0) [(5, .int .i64 0)] (h0 := .pt b3 (.cells (prE q).toArray 56 (0, 0)) :: .pt b2 (.cells (prE p).toArray 56 (0, 0)) :: h) ?_ Sb ⟨0, ⟨by omega, by simp⟩, rfl, rfl, rfl⟩ ?_
 exact Su
 rintro _ _ _ ⟨k, ⟨hk, hJ⟩, rfl, rfl, rfl⟩
 refine WC.frm rfl ?_
 refine gD ?_; intros
 refine xM ?_
 refine xF u56 ?_
 refine xG (pL u46) ?_
 refine xG (PO.lenSl u46 Et) ?_
 refine bD ?_
 refine wn [2, 3, 5, 18] ?_
 refine gE ?_; intros
 refine wc (fun c18 => ?_) fun c18 => ?_
 replace c18 := dT c18
 obtain ⟨u, hu⟩ := get_some (l := p.pn.l) (k := k) (by omega)
 obtain ⟨v, hv⟩ := get_some (l := q.pn.l) (k := k) (by omega)
 rw [eqL_drop _ hu hv] at hJ
 refine WC.skip (kp [2, 3, 5] ?_)
 refine gE ?_; intros
 refine dS [] (.op 0 (.op 1 (.op 2 (.op 3 (.op 4 (.op 5 (.op 6 (.op 7 (.op 8 (.op 9 .nil)))))))))) [10] mixed ?_
 refine yG rfl (pF u56) ?_
 refine yG rfl (pL u46) ?_
 refine yG rfl (PO.move Et) ?_
 refine yG rfl (PO.idx EL46.und EL46.size EL46.posz (Ev.tmp rfl) (Ev.tmp rfl) Rr rfl (by omega)) ?_
 refine yG rfl (PO.loadF1 u3 rfl encN_len Rr (Ev.tmp rfl) (by assumption) rfl) ?_
 refine yG rfl (pF u56) ?_
 refine yG rfl (pL u46) ?_
 refine yG rfl (PO.move Et) ?_
 refine yG rfl (PO.idx EL46.und EL46.size EL46.posz (Ev.tmp rfl) (Ev.tmp rfl) Rr rfl (by omega)) ?_
 refine yG rfl (PO.loadF1 u3 rfl encN_len Rr (Ev.tmp rfl) (by assumption) rfl) ?_
 refine SR.nil rfl rfl ?_
 refine bD ?_
 refine wn [2, 3, 5, 31] ?_
 refine gE ?_; intros
 refine wc (fun c31 => ?_) fun c31 => ?_
 replace c31 := t_ne c31
 rw [show (u == v) = false by simpa using c31] at hJ
 refine gD ?_; intros
 refine xC ?_
 refine wn [4] ?_
 refine WC.ret (wR (h) ?_)
 exact ⟨by rw [e0, hJ]; rfl, rfl⟩
 replace c31 := f_ne c31
 rw [show (u == v) = true by simpa using c31, Bool.true_and] at hJ
 refine WC.skip (kp [2, 3, 5] ?_)
 refine gD ?_; intros
 refine xM ?_
 refine bI ?_
 refine xA ?_
 refine WL.nil (loopBackI (p.pn.l.length - (k + 1)) [(5, .int .i64 (k + 1))] (h'' := .pt b3 (.cells (prE q).toArray 56 (0, 0)) :: .pt b2 (.cells (prE p).toArray 56 (0, 0)) :: h) (by omega) ?_ Su Sb ⟨k + 1, ⟨by omega, hJ⟩, rfl, rfl, rfl⟩)
 exact Su
 replace c18 := dF c18
 rw [List.drop_eq_nil_of_le (by omega), List.drop_eq_nil_of_le (by omega)] at hJ
 refine WC.exit (kp [2, 3] ?_)
 refine gG ?_; intros; rename_i ops hG
 refine xF u56 ?_
 refine xF u43 ?_
 refine xG (pL u9) ?_
 refine xF u56 ?_
 refine xF u43 ?_
 refine xG (pL u9) ?_
 refine xG (PO.eqlS Et Et) ?_
 refine xM ?_
 refine zG (fun _ => pF u56) ?_
 refine zG (fun hc => PO.fieldAddr u43 rfl (Nat.ne_of_beq_eq_false rfl) (Eg hc)) ?_
 refine zG (fun hc => PO.loadA u27 rfl rfl (Eg hc) Me rfl) ?_
 refine zG (fun _ => pF u56) ?_
 refine zG (fun hc => PO.fieldAddr u43 rfl (Nat.ne_of_beq_eq_false rfl) (Eg hc)) ?_
 refine zG (fun hc => PO.loadA u27 rfl rfl (Eg hc) Me rfl) ?_
 refine WL.callG (GU.t (hG _ _ rfl) rfl) (fun hc => ⟨Ev.func, (E2 (Eg hc) (Eg hc)), sameR_ct p.rep.base q.rep.base _ _ (x1.rb.t.mono Sb) (y1.rb.t.mono Sb)⟩) Lb ?_
 refine xP ?_
 refine xM ?_
 refine zG (fun _ => pF u56) ?_
 refine zG (fun hc => PO.fieldAddr u43 rfl (Nat.ne_of_beq_eq_false rfl) (Eg hc)) ?_
 refine zG (fun hc => PO.loadA u27 rfl rfl (Eg hc) Me rfl) ?_
 refine zG (fun _ => pF u56) ?_
 refine zG (fun hc => PO.fieldAddr u43 rfl (Nat.ne_of_beq_eq_false rfl) (Eg hc)) ?_
 refine zG (fun hc => PO.loadA u27 rfl rfl (Eg hc) Me rfl) ?_
 refine WL.callG (GU.t (hG _ _ rfl) rfl) (fun hc => ⟨Ev.func, (E2 (Eg hc) (Eg hc)), sameR_ct p.rep.count q.rep.count _ _ (x1.rc.t.mono Sb) (y1.rc.t.mono Sb)⟩) Lb ?_
 refine xP ?_
 refine xA ?_
 refine wn [2, 3, 6] ?_
 try clear hG ops
 refine gG ?_; intros; rename_i ops hG
 refine xF u56 ?_
 refine xG (pL u41) ?_
 refine xF u56 ?_
 refine xG (pL u41) ?_
 refine bD ?_
 refine xM ?_
 refine zG (fun _ => pF u56) ?_
 refine zG (fun hc => PO.load1 u9 rfl (Eg hc) Me rfl) ?_
 refine zG (fun _ => pF u56) ?_
 refine zG (fun hc => PO.load1 u9 rfl (Eg hc) Me rfl) ?_
 refine zG (fun hc => PO.eqlS (Eg hc) (Eg hc)) ?_
 refine xP ?_
 refine xM ?_
 refine zM ?_
 refine xP ?_
 refine xM ?_
 refine zG (fun _ => pF u56) ?_
 refine zG (fun hc => PO.loadA u27 rfl rfl (Eg hc) Me rfl) ?_
 refine zG (fun _ => pF u56) ?_
 refine zG (fun hc => PO.loadA u27 rfl rfl (Eg hc) Me rfl) ?_
 refine WL.callG (GU.t (hG _ _ rfl) rfl) (fun hc => ⟨Ev.func, (E2 (Eg hc) (Eg hc)), sameR_ct p.ch q.ch _ _ (x1.ch.t.mono Sb) (y1.ch.t.mono Sb)⟩) Lb ?_
 refine xP ?_
 refine xM ?_
 refine zG (fun _ => pF u56) ?_
 refine zG (fun hc => PO.load1 u25 rfl (Eg hc) Me rfl) ?_
 refine zG (fun _ => pF u56) ?_
 refine zG (fun hc => PO.load1 u25 rfl (Eg hc) Me rfl) ?_
 refine WL.callG (GU.t (hG _ _ rfl) rfl) (fun hc => ⟨Ev.func, (E2 (Eg hc) (Eg hc)), sameExsR_ct p.tg.l q.tg.l _ _ _ _ _ _ _ _ (x1.tg.rd.mono v0 Sb) (y1.tg.rd.mono v0 Sb) (fun z hz => (x1.tg.ok z hz).t.mono Sb) (fun z hz => (y1.tg.ok z hz).t.mono Sb)⟩) Lb ?_
 refine xP ?_
 refine xM ?_
 refine zG (fun _ => pF u56) ?_
 refine zG (fun hc => PO.load1 u25 rfl (Eg hc) Me rfl) ?_
 refine zG (fun _ => pF u56) ?_
 refine zG (fun hc => PO.load1 u25 rfl (Eg hc) Me rfl) ?_
 refine WL.callG (GU.t (hG _ _ rfl) rfl) (fun hc => ⟨Ev.func, (E2 (Eg hc) (Eg hc)), sameExsR_ct p.ex.l q.ex.l _ _ _ _ _ _ _ _ (x1.ex.rd.mono v0 Sb) (y1.ex.rd.mono v0 Sb) (fun z hz => (x1.ex.ok z hz).t.mono Sb) (fun z hz => (y1.ex.ok z hz).t.mono Sb)⟩) Lb ?_
 refine xP ?_
 refine xM ?_
 refine zG (fun _ => pF u56) ?_
 refine zG (fun hc => PO.load1 u44 rfl (Eg hc) Me rfl) ?_
 refine zG (fun _ => pF u56) ?_
 refine zG (fun hc => PO.load1 u44 rfl (Eg hc) Me rfl) ?_
 refine WL.callG (GU.t (hG _ _ rfl) rfl) (fun hc => ⟨Ev.func, (E2 (Eg hc) (Eg hc)), sameGuardsR_ct p.gl (fun g hg z hz => ih z (.g hg hz)) q.gl _ _ _ _ _ _ _ _ (x1.g.mono v0 Sb) (y1.g.mono v0 Sb) (fun z hz => (pokGk hp z hz).mono Sb) (fun z hz => (pokGk hq z hz).mono Sb)⟩) Lb ?_
 refine xP ?_
 refine xM ?_
 refine zG (fun _ => pF u56) ?_
 refine zG (fun hc => PO.load1 u45 rfl (Eg hc) Me rfl) ?_
 refine zG (fun _ => pF u56) ?_
 refine zG (fun hc => PO.load1 u45 rfl (Eg hc) Me rfl) ?_
 refine WL.callG (GU.t (hG _ _ rfl) rfl) (fun hc => ⟨Ev.func, (E2 (Eg hc) (Eg hc)), sameAllR_ct p.ll (fun z hz => ih z (.l hz)) q.ll _ _ _ _ _ _ _ _ (x1.l.mono v0 Sb) (y1.l.mono v0 Sb) (fun z hz => (hp.sub (.l hz)).mono Sb) (fun z hz => (hq.sub (.l hz)).mono Sb)⟩) Lb ?_
 refine xP ?_
 refine xM ?_
 refine zG (fun _ => pF u56) ?_
 refine zG (fun hc => PO.loadA u54 rfl rfl (Eg hc) Me rfl) ?_
 refine zG (fun _ => pF u56) ?_
 refine zG (fun hc => PO.loadA u54 rfl rfl (Eg hc) Me rfl) ?_
 refine WL.callG (GU.t (hG _ _ rfl) rfl) (fun hc => ⟨Ev.func, (E2 (Eg hc) (Eg hc)), sameSpecR_ct p.sp (fun z hz => ih z (.s hz)) q.sp _ _ ((pokSk hp).mono Sb) ((pokSk hq).mono Sb)⟩) Lb ?_
 refine xP ?_
 refine xA ?_
 refine wn [4] ?_
 try clear hG ops
 refine WC.ret (wR (h) ?_)
 exact ⟨by rw [e0, hJ]; rfl, rfl⟩
end Go.Proofs.YtdhmplmpbcnojaaGreatDoor
end
/- RvC -/
section
namespace Go.Proofs.YtdhmplmpbcnojaaGreatDoor
open Go.Eng Go.Pc Go
open Go.Xp hiding B nameT
open Go.Ty (Ty Vr eqT tyV cellT PrOk VOk encV encV_len encI encI_len eqI eqI_eq eqI_ne)
open Go.Lx (encB encB_len)
set_option maxRecDepth 100000
theorem eok_z (m : View) (h : List Res) : EOk m h zeroE := ⟨.mk (Rd.nilF exE 6 m h) (fun _ hx => (List.not_mem_nil hx).elim), .mk (by decide) (by decide) (by decide) (by decide) (by decide) fun _ hx => (List.not_mem_nil hx).elim⟩
theorem lok_z (m : View) (h : List Res) : LOk m h nilS := ⟨Rd.nilF exE 6 m h, fun _ hx => (List.not_mem_nil hx).elim⟩
theorem gk_mk {m : View} {h : List Res} {nm : B} {c ch tm : Ex} {tg vl : Sli Ex} (hn : nm.length ≤ Big) (hc : EOk m h c) (hch : EOk m h ch) (ht : LOk m h tg) (hv : LOk m h vl) (htm : EOk m h tm) : GK m h (.mk 0 nm c ch tg vl tm none 0 []) :=
 ⟨⟨by show 0 ≤ (0 : Int) ∧ (0 : Int) ≤ 255; decide, hn, hc, hch, ht, hv, htm, Rd.nilF prE 42 m h⟩, fun _ hx => (List.not_mem_nil hx).elim⟩
theorem gk_z (m : View) (h : List Res) : GK m h zeroG := gk_mk (by decide) (eok_z m h) (eok_z m h) (lok_z m h) (lok_z m h) (eok_z m h)
theorem gQ_bad {u w : Int} {x : Gu} (h : ((decide (x.k < u) || decide (x.k > w)) || !(guP x)) = true) : (!gQ u w x) = true := by
 show (!((decide (x.k ≥ u) && decide (x.k ≤ w)) && guP x)) = true
 cases hg : guP x with
 | false => simp
 | true =>
   rw [hg] at h
   simp only [Bool.not_true, Bool.or_false, Bool.or_eq_true, decide_eq_true_eq] at h
   simp only [Bool.and_true, Bool.not_eq_true', Bool.and_eq_false_iff, decide_eq_false_iff_not]
   omega
theorem gQ_fine {u w : Int} {x : Gu} (h : ((decide (x.k < u) || decide (x.k > w)) || !(guP x)) = false) : (!gQ u w x) = false := by
 show (!((decide (x.k ≥ u) && decide (x.k ≤ w)) && guP x)) = false
 simp only [Bool.or_eq_false_iff, decide_eq_false_iff_not, Bool.not_eq_false'] at h
 obtain ⟨⟨h1, h2⟩, h3⟩ := h
 have a1 : x.k ≥ u := by omega
 have a2 : x.k ≤ w := by omega
 simp [a1, a2, h3]
theorem all_at {α : Type} {l : List α} {i : Nat} {x : α} (h : l[i]? = some x) (q : α → Bool) : (l.drop i).all q = (q x && (l.drop (i + 1)).all q) := by
 obtain ⟨hi, rfl⟩ := List.getElem?_eq_some_iff.1 h
 rw [List.drop_eq_getElem_cons hi, List.all_cons]
set_option maxHeartbeats 2000000 in
theorem guardR_ct (g : Gu) (h : List Res) (m : View) (hG : GK m h g) : CT Tryz.prog 149 [guV g] h m (Pure1 h (.bool (guP g))) := by
 have hO := hG.o
 have v0 := View.le.refl m
 have hn2 : g.name.length ≤ 9223372036854775807 := Nat.le_trans hO.n (by decide)
 refine CT.body Tryz.call149 Tryz.func149 rfl Tryz.ntmps149 Lb rfl ?_
 refine gD ?_; intros
 refine xX fun b1 => ?_
 refine xC ?_
 refine wn [1] ?_
 refine gD ?_; intros
 refine xG (pA u70) ?_
 refine xW fun b3 => ?_
 refine xS ?_
 refine wn [1, 3] ?_
 refine gD ?_; intros
 refine xF u70 ?_
 refine xS ?_
 refine wn [1, 3] ?_
 refine gD ?_; intros
 refine xF u70 ?_
 refine xS ?_
 refine wn [1, 3] ?_
 refine gD ?_; intros
 refine xC ?_
 refine wn [1, 3, 4] ?_
 refine gG ?_; intros; rename_i ops hG
 refine xF u70 ?_
 refine xG (pA u27) ?_
 refine xf (E1 Et) (noneR_ct g.cond (hO.cond.t.mono Sb)) ?_
 refine xM ?_
 refine zG (fun _ => pF u70) ?_
 refine zG (fun hc => PO.loadA u27 rfl rfl (Eg hc) Me rfl) ?_
 refine WL.callG (GU.f (hG _ _ rfl) rfl) (fun hc => ⟨Ev.func, (E1 (Eg hc)), mayR_ct g.cond _ (hO.cond.t.mono Sb) hO.cond.w⟩) Lb ?_
 refine xQ ?_
 refine xA ?_
 refine wn [1, 3, 4, 5] ?_
 try clear hG ops
 refine gD ?_; intros
 refine xF u70 ?_
 refine xG (pL u68) ?_
 refine wn [1, 3, 4, 5, 18] ?_
 (repeat refine WC.seqK fun K hK => ?_)
 refine WC.cutK (by assumption) [1, 3] rfl (fun F' h' => ∃ fb : Bool, ∃ xg : Gu, ((GK m h xg ∧ xg.bl = []) ∧ guP g = ((fb && ((g.bl.length : Int) == 1)) && sameG xg zeroG)) ∧ F' = [(4, .bool fb)] ∧ .pt b3 (.cells (guE xg).toArray 70 (0, 0)) :: .pt b1 (.cells (guE g).toArray 70 (0, 0)) :: h = h') ?_ ?_
 refine gD ?_; intros
 refine bB ?_
 refine xA ?_
 refine wn [1, 3, 4, 5, 18, 19] ?_
 (repeat refine WC.seqK fun K hK => ?_)
 refine WC.cutK (by assumption) [1, 3, 4, 5, 18] rfl (fun F' h' => ∃ b9 : Bool, ((b9 = true ↔ (g.k = 1 ∨ g.k = 2))) ∧ F' = [(19, .bool b9)] ∧ .pt b3 (.cells (guE (.mk 0 g.name g.cond g.ch g.tg g.vl g.time none 0 [])).toArray 70 (0, 0)) :: .pt b1 (.cells (guE g).toArray 70 (0, 0)) :: h = h') ?_ ?_
 refine gE ?_; intros
 refine wc (fun c19 => ?_) fun c19 => ?_
 replace c19 := t_eq c19
 refine WC.skip (meetI [(19, .bool ((g.k == 1)))] (h'' := .pt b3 (.cells (guE (.mk 0 g.name g.cond g.ch g.tg g.vl g.time none 0 [])).toArray 70 (0, 0)) :: .pt b1 (.cells (guE g).toArray 70 (0, 0)) :: h) ?_ Su Sb ⟨(g.k == 1), ⟨fun _ => .inl c19, fun _ => by simpa using c19⟩, rfl, rfl⟩)
 exact Su
 replace c19 := f_eq c19
 refine gD ?_; intros
 refine bB ?_
 refine xA ?_
 refine WL.nil (meetI [(19, .bool ((g.k == 2)))] (h'' := .pt b3 (.cells (guE (.mk 0 g.name g.cond g.ch g.tg g.vl g.time none 0 [])).toArray 70 (0, 0)) :: .pt b1 (.cells (guE g).toArray 70 (0, 0)) :: h) ?_ Su Sb ⟨(g.k == 2), ⟨fun hk => .inr (by simpa using hk), fun hk => hk.elim (fun h1 => absurd h1 c19) (fun h1 => by simpa using h1)⟩, rfl, rfl⟩)
 exact Su
 rintro _ _ ⟨b9, hb9, rfl, rfl⟩
 refine WC.frm rfl ?_
 refine gE ?_; intros
 refine wc (fun c19 => ?_) fun c19 => ?_
 have hk := hb9.1 c19
 refine gD ?_; intros
 refine xF u70 ?_
 refine xG (pA u27) ?_
 refine xf (E1 Et) (mayR_ct g.cond _ (hO.cond.t.mono Sb) hO.cond.w) ?_
 refine xA ?_
 refine wn [1, 3, 4] ?_
 refine gD ?_; intros
 refine xG (PO.build u27 rfl rfl rfl EvP.nil rfl) ?_
 refine xF u70 ?_
 refine xS ?_
 refine WL.nil (meetI [(4, .bool (mayE g.cond))] (h'' := .pt b3 (.cells (guE (Gu.mk 0 g.name zeroE g.ch g.tg g.vl g.time none 0 [])).toArray 70 (0, 0)) :: .pt b1 (.cells (guE g).toArray 70 (0, 0)) :: h) ?_ Su Sb ⟨mayE g.cond, Gu.mk 0 g.name zeroE g.ch g.tg g.vl g.time none 0 [], ⟨⟨gk_mk hO.n (eok_z m h) hO.ch hO.tg hO.vl hO.time, rfl⟩, gu_12 hk⟩, rfl, rfl⟩)
 exact Su
 have hk12 : ¬ (g.k = 1 ∨ g.k = 2) := fun q => by rw [hb9.2 q] at c19; cases c19
 refine gD ?_; intros
 refine bB ?_
 refine xA ?_
 refine wn [1, 3, 4, 5, 18, 27] ?_
 refine gE ?_; intros
 refine wc (fun c27 => ?_) fun c27 => ?_
 replace c27 := t_eq c27
 refine gG ?_; intros; rename_i ops hG
 refine xM ?_
 refine xM ?_
 refine zG (fun _ => pF u70) ?_
 refine zG (fun hc => PO.loadA u27 rfl rfl (Eg hc) Me rfl) ?_
 refine WL.callG (GU.t (hG _ _ rfl) rfl) (fun hc => ⟨Ev.func, (E1 (Eg hc)), elemR_ct g.ch ⟨hO.ch.t.mono Sb, hO.ch.w⟩⟩) Lb ?_
 refine xP ?_
 refine xM ?_
 refine zG (fun _ => pF u70) ?_
 refine zG (fun hc => PO.load1 u25 rfl (Eg hc) Me rfl) ?_
 refine WL.callG (GU.t (hG _ _ rfl) rfl) (fun hc => ⟨Ev.func, (E3 (Eg hc) Ev.const Ev.const), elmsR_ct _ _ _ g.tg.l 1 8 _ _ (hO.tg.rd.mono v0 Sb) (fun x hx => ⟨(hO.tg.ok x hx).t.mono Sb, (hO.tg.ok x hx).w⟩)⟩) Lb ?_
 refine xP ?_
 refine xA ?_
 refine wn [1, 3, 4] ?_
 try clear hG ops
 refine gD ?_; intros
 refine xG (PO.build u27 rfl rfl rfl EvP.nil rfl) ?_
 refine xF u70 ?_
 refine xS ?_
 refine wn [1, 3, 4] ?_
 refine gD ?_; intros
 refine xG (PO.build u27 rfl rfl rfl EvP.nil rfl) ?_
 refine xF u70 ?_
 refine xS ?_
 refine wn [1, 3, 4] ?_
 refine gD ?_; intros
 refine xF u70 ?_
 refine xS ?_
 refine WL.nil (meetI [(4, .bool ((((noneE g.cond || mayE g.cond) && elemE g.ch) && each g.tg.l 1 8 elemE)))] (h'' := .pt b3 (.cells (guE (Gu.mk 0 g.name zeroE zeroE nilS g.vl g.time none 0 [])).toArray 70 (0, 0)) :: .pt b1 (.cells (guE g).toArray 70 (0, 0)) :: h) ?_ Su Sb ⟨(((noneE g.cond || mayE g.cond) && elemE g.ch) && each g.tg.l 1 8 elemE), Gu.mk 0 g.name zeroE zeroE nilS g.vl g.time none 0 [], ⟨⟨gk_mk hO.n (eok_z m h) (eok_z m h) (lok_z m h) hO.vl hO.time, rfl⟩, gu_3 c27⟩, rfl, rfl⟩)
 exact Su
 replace c27 := f_eq c27
 refine gD ?_; intros
 refine bB ?_
 refine xA ?_
 refine wn [1, 3, 4, 5, 18, 45] ?_
 refine gE ?_; intros
 refine wc (fun c45 => ?_) fun c45 => ?_
 replace c45 := t_eq c45
 refine gG ?_; intros; rename_i ops hG
 refine xM ?_
 refine xM ?_
 refine zG (fun _ => pF u70) ?_
 refine zG (fun hc => PO.loadA u27 rfl rfl (Eg hc) Me rfl) ?_
 refine WL.callG (GU.t (hG _ _ rfl) rfl) (fun hc => ⟨Ev.func, (E1 (Eg hc)), elemR_ct g.ch ⟨hO.ch.t.mono Sb, hO.ch.w⟩⟩) Lb ?_
 refine xP ?_
 refine xM ?_
 refine zG (fun _ => pF u70) ?_
 refine zG (fun hc => PO.loadA u27 rfl rfl (Eg hc) Me rfl) ?_
 refine WL.callG (GU.t (hG _ _ rfl) rfl) (fun hc => ⟨Ev.func, (E1 (Eg hc)), mayR_ct g.time _ (hO.time.t.mono Sb) hO.time.w⟩) Lb ?_
 refine xP ?_
 refine xA ?_
 refine wn [1, 3, 4] ?_
 try clear hG ops
 refine gD ?_; intros
 refine xG (PO.build u27 rfl rfl rfl EvP.nil rfl) ?_
 refine xF u70 ?_
 refine xS ?_
 refine wn [1, 3, 4] ?_
 refine gD ?_; intros
 refine xG (PO.build u27 rfl rfl rfl EvP.nil rfl) ?_
 refine xF u70 ?_
 refine xS ?_
 refine wn [1, 3, 4] ?_
 refine gD ?_; intros
 refine xG (PO.build u27 rfl rfl rfl EvP.nil rfl) ?_
 refine xF u70 ?_
 refine xS ?_
 refine WL.nil (meetI [(4, .bool ((((noneE g.cond || mayE g.cond) && elemE g.ch) && mayE g.time)))] (h'' := .pt b3 (.cells (guE (Gu.mk 0 g.name zeroE zeroE g.tg g.vl zeroE none 0 [])).toArray 70 (0, 0)) :: .pt b1 (.cells (guE g).toArray 70 (0, 0)) :: h) ?_ Su Sb ⟨(((noneE g.cond || mayE g.cond) && elemE g.ch) && mayE g.time), Gu.mk 0 g.name zeroE zeroE g.tg g.vl zeroE none 0 [], ⟨⟨gk_mk hO.n (eok_z m h) (eok_z m h) hO.tg hO.vl (eok_z m h), rfl⟩, gu_4 c45⟩, rfl, rfl⟩)
 exact Su
 replace c45 := f_eq c45
 refine gD ?_; intros
 refine bB ?_
 refine xA ?_
 refine wn [1, 3, 4, 18, 64] ?_
 refine gE ?_; intros
 refine wc (fun c64 => ?_) fun c64 => ?_
 replace c64 := t_eq c64
 refine gD ?_; intros
 refine xF u70 ?_
 refine xG (pL u25) ?_
 refine xf (E3 Et Ev.const Ev.const) (exsR_ct _ _ _ g.vl.l 1 8 _ _ (hO.vl.rd.mono v0 Sb) (fun x hx => ⟨(hO.vl.ok x hx).t.mono Sb, (hO.vl.ok x hx).w⟩)) ?_
 refine xA ?_
 refine wn [1, 3, 4] ?_
 refine gD ?_; intros
 refine xF u70 ?_
 refine xS ?_
 refine WL.nil (meetI [(4, .bool (each g.vl.l 1 8 mayE))] (h'' := .pt b3 (.cells (guE (Gu.mk 0 g.name g.cond g.ch g.tg nilS g.time none 0 [])).toArray 70 (0, 0)) :: .pt b1 (.cells (guE g).toArray 70 (0, 0)) :: h) ?_ Su Sb ⟨each g.vl.l 1 8 mayE, Gu.mk 0 g.name g.cond g.ch g.tg nilS g.time none 0 [], ⟨⟨gk_mk hO.n hO.cond hO.ch hO.tg (lok_z m h) hO.time, rfl⟩, gu_5 c64⟩, rfl, rfl⟩)
 exact Su
 replace c64 := f_eq c64
 refine gD ?_; intros
 refine bB ?_
 refine xA ?_
 refine wn [1, 3, 4, 18, 70] ?_
 refine gE ?_; intros
 refine wc (fun c70 => ?_) fun c70 => ?_
 replace c70 := t_eq c70
 refine gD ?_; intros
 refine xC ?_
 refine WL.nil (meetI [(4, .bool true)] (h'' := .pt b3 (.cells (guE (Gu.mk 0 g.name g.cond g.ch g.tg g.vl g.time none 0 [])).toArray 70 (0, 0)) :: .pt b1 (.cells (guE g).toArray 70 (0, 0)) :: h) ?_ Su Sb ⟨true, Gu.mk 0 g.name g.cond g.ch g.tg g.vl g.time none 0 [], ⟨⟨gk_mk hO.n hO.cond hO.ch hO.tg hO.vl hO.time, rfl⟩, gu_6 c70⟩, rfl, rfl⟩)
 exact Su
 replace c70 := f_eq c70
 refine gD ?_; intros
 refine bB ?_
 refine xA ?_
 refine wn [1, 3, 4, 72] ?_
 refine gE ?_; intros
 refine wc (fun c72 => ?_) fun c72 => ?_
 replace c72 := t_eq c72
 refine gG ?_; intros; rename_i ops hG
 refine xF u70 ?_
 refine xG (pL u9) ?_
 refine xf (E1 Et) (CT.val (nameR_ct g.name _ _ hn2) (congrArg Value.bool (Go.Lx.name_eq g.name).symm)) ?_
 refine xM ?_
 refine zG (fun _ => pF u70) ?_
 refine zG (fun hc => PO.load1 u25 rfl (Eg hc) Me rfl) ?_
 refine WL.callG (GU.t (hG _ _ rfl) rfl) (fun hc => ⟨Ev.func, (E3 (Eg hc) Ev.const Ev.const), elmsR_ct _ _ _ g.tg.l 0 8 _ _ (hO.tg.rd.mono v0 Sb) (fun x hx => ⟨(hO.tg.ok x hx).t.mono Sb, (hO.tg.ok x hx).w⟩)⟩) Lb ?_
 refine xP ?_
 refine xA ?_
 refine wn [1, 3, 4] ?_
 try clear hG ops
 refine gD ?_; intros
 refine xF u70 ?_
 refine xS ?_
 refine wn [1, 3, 4] ?_
 refine gD ?_; intros
 refine xF u70 ?_
 refine xS ?_
 refine WL.nil (meetI [(4, .bool ((Go.Lx.name g.name && each g.tg.l 0 8 elemE)))] (h'' := .pt b3 (.cells (guE (Gu.mk 0 [] g.cond g.ch nilS g.vl g.time none 0 [])).toArray 70 (0, 0)) :: .pt b1 (.cells (guE g).toArray 70 (0, 0)) :: h) ?_ Su Sb ⟨(Go.Lx.name g.name && each g.tg.l 0 8 elemE), Gu.mk 0 [] g.cond g.ch nilS g.vl g.time none 0 [], ⟨⟨gk_mk (by decide) hO.cond hO.ch (lok_z m h) hO.vl hO.time, rfl⟩, gu_7 c72⟩, rfl, rfl⟩)
 exact Su
 replace c72 := f_eq c72
 refine WC.skip (meetI [(4, .bool false)] (h'' := .pt b3 (.cells (guE (Gu.mk 0 g.name g.cond g.ch g.tg g.vl g.time none 0 [])).toArray 70 (0, 0)) :: .pt b1 (.cells (guE g).toArray 70 (0, 0)) :: h) ?_ Su Sb ⟨false, Gu.mk 0 g.name g.cond g.ch g.tg g.vl g.time none 0 [], ⟨⟨gk_mk hO.n hO.cond hO.ch hO.tg hO.vl hO.time, rfl⟩, gu_no hO.k.1 hk12 c27 c45 c64 c70 c72 _⟩, rfl, rfl⟩)
 exact Su
 rintro _ _ ⟨fb, xg, hfb, rfl, rfl⟩
 refine WC.frm rfl ?_
 refine gG ?_; intros; rename_i ops hG
 refine xM ?_
 refine xM ?_
 refine zG (fun _ => pF u70) ?_
 refine zG (fun hc => PO.load1 u45 rfl (Eg hc) Me rfl) ?_
 refine zG (fun hc => PO.lenSl u45 (Eg hc)) ?_
 refine zG (fun hc => PO.bin (Eg hc) Ev.const rfl) ?_
 refine xP ?_
 refine xM ?_
 refine zG (fun _ => pA u70) ?_
 refine zG (fun _ => PO.build u70 rfl rfl rfl EvP.nil rfl) ?_
 refine WL.callG (GU.t (hG _ _ rfl) rfl) (fun hc => ⟨Ev.func, (E2 (Eg hc) (Eg hc)), sameGuardR_ct xg (fun z hz => by rw [hfb.1.2] at hz; cases hz) zeroG _ _ (hfb.1.1.mono Sb) ((gk_z m h).mono Sb)⟩) Lb ?_
 refine xP ?_
 refine xA ?_
 refine wn [2] ?_
 try clear hG ops
 refine WC.ret (wR (h) ?_)
 exact ⟨by rw [hfb.2], rfl⟩
theorem guardsR_ct (a : Option Addr) (k c : Nat) (l : List Gu) (lo hi u w : Int) (h : List Res) (m : View) (hL : Rd m h a k c 23 (fl guE l)) (hok : ∀ x ∈ l, GK m h x) :
   CT Tryz.prog 112 [.slice a k c, .int .i64 lo, .int .i64 hi, .int .u8 u, .int .u8 w] h m (Pure1 h (.bool (each l lo hi (gQ u w)))) := by
 have hl := hL.lenF guE_len (by decide)
 subst hl
 have hmx := hL.mx
 have hle := hL.le
 refine CT.body Tryz.call112 Tryz.func112 rfl Tryz.ntmps112 Lb rfl ?_
 refine gD ?_; intros
 refine xC ?_
 refine wn [0, 1, 2, 3, 4] ?_
 refine gG ?_; intros; rename_i ops hG
 refine xM ?_
 refine xG (PO.lenSl u44 Et) ?_
 refine xM ?_
 refine bD ?_
 refine xM ?_
 refine zM ?_
 refine zG (fun hc => PO.lenSl u44 (Eg hc)) ?_
 refine zM ?_
 refine zG (fun hc => PO.bin (Eg hc) (Eg hc) rfl) ?_
 refine xQ ?_
 refine wn [0, 3, 4, 21] ?_
 try clear hG ops
 refine gE ?_; intros
 refine wc (fun c21 => ?_) fun c21 => ?_
 refine gD ?_; intros
 refine xC ?_
 refine wn [10] ?_
 refine WC.ret (wR (h) ?_)
 exact ⟨by rw [each_far c21], rfl⟩
 have d21 := each_near (q := gQ u w) c21
 refine WC.skip (kp [0, 3, 4] ?_)
 refine gD ?_; intros
 refine xC ?_
 refine wn [0, 3, 4, 11] ?_
 refine gE ?_; intros
 refine WC.loopI [0, 3, 4] rfl (fun μ F' h' => ∃ i : Nat, (i ≤ l.length ∧ each l lo hi (gQ u w) = !((l.drop i).any fun x => !gQ u w x)) ∧ l.length - i = μ ∧ F' = [(11, .int .i64 i)] ∧ h = h') (l.length - 0) [(11, .int .i64 0)] (h0 := h) ?_ Sb ⟨0, ⟨by omega, d21⟩, rfl, rfl, rfl⟩ ?_
 exact Su
 rintro _ _ _ ⟨i, ⟨hk, hJ⟩, rfl, rfl, rfl⟩
 refine WC.frm rfl ?_
 refine gD ?_; intros
 refine xM ?_
 refine xM ?_
 refine xG (PO.lenSl u44 Et) ?_
 refine bD ?_
 refine wn [0, 3, 4, 11, 25] ?_
 refine gE ?_; intros
 refine wc (fun c25 => ?_) fun c25 => ?_
 replace c25 := dT c25
 obtain ⟨x, hx⟩ := get_some (l := l) (k := i) (by omega)
 rw [any_at hx] at hJ
 have hxo := hok x (List.mem_of_getElem? hx)
 refine WC.skip (kp [0, 3, 4, 11] ?_)
 refine gG ?_; intros; rename_i ops hG
 refine xM ?_
 refine xM ?_
 refine xG (PO.idx EL44.und EL44.size EL44.posz (Ev.tmp rfl) (Ev.tmp rfl) Rr rfl (by omega)) ?_
 refine xG (PO.fieldF u70 rfl (Nat.ne_of_beq_eq_false rfl) guE_len (Nat.succ_pos _) Rr (by assumption) (Ev.tmp rfl)) ?_
 refine xG (PO.loadFf u68 rfl guE_len Rr (Ev.tmp rfl) (by assumption) rfl) ?_
 refine xM ?_
 refine bD ?_
 refine xM ?_
 refine zM ?_
 refine zM ?_
 refine WL.poG (GU.f (hG _ _ rfl) rfl) (fun hc => PO.idx EL44.und EL44.size EL44.posz (Eg hc) (Eg hc) Rr rfl (by omega)) Lb ?_
 refine zG (fun hc => PO.fieldF u70 rfl (Nat.ne_of_beq_eq_false rfl) guE_len (Nat.succ_pos _) Rr (by assumption) (Eg hc)) ?_
 refine zG (fun hc => PO.loadFf u68 rfl guE_len Rr (Eg hc) (by assumption) rfl) ?_
 refine zM ?_
 refine zG (fun hc => PO.bin (Eg hc) (Eg hc) rfl) ?_
 refine xQ ?_
 refine xM ?_
 refine zM ?_
 refine zM ?_
 refine WL.poG (GU.f (hG _ _ rfl) rfl) (fun hc => PO.idx EL44.und EL44.size EL44.posz (Eg hc) (Eg hc) Rr rfl (by omega)) Lb ?_
 refine zG (fun hc => PO.loadFA u70 rfl rfl guE_len Rr (Eg hc) (by assumption) rfl rfl (Nat.succ_pos _)) ?_
 refine WL.callG (GU.f (hG _ _ rfl) rfl) (fun hc => ⟨Ev.func, (E1 (Eg hc)), guardR_ct x _ _ (hxo.mono Sb)⟩) Lb ?_
 refine zG (fun hc => PO.not (Eg hc)) ?_
 refine xQ ?_
 refine wn [0, 3, 4, 11, 51] ?_
 try clear hG ops
 refine gE ?_; intros
 refine wc (fun c51 => ?_) fun c51 => ?_
 have d51 : (!gQ u w x) = true := gQ_bad c51
 rw [d51] at hJ
 refine gD ?_; intros
 refine xC ?_
 refine wn [10] ?_
 refine WC.ret (wR (h) ?_)
 exact ⟨by rw [hJ]; rfl, rfl⟩
 have d51 : (!gQ u w x) = false := gQ_fine c51
 rw [d51] at hJ
 refine WC.skip (kp [0, 3, 4, 11] ?_)
 refine gD ?_; intros
 refine xM ?_
 refine bI ?_
 refine xA ?_
 refine WL.nil (loopBackI (l.length - (i + 1)) [(11, .int .i64 (i + 1))] (h'' := h) (by omega) ?_ Su Sb ⟨i + 1, ⟨by omega, by simpa using hJ⟩, rfl, rfl, rfl⟩)
 exact Su
 replace c25 := dF c25
 rw [List.drop_eq_nil_of_le (by omega)] at hJ
 refine WC.exit (kp [] ?_)
 refine gD ?_; intros
 refine xC ?_
 refine wn [10] ?_
 refine WC.ret (wR (h) ?_)
 exact ⟨by rw [hJ]; rfl, rfl⟩
theorem nov_z (m : View) (h : List Res) : PrOk m h none 0 0 [] := ⟨Rd.nilF encV 2 m h, fun _ hx => (List.not_mem_nil hx).elim, fun _ hx => (List.not_mem_nil hx).elim⟩
theorem tyw_z : TyW Go.Ty.zeroT := ⟨by decide, by decide, by decide, by decide⟩
structure SpF (m : View) (h : List Res) (ty : Ty) (e : Ex) (vs : Sli Vr) (fs : Sli Fo) : Prop where
 t : TyW ty
 e : EOk m h e
 v : PrOk m h vs.a vs.l.length vs.c vs.l
 vw : ∀ x ∈ vs.l, x.items.length = x.n
 f : Rd m h fs.a fs.l.length fs.c 6 (fl foE fs.l)
 fw : ∀ x ∈ fs.l, FoW x
theorem sk_mk {m : View} {h : List Res} {k : Int} {ty : Ty} {nm : Sli B} {e : Ex} {cs : Bool} {vs : Sli Vr} {fs : Sli Fo} {ba : Option Addr} {bc : Nat} {bl : List Pr} (hk : 0 ≤ k ∧ k ≤ 255) (q : SpF m h ty e vs fs) (hn : Rd m h nm.a nm.l.length nm.c 1 (fl encB nm.l)) (hw : ∀ x ∈ nm.l, x.length ≤ Big)
   (hb : Rd m h ba bl.length bc 42 (fl prE bl)) (hp : ∀ x ∈ bl, POk m h x) : SK m h (.mk k ty nm e cs vs fs ba bc bl) := ⟨⟨hk, q.t, hn, hw, q.e, q.v, q.vw, q.f, q.fw, hb⟩, hp⟩
theorem no_in {α : Type} {p : α → Prop} : ∀ x ∈ (nilS : Sli α).l, p x := fun _ hx => (List.not_mem_nil hx).elim
theorem sk_z (m : View) (h : List Res) : SK m h zeroS := sk_mk (by decide) ⟨tyw_z, eok_z m h, nov_z m h, no_in, Rd.nilF foE 6 m h, no_in⟩ (Rd.nilF encB 1 m h) no_in (Rd.nilF prE 42 m h) (fun _ hx => (List.not_mem_nil hx).elim)
abbrev spX (b : Nat) (s : Sp) : Res := .pt b (.cells (spE s).toArray 54 (0, 0))
set_option maxHeartbeats 2000000 in
theorem specR_ct (s : Sp) (h : List Res) (m : View) (hS : SK m h s) : CT Tryz.prog 113 [spV s] h m (Pure1 h (.bool (spP s))) := by
 have hO := hS.o
 have v0 := View.le.refl m
 have hp2 : s.ty.proto.length ≤ 9223372036854775807 := Nat.le_trans hO.ty.p (by decide)
 have hzk : (0 : Int) ≤ 0 ∧ (0 : Int) ≤ 255 := by decide
 have f1 := hO.fr
 have fm := f1.mx
 have fl1 := f1.le
 refine CT.body Tryz.call113 Tryz.func113 rfl Tryz.ntmps113 Lb rfl ?_
 refine gD ?_; intros
 refine xX fun b1 => ?_
 refine xC ?_
 refine wn [1] ?_
 refine gD ?_; intros
 refine xG (pA u54) ?_
 refine xW fun b3 => ?_
 refine xS ?_
 refine wn [1, 3] ?_
 refine gD ?_; intros
 refine xF u54 ?_
 refine xS ?_
 refine wn [1, 3] ?_
 refine gD ?_; intros
 refine xC ?_
 refine wn [1, 3, 4] ?_
 refine gD ?_; intros
 refine xF u54 ?_
 refine xG (pL u47) ?_
 refine wn [1, 3, 4, 9] ?_
 (repeat refine WC.seqK fun K hK => ?_)
 refine WC.cutK (by assumption) [3] rfl (fun F' h' => ∃ fb : Bool, ∃ xs : Sp, (SK m h (.mk 0 xs.ty nilS xs.e xs.cs xs.vs xs.fs xs.ba xs.bc xs.bl) ∧ spP s = (fb && sameS (.mk 0 xs.ty nilS xs.e xs.cs xs.vs xs.fs xs.ba xs.bc xs.bl) zeroS)) ∧ F' = [(4, .bool fb)] ∧ spX b3 (.mk 0 xs.ty s.names xs.e xs.cs xs.vs xs.fs xs.ba xs.bc xs.bl) :: spX b1 s :: h = h') ?_ ?_
 refine gD ?_; intros
 refine bB ?_
 refine xA ?_
 refine wn [1, 3, 4, 9, 10] ?_
 refine gE ?_; intros
 refine wc (fun c10 => ?_) fun c10 => ?_
 replace c10 := t_eq c10
 refine gG ?_; intros; rename_i ops hG
 refine xF u54 ?_
 refine xG (pA u30) ?_
 refine xf (E1 Et) (CT.val (Ty9.mayR_ct s.ty _ _ hp2) (congrArg Value.bool (Go.Ty.may_eq s.ty).symm)) ?_
 refine xM ?_
 refine zG (fun _ => pF u54) ?_
 refine zG (fun hc => PO.load1 u48 rfl (Eg hc) Me rfl) ?_
 refine WL.callG (GU.t (hG _ _ rfl) rfl) (fun hc => ⟨Ev.func, (E3 (Eg hc) Ev.const Ev.const), nmsR_ct _ _ _ s.names.l 1 8 _ _ (hO.nr.mono v0 Sb) hO.nw⟩) Lb ?_
 refine xP ?_
 refine xA ?_
 refine wn [3, 4] ?_
 try clear hG ops
 refine gD ?_; intros
 refine xG (PO.build u30 rfl rfl rfl EvP.nil rfl) ?_
 refine xF u54 ?_
 refine xS ?_
 refine WL.nil (meetI [(4, .bool ((Go.Ty.may s.ty && each s.names.l 1 8 Go.Lx.name)))] (h'' := spX b3 (.mk 0 (Sp.mk 0 Go.Ty.zeroT nilS s.e s.cs s.vs s.fs s.ba s.bc s.bl).ty s.names (Sp.mk 0 Go.Ty.zeroT nilS s.e s.cs s.vs s.fs s.ba s.bc s.bl).e (Sp.mk 0 Go.Ty.zeroT nilS s.e s.cs s.vs s.fs s.ba s.bc s.bl).cs (Sp.mk 0 Go.Ty.zeroT nilS s.e s.cs s.vs s.fs s.ba s.bc s.bl).vs (Sp.mk 0 Go.Ty.zeroT nilS s.e s.cs s.vs s.fs s.ba s.bc s.bl).fs (Sp.mk 0 Go.Ty.zeroT nilS s.e s.cs s.vs s.fs s.ba s.bc s.bl).ba (Sp.mk 0 Go.Ty.zeroT nilS s.e s.cs s.vs s.fs s.ba s.bc s.bl).bc (Sp.mk 0 Go.Ty.zeroT nilS s.e s.cs s.vs s.fs s.ba s.bc s.bl).bl) :: spX b1 s :: h) ?_ Su Sb ⟨(Go.Ty.may s.ty && each s.names.l 1 8 Go.Lx.name), Sp.mk 0 Go.Ty.zeroT nilS s.e s.cs s.vs s.fs s.ba s.bc s.bl, ⟨sk_mk hzk ⟨tyw_z, hO.e, hO.v, hO.vw, hO.fr, hO.fw⟩ (Rd.nilF encB 1 m h) no_in hO.b hS.b, sp_1 c10⟩, rfl, rfl⟩)
 exact Su
 replace c10 := f_eq c10
 refine gD ?_; intros
 refine bB ?_
 refine xA ?_
 refine wn [1, 3, 4, 9, 22] ?_
 refine gE ?_; intros
 refine wc (fun c22 => ?_) fun c22 => ?_
 replace c22 := t_eq c22
 refine gG ?_; intros; rename_i ops hG
 refine xF u54 ?_
 refine xG (pA u30) ?_
 refine xf (E1 Et) (primtR_ct s.ty _ _ hp2) ?_
 refine xM ?_
 refine zG (fun _ => pF u54) ?_
 refine zG (fun hc => PO.load1 u48 rfl (Eg hc) Me rfl) ?_
 refine WL.callG (GU.t (hG _ _ rfl) rfl) (fun hc => ⟨Ev.func, (E3 (Eg hc) Ev.const Ev.const), nmsR_ct _ _ _ s.names.l 1 1 _ _ (hO.nr.mono v0 Sb) hO.nw⟩) Lb ?_
 refine xP ?_
 refine xM ?_
 refine zG (fun _ => pF u54) ?_
 refine zG (fun hc => PO.loadA u27 rfl rfl (Eg hc) Me rfl) ?_
 refine WL.callG (GU.t (hG _ _ rfl) rfl) (fun hc => ⟨Ev.func, (E1 (Eg hc)), mayR_ct s.e _ (hO.e.t.mono Sb) hO.e.w⟩) Lb ?_
 refine xP ?_
 refine xA ?_
 refine wn [3, 4] ?_
 try clear hG ops
 refine gD ?_; intros
 refine xG (PO.build u30 rfl rfl rfl EvP.nil rfl) ?_
 refine xF u54 ?_
 refine xS ?_
 refine wn [3, 4] ?_
 refine gD ?_; intros
 refine xG (PO.build u27 rfl rfl rfl EvP.nil rfl) ?_
 refine xF u54 ?_
 refine xS ?_
 refine WL.nil (meetI [(4, .bool (((primT s.ty && each s.names.l 1 1 Go.Lx.name) && mayE s.e)))] (h'' := spX b3 (.mk 0 (Sp.mk 0 Go.Ty.zeroT nilS zeroE s.cs s.vs s.fs s.ba s.bc s.bl).ty s.names (Sp.mk 0 Go.Ty.zeroT nilS zeroE s.cs s.vs s.fs s.ba s.bc s.bl).e (Sp.mk 0 Go.Ty.zeroT nilS zeroE s.cs s.vs s.fs s.ba s.bc s.bl).cs (Sp.mk 0 Go.Ty.zeroT nilS zeroE s.cs s.vs s.fs s.ba s.bc s.bl).vs (Sp.mk 0 Go.Ty.zeroT nilS zeroE s.cs s.vs s.fs s.ba s.bc s.bl).fs (Sp.mk 0 Go.Ty.zeroT nilS zeroE s.cs s.vs s.fs s.ba s.bc s.bl).ba (Sp.mk 0 Go.Ty.zeroT nilS zeroE s.cs s.vs s.fs s.ba s.bc s.bl).bc (Sp.mk 0 Go.Ty.zeroT nilS zeroE s.cs s.vs s.fs s.ba s.bc s.bl).bl) :: spX b1 s :: h) ?_ Su Sb ⟨((primT s.ty && each s.names.l 1 1 Go.Lx.name) && mayE s.e), Sp.mk 0 Go.Ty.zeroT nilS zeroE s.cs s.vs s.fs s.ba s.bc s.bl, ⟨sk_mk hzk ⟨tyw_z, eok_z m h, hO.v, hO.vw, hO.fr, hO.fw⟩ (Rd.nilF encB 1 m h) no_in hO.b hS.b, sp_2 c22⟩, rfl, rfl⟩)
 exact Su
 replace c22 := f_eq c22
 refine gD ?_; intros
 refine bB ?_
 refine xA ?_
 refine wn [1, 3, 4, 9, 41] ?_
 refine gE ?_; intros
 refine wc (fun c41 => ?_) fun c41 => ?_
 replace c41 := t_eq c41
 refine gG ?_; intros; rename_i ops hG
 refine xF u54 ?_
 refine xG (pA u30) ?_
 refine xf (E1 Et) (primtR_ct s.ty _ _ hp2) ?_
 refine xM ?_
 refine zG (fun _ => pF u54) ?_
 refine zG (fun hc => PO.load1 u48 rfl (Eg hc) Me rfl) ?_
 refine WL.callG (GU.t (hG _ _ rfl) rfl) (fun hc => ⟨Ev.func, (E3 (Eg hc) Ev.const Ev.const), nmsR_ct _ _ _ s.names.l 1 1 _ _ (hO.nr.mono v0 Sb) hO.nw⟩) Lb ?_
 refine xP ?_
 refine xM ?_
 refine zG (fun _ => pF u54) ?_
 refine zG (fun hc => PO.loadA u27 rfl rfl (Eg hc) Me rfl) ?_
 refine WL.callG (GU.t (hG _ _ rfl) rfl) (fun hc => ⟨Ev.func, (E1 (Eg hc)), elemR_ct s.e ⟨hO.e.t.mono Sb, hO.e.w⟩⟩) Lb ?_
 refine xP ?_
 refine xA ?_
 refine wn [3, 4] ?_
 try clear hG ops
 refine gD ?_; intros
 refine xG (PO.build u30 rfl rfl rfl EvP.nil rfl) ?_
 refine xF u54 ?_
 refine xS ?_
 refine wn [3, 4] ?_
 refine gD ?_; intros
 refine xG (PO.build u27 rfl rfl rfl EvP.nil rfl) ?_
 refine xF u54 ?_
 refine xS ?_
 refine WL.nil (meetI [(4, .bool (((primT s.ty && each s.names.l 1 1 Go.Lx.name) && elemE s.e)))] (h'' := spX b3 (.mk 0 (Sp.mk 0 Go.Ty.zeroT nilS zeroE s.cs s.vs s.fs s.ba s.bc s.bl).ty s.names (Sp.mk 0 Go.Ty.zeroT nilS zeroE s.cs s.vs s.fs s.ba s.bc s.bl).e (Sp.mk 0 Go.Ty.zeroT nilS zeroE s.cs s.vs s.fs s.ba s.bc s.bl).cs (Sp.mk 0 Go.Ty.zeroT nilS zeroE s.cs s.vs s.fs s.ba s.bc s.bl).vs (Sp.mk 0 Go.Ty.zeroT nilS zeroE s.cs s.vs s.fs s.ba s.bc s.bl).fs (Sp.mk 0 Go.Ty.zeroT nilS zeroE s.cs s.vs s.fs s.ba s.bc s.bl).ba (Sp.mk 0 Go.Ty.zeroT nilS zeroE s.cs s.vs s.fs s.ba s.bc s.bl).bc (Sp.mk 0 Go.Ty.zeroT nilS zeroE s.cs s.vs s.fs s.ba s.bc s.bl).bl) :: spX b1 s :: h) ?_ Su Sb ⟨((primT s.ty && each s.names.l 1 1 Go.Lx.name) && elemE s.e), Sp.mk 0 Go.Ty.zeroT nilS zeroE s.cs s.vs s.fs s.ba s.bc s.bl, ⟨sk_mk hzk ⟨tyw_z, eok_z m h, hO.v, hO.vw, hO.fr, hO.fw⟩ (Rd.nilF encB 1 m h) no_in hO.b hS.b, sp_3 c41⟩, rfl, rfl⟩)
 exact Su
 replace c41 := f_eq c41
 refine gD ?_; intros
 refine bB ?_
 refine xA ?_
 refine wn [1, 3, 4, 9, 60] ?_
 refine gE ?_; intros
 refine wc (fun c60 => ?_) fun c60 => ?_
 replace c60 := t_eq c60
 refine gG ?_; intros; rename_i ops hG
 refine xF u54 ?_
 refine xG (pL u48) ?_
 refine xf (E3 Et Ev.const Ev.const) (nmsR_ct _ _ _ s.names.l 1 1 _ _ (hO.nr.mono v0 Sb) hO.nw) ?_
 refine xM ?_
 refine zG (fun _ => pF u54) ?_
 refine zG (fun hc => PO.loadA u51 rfl rfl (Eg hc) Me rfl) ?_
 refine WL.callG (GU.t (hG _ _ rfl) rfl) (fun hc => ⟨Ev.func, (E1 (Eg hc)), Ty9.mayProtoR_ct s.cs _ _ _ s.vs.l _ _ (hO.v.mono v0 Sb)⟩) Lb ?_
 refine xP ?_
 refine xA ?_
 refine wn [3, 4] ?_
 try clear hG ops
 refine gD ?_; intros
 refine xG (PO.build u51 rfl rfl rfl EvP.nil rfl) ?_
 refine xF u54 ?_
 refine xS ?_
 refine WL.nil (meetI [(4, .bool ((each s.names.l 1 1 Go.Lx.name && Go.Ty.mayPr s.cs s.vs.l)))] (h'' := spX b3 (.mk 0 (Sp.mk 0 s.ty nilS s.e false nilS s.fs s.ba s.bc s.bl).ty s.names (Sp.mk 0 s.ty nilS s.e false nilS s.fs s.ba s.bc s.bl).e (Sp.mk 0 s.ty nilS s.e false nilS s.fs s.ba s.bc s.bl).cs (Sp.mk 0 s.ty nilS s.e false nilS s.fs s.ba s.bc s.bl).vs (Sp.mk 0 s.ty nilS s.e false nilS s.fs s.ba s.bc s.bl).fs (Sp.mk 0 s.ty nilS s.e false nilS s.fs s.ba s.bc s.bl).ba (Sp.mk 0 s.ty nilS s.e false nilS s.fs s.ba s.bc s.bl).bc (Sp.mk 0 s.ty nilS s.e false nilS s.fs s.ba s.bc s.bl).bl) :: spX b1 s :: h) ?_ Su Sb ⟨(each s.names.l 1 1 Go.Lx.name && Go.Ty.mayPr s.cs s.vs.l), Sp.mk 0 s.ty nilS s.e false nilS s.fs s.ba s.bc s.bl, ⟨sk_mk hzk ⟨hO.ty, hO.e, nov_z m h, no_in, hO.fr, hO.fw⟩ (Rd.nilF encB 1 m h) no_in hO.b hS.b, sp_4 c60⟩, rfl, rfl⟩)
 exact Su
 replace c60 := f_eq c60
 refine gD ?_; intros
 refine bB ?_
 refine xA ?_
 refine wn [1, 3, 4, 72] ?_
 refine gE ?_; intros
 refine wc (fun c72 => ?_) fun c72 => ?_
 replace c72 := t_eq c72
 refine gG ?_; intros; rename_i ops hG
 refine xF u54 ?_
 refine xG (pL u48) ?_
 refine xf (E3 Et Ev.const Ev.const) (nmsR_ct _ _ _ s.names.l 1 1 _ _ (hO.nr.mono v0 Sb) hO.nw) ?_
 refine xM ?_
 refine zG (fun _ => pF u54) ?_
 refine zG (fun hc => PO.load1 u52 rfl (Eg hc) Me rfl) ?_
 refine zG (fun hc => PO.lenSl u52 (Eg hc)) ?_
 refine zG (fun hc => PO.bin (Eg hc) Ev.const rfl) ?_
 refine xP ?_
 refine xM ?_
 refine zG (fun _ => pF u54) ?_
 refine zG (fun hc => PO.load1 u45 rfl (Eg hc) Me rfl) ?_
 refine zG (fun hc => PO.lenSl u45 (Eg hc)) ?_
 refine zG (fun hc => PO.bin (Eg hc) Ev.const rfl) ?_
 refine xP ?_
 refine xA ?_
 refine wn [1, 3, 4] ?_
 try clear hG ops
 refine gD ?_; intros
 refine xC ?_
 refine wn [1, 3, 4, 5] ?_
 refine gE ?_; intros
 refine WC.loopI [1, 3] rfl (fun μ F' h' => ∃ i : Nat, ∃ v : Bool, (i ≤ s.fs.l.length ∧ ((((each s.names.l 1 1 Go.Lx.name && decide ((s.fs.l.length : Int) ≤ 8)) && ((s.bl.length : Int) == 1)) && s.fs.l.all foP) = (v && (s.fs.l.drop i).all foP))) ∧ s.fs.l.length - i = μ ∧ F' = [(4, .bool v), (5, .int .i64 i)] ∧ spX b3 (.mk 0 s.ty s.names s.e s.cs s.vs s.fs s.ba s.bc s.bl) :: spX b1 s :: h = h') (s.fs.l.length - 0) [(4, .bool (((each s.names.l 1 1 Go.Lx.name && decide ((s.fs.l.length : Int) ≤ 8)) && ((s.bl.length : Int) == 1)))), (5, .int .i64 0)] (h0 := spX b3 (.mk 0 s.ty s.names s.e s.cs s.vs s.fs s.ba s.bc s.bl) :: spX b1 s :: h) ?_ Sb ⟨0, ((each s.names.l 1 1 Go.Lx.name && decide ((s.fs.l.length : Int) ≤ 8)) && ((s.bl.length : Int) == 1)), ⟨by omega, rfl⟩, rfl, rfl, rfl⟩ ?_
 exact Su
 rintro _ _ _ ⟨i, v, ⟨hi, hJ⟩, rfl, rfl, rfl⟩
 refine WC.frm rfl ?_
 refine gD ?_; intros
 refine xM ?_
 refine xF u54 ?_
 refine xG (pL u52) ?_
 refine xG (PO.lenSl u52 Et) ?_
 refine bD ?_
 refine wn [1, 3, 4, 5, 93] ?_
 refine gE ?_; intros
 refine wc (fun c93 => ?_) fun c93 => ?_
 replace c93 := dT c93
 obtain ⟨x, hx⟩ := get_some (l := s.fs.l) (k := i) (by omega)
 have hxw := hO.fw x (List.mem_of_getElem? hx)
 refine WC.skip (kp [1, 3, 4, 5] ?_)
 refine gG ?_; intros; rename_i ops hG
 refine xM ?_
 refine xM ?_
 refine zG (fun _ => pF u54) ?_
 refine zG (fun hc => PO.load1 u52 rfl (Eg hc) Me rfl) ?_
 refine zM ?_
 refine WL.poG (GU.t (hG _ _ rfl) rfl) (fun hc => PO.idx EL52.und EL52.size EL52.posz (Eg hc) (Eg hc) Rr rfl (by omega)) Lb ?_
 refine zG (fun hc => PO.loadFA u60 rfl rfl foE_len Rr (Eg hc) (by assumption) rfl rfl (Nat.succ_pos _)) ?_
 refine WL.callG (GU.t (hG _ _ rfl) rfl) (fun hc => ⟨Ev.func, (E1 (Eg hc)), foR_ct x hxw⟩) Lb ?_
 refine xP ?_
 refine xA ?_
 refine wn [1, 3, 4, 5] ?_
 try clear hG ops
 refine gD ?_; intros
 refine xM ?_
 refine bI ?_
 refine xA ?_
 refine WL.nil (loopBackI (s.fs.l.length - (i + 1)) [(4, .bool ((v && foP x))), (5, .int .i64 (i + 1))] (h'' := spX b3 (.mk 0 s.ty s.names s.e s.cs s.vs s.fs s.ba s.bc s.bl) :: spX b1 s :: h) (by omega) ?_ Su Sb ⟨i + 1, (v && foP x), ⟨by omega, by rw [hJ, all_at hx, Bool.and_assoc]⟩, rfl, rfl, rfl⟩)
 exact Su
 replace c93 := dF c93
 rw [List.drop_eq_nil_of_le (by omega), List.all_nil, Bool.and_true] at hJ
 refine WC.exit (kp [3, 4] ?_)
 refine gD ?_; intros
 refine xF u54 ?_
 refine xS ?_
 refine wn [3, 4] ?_
 refine gD ?_; intros
 refine xF u54 ?_
 refine xS ?_
 refine WL.nil (meetI [(4, .bool v)] (h'' := spX b3 (.mk 0 (Sp.mk 0 s.ty nilS s.e s.cs s.vs nilS none 0 []).ty s.names (Sp.mk 0 s.ty nilS s.e s.cs s.vs nilS none 0 []).e (Sp.mk 0 s.ty nilS s.e s.cs s.vs nilS none 0 []).cs (Sp.mk 0 s.ty nilS s.e s.cs s.vs nilS none 0 []).vs (Sp.mk 0 s.ty nilS s.e s.cs s.vs nilS none 0 []).fs (Sp.mk 0 s.ty nilS s.e s.cs s.vs nilS none 0 []).ba (Sp.mk 0 s.ty nilS s.e s.cs s.vs nilS none 0 []).bc (Sp.mk 0 s.ty nilS s.e s.cs s.vs nilS none 0 []).bl) :: spX b1 s :: h) ?_ Su Sb ⟨v, Sp.mk 0 s.ty nilS s.e s.cs s.vs nilS none 0 [], ⟨sk_mk hzk ⟨hO.ty, hO.e, hO.v, hO.vw, Rd.nilF foE 6 m h, no_in⟩ (Rd.nilF encB 1 m h) no_in (Rd.nilF prE 42 m h) (fun _ hx => (List.not_mem_nil hx).elim), by rw [sp_5 c72, hJ]; rfl⟩, rfl, rfl⟩)
 exact Su
 replace c72 := f_eq c72
 refine WC.skip (meetI [(4, .bool false)] (h'' := spX b3 (.mk 0 (Sp.mk 0 s.ty nilS s.e s.cs s.vs s.fs s.ba s.bc s.bl).ty s.names (Sp.mk 0 s.ty nilS s.e s.cs s.vs s.fs s.ba s.bc s.bl).e (Sp.mk 0 s.ty nilS s.e s.cs s.vs s.fs s.ba s.bc s.bl).cs (Sp.mk 0 s.ty nilS s.e s.cs s.vs s.fs s.ba s.bc s.bl).vs (Sp.mk 0 s.ty nilS s.e s.cs s.vs s.fs s.ba s.bc s.bl).fs (Sp.mk 0 s.ty nilS s.e s.cs s.vs s.fs s.ba s.bc s.bl).ba (Sp.mk 0 s.ty nilS s.e s.cs s.vs s.fs s.ba s.bc s.bl).bc (Sp.mk 0 s.ty nilS s.e s.cs s.vs s.fs s.ba s.bc s.bl).bl) :: spX b1 s :: h) ?_ Su Sb ⟨false, Sp.mk 0 s.ty nilS s.e s.cs s.vs s.fs s.ba s.bc s.bl, ⟨sk_mk hzk ⟨hO.ty, hO.e, hO.v, hO.vw, hO.fr, hO.fw⟩ (Rd.nilF encB 1 m h) no_in hO.b hS.b, sp_no c10 c22 c41 c60 c72 _⟩, rfl, rfl⟩)
 exact Su
 rintro _ _ ⟨fb, xs, hfb, rfl, rfl⟩
 refine WC.frm rfl ?_
 refine gD ?_; intros
 refine xF u54 ?_
 refine xS ?_
 refine wn [3, 4] ?_
 refine gG ?_; intros; rename_i ops hG
 refine xM ?_
 refine xM ?_
 refine zG (fun _ => pA u54) ?_
 refine zG (fun _ => PO.build u54 rfl rfl rfl EvP.nil rfl) ?_
 refine WL.callG (GU.t (hG _ _ rfl) rfl) (fun hc => ⟨Ev.func, (E2 (Eg hc) (Eg hc)), sameSpecR_ct (.mk 0 xs.ty nilS xs.e xs.cs xs.vs xs.fs xs.ba xs.bc xs.bl) (fun z hz y h m p1 p2 => sameP_ct z y h m p1 p2) zeroS _ _ (hfb.1.mono Sb) ((sk_z m h).mono Sb)⟩) Lb ?_
 refine xP ?_
 refine xA ?_
 refine wn [2] ?_
 try clear hG ops
 refine WC.ret (wR (h) ?_)
 exact ⟨by rw [hfb.2], rfl⟩
end Go.Proofs.YtdhmplmpbcnojaaGreatDoor
end
/- RvD -/
section
namespace Go.Proofs.YtdhmplmpbcnojaaGreatDoor
open Go.Eng Go.Pc Go
open Go.Xp hiding B nameT
open Go.Ty (Ty Vr eqT tyV cellT PrOk VOk encV encV_len encI encI_len eqI eqI_eq eqI_ne)
open Go.Lx (encB encB_len)
set_option maxRecDepth 100000
abbrev prX (b : Nat) (p : Pr) : Res := .pt b (.cells (prE p).toArray 56 (0, 0))
theorem pokR_mk {m : View} {h : List Res} {nm : B} {ch : Ex} {tg ex : Sli Ex} {pn : Sli Int} {sp : Sp} (hn : nm.length ≤ Big) (hc : EOk m h ch) (ht : LOk m h tg) (he : LOk m h ex) (hpn : Rd m h pn.a pn.l.length pn.c 1 (fl encN pn.l)) (hpw : ∀ x ∈ pn.l, -9223372036854775808 ≤ x ∧ x ≤ 9223372036854775807) (hs : SK m h sp) :
   POk m h (clrP nm ch tg ex pn sp) :=
 .mk ⟨by show 0 ≤ (0 : Int) ∧ (0 : Int) ≤ 255; decide, hn, hc, ht, he, Nat.zero_le _, eok_z m h, eok_z m h, Rd.nilF guE 23 m h, fun _ hx => (List.not_mem_nil hx).elim, Rd.nilF prE 42 m h, hpn, hpw, hs.o⟩ fun x hx => by cases hx with
   | l q => exact (List.not_mem_nil q).elim
   | s q => exact hs.b x q
   | g q _ => exact (List.not_mem_nil q).elim
theorem pokR_z (m : View) (h : List Res) : POk m h zeroP0 := pokR_mk (by decide) (eok_z m h) (lok_z m h) (lok_z m h) (Rd.nilF encN 1 m h) no_in (sk_z m h)
set_option maxHeartbeats 4000000 in
theorem ownR11_ct (p : Pr) (h : List Res) (m : View) (hP : POk m h p) : CT Tryz.prog 71 [prV p] h m (Pure1 h (.bool (ownP p))) := by
 have hO := hP.own
 have v0 := View.le.refl m
 have hn2 : p.name.length ≤ 9223372036854775807 := Nat.le_trans hO.n (by decide)
 have hsk := pokSk hP
 have lz := lok_z m h
 have ez := eok_z m h
 have pz : Rd m h (nilS : Sli Int).a (nilS : Sli Int).l.length (nilS : Sli Int).c 1 (fl encN (nilS : Sli Int).l) := Rd.nilF encN 1 m h
 have pf := hO.pn
 have pfm := pf.mx
 have pfl := pf.le
 have chE : ∀ h', h.Sublist h' → EOk m h' p.ch := fun h' hs => hO.ch.mono hs
 refine CT.body Tryz.call71 Tryz.func71 rfl Tryz.ntmps71 Lb rfl ?_
 refine gD ?_; intros
 refine xX fun b1 => ?_
 refine xC ?_
 refine wn [1] ?_
 refine gD ?_; intros
 refine xG (pA u56) ?_
 refine xW fun b3 => ?_
 refine xS ?_
 refine wn [1, 3] ?_
 refine gD ?_; intros
 refine xF u56 ?_
 refine xS ?_
 refine wn [1, 3] ?_
 refine gD ?_; intros
 refine xF u56 ?_
 refine xS ?_
 refine wn [1, 3] ?_
 refine gD ?_; intros
 refine xF u56 ?_
 refine xS ?_
 refine wn [1, 3] ?_
 refine gD ?_; intros
 refine xG (PO.build u43 rfl rfl rfl EvP.nil rfl) ?_
 refine xF u56 ?_
 refine xS ?_
 refine wn [1, 3] ?_
 refine gD ?_; intros
 refine xC ?_
 refine wn [1, 3, 4] ?_
 refine gD ?_; intros
 refine xF u56 ?_
 refine xF u43 ?_
 refine xG (pL u9) ?_
 refine xG (PO.neqS Et Ev.const) ?_
 refine xA ?_
 refine wn [1, 3, 4, 5] ?_
 refine gD ?_; intros
 refine xC ?_
 refine wn [1, 3, 4, 5, 6] ?_
 refine gD ?_; intros
 refine xC ?_
 refine wn [1, 3, 4, 5, 6, 7] ?_
 refine gD ?_; intros
 refine xM ?_
 refine wn [1, 3, 4, 5, 6, 7, 21] ?_
 (repeat refine WC.seqK fun K hK => ?_)
 refine WC.cutK (by assumption) [1, 3, 4, 5] rfl (fun F' h' => ∃ mo : Int, ∃ le : Int, (mo = (if (p.rep.name == []) = true then 16 else 1) ∧ le = (if (p.rep.name == []) = true then 0 else 1)) ∧ F' = [(6, .int .i64 mo), (7, .int .i64 le)] ∧ prX b3 (clrP p.name p.ch p.tg p.ex p.pn p.sp) :: prX b1 p :: h = h') ?_ ?_
 refine gE ?_; intros
 refine wc (fun c21 => ?_) fun c21 => ?_
 have c21n : (p.rep.name == []) = false := by simpa using c21
 refine gD ?_; intros
 refine xC ?_
 refine wn [1, 3, 4, 5, 6] ?_
 refine gD ?_; intros
 refine xC ?_
 refine WL.nil (meetI [(6, .int .i64 1), (7, .int .i64 1)] (h'' := prX b3 (clrP p.name p.ch p.tg p.ex p.pn p.sp) :: prX b1 p :: h) ?_ Su Sb ⟨1, 1, (by rw [c21n]; exact ⟨rfl, rfl⟩), rfl, rfl⟩)
 exact Su
 have c21n : (p.rep.name == []) = true := by simpa using c21
 refine WC.skip (meetI [(6, .int .i64 16), (7, .int .i64 0)] (h'' := prX b3 (clrP p.name p.ch p.tg p.ex p.pn p.sp) :: prX b1 p :: h) ?_ Su Sb ⟨16, 0, (by rw [c21n]; exact ⟨rfl, rfl⟩), rfl, rfl⟩)
 exact Su
 rintro _ _ ⟨mo, le, hml, rfl, rfl⟩
 refine WC.frm rfl ?_
 refine gD ?_; intros
 refine xF u56 ?_
 refine xG (pL u45) ?_
 refine xG (PO.lenSl u45 Et) ?_
 refine bB ?_
 refine xA ?_
 refine wn [1, 3, 4, 5, 6, 7, 8] ?_
 refine gD ?_; intros
 refine xF u56 ?_
 refine xG (pL u44) ?_
 refine xG (PO.lenSl u44 Et) ?_
 refine bB ?_
 refine xA ?_
 refine wn [1, 3, 4, 5, 6, 7, 8, 9] ?_
 refine gD ?_; intros
 refine xF u56 ?_
 refine xG (pL u41) ?_
 refine wn [1, 3, 4, 5, 6, 7, 8, 9, 31] ?_
 (repeat refine WC.seqK fun K hK => ?_)
 refine WC.cutK (by assumption) [1, 3] rfl (fun F' h' => ∃ fb : Bool, ∃ pb : Bool, ∃ gb : Bool, ∃ xp : Pr, (POk m h xp ∧ ownP p = ((((fb && pb) && gb) && repP p.rep) && sameP xp zeroP0)) ∧ F' = [(4, .bool fb), (8, .bool pb), (9, .bool gb)] ∧ prX b3 xp :: prX b1 p :: h = h') ?_ ?_
 refine gD ?_; intros
 refine bB ?_
 refine xA ?_
 refine wn [1, 3, 4, 5, 6, 7, 8, 9, 31, 32] ?_
 (repeat refine WC.seqK fun K hK => ?_)
 refine WC.cutK (by assumption) [1, 3, 4, 5, 6, 7, 8, 9, 31] rfl (fun F' h' => ∃ b18 : Bool, ((b18 = true ↔ (p.k = 1 ∨ p.k = 2))) ∧ F' = [(32, .bool b18)] ∧ prX b3 (clrP p.name p.ch p.tg p.ex p.pn p.sp) :: prX b1 p :: h = h') ?_ ?_
 refine gE ?_; intros
 refine wc (fun c32 => ?_) fun c32 => ?_
 replace c32 := t_eq c32
 refine WC.skip (meetI [(32, .bool ((p.k == 1)))] (h'' := prX b3 (clrP p.name p.ch p.tg p.ex p.pn p.sp) :: prX b1 p :: h) ?_ Su Sb ⟨(p.k == 1), ⟨fun _ => .inl c32, fun _ => by simpa using c32⟩, rfl, rfl⟩)
 exact Su
 replace c32 := f_eq c32
 refine gD ?_; intros
 refine bB ?_
 refine xA ?_
 refine WL.nil (meetI [(32, .bool ((p.k == 2)))] (h'' := prX b3 (clrP p.name p.ch p.tg p.ex p.pn p.sp) :: prX b1 p :: h) ?_ Su Sb ⟨(p.k == 2), ⟨fun hk => .inr (by simpa using hk), fun hk => hk.elim (fun h1 => absurd h1 c32) (fun h1 => by simpa using h1)⟩, rfl, rfl⟩)
 exact Su
 rintro _ _ ⟨b18, hb18, rfl, rfl⟩
 refine WC.frm rfl ?_
 refine gE ?_; intros
 refine wc (fun c32 => ?_) fun c32 => ?_
 have hk32 := hb18.1 c32
 refine gD ?_; intros
 refine xM ?_
 refine xG (PO.not Et) ?_
 refine xA ?_
 refine WL.nil (meetI [(4, .bool ((!(!(p.rep.name == []))))), (8, .bool (((p.ll.length : Int) == 0))), (9, .bool (((p.gl.length : Int) == 0)))] (h'' := prX b3 (clrP p.name p.ch p.tg p.ex p.pn p.sp) :: prX b1 p :: h) ?_ Su Sb ⟨(!(!(p.rep.name == []))), ((p.ll.length : Int) == 0), ((p.gl.length : Int) == 0), clrP p.name p.ch p.tg p.ex p.pn p.sp, ⟨pokR_mk hO.n hO.ch hO.tg hO.ex hO.pn hO.pw hsk, own_12 hk32⟩, rfl, rfl⟩)
 exact Su
 have nk32 : ¬ (p.k = 1 ∨ p.k = 2) := fun q => by rw [hb18.2 q] at c32; cases c32
 refine gD ?_; intros
 refine bB ?_
 refine xA ?_
 refine wn [1, 3, 4, 5, 6, 7, 8, 9, 31, 37] ?_
 refine gE ?_; intros
 refine wc (fun c37 => ?_) fun c37 => ?_
 replace c37 := t_eq c37
 refine gG ?_; intros; rename_i ops hG
 refine xM ?_
 refine xG (PO.not Et) ?_
 refine xM ?_
 refine zG (fun _ => pF u56) ?_
 refine zG (fun hc => PO.load1 u25 rfl (Eg hc) Me rfl) ?_
 refine WL.callG (GU.t (hG _ _ rfl) rfl) (fun hc => ⟨Ev.func, (E3 (Eg hc) Ev.const Ev.const), elmsR_ct _ _ _ p.tg.l 1 8 _ _ (hO.tg.rd.mono v0 Sb) (fun x hx => (hO.tg.ok x hx).mono Sb)⟩) Lb ?_
 refine xP ?_
 refine xM ?_
 refine zG (fun _ => pF u56) ?_
 refine zG (fun hc => PO.load1 u25 rfl (Eg hc) Me rfl) ?_
 refine WL.callG (GU.t (hG _ _ rfl) rfl) (fun hc => ⟨Ev.func, (E3 (Eg hc) Ev.const Ev.const), exsR_ct _ _ _ p.ex.l 1 8 _ _ (hO.ex.rd.mono v0 Sb) (fun x hx => (hO.ex.ok x hx).mono Sb)⟩) Lb ?_
 refine xP ?_
 refine xA ?_
 refine wn [1, 3, 4, 8, 9] ?_
 try clear hG ops
 refine gD ?_; intros
 refine xF u56 ?_
 refine xS ?_
 refine wn [1, 3, 4, 8, 9] ?_
 refine gD ?_; intros
 refine xF u56 ?_
 refine xS ?_
 refine WL.nil (meetI [(4, .bool ((((!(!(p.rep.name == []))) && each p.tg.l 1 8 elemE) && each p.ex.l 1 8 mayE))), (8, .bool (((p.ll.length : Int) == 0))), (9, .bool (((p.gl.length : Int) == 0)))] (h'' := prX b3 (clrP p.name p.ch nilS nilS p.pn p.sp) :: prX b1 p :: h) ?_ Su Sb ⟨(((!(!(p.rep.name == []))) && each p.tg.l 1 8 elemE) && each p.ex.l 1 8 mayE), ((p.ll.length : Int) == 0), ((p.gl.length : Int) == 0), clrP p.name p.ch nilS nilS p.pn p.sp, ⟨pokR_mk hO.n hO.ch lz lz hO.pn hO.pw hsk, own_3 c37⟩, rfl, rfl⟩)
 exact Su
 replace c37 := f_eq c37
 refine gD ?_; intros
 refine bB ?_
 refine xA ?_
 refine wn [1, 3, 4, 5, 6, 7, 8, 9, 31, 53] ?_
 refine gE ?_; intros
 refine wc (fun c53 => ?_) fun c53 => ?_
 replace c53 := t_eq c53
 refine gG ?_; intros; rename_i ops hG
 refine xM ?_
 refine xG (PO.not Et) ?_
 refine xM ?_
 refine zG (fun _ => pF u56) ?_
 refine zG (fun hc => PO.loadA u27 rfl rfl (Eg hc) Me rfl) ?_
 refine WL.callG (GU.t (hG _ _ rfl) rfl) (fun hc => ⟨Ev.func, (E1 (Eg hc)), elemR_ct p.ch (chE _ Sb)⟩) Lb ?_
 refine xP ?_
 refine xM ?_
 refine zG (fun _ => pF u56) ?_
 refine zG (fun hc => PO.load1 u25 rfl (Eg hc) Me rfl) ?_
 refine WL.callG (GU.t (hG _ _ rfl) rfl) (fun hc => ⟨Ev.func, (E3 (Eg hc) Ev.const Ev.const), elmsR_ct _ _ _ p.tg.l 1 8 _ _ (hO.tg.rd.mono v0 Sb) (fun x hx => (hO.tg.ok x hx).mono Sb)⟩) Lb ?_
 refine xP ?_
 refine xA ?_
 refine wn [1, 3, 4, 8, 9] ?_
 try clear hG ops
 refine gD ?_; intros
 refine xG (PO.build u27 rfl rfl rfl EvP.nil rfl) ?_
 refine xF u56 ?_
 refine xS ?_
 refine wn [1, 3, 4, 8, 9] ?_
 refine gD ?_; intros
 refine xF u56 ?_
 refine xS ?_
 refine WL.nil (meetI [(4, .bool ((((!(!(p.rep.name == []))) && elemE p.ch) && each p.tg.l 1 8 elemE))), (8, .bool (((p.ll.length : Int) == 0))), (9, .bool (((p.gl.length : Int) == 0)))] (h'' := prX b3 (clrP p.name zeroE nilS p.ex p.pn p.sp) :: prX b1 p :: h) ?_ Su Sb ⟨(((!(!(p.rep.name == []))) && elemE p.ch) && each p.tg.l 1 8 elemE), ((p.ll.length : Int) == 0), ((p.gl.length : Int) == 0), clrP p.name zeroE nilS p.ex p.pn p.sp, ⟨pokR_mk hO.n ez lz hO.ex hO.pn hO.pw hsk, own_4 c53⟩, rfl, rfl⟩)
 exact Su
 replace c53 := f_eq c53
 refine gD ?_; intros
 refine bB ?_
 refine xA ?_
 refine wn [1, 3, 4, 5, 6, 7, 8, 9, 31, 70] ?_
 refine gE ?_; intros
 refine wc (fun c70 => ?_) fun c70 => ?_
 replace c70 := t_eq c70
 refine gG ?_; intros; rename_i ops hG
 refine xM ?_
 refine xG (PO.not Et) ?_
 refine xM ?_
 refine zG (fun _ => pF u56) ?_
 refine zG (fun hc => PO.loadA u27 rfl rfl (Eg hc) Me rfl) ?_
 refine WL.callG (GU.t (hG _ _ rfl) rfl) (fun hc => ⟨Ev.func, (E1 (Eg hc)), elemR_ct p.ch (chE _ Sb)⟩) Lb ?_
 refine xP ?_
 refine xM ?_
 refine zG (fun _ => pF u56) ?_
 refine zG (fun hc => PO.load1 u25 rfl (Eg hc) Me rfl) ?_
 refine WL.callG (GU.t (hG _ _ rfl) rfl) (fun hc => ⟨Ev.func, (E3 (Eg hc) Ev.const Ev.const), exsR_ct _ _ _ p.ex.l 1 9 _ _ (hO.ex.rd.mono v0 Sb) (fun x hx => (hO.ex.ok x hx).mono Sb)⟩) Lb ?_
 refine xP ?_
 refine xA ?_
 refine wn [1, 3, 4, 8, 9] ?_
 try clear hG ops
 refine gD ?_; intros
 refine xG (PO.build u27 rfl rfl rfl EvP.nil rfl) ?_
 refine xF u56 ?_
 refine xS ?_
 refine wn [1, 3, 4, 8, 9] ?_
 refine gD ?_; intros
 refine xF u56 ?_
 refine xS ?_
 refine WL.nil (meetI [(4, .bool ((((!(!(p.rep.name == []))) && elemE p.ch) && each p.ex.l 1 9 mayE))), (8, .bool (((p.ll.length : Int) == 0))), (9, .bool (((p.gl.length : Int) == 0)))] (h'' := prX b3 (clrP p.name zeroE p.tg nilS p.pn p.sp) :: prX b1 p :: h) ?_ Su Sb ⟨(((!(!(p.rep.name == []))) && elemE p.ch) && each p.ex.l 1 9 mayE), ((p.ll.length : Int) == 0), ((p.gl.length : Int) == 0), clrP p.name zeroE p.tg nilS p.pn p.sp, ⟨pokR_mk hO.n ez hO.tg lz hO.pn hO.pw hsk, own_5 c70⟩, rfl, rfl⟩)
 exact Su
 replace c70 := f_eq c70
 refine gD ?_; intros
 refine bB ?_
 refine xA ?_
 refine wn [1, 3, 4, 5, 6, 7, 8, 9, 31, 87] ?_
 refine gE ?_; intros
 refine wc (fun c87 => ?_) fun c87 => ?_
 replace c87 := t_eq c87
 refine gG ?_; intros; rename_i ops hG
 refine xM ?_
 refine xG (PO.not Et) ?_
 refine xM ?_
 refine zG (fun _ => pF u56) ?_
 refine zG (fun hc => PO.loadA u27 rfl rfl (Eg hc) Me rfl) ?_
 refine WL.callG (GU.t (hG _ _ rfl) rfl) (fun hc => ⟨Ev.func, (E1 (Eg hc)), elemR_ct p.ch (chE _ Sb)⟩) Lb ?_
 refine xP ?_
 refine xM ?_
 refine zG (fun _ => pF u56) ?_
 refine zG (fun hc => PO.load1 u25 rfl (Eg hc) Me rfl) ?_
 refine WL.callG (GU.t (hG _ _ rfl) rfl) (fun hc => ⟨Ev.func, (E3 (Eg hc) Ev.const Ev.const), exsR_ct _ _ _ p.ex.l 1 1 _ _ (hO.ex.rd.mono v0 Sb) (fun x hx => (hO.ex.ok x hx).mono Sb)⟩) Lb ?_
 refine xP ?_
 refine xA ?_
 refine wn [1, 3, 4, 8, 9] ?_
 try clear hG ops
 refine gD ?_; intros
 refine xG (PO.build u27 rfl rfl rfl EvP.nil rfl) ?_
 refine xF u56 ?_
 refine xS ?_
 refine wn [1, 3, 4, 8, 9] ?_
 refine gD ?_; intros
 refine xF u56 ?_
 refine xS ?_
 refine WL.nil (meetI [(4, .bool ((((!(!(p.rep.name == []))) && elemE p.ch) && each p.ex.l 1 1 mayE))), (8, .bool (((p.ll.length : Int) == 0))), (9, .bool (((p.gl.length : Int) == 0)))] (h'' := prX b3 (clrP p.name zeroE p.tg nilS p.pn p.sp) :: prX b1 p :: h) ?_ Su Sb ⟨(((!(!(p.rep.name == []))) && elemE p.ch) && each p.ex.l 1 1 mayE), ((p.ll.length : Int) == 0), ((p.gl.length : Int) == 0), clrP p.name zeroE p.tg nilS p.pn p.sp, ⟨pokR_mk hO.n ez hO.tg lz hO.pn hO.pw hsk, own_6 c87⟩, rfl, rfl⟩)
 exact Su
 replace c87 := f_eq c87
 refine gD ?_; intros
 refine bB ?_
 refine xA ?_
 refine wn [1, 3, 4, 5, 6, 7, 8, 9, 31, 104] ?_
 refine gE ?_; intros
 refine wc (fun c104 => ?_) fun c104 => ?_
 replace c104 := t_eq c104
 refine gG ?_; intros; rename_i ops hG
 refine xM ?_
 refine xG (PO.not Et) ?_
 refine xM ?_
 refine zG (fun _ => pF u56) ?_
 refine zG (fun hc => PO.loadA u27 rfl rfl (Eg hc) Me rfl) ?_
 refine WL.callG (GU.t (hG _ _ rfl) rfl) (fun hc => ⟨Ev.func, (E1 (Eg hc)), elemR_ct p.ch (chE _ Sb)⟩) Lb ?_
 refine xP ?_
 refine xA ?_
 refine wn [1, 3, 4, 8] ?_
 try clear hG ops
 refine gD ?_; intros
 refine xF u56 ?_
 refine xG (pL u44) ?_
 refine WL.callP Ev.func (Evs.cons Et (Evs.cons Ev.const (Evs.cons Ev.const (Evs.cons Ev.const (Evs.cons Ev.const Evs.nil))))) (guardsR_ct _ _ _ p.gl 1 16 7 7 _ _ (hO.g.mono v0 Sb) (fun x hx => (pokGk hP x hx).mono Sb)) Lb ?_
 refine xA ?_
 refine wn [1, 3, 4, 8, 9] ?_
 refine gD ?_; intros
 refine xG (PO.build u27 rfl rfl rfl EvP.nil rfl) ?_
 refine xF u56 ?_
 refine xS ?_
 refine WL.nil (meetI [(4, .bool (((!(!(p.rep.name == []))) && elemE p.ch))), (8, .bool (((p.ll.length : Int) == 0))), (9, .bool (each p.gl 1 16 (gQ 7 7)))] (h'' := prX b3 (clrP p.name zeroE p.tg p.ex p.pn p.sp) :: prX b1 p :: h) ?_ Su Sb ⟨((!(!(p.rep.name == []))) && elemE p.ch), ((p.ll.length : Int) == 0), each p.gl 1 16 (gQ 7 7), clrP p.name zeroE p.tg p.ex p.pn p.sp, ⟨pokR_mk hO.n ez hO.tg hO.ex hO.pn hO.pw hsk, own_7 c104⟩, rfl, rfl⟩)
 exact Su
 replace c104 := f_eq c104
 refine gD ?_; intros
 refine bB ?_
 refine xA ?_
 refine wn [1, 3, 4, 5, 6, 7, 8, 9, 31, 118] ?_
 (repeat refine WC.seqK fun K hK => ?_)
 refine WC.cutK (by assumption) [1, 3, 4, 5, 6, 7, 8, 9, 31] rfl (fun F' h' => ∃ b41 : Bool, ((b41 = true ↔ (p.k = 8 ∨ p.k = 9))) ∧ F' = [(118, .bool b41)] ∧ prX b3 (clrP p.name p.ch p.tg p.ex p.pn p.sp) :: prX b1 p :: h = h') ?_ ?_
 refine gE ?_; intros
 refine wc (fun c118 => ?_) fun c118 => ?_
 replace c118 := t_eq c118
 refine WC.skip (meetI [(118, .bool ((p.k == 8)))] (h'' := prX b3 (clrP p.name p.ch p.tg p.ex p.pn p.sp) :: prX b1 p :: h) ?_ Su Sb ⟨(p.k == 8), ⟨fun _ => .inl c118, fun _ => by simpa using c118⟩, rfl, rfl⟩)
 exact Su
 replace c118 := f_eq c118
 refine gD ?_; intros
 refine bB ?_
 refine xA ?_
 refine WL.nil (meetI [(118, .bool ((p.k == 9)))] (h'' := prX b3 (clrP p.name p.ch p.tg p.ex p.pn p.sp) :: prX b1 p :: h) ?_ Su Sb ⟨(p.k == 9), ⟨fun hk => .inr (by simpa using hk), fun hk => hk.elim (fun h1 => absurd h1 c118) (fun h1 => by simpa using h1)⟩, rfl, rfl⟩)
 exact Su
 rintro _ _ ⟨b41, hb41, rfl, rfl⟩
 refine WC.frm rfl ?_
 refine gE ?_; intros
 refine wc (fun c118 => ?_) fun c118 => ?_
 have hk118 := hb41.1 c118
 refine gD ?_; intros
 refine xC ?_
 refine wn [1, 3, 4, 5, 9] ?_
 refine gG ?_; intros; rename_i ops hG
 refine xM ?_
 refine xG (PO.not Et) ?_
 refine xM ?_
 refine zG (fun _ => pF u56) ?_
 refine zG (fun hc => PO.load1 u45 rfl (Eg hc) Me rfl) ?_
 refine zG (fun hc => PO.lenSl u45 (Eg hc)) ?_
 refine zG (fun hc => PO.bin (Eg hc) Ev.const rfl) ?_
 refine xQ ?_
 refine xA ?_
 refine WL.nil (meetI [(4, .bool true), (8, .bool ((((!(!(p.rep.name == [])))) || ((p.ll.length : Int) == 1)))), (9, .bool (((p.gl.length : Int) == 0)))] (h'' := prX b3 (clrP p.name p.ch p.tg p.ex p.pn p.sp) :: prX b1 p :: h) ?_ Su Sb ⟨true, (((!(!(p.rep.name == [])))) || ((p.ll.length : Int) == 1)), ((p.gl.length : Int) == 0), clrP p.name p.ch p.tg p.ex p.pn p.sp, ⟨pokR_mk hO.n hO.ch hO.tg hO.ex hO.pn hO.pw hsk, own_89 hk118⟩, rfl, rfl⟩)
 exact Su
 have nk118 : ¬ (p.k = 8 ∨ p.k = 9) := fun q => by rw [hb41.2 q] at c118; cases c118
 refine gD ?_; intros
 refine bB ?_
 refine xA ?_
 refine wn [1, 3, 4, 5, 6, 7, 8, 9, 31, 129] ?_
 refine gE ?_; intros
 refine wc (fun c129 => ?_) fun c129 => ?_
 replace c129 := t_eq c129
 refine gD ?_; intros
 refine xM ?_
 refine xG (PO.not Et) ?_
 refine xA ?_
 refine wn [1, 3, 4, 9] ?_
 refine gD ?_; intros
 refine xF u56 ?_
 refine xG (pL u45) ?_
 refine xG (PO.lenSl u45 Et) ?_
 refine bB ?_
 refine xA ?_
 refine WL.nil (meetI [(4, .bool ((!(!(p.rep.name == []))))), (8, .bool (((p.ll.length : Int) == 2))), (9, .bool (((p.gl.length : Int) == 0)))] (h'' := prX b3 (clrP p.name p.ch p.tg p.ex p.pn p.sp) :: prX b1 p :: h) ?_ Su Sb ⟨(!(!(p.rep.name == []))), ((p.ll.length : Int) == 2), ((p.gl.length : Int) == 0), clrP p.name p.ch p.tg p.ex p.pn p.sp, ⟨pokR_mk hO.n hO.ch hO.tg hO.ex hO.pn hO.pw hsk, own_10 c129⟩, rfl, rfl⟩)
 exact Su
 replace c129 := f_eq c129
 refine gD ?_; intros
 refine bB ?_
 refine xA ?_
 refine wn [1, 3, 4, 5, 6, 7, 8, 9, 31, 137] ?_
 refine gE ?_; intros
 refine wc (fun c137 => ?_) fun c137 => ?_
 replace c137 := t_eq c137
 refine gG ?_; intros; rename_i ops hG
 refine xM ?_
 refine xG (PO.not Et) ?_
 refine xM ?_
 refine zG (fun _ => pF u56) ?_
 refine zG (fun hc => PO.load1 u46 rfl (Eg hc) Me rfl) ?_
 refine zG (fun hc => PO.lenSl u46 (Eg hc)) ?_
 refine zG (fun _ => pF u56) ?_
 refine zG (fun hc => PO.load1 u45 rfl (Eg hc) Me rfl) ?_
 refine zG (fun hc => PO.lenSl u45 (Eg hc)) ?_
 refine zG (fun hc => PO.bin (Eg hc) (Eg hc) rfl) ?_
 refine xP ?_
 refine xA ?_
 refine wn [1, 3, 4, 9] ?_
 try clear hG ops
 refine gD ?_; intros
 refine xC ?_
 refine wn [1, 3, 4, 9, 10] ?_
 refine gE ?_; intros
 refine WC.loopI [1, 3, 9] rfl (fun μ F' h' => ∃ i : Nat, ∃ v : Bool, (i ≤ p.pn.l.length ∧ ((p.pn.l.length ≤ 8 → (((!(!(p.rep.name == []))) && ((p.pn.l.length : Int) == (p.ll.length : Int))) && p.pn.l.all okN) = (v && (p.pn.l.drop i).all okN)) ∧ (¬ p.pn.l.length ≤ 8 → v = ((!(!(p.rep.name == []))) && ((p.pn.l.length : Int) == (p.ll.length : Int)))))) ∧ p.pn.l.length - i = μ ∧ F' = [(4, .bool v), (10, .int .i64 i)] ∧ prX b3 (clrP p.name p.ch p.tg p.ex p.pn p.sp) :: prX b1 p :: h = h') (p.pn.l.length - 0) [(4, .bool (((!(!(p.rep.name == []))) && ((p.pn.l.length : Int) == (p.ll.length : Int))))), (10, .int .i64 0)] (h0 := prX b3 (clrP p.name p.ch p.tg p.ex p.pn p.sp) :: prX b1 p :: h) ?_ Sb ⟨0, ((!(!(p.rep.name == []))) && ((p.pn.l.length : Int) == (p.ll.length : Int))), ⟨by omega, fun _ => rfl, fun _ => rfl⟩, rfl, rfl, rfl⟩ ?_
 exact Su
 rintro _ _ _ ⟨i, v, ⟨hi, hJ, hN⟩, rfl, rfl, rfl⟩
 refine WC.frm rfl ?_
 refine gG ?_; intros; rename_i ops hG
 refine xM ?_
 refine xF u56 ?_
 refine xG (pL u46) ?_
 refine xG (PO.lenSl u46 Et) ?_
 refine bD ?_
 refine xM ?_
 refine zG (fun _ => pF u56) ?_
 refine zG (fun hc => PO.load1 u46 rfl (Eg hc) Me rfl) ?_
 refine zG (fun hc => PO.lenSl u46 (Eg hc)) ?_
 refine zG (fun hc => PO.bin (Eg hc) Ev.const rfl) ?_
 refine xP ?_
 refine wn [1, 3, 4, 9, 10, 160] ?_
 try clear hG ops
 refine gE ?_; intros
 refine wc (fun c160 => ?_) fun c160 => ?_
 have d160 : i < p.pn.l.length ∧ p.pn.l.length ≤ 8 := by simp at c160; omega
 obtain ⟨x, hx⟩ := get_some (l := p.pn.l) (k := i) (by omega)
 refine WC.skip (kp [1, 3, 4, 9, 10] ?_)
 refine gG ?_; intros; rename_i ops hG
 refine xM ?_
 refine xM ?_
 refine zG (fun _ => pF u56) ?_
 refine zG (fun hc => PO.load1 u46 rfl (Eg hc) Me rfl) ?_
 refine zM ?_
 refine WL.poG (GU.t (hG _ _ rfl) rfl) (fun hc => PO.idx EL46.und EL46.size EL46.posz (Eg hc) (Eg hc) Rr rfl (by omega)) Lb ?_
 refine zG (fun hc => PO.loadF1 u3 rfl encN_len Rr (Eg hc) (by assumption) rfl) ?_
 refine zG (fun hc => PO.bin (Eg hc) Ev.const rfl) ?_
 refine xP ?_
 refine xM ?_
 refine zG (fun _ => pF u56) ?_
 refine zG (fun hc => PO.load1 u46 rfl (Eg hc) Me rfl) ?_
 refine zM ?_
 refine WL.poG (GU.t (hG _ _ rfl) rfl) (fun hc => PO.idx EL46.und EL46.size EL46.posz (Eg hc) (Eg hc) Rr rfl (by omega)) Lb ?_
 refine zG (fun hc => PO.loadF1 u3 rfl encN_len Rr (Eg hc) (by assumption) rfl) ?_
 refine zG (fun hc => PO.bin (Eg hc) Ev.const rfl) ?_
 refine xP ?_
 refine xA ?_
 refine wn [1, 3, 4, 9, 10] ?_
 try clear hG ops
 refine gD ?_; intros
 refine xM ?_
 refine bI ?_
 refine xA ?_
 refine WL.nil (loopBackI (p.pn.l.length - (i + 1)) [(4, .bool (((v && decide (x ≥ 0)) && decide (x ≤ 7)))), (10, .int .i64 (i + 1))] (h'' := prX b3 (clrP p.name p.ch p.tg p.ex p.pn p.sp) :: prX b1 p :: h) (by omega) ?_ Su Sb ⟨i + 1, ((v && decide (x ≥ 0)) && decide (x ≤ 7)), ⟨by omega, fun h8 => by rw [hJ h8, all_at hx]; unfold okN; rw [Bool.and_assoc, Bool.and_assoc, Bool.and_assoc], fun h8 => absurd d160.2 h8⟩, rfl, rfl, rfl⟩)
 exact Su
 have d160 : ¬ (i < p.pn.l.length ∧ p.pn.l.length ≤ 8) := fun q => by
   have q1 : (i : Int) < (p.pn.l.length : Int) := by omega
   have q2 : (p.pn.l.length : Int) ≤ 8 := by omega
   simp [q1, q2] at c160
 have hJ2 : p.pn.l.length ≤ 8 → v = (((!(!(p.rep.name == []))) && ((p.pn.l.length : Int) == (p.ll.length : Int))) && p.pn.l.all okN) := fun h8 => by rw [hJ h8, List.drop_eq_nil_of_le (by omega)]; simp
 refine WC.exit (kp [1, 3, 4, 9] ?_)
 refine gG ?_; intros; rename_i ops hG
 refine xF u56 ?_
 refine xG (pL u45) ?_
 refine xG (PO.lenSl u45 Et) ?_
 refine bB ?_
 refine xM ?_
 refine zG (fun _ => pF u56) ?_
 refine zG (fun hc => PO.load1 u45 rfl (Eg hc) Me rfl) ?_
 refine zG (fun hc => PO.lenSl u45 (Eg hc)) ?_
 refine zG (fun hc => PO.bin (Eg hc) Ev.const rfl) ?_
 refine xP ?_
 refine xA ?_
 refine wn [1, 3, 4, 8, 9] ?_
 try clear hG ops
 refine gD ?_; intros
 refine xF u56 ?_
 refine xS ?_
 refine WL.nil (meetI [(4, .bool v), (8, .bool ((decide ((p.ll.length : Int) ≥ 1) && decide ((p.ll.length : Int) ≤ 8)))), (9, .bool (((p.gl.length : Int) == 0)))] (h'' := prX b3 (clrP p.name p.ch p.tg p.ex nilS p.sp) :: prX b1 p :: h) ?_ Su Sb ⟨v, (decide ((p.ll.length : Int) ≥ 1) && decide ((p.ll.length : Int) ≤ 8)), ((p.gl.length : Int) == 0), clrP p.name p.ch p.tg p.ex nilS p.sp, ⟨pokR_mk hO.n hO.ch hO.tg hO.ex pz no_in hsk, own_11 c137 hJ2 hN⟩, rfl, rfl⟩)
 exact Su
 replace c137 := f_eq c137
 refine gD ?_; intros
 refine bB ?_
 refine xA ?_
 refine wn [1, 3, 4, 5, 6, 7, 8, 9, 31, 191] ?_
 (repeat refine WC.seqK fun K hK => ?_)
 refine WC.cutK (by assumption) [1, 3, 4, 5, 6, 7, 8, 9, 31] rfl (fun F' h' => ∃ b56 : Bool, ((b56 = true ↔ (p.k = 12 ∨ p.k = 13))) ∧ F' = [(191, .bool b56)] ∧ prX b3 (clrP p.name p.ch p.tg p.ex p.pn p.sp) :: prX b1 p :: h = h') ?_ ?_
 refine gE ?_; intros
 refine wc (fun c191 => ?_) fun c191 => ?_
 replace c191 := t_eq c191
 refine WC.skip (meetI [(191, .bool ((p.k == 12)))] (h'' := prX b3 (clrP p.name p.ch p.tg p.ex p.pn p.sp) :: prX b1 p :: h) ?_ Su Sb ⟨(p.k == 12), ⟨fun _ => .inl c191, fun _ => by simpa using c191⟩, rfl, rfl⟩)
 exact Su
 replace c191 := f_eq c191
 refine gD ?_; intros
 refine bB ?_
 refine xA ?_
 refine WL.nil (meetI [(191, .bool ((p.k == 13)))] (h'' := prX b3 (clrP p.name p.ch p.tg p.ex p.pn p.sp) :: prX b1 p :: h) ?_ Su Sb ⟨(p.k == 13), ⟨fun hk => .inr (by simpa using hk), fun hk => hk.elim (fun h1 => absurd h1 c191) (fun h1 => by simpa using h1)⟩, rfl, rfl⟩)
 exact Su
 rintro _ _ ⟨b56, hb56, rfl, rfl⟩
 refine WC.frm rfl ?_
 refine gE ?_; intros
 refine wc (fun c191 => ?_) fun c191 => ?_
 have hk191 := hb56.1 c191
 refine gD ?_; intros
 refine xC ?_
 refine wn [1, 3, 4, 6, 7, 8] ?_
 refine gD ?_; intros
 refine xF u56 ?_
 refine xG (pL u44) ?_
 refine xM ?_
 refine xM ?_
 refine WL.callP Ev.func (Evs.cons Et (Evs.cons Et (Evs.cons Et (Evs.cons Ev.const (Evs.cons Ev.const Evs.nil))))) (guardsR_ct _ _ _ p.gl le mo 2 4 _ _ (hO.g.mono v0 Sb) (fun x hx => (pokGk hP x hx).mono Sb)) Lb ?_
 refine xA ?_
 refine WL.nil (meetI [(4, .bool true), (8, .bool (((p.ll.length : Int) == 0))), (9, .bool (each p.gl le mo (gQ 2 4)))] (h'' := prX b3 (clrP p.name p.ch p.tg p.ex p.pn p.sp) :: prX b1 p :: h) ?_ Su Sb ⟨true, ((p.ll.length : Int) == 0), each p.gl le mo (gQ 2 4), clrP p.name p.ch p.tg p.ex p.pn p.sp, ⟨pokR_mk hO.n hO.ch hO.tg hO.ex hO.pn hO.pw hsk, own_1213 hk191 hml⟩, rfl, rfl⟩)
 exact Su
 have nk191 : ¬ (p.k = 12 ∨ p.k = 13) := fun q => by rw [hb56.2 q] at c191; cases c191
 refine gD ?_; intros
 refine bB ?_
 refine xA ?_
 refine wn [1, 3, 4, 5, 6, 7, 8, 9, 31, 199] ?_
 refine gE ?_; intros
 refine wc (fun c199 => ?_) fun c199 => ?_
 replace c199 := t_eq c199
 refine gD ?_; intros
 refine xC ?_
 refine wn [1, 3, 4, 6, 7, 8] ?_
 refine gD ?_; intros
 refine xF u56 ?_
 refine xG (pL u44) ?_
 refine xM ?_
 refine xM ?_
 refine WL.callP Ev.func (Evs.cons Et (Evs.cons Et (Evs.cons Et (Evs.cons Ev.const (Evs.cons Ev.const Evs.nil))))) (guardsR_ct _ _ _ p.gl le mo 1 1 _ _ (hO.g.mono v0 Sb) (fun x hx => (pokGk hP x hx).mono Sb)) Lb ?_
 refine xA ?_
 refine WL.nil (meetI [(4, .bool true), (8, .bool (((p.ll.length : Int) == 0))), (9, .bool (each p.gl le mo (gQ 1 1)))] (h'' := prX b3 (clrP p.name p.ch p.tg p.ex p.pn p.sp) :: prX b1 p :: h) ?_ Su Sb ⟨true, ((p.ll.length : Int) == 0), each p.gl le mo (gQ 1 1), clrP p.name p.ch p.tg p.ex p.pn p.sp, ⟨pokR_mk hO.n hO.ch hO.tg hO.ex hO.pn hO.pw hsk, own_14 c199 hml⟩, rfl, rfl⟩)
 exact Su
 replace c199 := f_eq c199
 refine gD ?_; intros
 refine bB ?_
 refine xA ?_
 refine wn [1, 3, 4, 5, 8, 9, 31, 206] ?_
 refine gE ?_; intros
 refine wc (fun c206 => ?_) fun c206 => ?_
 replace c206 := t_eq c206
 refine gG ?_; intros; rename_i ops hG
 refine xM ?_
 refine xG (PO.not Et) ?_
 refine xM ?_
 refine zG (fun _ => pF u56) ?_
 refine zG (fun hc => PO.load1 u25 rfl (Eg hc) Me rfl) ?_
 refine WL.callG (GU.t (hG _ _ rfl) rfl) (fun hc => ⟨Ev.func, (E3 (Eg hc) Ev.const Ev.const), exsR_ct _ _ _ p.ex.l 1 1 _ _ (hO.ex.rd.mono v0 Sb) (fun x hx => (hO.ex.ok x hx).mono Sb)⟩) Lb ?_
 refine xP ?_
 refine xA ?_
 refine wn [1, 3, 4, 8] ?_
 try clear hG ops
 refine gD ?_; intros
 refine xF u56 ?_
 refine xG (pL u44) ?_
 refine WL.callP Ev.func (Evs.cons Et (Evs.cons Ev.const (Evs.cons Ev.const (Evs.cons Ev.const (Evs.cons Ev.const Evs.nil))))) (guardsR_ct _ _ _ p.gl 0 16 5 6 _ _ (hO.g.mono v0 Sb) (fun x hx => (pokGk hP x hx).mono Sb)) Lb ?_
 refine xA ?_
 refine wn [1, 3, 4, 8, 9] ?_
 refine gD ?_; intros
 refine xF u56 ?_
 refine xS ?_
 refine WL.nil (meetI [(4, .bool (((!(!(p.rep.name == []))) && each p.ex.l 1 1 mayE))), (8, .bool (((p.ll.length : Int) == 0))), (9, .bool (each p.gl 0 16 (gQ 5 6)))] (h'' := prX b3 (clrP p.name p.ch p.tg nilS p.pn p.sp) :: prX b1 p :: h) ?_ Su Sb ⟨((!(!(p.rep.name == []))) && each p.ex.l 1 1 mayE), ((p.ll.length : Int) == 0), each p.gl 0 16 (gQ 5 6), clrP p.name p.ch p.tg nilS p.pn p.sp, ⟨pokR_mk hO.n hO.ch hO.tg lz hO.pn hO.pw hsk, own_15 c206⟩, rfl, rfl⟩)
 exact Su
 replace c206 := f_eq c206
 refine gD ?_; intros
 refine bB ?_
 refine xA ?_
 refine wn [1, 3, 4, 5, 8, 9, 31, 219] ?_
 refine gE ?_; intros
 refine wc (fun c219 => ?_) fun c219 => ?_
 replace c219 := t_eq c219
 refine gG ?_; intros; rename_i ops hG
 refine xM ?_
 refine xG (PO.not Et) ?_
 refine xM ?_
 refine zG (fun _ => pF u56) ?_
 refine zG (fun hc => PO.load1 u25 rfl (Eg hc) Me rfl) ?_
 refine WL.callG (GU.t (hG _ _ rfl) rfl) (fun hc => ⟨Ev.func, (E3 (Eg hc) Ev.const Ev.const), exsR_ct _ _ _ p.ex.l 1 1 _ _ (hO.ex.rd.mono v0 Sb) (fun x hx => (hO.ex.ok x hx).mono Sb)⟩) Lb ?_
 refine xP ?_
 refine xA ?_
 refine wn [1, 3, 4, 9] ?_
 try clear hG ops
 refine gD ?_; intros
 refine xF u56 ?_
 refine xG (pL u45) ?_
 refine xG (PO.lenSl u45 Et) ?_
 refine bB ?_
 refine xA ?_
 refine wn [1, 3, 4, 8, 9] ?_
 refine gD ?_; intros
 refine xF u56 ?_
 refine xS ?_
 refine WL.nil (meetI [(4, .bool (((!(!(p.rep.name == []))) && each p.ex.l 1 1 mayE))), (8, .bool (((p.ll.length : Int) == 1))), (9, .bool (((p.gl.length : Int) == 0)))] (h'' := prX b3 (clrP p.name p.ch p.tg nilS p.pn p.sp) :: prX b1 p :: h) ?_ Su Sb ⟨((!(!(p.rep.name == []))) && each p.ex.l 1 1 mayE), ((p.ll.length : Int) == 1), ((p.gl.length : Int) == 0), clrP p.name p.ch p.tg nilS p.pn p.sp, ⟨pokR_mk hO.n hO.ch hO.tg lz hO.pn hO.pw hsk, own_16 c219⟩, rfl, rfl⟩)
 exact Su
 replace c219 := f_eq c219
 refine gD ?_; intros
 refine bB ?_
 refine xA ?_
 refine wn [1, 3, 4, 5, 8, 9, 31, 233] ?_
 refine gE ?_; intros
 refine wc (fun c233 => ?_) fun c233 => ?_
 replace c233 := t_eq c233
 refine gG ?_; intros; rename_i ops hG
 refine xM ?_
 refine xG (PO.not Et) ?_
 refine xM ?_
 refine zG (fun _ => pF u56) ?_
 refine zG (fun hc => PO.load1 u9 rfl (Eg hc) Me rfl) ?_
 refine WL.callG (GU.t (hG _ _ rfl) rfl) (fun hc => ⟨Ev.func, (E1 (Eg hc)), CT.val (nameR_ct p.name _ _ hn2) (congrArg Value.bool (Go.Lx.name_eq p.name).symm)⟩) Lb ?_
 refine xP ?_
 refine xM ?_
 refine zG (fun _ => pF u56) ?_
 refine zG (fun hc => PO.load1 u25 rfl (Eg hc) Me rfl) ?_
 refine WL.callG (GU.t (hG _ _ rfl) rfl) (fun hc => ⟨Ev.func, (E3 (Eg hc) Ev.const Ev.const), exsR_ct _ _ _ p.ex.l 0 8 _ _ (hO.ex.rd.mono v0 Sb) (fun x hx => (hO.ex.ok x hx).mono Sb)⟩) Lb ?_
 refine xP ?_
 refine xA ?_
 refine wn [1, 3, 4, 8, 9] ?_
 try clear hG ops
 refine gD ?_; intros
 refine xF u56 ?_
 refine xS ?_
 refine wn [1, 3, 4, 8, 9] ?_
 refine gD ?_; intros
 refine xF u56 ?_
 refine xS ?_
 refine WL.nil (meetI [(4, .bool ((((!(!(p.rep.name == []))) && Go.Lx.name p.name) && each p.ex.l 0 8 mayE))), (8, .bool (((p.ll.length : Int) == 0))), (9, .bool (((p.gl.length : Int) == 0)))] (h'' := prX b3 (clrP [] p.ch p.tg nilS p.pn p.sp) :: prX b1 p :: h) ?_ Su Sb ⟨(((!(!(p.rep.name == []))) && Go.Lx.name p.name) && each p.ex.l 0 8 mayE), ((p.ll.length : Int) == 0), ((p.gl.length : Int) == 0), clrP [] p.ch p.tg nilS p.pn p.sp, ⟨pokR_mk (by decide) hO.ch hO.tg lz hO.pn hO.pw hsk, own_17 c233⟩, rfl, rfl⟩)
 exact Su
 replace c233 := f_eq c233
 refine gD ?_; intros
 refine bB ?_
 refine xA ?_
 refine wn [1, 3, 4, 5, 8, 9, 249] ?_
 refine gE ?_; intros
 refine wc (fun c249 => ?_) fun c249 => ?_
 replace c249 := t_eq c249
 refine gG ?_; intros; rename_i ops hG
 refine xM ?_
 refine xG (PO.not Et) ?_
 refine xM ?_
 refine zG (fun _ => pF u56) ?_
 refine zG (fun hc => PO.loadA u54 rfl rfl (Eg hc) Me rfl) ?_
 refine WL.callG (GU.t (hG _ _ rfl) rfl) (fun hc => ⟨Ev.func, (E1 (Eg hc)), specR_ct p.sp _ _ (hsk.mono Sb)⟩) Lb ?_
 refine xP ?_
 refine xA ?_
 refine wn [1, 3, 4, 9] ?_
 try clear hG ops
 refine gD ?_; intros
 refine xF u56 ?_
 refine xG (pL u45) ?_
 refine xG (PO.lenSl u45 Et) ?_
 refine bB ?_
 refine xA ?_
 refine wn [1, 3, 4, 8, 9] ?_
 refine gD ?_; intros
 refine xG (PO.build u54 rfl rfl rfl EvP.nil rfl) ?_
 refine xF u56 ?_
 refine xS ?_
 refine WL.nil (meetI [(4, .bool (((!(!(p.rep.name == []))) && spP p.sp))), (8, .bool (((p.ll.length : Int) == 1))), (9, .bool (((p.gl.length : Int) == 0)))] (h'' := prX b3 (clrP p.name p.ch p.tg p.ex p.pn zeroS) :: prX b1 p :: h) ?_ Su Sb ⟨((!(!(p.rep.name == []))) && spP p.sp), ((p.ll.length : Int) == 1), ((p.gl.length : Int) == 0), clrP p.name p.ch p.tg p.ex p.pn zeroS, ⟨pokR_mk hO.n hO.ch hO.tg hO.ex hO.pn hO.pw (sk_z m h), own_18 c249⟩, rfl, rfl⟩)
 exact Su
 replace c249 := f_eq c249
 refine WC.skip (meetI [(4, .bool false), (8, .bool (((p.ll.length : Int) == 0))), (9, .bool (((p.gl.length : Int) == 0)))] (h'' := prX b3 (clrP p.name p.ch p.tg p.ex p.pn p.sp) :: prX b1 p :: h) ?_ Su Sb ⟨false, ((p.ll.length : Int) == 0), ((p.gl.length : Int) == 0), clrP p.name p.ch p.tg p.ex p.pn p.sp, ⟨pokR_mk hO.n hO.ch hO.tg hO.ex hO.pn hO.pw hsk, own_no nk32 c37 c53 c70 c87 c104 nk118 c129 c137 nk191 c199 c206 c219 c233 c249 _ _ _⟩, rfl, rfl⟩)
 exact Su
 rintro _ _ ⟨fb, pb, gb, xp, hfb, rfl, rfl⟩
 refine WC.frm rfl ?_
 refine gG ?_; intros; rename_i ops hG
 refine xM ?_
 refine xM ?_
 refine zM ?_
 refine xP ?_
 refine xM ?_
 refine zM ?_
 refine xP ?_
 refine xM ?_
 refine zG (fun _ => pF u56) ?_
 refine zG (fun hc => PO.loadA u43 rfl rfl (Eg hc) Me rfl) ?_
 refine WL.callG (GU.t (hG _ _ rfl) rfl) (fun hc => ⟨Ev.func, (E1 (Eg hc)), repR_ct p.rep hO.rn (hO.rb.mono Sb) (hO.rc.mono Sb)⟩) Lb ?_
 refine xP ?_
 refine xM ?_
 refine zG (fun _ => pA u56) ?_
 refine zG (fun _ => PO.build u56 rfl rfl rfl EvP.nil rfl) ?_
 refine WL.callG (GU.t (hG _ _ rfl) rfl) (fun hc => ⟨Ev.func, (E2 (Eg hc) (Eg hc)), sameP_ct xp zeroP0 _ _ (hfb.1.mono Sb) ((pokR_z m h).mono Sb)⟩) Lb ?_
 refine xP ?_
 refine xA ?_
 refine wn [2] ?_
 try clear hG ops
 refine WC.ret (wR (h) ?_)
 exact ⟨by rw [hfb.2], rfl⟩
end Go.Proofs.YtdhmplmpbcnojaaGreatDoor
end
/- RvE -/
section
namespace Go.Proofs.YtdhmplmpbcnojaaGreatDoor
open Go.Eng Go.Pc Go
open Go.Xp hiding B nameT
open Go.Ty (Ty Vr eqT tyV cellT PrOk VOk encV encV_len encI encI_len eqI eqI_eq eqI_ne)
open Go.Lx (encB encB_len)
set_option maxRecDepth 100000
theorem dropR_at {α : Type} {l : List α} {i : Nat} {x : α} (h : l[i]? = some x) : l.drop i = x :: l.drop (i + 1) := by
 obtain ⟨hi, rfl⟩ := List.getElem?_eq_some_iff.1 h
 exact List.drop_eq_getElem_cons hi
theorem mayHR_at {l : List Pr} {x : Pr} (h : l[0]? = some x) (d q : Int) : mayH l d q = mayC x d false q := by
 cases l with
 | nil => cases h
 | cons y r => cases h; rfl
set_option maxHeartbeats 4000000 in
theorem roomR11_ct (p : Pr) : ∀ (h : List Res) (m : View) (d left : Int) (pl : Bool), POk m h p → (0 ≤ d ∧ d ≤ 34) → (0 ≤ left ∧ left ≤ 2048) →
   CT Tryz.prog 51 [prV p, .int .i64 d, .int .i64 left, .bool pl] h m (Pure1 h (.int .i64 (roomV (mayC p d pl left)))) := by
 refine Pr.ind (q := fun p => ∀ (h : List Res) (m : View) (d left : Int) (pl : Bool), POk m h p → (0 ≤ d ∧ d ≤ 34) → (0 ≤ left ∧ left ≤ 2048) →
   CT Tryz.prog 51 [prV p, .int .i64 d, .int .i64 left, .bool pl] h m (Pure1 h (.int .i64 (roomV (mayC p d pl left))))) (fun p ih h m d left pl hP hd hl => ?_) p
 have v0 := View.le.refl m
 have hO := hP.own
 have l1 := hO.l
 have l2 := hO.g
 have l3 := hO.sp.b
 have m1 := l1.mx
 have m2 := l2.mx
 have m3 := l3.mx
 have k1 := l1.le
 have k2 := l2.le
 have k3 := l3.le
 refine CT.body Tryz.call51 Tryz.func51 rfl Tryz.ntmps51 Lb rfl ?_
 refine gD ?_; intros
 refine xX fun b4 => ?_
 refine xC ?_
 refine wn [1, 2, 3, 4] ?_
 refine gG ?_; intros; rename_i ops hG
 refine xM ?_
 refine bB ?_
 refine xM ?_
 refine zM ?_
 refine zG (fun hc => PO.bin (Eg hc) Ev.const rfl) ?_
 refine xQ ?_
 refine xM ?_
 refine zG (fun _ => pA u56) ?_
 refine WL.callG (GU.f (hG _ _ rfl) rfl) (fun hc => ⟨Ev.func, (E1 (Eg hc)), ownR11_ct p _ _ (hP.mono Sb)⟩) Lb ?_
 refine zG (fun hc => PO.not (Eg hc)) ?_
 refine xQ ?_
 refine xM ?_
 refine zG (fun _ => pF u56) ?_
 refine zG (fun hc => PO.load1 u41 rfl (Eg hc) Me rfl) ?_
 refine zG (fun hc => PO.bin (Eg hc) Ev.const rfl) ?_
 refine zV ?_
 refine zM ?_
 refine zG (fun hc => PO.not (Eg hc)) ?_
 refine zG (fun hc => PO.pickAndN hc rfl rfl) ?_
 refine xQ ?_
 refine wn [1, 2, 3, 4, 31] ?_
 try clear hG ops
 refine gE ?_; intros
 refine wc (fun c31 => ?_) fun c31 => ?_
 have d31 : (((decide (d > 32) || (left == 0)) || !(ownP p)) || ((p.k == 11) && !pl)) = true := c31
 refine gD ?_; intros
 refine xC ?_
 refine wn [8] ?_
 refine WC.ret (wR (h) ?_)
 exact ⟨by rw [room_neg d31], rfl⟩
 have d31 : (((decide (d > 32) || (left == 0)) || !(ownP p)) || ((p.k == 11) && !pl)) = false := c31
 simp only [Bool.or_eq_false_iff] at d31
 obtain ⟨⟨⟨da, db⟩, dc⟩, dd⟩ := d31
 have da : d ≤ 32 := by simpa using da
 have db : left ≠ 0 := by simpa using db
 have dc : ownP p = true := by simpa using dc
 have hst := room_step da (by omega) hl.2 dc dd
 have hgb : ∀ g ∈ p.gl, g.bl.length = 1 := fun g hg => by
   rcases own_two dc with hp | ⟨_, _, _, hgn⟩
   · exact (gu_spec ((plain_spec hp).gs g hg).1).body
   · rw [hgn] at hg; cases hg
 refine WC.skip (kp [1, 2, 3, 4] ?_)
 refine gD ?_; intros
 refine xM ?_
 refine xG (PO.subI Et Ev.const (by omega)) ?_
 refine xA ?_
 refine wn [1, 2, 3, 4] ?_
 refine gD ?_; intros
 refine xM ?_
 refine bI ?_
 refine xA ?_
 refine wn [1, 2, 3, 4, 9] ?_
 refine gD ?_; intros
 refine xF u56 ?_
 refine xG (pL u41) ?_
 refine bB ?_
 refine wn [1, 2, 3, 4, 9, 38] ?_
 (repeat refine WC.seqK fun K hK => ?_)
 refine WC.cutK (by assumption) [1, 3, 4] rfl (fun F' h' => ∃ b0 : Int, ∃ q : Int, ((b0 = (if p.k = 18 then d else d + 1) ∧ q = (if p.k = 18 then roomV (mayS p.sp d (left - 1)) else left - 1)) ∧ (-1 ≤ q ∧ q ≤ 2048)) ∧ F' = [(2, .int .i64 q), (9, .int .i64 b0)] ∧ .pt b4 (.cells (prE p).toArray 56 (0, 0)) :: h = h') ?_ ?_
 refine gE ?_; intros
 refine wc (fun c38 => ?_) fun c38 => ?_
 replace c38 := t_eq c38
 have hpl : plainP p = true := by
   rcases own_two dc with hp | ⟨_, _, hk, _⟩
   · exact hp
   · omega
 have hsp : spP p.sp = true := (plain_spec hpl).sp (by rw [c38]; rfl)
 have hS := mayS_eq p.sp d (left - 1)
 refine gD ?_; intros
 refine xM ?_
 refine xA ?_
 refine wn [1, 2, 3, 4, 9] ?_
 refine gG ?_; intros; rename_i ops hG
 refine xF u56 ?_
 refine xF u54 ?_
 refine xG (pL u47) ?_
 refine bB ?_
 refine xM ?_
 refine zG (fun _ => pF u56) ?_
 refine zG (fun hc => PO.fieldAddr u54 rfl (Nat.ne_of_beq_eq_false rfl) (Eg hc)) ?_
 refine zG (fun hc => PO.fieldAddr u51 rfl (Nat.ne_of_beq_eq_false rfl) (Eg hc)) ?_
 refine zG (fun hc => PO.load1 u4 rfl (Eg hc) Me rfl) ?_
 refine xP ?_
 refine xM ?_
 refine zM ?_
 refine WL.poG (GU.t (hG _ _ rfl) rfl) (fun hc => PO.addI (Eg hc) Ev.const (by first | omega | (simp at hc; omega))) Lb ?_
 refine zG (fun hc => PO.bin (Eg hc) Ev.const rfl) ?_
 refine xP ?_
 refine wn [1, 2, 3, 4, 9, 54] ?_
 try clear hG ops
 refine gE ?_; intros
 refine wc (fun c54 => ?_) fun c54 => ?_
 have d54 : (((p.sp.k == 4) && p.sp.cs) && decide (d + 2 > 32)) = true := c54
 simp only [Bool.and_eq_true] at d54
 have hS1 : mayS p.sp d (left - 1) = (false, left - 1) := by rw [hS, if_pos (by rw [d54.1.2, d54.2]; rfl)]
 refine gD ?_; intros
 refine xC ?_
 refine wn [8] ?_
 refine WC.ret (wR (h) ?_)
 exact ⟨by rw [hst, if_pos c38, hS1, if_pos c38]; rfl, rfl⟩
 have d54 : (((p.sp.k == 4) && p.sp.cs) && decide (d + 2 > 32)) = false := c54
 have hS2 : mayS p.sp d (left - 1) = mayH p.sp.bl (d + 1) (left - 1) := by
   rw [hS]
   by_cases h4 : p.sp.k = 4
   · rw [h4] at d54
     rw [if_neg (by simpa using d54)]
   · rw [if_neg (by rw [sp_cs hsp h4]; simp)]
 refine WC.skip (kp [1, 2, 3, 4, 9] ?_)
 refine gD ?_; intros
 refine xF u56 ?_
 refine xF u54 ?_
 refine xG (pL u47) ?_
 refine bB ?_
 refine wn [1, 2, 3, 4, 9, 58] ?_
 refine gE ?_; intros
 refine wc (fun c58 => ?_) fun c58 => ?_
 replace c58 := t_eq c58
 obtain ⟨x, hx⟩ := get_some (l := p.sp.bl) (k := 0) (by have := (sp_spec hsp).body c58; omega)
 have hxi : In x p := In.s (List.mem_of_getElem? hx)
 have hx1 : 0 < p.sp.bl.length := (List.getElem?_eq_some_iff.1 hx).1
 rw [mayHR_at hx] at hS2
 have hrg := roomV_rg (p := x) (d := d + 1) (pl := false) (left := left - 1) (by omega)
 refine gD ?_; intros
 refine xF u56 ?_
 refine xF u54 ?_
 refine xG (pL u45) ?_
 refine xG (PO.idx EL45.und EL45.size EL45.posz (Ev.tmp rfl) Ev.const Rr rfl (q := 0) (by omega)) ?_
 refine xG (PO.loadFA u56 rfl rfl prE_len Rr (Ev.tmp rfl) (by assumption) rfl rfl (Nat.succ_pos _)) ?_
 refine xM ?_
 refine bI ?_
 refine xM ?_
 refine xf (E4 Et Et Et Ev.const) (ih x hxi _ m (d + 1) (left - 1) false ((hP.sub hxi).mono Sb) ⟨by omega, by omega⟩ ⟨by omega, by omega⟩) ?_
 refine xA ?_
 refine WL.nil (meetI [(2, .int .i64 (roomV (mayC x (d + 1) false (left - 1)))), (9, .int .i64 d)] (h'' := .pt b4 (.cells (prE p).toArray 56 (0, 0)) :: h) ?_ Su Sb ⟨d, roomV (mayC x (d + 1) false (left - 1)), ⟨⟨by rw [if_pos c38], by rw [if_pos c38, hS2]⟩, by omega, by omega⟩, rfl, rfl⟩)
 exact Su
 replace c58 := f_eq c58
 have hS3 : mayS p.sp d (left - 1) = (true, left - 1) := by rw [hS2, sp_nb hsp c58]; rfl
 refine WC.skip (meetI [(2, .int .i64 (left - 1)), (9, .int .i64 d)] (h'' := .pt b4 (.cells (prE p).toArray 56 (0, 0)) :: h) ?_ Su Sb ⟨d, left - 1, ⟨⟨by rw [if_pos c38], by rw [if_pos c38, hS3]; rfl⟩, by omega, by omega⟩, rfl, rfl⟩)
 exact Su
 replace c38 := f_eq c38
 refine WC.skip (meetI [(2, .int .i64 (left - 1)), (9, .int .i64 (d + 1))] (h'' := .pt b4 (.cells (prE p).toArray 56 (0, 0)) :: h) ?_ Su Sb ⟨d + 1, left - 1, ⟨⟨by rw [if_neg c38], by rw [if_neg c38]⟩, by omega, by omega⟩, rfl, rfl⟩)
 exact Su
 rintro _ _ ⟨b0, q, hbq, rfl, rfl⟩
 refine WC.frm rfl ?_
 refine gD ?_; intros
 refine xF u56 ?_
 refine xG (pL u41) ?_
 refine bB ?_
 refine wn [1, 2, 3, 4, 9, 70] ?_
 (repeat refine WC.seqK fun K hK => ?_)
 refine WC.cutK (by assumption) [1, 2, 3, 4] rfl (fun F' h' => ∃ bl : Int, (bl = (if p.k = 18 then d else if p.k = 11 then d + 2 else d + 1)) ∧ F' = [(9, .int .i64 bl)] ∧ .pt b4 (.cells (prE p).toArray 56 (0, 0)) :: h = h') ?_ ?_
 refine gE ?_; intros
 refine wc (fun c70 => ?_) fun c70 => ?_
 replace c70 := t_eq c70
 have n18 : p.k ≠ 18 := by omega
 refine gD ?_; intros
 refine xM ?_
 refine bI ?_
 refine xA ?_
 refine WL.nil (meetI [(9, .int .i64 (d + 2))] (h'' := .pt b4 (.cells (prE p).toArray 56 (0, 0)) :: h) ?_ Su Sb ⟨d + 2, (by rw [if_neg n18, if_pos c70]), rfl, rfl⟩)
 exact Su
 replace c70 := f_eq c70
 refine WC.skip (meetI [(9, .int .i64 b0)] (h'' := .pt b4 (.cells (prE p).toArray 56 (0, 0)) :: h) ?_ Su Sb ⟨b0, (by rw [hbq.1.1, if_neg c70]), rfl, rfl⟩)
 exact Su
 rintro _ _ ⟨bl, hbl, rfl, rfl⟩
 refine WC.frm rfl ?_
 refine gD ?_; intros
 rw [← hbl, ← hbq.1.2] at hst
 have hbr : 0 ≤ bl ∧ bl ≤ 34 := by
   have := hbl
   split at this
   · omega
   · split at this <;> omega
 have hq0 := hbq.2
 refine xC ?_
 refine wn [1, 2, 3, 4, 9, 10] ?_
 refine gE ?_; intros
 refine WC.loopI [1, 3, 4, 9] rfl (fun μ F' h' => ∃ i : Nat, ∃ w : Int, ((i ≤ p.ll.length ∧ (-1 ≤ w ∧ w ≤ 2048)) ∧ roomV (mayC p d pl left) = contG p.gl (d + 2) (contL (p.ll.drop i) bl (pl && (p.k == 18)) w)) ∧ p.ll.length - i = μ ∧ F' = [(2, .int .i64 w), (10, .int .i64 i)] ∧ .pt b4 (.cells (prE p).toArray 56 (0, 0)) :: h = h') (p.ll.length - 0) [(2, .int .i64 q), (10, .int .i64 0)] (h0 := .pt b4 (.cells (prE p).toArray 56 (0, 0)) :: h) ?_ Sb ⟨0, q, ⟨⟨by omega, hq0⟩, hst⟩, rfl, rfl, rfl⟩ ?_
 exact Su
 rintro _ _ _ ⟨i, w, ⟨⟨hi, hw⟩, hJ⟩, rfl, rfl, rfl⟩
 refine WC.frm rfl ?_
 refine gG ?_; intros; rename_i ops hG
 refine xM ?_
 refine xF u56 ?_
 refine xG (pL u45) ?_
 refine xG (PO.lenSl u45 Et) ?_
 refine bD ?_
 refine xM ?_
 refine zM ?_
 refine zG (fun hc => PO.bin (Eg hc) Ev.const rfl) ?_
 refine xP ?_
 refine wn [1, 2, 3, 4, 9, 10, 81] ?_
 try clear hG ops
 refine gE ?_; intros
 refine wc (fun c81 => ?_) fun c81 => ?_
 have d81 : i < p.ll.length ∧ 0 ≤ w := by simp at c81; omega
 obtain ⟨x, hx⟩ := get_some (l := p.ll) (k := i) (by omega)
 have hxi : In x p := In.l (List.mem_of_getElem? hx)
 rw [dropR_at hx, contL_cons d81.2] at hJ
 have hrg := roomV_rg (p := x) (d := bl) (pl := pl && (p.k == 18)) (left := w) d81.2
 refine WC.skip (kp [1, 2, 3, 4, 9, 10] ?_)
 refine gE ?_; intros
 refine dS [] (.op 0 (.op 1 (.op 2 (.op 3 (.op 4 (.op 5 (.op 6 (.op 7 (.op 8 (.op 9 (.op 10 (.op 11 (.op 12 .nil))))))))))))) [13, 14] mixed ?_
 refine yG rfl (pF u56) ?_
 refine yG rfl (pL u45) ?_
 refine yG rfl (PO.move Et) ?_
 refine yG rfl (PO.idx EL45.und EL45.size EL45.posz (Ev.tmp rfl) (Ev.tmp rfl) Rr rfl (by omega)) ?_
 refine yG rfl (PO.loadFA u56 rfl rfl prE_len Rr (Ev.tmp rfl) (by assumption) rfl rfl (Nat.succ_pos _)) ?_
 refine yG rfl (PO.move Et) ?_
 refine yG rfl (PO.move Et) ?_
 refine yG rfl (PO.move Et) ?_
 refine yG rfl (PO.move Et) ?_
 refine SR.poG rfl rfl (GU.t rfl rfl) (fun hc => PO.fieldAddr u56 rfl (Nat.ne_of_beq_eq_false rfl) Et) Lb ?_
 refine SR.poG rfl rfl (GU.t rfl rfl) (fun hc => PO.load1 u41 rfl (Eg hc) Me rfl) Lb ?_
 refine SR.poG rfl rfl (GU.t rfl rfl) (fun hc => PO.bin (Eg hc) Ev.const rfl) Lb ?_
 refine yG rfl (PO.pickAnd rfl rfl) ?_
 refine SR.nil rfl rfl ?_
 refine xf (E4 Et Et Et Et) (ih x hxi _ m bl w (pl && (p.k == 18)) ((hP.sub hxi).mono Sb) hbr ⟨d81.2, hw.2⟩) ?_
 refine xA ?_
 refine wn [1, 2, 3, 4, 9, 10] ?_
 try clear hG ops
 refine gD ?_; intros
 refine xM ?_
 refine bI ?_
 refine xA ?_
 refine WL.nil (loopBackI (p.ll.length - (i + 1)) [(2, .int .i64 (roomV (mayC x bl (pl && (p.k == 18)) w))), (10, .int .i64 (i + 1))] (h'' := .pt b4 (.cells (prE p).toArray 56 (0, 0)) :: h) (by omega) ?_ Su Sb ⟨i + 1, roomV (mayC x bl (pl && (p.k == 18)) w), ⟨⟨by omega, by omega, by omega⟩, hJ⟩, rfl, rfl, rfl⟩)
 exact Su
 have hJ2 : roomV (mayC p d pl left) = contG (p.gl.drop 0) (d + 2) w := by
   rw [hJ, List.drop_zero]
   by_cases hw0 : 0 ≤ w
   · have hi2 : ¬ i < p.ll.length := fun q => by
       have q1 : (i : Int) < (p.ll.length : Int) := by omega
       simp [q1, hw0] at c81
     rw [List.drop_eq_nil_of_le (by omega), contL_nil hw0]
   · rw [contL_neg (by omega), contG_neg (by omega), contG_neg (by omega)]
 refine WC.exit (kp [1, 2, 4] ?_)
 refine gD ?_; intros
 refine xC ?_
 refine wn [1, 2, 4, 11] ?_
 refine gE ?_; intros
 refine WC.loopI [1, 4] rfl (fun μ F' h' => ∃ i : Nat, ∃ w : Int, ((i ≤ p.gl.length ∧ (-1 ≤ w ∧ w ≤ 2048)) ∧ roomV (mayC p d pl left) = contG (p.gl.drop i) (d + 2) w) ∧ p.gl.length - i = μ ∧ F' = [(2, .int .i64 w), (11, .int .i64 i)] ∧ .pt b4 (.cells (prE p).toArray 56 (0, 0)) :: h = h') (p.gl.length - 0) [(2, .int .i64 w), (11, .int .i64 0)] (h0 := .pt b4 (.cells (prE p).toArray 56 (0, 0)) :: h) ?_ Sb ⟨0, w, ⟨⟨by omega, hw⟩, hJ2⟩, rfl, rfl, rfl⟩ ?_
 exact Su
 rintro _ _ _ ⟨i, w, ⟨⟨hi, hw⟩, hJ⟩, rfl, rfl, rfl⟩
 refine WC.frm rfl ?_
 refine gG ?_; intros; rename_i ops hG
 refine xM ?_
 refine xF u56 ?_
 refine xG (pL u44) ?_
 refine xG (PO.lenSl u44 Et) ?_
 refine bD ?_
 refine xM ?_
 refine zM ?_
 refine zG (fun hc => PO.bin (Eg hc) Ev.const rfl) ?_
 refine xP ?_
 refine wn [1, 2, 4, 11, 106] ?_
 try clear hG ops
 refine gE ?_; intros
 refine wc (fun c106 => ?_) fun c106 => ?_
 have d106 : i < p.gl.length ∧ 0 ≤ w := by simp at c106; omega
 obtain ⟨g, hgx⟩ := get_some (l := p.gl) (k := i) (by omega)
 have hgm := List.mem_of_getElem? hgx
 obtain ⟨x, hx⟩ := get_some (l := g.bl) (k := 0) (by have := hgb g hgm; omega)
 have hxi : In x p := In.g hgm (List.mem_of_getElem? hx)
 have hx1 : 0 < g.bl.length := (List.getElem?_eq_some_iff.1 hx).1
 have hgo := (hO.gs g hgm).b
 rw [dropR_at hgx, contG_cons d106.2 hx] at hJ
 have hrg := roomV_rg (p := x) (d := d + 2) (pl := false) (left := w) d106.2
 refine WC.skip (kp [1, 2, 4, 11] ?_)
 refine gD ?_; intros
 refine xF u56 ?_
 refine xG (pL u44) ?_
 refine xM ?_
 refine xG (PO.idx EL44.und EL44.size EL44.posz (Ev.tmp rfl) (Ev.tmp rfl) Rr rfl (by omega)) ?_
 refine xG (PO.fieldF u70 rfl (Nat.ne_of_beq_eq_false rfl) guE_len (Nat.succ_pos _) Rr (by assumption) (Ev.tmp rfl)) ?_
 refine xG (PO.loadFf u45 rfl guE_len Rr (Ev.tmp rfl) (by assumption) rfl) ?_
 refine xG (PO.idx EL45.und EL45.size EL45.posz (Ev.tmp rfl) Ev.const Rr rfl (q := 0) (by omega)) ?_
 refine xG (PO.loadFA u56 rfl rfl prE_len Rr (Ev.tmp rfl) (by assumption) rfl rfl (Nat.succ_pos _)) ?_
 refine xM ?_
 refine bI ?_
 refine xM ?_
 refine xf (E4 Et Et Et Ev.const) (ih x hxi _ m (d + 2) w false ((hP.sub hxi).mono Sb) ⟨by omega, by omega⟩ ⟨d106.2, hw.2⟩) ?_
 refine xA ?_
 refine wn [1, 2, 4, 11] ?_
 refine gD ?_; intros
 refine xM ?_
 refine bI ?_
 refine xA ?_
 refine WL.nil (loopBackI (p.gl.length - (i + 1)) [(2, .int .i64 (roomV (mayC x (d + 2) false w))), (11, .int .i64 (i + 1))] (h'' := .pt b4 (.cells (prE p).toArray 56 (0, 0)) :: h) (by omega) ?_ Su Sb ⟨i + 1, roomV (mayC x (d + 2) false w), ⟨⟨by omega, by omega, by omega⟩, hJ⟩, rfl, rfl, rfl⟩)
 exact Su
 have hJ2 : roomV (mayC p d pl left) = w := by
   rw [hJ]
   by_cases hw0 : 0 ≤ w
   · have hi2 : ¬ i < p.gl.length := fun q => by
       have q1 : (i : Int) < (p.gl.length : Int) := by omega
       simp [q1, hw0] at c106
     rw [List.drop_eq_nil_of_le (by omega), contG_nil hw0]
   · rw [contG_neg (by omega)]
     omega
 refine WC.exit (kp [2] ?_)
 refine gD ?_; intros
 refine xM ?_
 refine xA ?_
 refine wn [8] ?_
 refine WC.ret (wR (h) ?_)
 exact ⟨by rw [hJ2], rfl⟩
theorem mayR11_ct {m : View} {h : List Res} (p : Pr) (hP : POk m h p) : CT Tryz.prog 31 [prV p] h m (Pure1 h (.bool (mayP p))) := by
 have hq : decide (roomV (mayC p 0 true 2048) ≥ 0) = mayP p := by
   unfold mayP
   have hr := roomV_rg (p := p) (d := 0) (pl := true) (left := 2048) (by omega)
   cases hc : (mayC p 0 true 2048).1 with
   | true =>
     have := mayC_rg (p := p) (d := 0) (pl := true) (left := 2048) (by omega) hc
     have hv : roomV (mayC p 0 true 2048) = (mayC p 0 true 2048).2 := by unfold roomV; rw [if_pos hc]
     rw [hv]
     simpa using this.1
   | false =>
     have hv : roomV (mayC p 0 true 2048) = -1 := by unfold roomV; rw [if_neg (by rw [hc]; decide)]
     rw [hv]
     rfl
 refine CT.body Tryz.call31 Tryz.func31 rfl Tryz.ntmps31 Lb rfl ?_
 refine gD ?_; intros
 refine xX fun b1 => ?_
 refine xC ?_
 refine wn [1] ?_
 refine gD ?_; intros
 refine xG (pA u56) ?_
 refine xf (E4 Et Ev.const Ev.const Ev.const) (roomR11_ct p _ _ 0 2048 true (hP.mono Sb) ⟨by omega, by omega⟩ ⟨by omega, by omega⟩) ?_
 refine bB ?_
 refine xA ?_
 refine wn [2] ?_
 refine WC.ret (wR (h) ?_)
 exact ⟨by rw [← hq], rfl⟩
end Go.Proofs.YtdhmplmpbcnojaaGreatDoor
end
/- FrG -/
section
namespace Go.Proofs.YtdhmplmpbcnojaaGreatDoor
open Go.Eng Go.Pc Go.Fr Go
open Go.Xp hiding B nameT
open Go.Ty (Ty Vr eqT tyV cellT PrOk VOk encV encV_len encI encI_len)
open Go.Lx (encB encB_len)
set_option maxRecDepth 100000
def w0F : Ws := ⟨none, 0, 0, [], 0⟩
theorem ev_own (w : Ws) (l : List Ev) (h : List Res) (hn : w.n = w.l.length) (hl : w.l = l) : OwnF evE 94 2 h l (.slice w.a w.n w.c) (evR w :: h) := by
 subst hl
 exact ⟨_, _, _, hn, rfl, rfl⟩
theorem eventsF_ct (p : Pr) (h : List Res) (m : View) (hsm : SmP p) (hP : POk m h p) (hd : dcP p ≤ Top) (hT : (evP p []).length ≤ Top) :
   CT Tryz.prog 32 [prV p] h m (fun v _ h' => OwnF evE 94 2 h (evP p []) v h') := by
 refine CT.body Tryz.call32 Tryz.func32 rfl Tryz.ntmps32 Lb rfl ?_
 refine gD ?_; intros
 refine xX fun b1 => ?_
 refine xC ?_
 refine wn [1] ?_
 refine gD ?_; intros
 refine xW fun b3 => ?_
 refine wn [1, 3] ?_
 refine gD ?_; intros
 refine WL.addNil 94 2 ?_
 refine WL.take (r := wdR b3 w0F) De ?_
 refine xG (pA u56) ?_
 refine xg (E3 Et Et Ev.const) (procF_ct b3 p w0F _ m none 0 0 [] hsm rfl (hP.mono Sb) (Rd.nilF etE 4 m _) (fun _ hx => (List.not_mem_nil hx).elim) (by show 0 + dcP p ≤ Top; omega) (by show 0 + (evP p []).length ≤ Top; omega) (by show 0 + dcP p ≤ Top; omega)) ?_
 rintro _ _ ⟨q, w1, rfl, hS, rfl⟩
 refine wn [3] ?_
 refine gD ?_; intros
 refine xF u116 ?_
 refine xG (pL u91) ?_
 refine xA ?_
 refine wn [2] ?_
 refine WC.ret (wR (evR w1 :: h) ?_)
 exact ev_own w1 _ _ hS.n hS.l
theorem putF_len {l : List B} {s : B} {i : Nat} (h : i ≤ l.length) : ((l.take i ++ [s]) ++ l.drop i).length = l.length + 1 := by
 simp only [List.length_append, List.length_take, List.length_drop, List.length_singleton]
 omega
theorem putF_mem {l : List B} {s : B} {i : Nat} (x : B) : x ∈ (l.take i ++ [s]) ++ l.drop i ↔ x = s ∨ x ∈ l := by
 have h : x ∈ l ↔ x ∈ l.take i ∨ x ∈ l.drop i := by rw [← List.mem_append, List.take_append_drop]
 rw [h]
 simp only [List.mem_append, List.mem_singleton]
 constructor
 · rintro ((q | q) | q)
   · exact .inr (.inl q)
   · exact .inl q
   · exact .inr (.inr q)
 · rintro (q | q | q)
   · exact .inl (.inr q)
   · exact .inl (.inl q)
   · exact .inr q
theorem takeE_at {l : List Ev} {i : Nat} {x : Ev} (h : l[i]? = some x) : l.take (i + 1) = l.take i ++ [x] := by
 obtain ⟨hi, rfl⟩ := List.getElem?_eq_some_iff.1 h
 exact List.take_succ_eq_append_getElem hi
theorem PO.lssS {P : Program} {dst : Option Tmp} {pos : String} {ty : TypeId} {after : Array Edge} {g : Option (Nat × Bool)} {n : Cx} {F : Fm} {h : List Res} {m : View} {x y : Operand} {a b : List UInt8} {t t' : TypeId} (ex : Ev n F x (str a)) (ey : Ev n F y (str b)) :
   PO P ⟨dst, .binOp .lss t x y t', ty, pos, after, g⟩ n F h m (.bool (Op.bytesLess a b)) := .mk fun c w ha _ => by
 simp [execOp, ex c ha, ey c ha, eqGuard, binOp, Op.stringOp]
theorem putF_ct (a : Option Addr) (k c : Nat) (l : List B) (s : B) (h : List Res) (m : View) (hL : Rd m h a k c 1 (fl encB l)) (hk : k ≤ 1099511627776) :
   CT Tryz.prog 33 [.slice a k c, str s] h m (fun v _ h' => ∃ (a' : Option Addr) (c' : Nat) (l' : List B) (r : List Res), v = .slice a' l'.length c' ∧ (∀ x, x ∈ l' ↔ x = s ∨ x ∈ l) ∧ l'.length ≤ k + 1 ∧ Rd m (r ++ h) a' l'.length c' 1 (fl encB l') ∧ h' = r ++ h) := by
 have hl := hL.lenF encB_len (by decide)
 subst hl
 have hmx := hL.mx
 have hle := hL.le
 refine CT.body Tryz.call33 Tryz.func33 rfl Tryz.ntmps33 Lb rfl ?_
 refine gD ?_; intros
 refine WL.addNil 9 1 ?_
 refine xC ?_
 refine wn [0, 1] ?_
 refine gD ?_; intros
 refine xC ?_
 refine wn [0, 1, 5] ?_
 refine gE ?_; intros
 refine WC.loopI [0, 1] rfl (fun μ F' h' => ∃ i : Nat, (i ≤ l.length) ∧ l.length - i = μ ∧ F' = [(5, .int .i64 i)] ∧ h = h') (l.length - 0) [(5, .int .i64 0)] (h0 := h) ?_ Sb ⟨0, by omega, rfl, rfl, rfl⟩ ?_
 exact Su
 rintro _ _ _ ⟨i, hi, rfl, rfl, rfl⟩
 refine WC.frm rfl ?_
 refine gG ?_; intros; rename_i ops hG
 have hx : i < l.length → l[i]? = some (l.getD i []) := fun q => by rw [List.getD_eq_getElem?_getD, List.getElem?_eq_getElem q]; rfl
 refine xM ?_
 refine xM ?_
 refine xG (PO.lenSl u48 Et) ?_
 refine bD ?_
 refine xM ?_
 refine zM ?_
 refine zM ?_
 refine WL.poG (GU.t (hG _ _ rfl) rfl) (fun hc => PO.idx EL48.und EL48.size EL48.posz (Eg hc) (Eg hc) Rr rfl (by have := of_decide_eq_true hc; omega)) Lb ?_
 refine WL.poG (GU.t (hG _ _ rfl) rfl) (fun hc => PO.loadF1 u9 rfl encB_len Rr (Eg hc) (hx (by have := of_decide_eq_true hc; omega)) rfl) Lb ?_
 refine zM ?_
 refine zG (fun hc => PO.lssS (Eg hc) (Eg hc)) ?_
 refine xP ?_
 refine wn [0, 1, 5, 18] ?_
 try clear hG ops
 refine gE ?_; intros
 refine wc (fun c18 => ?_) fun c18 => ?_
 have d18 : i < l.length := by
   have q : (decide ((i : Int) < (l.length : Int)) && Op.bytesLess (l.getD i []) s) = true := c18
   simp only [Bool.and_eq_true, decide_eq_true_eq] at q
   omega
 refine WC.skip (kp [0, 1, 5] ?_)
 refine gD ?_; intros
 refine xM ?_
 refine bI ?_
 refine xA ?_
 refine WL.nil (loopBackI (l.length - (i + 1)) [(5, .int .i64 (i + 1))] (h'' := h) (by omega) ?_ Su Sb ⟨i + 1, by omega, rfl, rfl, rfl⟩)
 exact Su
 refine WC.exit (kp [0, 1, 5] ?_)
 refine gG ?_; intros; rename_i ops hG
 have hx : i < l.length → l[i]? = some (l.getD i []) := fun q => by rw [List.getD_eq_getElem?_getD, List.getElem?_eq_getElem q]; rfl
 have hpr := hL.takeF encB_len (j := i) (by omega)
 have hdr := hL.dropF encB_len (by decide) (i := i) (by omega)
 refine xM ?_
 refine xM ?_
 refine xG (PO.lenSl u48 Et) ?_
 refine bD ?_
 refine xM ?_
 refine zM ?_
 refine zM ?_
 refine WL.poG (GU.t (hG _ _ rfl) rfl) (fun hc => PO.idx EL48.und EL48.size EL48.posz (Eg hc) (Eg hc) Rr rfl (by have := of_decide_eq_true hc; omega)) Lb ?_
 refine WL.poG (GU.t (hG _ _ rfl) rfl) (fun hc => PO.loadF1 u9 rfl encB_len Rr (Eg hc) (hx (by have := of_decide_eq_true hc; omega)) rfl) Lb ?_
 refine zM ?_
 refine zG (fun hc => PO.eqlS (Eg hc) (Eg hc)) ?_
 refine xP ?_
 refine wn [0, 1, 5, 32] ?_
 try clear hG ops
 refine gE ?_; intros
 refine wc (fun c32 => ?_) fun c32 => ?_
 have d32 : i < l.length ∧ l.getD i [] = s := by
   have q : (decide ((i : Int) < (l.length : Int)) && (l.getD i [] == s)) = true := c32
   simp only [Bool.and_eq_true, decide_eq_true_eq, beq_iff_eq] at q
   exact ⟨by omega, q.2⟩
 have hsl : s ∈ l := by have := List.mem_of_getElem? (hx d32.1); rwa [d32.2] at this
 refine gD ?_; intros
 refine xM ?_
 refine xA ?_
 refine wn [4] ?_
 refine WC.ret (wR (h) ?_)
 exact ⟨a, c, l, [], rfl, fun x => ⟨.inr, fun q => q.elim (fun e => e ▸ hsl) id⟩, by omega, hL, rfl⟩
 refine WC.skip (kp [0, 1, 5] ?_)
 refine gD ?_; intros
 refine WL.addNil 9 1 ?_
 refine xC ?_
 refine wn [0, 1, 5, 6] ?_
 refine gD ?_; intros
 refine xM ?_
 refine xM ?_
 refine xM ?_
 refine xG (PO.sliceH EL48.und EL48.size Et Et rfl (by omega)) ?_
 refine xD EL48 (Ev.tmp rfl) (Ev.tmp rfl) (Nat.zero_add _) (by rw [List.nil_append]) fun a38 c38 => ?_
 refine xA ?_
 refine wn [0, 1, 5, 6] ?_
 refine gD ?_; intros
 refine xM ?_
 refine xM ?_
 refine xY EL48 (EvP.cons Et EvP.nil) fun b41 => ?_
 refine xD EL48 (Ev.tmp rfl) (Ev.tmp rfl) rfl (fl_snoc (enc := encB) _ (s)) fun a42 c42 => ?_
 refine xA ?_
 refine wn [0, 5, 6] ?_
 refine gD ?_; intros
 refine xM ?_
 refine xM ?_
 refine xM ?_
 refine xG (PO.sliceL EL48.und EL48.size Et Et rfl (by omega)) ?_
 refine xD EL48 (Ev.tmp rfl) (Ev.tmp rfl) (show (i + 1) + (l.length - i) = l.length + 1 by omega) (fl_app _ _).symm fun a47 c47 => ?_
 refine xA ?_
 refine WL.knowRow (a := a47) Me fun p47 r47 t47 => ?_
 refine wn [4] ?_
 refine WC.ret (wR (.row (.slice a47 (l.length + 1) c47) 9 1 (l.length + 1) (fl encB ((l.take i ++ [s]) ++ l.drop i)) :: h) ?_)
 exact ⟨a47, c47, (l.take i ++ [s]) ++ l.drop i, [.row (.slice a47 (l.length + 1) c47) 9 1 (l.length + 1) (fl encB ((l.take i ++ [s]) ++ l.drop i))], by rw [putF_len (by omega)], fun x => putF_mem x, by rw [putF_len (by omega)]; exact Nat.le_refl _, by rw [putF_len (by omega)]; exact Rd.inRow (List.Mem.head _) t47 p47 r47, rfl⟩
theorem putF_s (a : Option Addr) (k c : Nat) (l : List B) (s : B) (h : List Res) (m : View) (hL : Rd m h a k c 1 (fl encB l)) (hk : k ≤ 1099511627776) :
   CT Tryz.prog 33 [.slice a k c, str s] h m (fun v _ h' => ∃ (a' : Option Addr) (c' : Nat) (l' : List B) (r : List Res), v = .slice a' l'.length c' ∧ (∀ x, x ∈ l' ↔ x = s ∨ x ∈ l) ∧ l'.length ≤ k + 1 ∧ Rd m (h ++ r) a' l'.length c' 1 (fl encB l') ∧ h' = h ++ r) :=
 (putF_ct a k c l s h m hL hk).conv fun v m2 h2 w2 _ st hR => by
   obtain ⟨a', c', l', r, e1, e2, e3, e4, rfl⟩ := hR
   exact ⟨m2, h ++ r, View.le.refl _, st.perm List.perm_append_comm, a', c', l', r, e1, e2, e3, e4.permH List.perm_append_comm, rfl⟩
theorem freeF_ct (p : Pr) (h : List Res) (m : View) (hP : POk m h p) (hsm : mayP p = true → SmP p ∧ dcP p ≤ Top ∧ (evP p []).length ≤ Top) :
   CT Tryz.prog 15 [prV p] h m (fun v _ h' => ∃ (a : Option Addr) (c : Nat) (l : List B) (e : Int), v = .tuple #[.slice a l.length c, .int .i64 e] ∧ (mayP p = true → ∀ n, (n, false) ∈ evP p [] → n ∈ l) ∧ h.Sublist h' ∧ Rd m h' a l.length c 1 (fl encB l)) := by
 refine CT.body Tryz.call15 Tryz.func15 rfl Tryz.ntmps15 Lb rfl ?_
 refine gD ?_; intros
 refine xX fun b1 => ?_
 refine xC ?_
 refine xC ?_
 refine wn [1] ?_
 refine gD ?_; intros
 refine xG (pA u56) ?_
 refine xf (E1 Et) (mayR11_ct p (hP.mono Sb)) ?_
 refine xG (PO.not Et) ?_
 refine wn [1, 9] ?_
 refine gE ?_; intros
 refine wc (fun c9 => ?_) fun c9 => ?_
 have d9 : mayP p = false := by
   have q : (!(mayP p)) = true := c9
   simpa using q
 refine gD ?_; intros
 refine xC ?_
 refine xC ?_
 refine wn [2, 3] ?_
 refine WC.ret (end2 (h' := h) (.inl rfl) rfl (RV.tmp rfl) (RV.tmp rfl) (View.le.refl m) Sb ?_)
 exact ⟨none, 0, [], 2, rfl, fun q => absurd q (by rw [d9]; decide), List.Sublist.refl _, Rd.nilF encB 1 m h⟩
 have d9 : mayP p = true := by
   have q : (!(mayP p)) = false := c9
   simpa using q
 obtain ⟨s1, s2, s3⟩ := hsm d9
 have s4 : (evP p []).length ≤ 1099511627776 := s3
 refine WC.skip (kp [1] ?_)
 refine gD ?_; intros
 refine xC ?_
 refine wn [1, 4] ?_
 refine gD ?_; intros
 refine xG (pA u56) ?_
 refine xg (E1 Et) (eventsF_ct p _ m s1 (hP.mono Sb) s2 s3) ?_
 rintro _ _ ⟨a5, c5, k5, rfl, rfl, rfl⟩
 refine xA ?_
 refine WL.knowRow (a := a5) Me fun p5 r5 t5 => ?_
 refine wn [4, 5] ?_
 refine gD ?_; intros
 refine xC ?_
 refine wn [4, 5, 6] ?_
 refine gE ?_; intros
 refine WC.loopI [5] rfl (fun μ F' h' => ∃ i : Nat, ∃ a4 : Option Addr, ∃ c4 : Nat, ∃ l4 : List B, ∃ H : List Res, ((i ≤ (evP p []).length ∧ l4.length ≤ i) ∧ (∀ n, (n, false) ∈ (evP p []).take i → n ∈ l4) ∧ Rd m (.row (.slice a5 (evP p []).length c5) 94 2 (evP p []).length (fl evE (evP p [])) :: .pt b1 (.cells (prE p).toArray 56 (0, 0)) :: H) a4 l4.length c4 1 (fl encB l4) ∧ h.Sublist H) ∧ (evP p []).length - i = μ ∧ F' = [(4, .slice a4 l4.length c4), (6, .int .i64 i)] ∧ .row (.slice a5 (evP p []).length c5) 94 2 (evP p []).length (fl evE (evP p [])) :: .pt b1 (.cells (prE p).toArray 56 (0, 0)) :: H = h') ((evP p []).length - 0) [(4, .slice none ([]).length 0), (6, .int .i64 0)] (h0 := .row (.slice a5 (evP p []).length c5) 94 2 (evP p []).length (fl evE (evP p [])) :: .pt b1 (.cells (prE p).toArray 56 (0, 0)) :: h) ?_ Sb ⟨0, none, 0, [], h, ⟨⟨by omega, Nat.le_refl _⟩, fun _ hx => (List.not_mem_nil hx).elim, Rd.nilF encB 1 m _, List.Sublist.refl _⟩, rfl, rfl, rfl⟩ ?_
 exact Su
 rintro _ _ _ ⟨i, a4, c4, l4, H, ⟨⟨hi, hl4⟩, hin, hrd, hsub⟩, rfl, rfl, rfl⟩
 refine WC.frm rfl ?_
 refine gD ?_; intros
 refine xM ?_
 refine xM ?_
 refine xG (PO.lenSl u91 Et) ?_
 refine bD ?_
 refine wn [4, 5, 6, 15] ?_
 refine gE ?_; intros
 refine wc (fun c15 => ?_) fun c15 => ?_
 replace c15 := dT c15
 obtain ⟨e, he⟩ := get_some (l := evP p []) (k := i) (by omega)
 have htk := takeE_at he
 refine WC.skip (kp [4, 5, 6] ?_)
 refine gD ?_; intros
 refine xM ?_
 refine xM ?_
 refine xG (PO.idx EL91.und EL91.size EL91.posz (Ev.tmp rfl) (Ev.tmp rfl) Rr rfl (by omega)) ?_
 refine xG (PO.fieldF u94 rfl (Nat.ne_of_beq_eq_false rfl) evE_len (Nat.succ_pos _) Rr (by assumption) (Ev.tmp rfl)) ?_
 refine xG (PO.loadFf u4 rfl evE_len Rr (Ev.tmp rfl) (by assumption) rfl) ?_
 refine xG (PO.not Et) ?_
 refine wn [4, 5, 6, 23] ?_
 refine gE ?_; intros
 refine wc (fun c23 => ?_) fun c23 => ?_
 have d23 : e.2 = false := by
   have q : (!(e.2)) = true := c23
   simpa using q
 refine gD ?_; intros
 refine xM ?_
 refine xM ?_
 refine xM ?_
 refine xG (PO.idx EL91.und EL91.size EL91.posz (Ev.tmp rfl) (Ev.tmp rfl) Rr rfl (by omega)) ?_
 refine xG (PO.fieldF u94 rfl (Nat.ne_of_beq_eq_false rfl) evE_len (Nat.succ_pos _) Rr (by assumption) (Ev.tmp rfl)) ?_
 refine xG (PO.loadFf u9 rfl evE_len Rr (Ev.tmp rfl) (by assumption) rfl) ?_
 refine xg (E2 Et Et) (putF_s a4 _ c4 l4 e.1 _ m hrd (by omega)) ?_
 rintro _ _ ⟨a30, c30, l30, r, rfl, hm30, hl30, hrd30, rfl⟩
 refine xA ?_
 refine wn [4, 5, 6] ?_
 refine gD ?_; intros
 refine xM ?_
 refine bI ?_
 refine xA ?_
 refine WL.nil (loopBackI ((evP p []).length - (i + 1)) [(4, .slice a30 l30.length c30), (6, .int .i64 (i + 1))] (h'' := .row (.slice a5 (evP p []).length c5) 94 2 (evP p []).length (fl evE (evP p [])) :: .pt b1 (.cells (prE p).toArray 56 (0, 0)) :: (H ++ r)) (by omega) ?_ Su Sb ⟨i + 1, a30, c30, l30, H ++ r, ⟨⟨by omega, by omega⟩, fun n hn => by rw [htk] at hn; exact (hm30 n).2 ((List.mem_append.1 hn).elim (fun q => .inr (hin n q)) (fun q => .inl (by rw [List.mem_singleton] at q; rw [← q]))), hrd30, hsub.trans (List.sublist_append_left _ _)⟩, rfl, rfl, rfl⟩)
 exact Su
 have d23 : e.2 = true := by
   have q : (!(e.2)) = false := c23
   simpa using q
 refine WC.skip (kp [4, 5, 6] ?_)
 refine gD ?_; intros
 refine xM ?_
 refine bI ?_
 refine xA ?_
 refine WL.nil (loopBackI ((evP p []).length - (i + 1)) [(4, .slice a4 l4.length c4), (6, .int .i64 (i + 1))] (h'' := .row (.slice a5 (evP p []).length c5) 94 2 (evP p []).length (fl evE (evP p [])) :: .pt b1 (.cells (prE p).toArray 56 (0, 0)) :: H) (by omega) ?_ Su Sb ⟨i + 1, a4, c4, l4, H, ⟨⟨by omega, by omega⟩, fun n hn => by rw [htk] at hn; exact (List.mem_append.1 hn).elim (hin n) (fun q => by rw [List.mem_singleton] at q; rw [← q] at d23; cases d23), hrd, hsub⟩, rfl, rfl, rfl⟩)
 exact Su
 replace c15 := dF c15
 obtain rfl : i = (evP p []).length := by omega
 rw [List.take_length] at hin
 refine WC.exit (kp [4] ?_)
 refine gD ?_; intros
 refine xM ?_
 refine xA ?_
 refine xC ?_
 refine wn [2, 3] ?_
 refine WC.ret (end2 (h' := .row (.slice a5 (evP p []).length c5) 94 2 (evP p []).length (fl evE (evP p [])) :: .pt b1 (.cells (prE p).toArray 56 (0, 0)) :: H) (.inl rfl) rfl (RV.tmp rfl) (RV.tmp rfl) (View.le.refl m) Sb ?_)
 exact ⟨a4, c4, l4, 0, rfl, fun _ => hin, (hsub.cons _).cons _, hrd⟩
end Go.Proofs.YtdhmplmpbcnojaaGreatDoor
end
/- FrJ -/
section
namespace Go.Proofs.YtdhmplmpbcnojaaGreatDoor
open Go.Eng Go.Pc Go.Fr Go
open Go.Xp hiding B nameT
open Go.Ty (Ty Vr)
set_option maxRecDepth 100000
theorem none_l {e : Ex} (h : noneE e = true) : e.l = [] := by
 unfold noneE at h
 rw [sameE_eq] at h
 simp only [Bool.and_eq_true, Bool.not_eq_true'] at h
 have h1 := h.1
 unfold badE at h1
 simp only [Bool.or_eq_false_iff, bne_eq_false_iff_eq] at h1
 have h2 : (e.l.length : Int) = 0 := h1.2
 exact List.eq_nil_of_length_eq_zero (by omega)
theorem none_cnt {e : Ex} (h : noneE e = true) : cntE e ≤ 256 := by
 rw [cntE_eq, none_l h]
 decide
theorem may_cnt {e : Ex} (h : mayE e = true) : cntE e ≤ 256 := (may_good h).2
theorem either_cnt {e : Ex} {u a : Bool} (h : either u a (noneE e) = true) (ha : a = true → cntE e ≤ 256) : cntE e ≤ 256 := by
 unfold either at h
 split at h
 · exact ha h
 · exact none_cnt h
theorem evX_len (E : List Fe) (e : Ex) : (evX E e).length ≤ cntE e := by
 refine Ex.ind (p := fun e => (evX E e).length ≤ cntE e) (fun e ih => ?_) e
 have hN : ∀ nm, (evN E nm).length ≤ 1 := fun nm => by
   unfold evN
   split <;> simp
 have hL : ∀ l : List Ex, (∀ x ∈ l, (evX E x).length ≤ cntE x) → (evXs E l).length ≤ cntL l := by
   intro l
   induction l with
   | nil => intro _; exact Nat.le_refl _
   | cons x r ihr =>
     intro h
     show (evX E x ++ evXs E r).length ≤ cntE x + cntL r
     rw [List.length_append]
     have := h x (List.Mem.head _)
     have := ihr fun y hy => h y (List.Mem.tail _ hy)
     omega
 rw [evX_eq, cntE_eq, List.length_append]
 have h1 := hL e.l ih
 have h2 : (if e.k = 4 ∨ e.k = 5 ∨ e.k = 9 then evN E e.s else []).length ≤ 1 := by
   split
   · exact hN _
   · exact Nat.zero_le _
 omega
theorem evXs_len (E : List Fe) {l : List Ex} (h : ∀ x ∈ l, cntE x ≤ 256) : (evXs E l).length ≤ 256 * l.length := by
 induction l with
 | nil => exact Nat.le_refl _
 | cons x r ih =>
   show (evX E x ++ evXs E r).length ≤ 256 * (r.length + 1)
   rw [List.length_append]
   have := evX_len E x
   have := h x (List.Mem.head _)
   have := ih fun y hy => h y (List.Mem.tail _ hy)
   omega
theorem twG_len : ∀ (l s : List B), (twG s l).length ≤ l.length
 | [], _ => Nat.le_refl _
 | x :: r, s => by
   show ((if s.contains x then [(x, true)] else []) ++ twG (s ++ [x]) r).length ≤ r.length + 1
   rw [List.length_append]
   have := twG_len r (s ++ [x])
   split <;> simp <;> omega
theorem evT_len (E : List Fe) (b : B) : (evT E b).length ≤ 1 := by
 unfold evT evN
 split
 · exact Nat.zero_le _
 · split <;> simp
theorem evTs_len (E : List Fe) : ∀ l : List Fo, (evTs E l).length ≤ l.length
 | [] => Nat.le_refl _
 | f :: r => by
   show (evT E f.ty.proto ++ evTs E r).length ≤ r.length + 1
   rw [List.length_append]
   have := evT_len E f.ty.proto
   have := evTs_len E r
   omega
structure SpB (s : Sp) : Prop where
 n : s.names.l.length ≤ 8
 f : s.fs.l.length ≤ 8
 v : s.vs.l.length ≤ 16
 e : cntE s.e ≤ 256
 b : s.bl.length ≤ 1
 t : s.k = 4 → s.ty = Go.Ty.zeroT
theorem eqL_length {α : Type} {q : α → α → Bool} : ∀ {l r : List α}, eqL q l r = true → l.length = r.length
 | [], [], _ => rfl
 | _ :: _, [], h => by cases h
 | [], _ :: _, h => by cases h
 | x :: l, y :: r, h => by
   have h' : (q x y && eqL q l r) = true := h
   simp only [Bool.and_eq_true] at h'
   rw [List.length_cons, List.length_cons, eqL_length h'.2]
theorem sf_spec {s t : Sp} (h : sameSF s t = true) : s.names.l = t.names.l ∧ sameE s.e t.e = true ∧ s.vs.l.length = t.vs.l.length ∧ s.fs.l.length = t.fs.l.length ∧ s.k = t.k := by
 unfold sameSF at h
 simp only [Bool.and_eq_true, beq_iff_eq] at h
 obtain ⟨⟨⟨⟨⟨⟨⟨h1, h2⟩, h3⟩, h4⟩, h5⟩, h6⟩, h7⟩, h8⟩ := h
 exact ⟨h3, h4, eqL_length h6, eqL_length h7, h1⟩
theorem spB_zero {s : Sp} (h : sameSF s zeroS = true) : SpB s := by
 obtain ⟨h1, h2, h3, h4, h5⟩ := sf_spec h
 refine ⟨by rw [h1]; decide, by rw [h4]; exact Nat.zero_le _, by rw [h3]; exact Nat.zero_le _, none_cnt h2, by rw [ns_bl h]; decide, fun h6 => ?_⟩
 rw [h5] at h6
 exact absurd h6 (by decide)
theorem mayPr_len {cs : Bool} {l : List Vr} (h : Go.Ty.mayPr cs l = true) : l.length ≤ 16 := by
 unfold Go.Ty.mayPr at h
 split at h
 · simp only [Bool.and_eq_true, beq_iff_eq] at h
   have := h.1.1
   omega
 · split at h
   · cases h
   · rename_i h1
     simp only [Bool.or_eq_true, decide_eq_true_eq, not_or, Int.not_lt] at h1
     omega
theorem spB_may {s : Sp} (h : spP s = true) : SpB s := by
 have hV := sp_spec h
 have hb := sp_bl h
 have hz := sp_zero h
 unfold spP at h
 rw [if_pos hV.kd] at h
 simp only [Bool.and_eq_true] at h
 obtain ⟨⟨hf, hn⟩, hs⟩ := h
 obtain ⟨h1, h2, h3, h4, h5⟩ := sf_spec hs
 have hnn := (each_all hn).2.2
 have hn8 : s.names.l.length ≤ 8 := by
   by_cases h1 : s.k = 1
   · rw [if_pos h1] at hnn; omega
   · rw [if_neg h1] at hnn; omega
 unfold fineS at hf
 have hkd := hV.kd
 by_cases k1 : s.k = 1
 · unfold wantS at h2 h3 h4
   rw [if_pos k1] at h2 h3 h4
   exact ⟨hn8, by rw [h4]; exact Nat.zero_le _, by rw [h3]; exact Nat.zero_le _, none_cnt h2, hb, hz⟩
 by_cases k2 : s.k = 2
 · unfold wantS at h2 h3 h4
   rw [if_neg k1, if_pos k2] at h2 h3 h4
   exact ⟨hn8, by rw [h4]; exact Nat.zero_le _, by rw [h3]; exact Nat.zero_le _, may_cnt (hV.ev k2), hb, hz⟩
 by_cases k3 : s.k = 3
 · unfold wantS at h2 h3 h4
   rw [if_neg k1, if_neg k2, if_pos k3] at h2 h3 h4
   exact ⟨hn8, by rw [h4]; exact Nat.zero_le _, by rw [h3]; exact Nat.zero_le _, may_cnt (elem_may (hV.es k3)), hb, hz⟩
 by_cases k4 : s.k = 4
 · unfold wantS at h2 h3 h4
   rw [if_neg k1, if_neg k2, if_neg k3, if_pos k4] at h2 h3 h4
   rw [if_neg k1, if_neg k2, if_neg k3, if_pos k4] at hf
   exact ⟨hn8, by rw [h4]; exact Nat.zero_le _, mayPr_len hf, none_cnt h2, hb, hz⟩
 · unfold wantS at h2 h3 h4
   rw [if_neg k1, if_neg k2, if_neg k3, if_neg k4] at h2 h3 h4
   exact ⟨hn8, hV.fs (by omega), by rw [h3]; exact Nat.zero_le _, none_cnt h2, hb, hz⟩
structure GuB (g : Gu) : Prop where
 cond : cntE g.cond ≤ 256
 ch : cntE g.ch ≤ 256
 time : cntE g.time ≤ 256
 tg : ∀ x ∈ g.tg.l, cntE x ≤ 256
 tn : g.tg.l.length ≤ 8
 vl : ∀ x ∈ g.vl.l, cntE x ≤ 256
 vn : g.vl.l.length ≤ 8
 b : g.bl.length = 1
theorem guB {g : Gu} (h : guP g = true) : GuB g := by
 unfold guP at h
 simp only [Bool.and_eq_true] at h
 obtain ⟨⟨⟨⟨⟨⟨⟨⟨h1, h2⟩, h3⟩, h4⟩, h5⟩, h6⟩, h7⟩, h8⟩, h9⟩ := h
 have t := each_all h8
 have v := each_all h9
 refine ⟨either_cnt h4 fun hc => ?_, either_cnt h6 fun hc => may_cnt (elem_may hc), either_cnt h7 fun hc => may_cnt hc, fun x hx => may_cnt (elem_may (t.1 x hx)), ?_, fun x hx => may_cnt (v.1 x hx), ?_, by simp only [beq_iff_eq] at h3; omega⟩
 · unfold condP at hc
   split at hc
   · simp only [Bool.or_eq_true] at hc
     exact hc.elim may_cnt none_cnt
   · exact may_cnt hc
 · have := t.2.2
   split at this
   · omega
   · split at this <;> omega
 · have := v.2.2
   split at this <;> omega
structure PlB (p : Pr) : Prop where
 ch : cntE p.ch ≤ 256
 tg : ∀ x ∈ p.tg.l, cntE x ≤ 256
 tn : p.tg.l.length ≤ 9
 ex : ∀ x ∈ p.ex.l, cntE x ≤ 256
 en : p.ex.l.length ≤ 9
 rb : cntE p.rep.base ≤ 256
 rc : cntE p.rep.count ≤ 256
 gs : ∀ g ∈ p.gl, GuB g
 sp : SpB p.sp
 ne : p.k = 5 → p.ex.l ≠ []
theorem fields_te (k : Int) : (fieldsP k).1.t1 ≤ 9 ∧ (fieldsP k).1.e1 ≤ 9 := by
 by_cases hk : 1 ≤ k ∧ k ≤ 18
 · have : k = 1 ∨ k = 2 ∨ k = 3 ∨ k = 4 ∨ k = 5 ∨ k = 6 ∨ k = 7 ∨ k = 8 ∨ k = 9 ∨ k = 10 ∨ k = 11 ∨ k = 12 ∨ k = 13 ∨ k = 14 ∨ k = 15 ∨ k = 16 ∨ k = 17 ∨ k = 18 := by omega
   rcases this with h | h | h | h | h | h | h | h | h | h | h | h | h | h | h | h | h | h <;> rw [h] <;> decide
 · unfold fieldsP
   repeat rw [if_neg (by omega)]
   decide
theorem plB {p : Pr} (h : Pl p) : PlB p := by
 have hf := fields_te p.k
 have ht := h.tn
 have he := h.en
 have hr := h.rep
 have hrep : cntE p.rep.base ≤ 256 ∧ cntE p.rep.count ≤ 256 := by
   unfold repP at hr
   split at hr
   · simp only [Bool.and_eq_true] at hr
     exact ⟨none_cnt hr.1, none_cnt hr.2⟩
   · simp only [Bool.and_eq_true] at hr
     exact ⟨may_cnt hr.1.2, may_cnt hr.2⟩
 refine ⟨?_, fun x hx => may_cnt (elem_may (h.tg x hx)), by omega, fun x hx => may_cnt (h.ex x hx), by omega, hrep.1, hrep.2, fun g hg => guB (h.gs g hg).1, ?_, fun h5 hn => ?_⟩
 · cases hc : (fieldsP p.k).1.chan with
   | true => exact may_cnt (elem_may (h.ch hc))
   | false => exact none_cnt (h.nc hc)
 · cases hc : (fieldsP p.k).1.spec with
   | true => exact spB_may (h.sp hc)
   | false => exact spB_zero (h.ns hc)
 · rw [h5, hn] at he
   exact absurd he.1 (by decide)
theorem cntGs_len : ∀ {l : List Gu}, (∀ g ∈ l, g.bl.length = 1) → l.length ≤ cntGs l
 | [], _ => Nat.le_refl _
 | g :: r, h => by
   show r.length + 1 ≤ cntG g + cntGs r
   have h1 := cntGs_len fun y hy => h y (List.Mem.tail _ hy)
   have h2 := cntPs_len g.bl
   have h3 := h g (List.Mem.head _)
   rw [cntG_eq]
   omega
theorem sm_all (p : Pr) : Vld p → cntP p ≤ 2048 → SmP p := by
 refine Pr.ind (q := fun p => Vld p → cntP p ≤ 2048 → SmP p) (fun p ih hV hc => ?_) p
 have hB := plB hV.own
 have hs := hB.sp
 have h1 := cntPs_len p.ll
 have h2 := cntGs_len fun g hg => (hB.gs g hg).b
 have h3 := cntP_eq p
 refine .mk ⟨Nat.le_trans hB.ch (by decide), fun x hx => Nat.le_trans (hB.tg x hx) (by decide), Nat.le_trans hB.tn (by decide), fun x hx => Nat.le_trans (hB.ex x hx) (by decide), Nat.le_trans hB.en (by decide), Nat.le_trans hB.rb (by decide), Nat.le_trans hB.rc (by decide), fun g hg => ?_, by omega, by omega,
   Nat.le_trans hs.n (by decide), Nat.le_trans hs.f (by decide), Nat.le_trans hs.v (by decide), Nat.le_trans hs.e (by decide), Nat.le_trans hs.b (by decide), hs.t, hB.ne⟩ fun x hx => ih x hx (hV.sub hx) (by have := hx.lt; omega)
 have q := hB.gs g hg
 exact ⟨Nat.le_trans q.cond (by decide), Nat.le_trans q.ch (by decide), Nat.le_trans q.time (by decide), fun x hx => Nat.le_trans (q.tg x hx) (by decide), Nat.le_trans q.tn (by decide), fun x hx => Nat.le_trans (q.vl x hx) (by decide), Nat.le_trans q.vn (by decide), by rw [q.b]; decide⟩
theorem dc_list {l : List Pr} (h : ∀ x ∈ l, dcP x ≤ 17 * cntP x) : dcPs l ≤ 17 * cntPs l := by
 induction l with
 | nil => exact Nat.le_refl _
 | cons x r ih =>
   show dcP x + dcPs r ≤ 17 * (cntP x + cntPs r)
   have := h x (List.Mem.head _)
   have := ih fun y hy => h y (List.Mem.tail _ hy)
   omega
theorem dc_len (p : Pr) : Vld p → dcP p ≤ 17 * cntP p := by
 refine Pr.ind (q := fun p => Vld p → dcP p ≤ 17 * cntP p) (fun p ih hV => ?_) p
 have hs := (plB hV.own).sp
 have h1 := dc_list (l := p.ll) fun x hx => ih x (.l hx) (hV.sub (.l hx))
 have h2 := dc_list (l := p.sp.bl) fun x hx => ih x (.s hx) (hV.sub (.s hx))
 have hG : ∀ l : List Gu, (∀ g ∈ l, g ∈ p.gl) → dcGs l ≤ 17 * cntGs l := by
   intro l
   induction l with
   | nil => intro _; exact Nat.le_refl _
   | cons g r ihr =>
     intro h
     show dcG g + dcGs r ≤ 17 * (cntG g + cntGs r)
     have h3 := ihr fun y hy => h y (List.Mem.tail _ hy)
     have hg := h g (List.Mem.head _)
     have h4 := dc_list (l := g.bl) fun x hx => ih x (.g hg hx) (hV.sub (.g hg hx))
     rw [dcG_eq, cntG_eq]
     omega
 have h3 := hG p.gl fun g hg => hg
 have hn := hs.n
 have hf := hs.f
 rw [dcP_eq, cntP_eq, dcS_eq, cntS_eq]
 omega
theorem evs_list {E : List Fe} {l : List Pr} (h : ∀ x ∈ l, (evP x E).length + 6000 ≤ 16384 * cntP x) : (evPs l E).length + 6000 * l.length ≤ 16384 * cntPs l := by
 induction l with
 | nil => exact Nat.le_refl _
 | cons x r ih =>
   show (evP x E ++ evPs r E).length + 6000 * (r.length + 1) ≤ 16384 * (cntP x + cntPs r)
   rw [List.length_append]
   have := h x (List.Mem.head _)
   have := ih fun y hy => h y (List.Mem.tail _ hy)
   omega
theorem ev_len (p : Pr) : ∀ E : List Fe, Vld p → (evP p E).length + 6000 ≤ 16384 * cntP p := by
 refine Pr.ind (q := fun p => ∀ E : List Fe, Vld p → (evP p E).length + 6000 ≤ 16384 * cntP p) (fun p ih E hV => ?_) p
 have hB := plB hV.own
 have hs := hB.sp
 have h1 : ∀ E, (evPs p.ll E).length ≤ 16384 * cntPs p.ll := fun E => by have := evs_list (l := p.ll) (E := E) fun x hx => ih x (.l hx) E (hV.sub (.l hx)); omega
 have h2 : ∀ E, (evPs p.sp.bl E).length ≤ 16384 * cntPs p.sp.bl := fun E => by have := evs_list (l := p.sp.bl) (E := E) fun x hx => ih x (.s hx) E (hV.sub (.s hx)); omega
 have hG : ∀ E, ∀ l : List Gu, (∀ g ∈ l, g ∈ p.gl) → (evGs l E).length ≤ 16384 * cntGs l := by
   intro E l
   induction l with
   | nil => intro _; exact Nat.zero_le _
   | cons g r ihr =>
     intro h
     show (evG g E ++ evGs r E).length ≤ 16384 * (cntG g + cntGs r)
     have h3 := ihr fun y hy => h y (List.Mem.tail _ hy)
     have hg := h g (List.Mem.head _)
     have h4 := evs_list (l := g.bl) (E := E) fun x hx => ih x (.g hg hx) E (hV.sub (.g hg hx))
     have q := hB.gs g hg
     have q1 := evX_len E g.cond
     have q2 := evX_len E g.ch
     have q3 := evX_len E g.time
     have q4 := evXs_len E q.tg
     have q5 := evXs_len E q.vl
     have q6 := q.tn
     have q7 := q.vn
     have q8 := q.cond
     have q9 := q.ch
     have q10 := q.time
     have q11 := q.b
     rw [List.length_append, evG_eq, cntG_eq]
     simp only [List.length_append]
     omega
 have hgs := fun E => hG E p.gl fun g hg => hg
 have hS : ∀ E, (evS p.sp E).length ≤ 1024 + 16384 * cntPs p.sp.bl := by
   intro E
   have q1 := twG_len p.sp.names.l []
   have q2 := twG_len (p.sp.fs.l.map (·.name)) []
   have q3 := evT_len E p.sp.ty.proto
   have q4 := evTs_len E p.sp.fs.l
   have q5 := evX_len E p.sp.e
   have q6 := h2 (E ++ innF E p.sp.fs.l)
   have q7 := hs.n
   have q8 := hs.f
   have q9 := hs.e
   rw [List.length_map] at q2
   rw [evS_eq]
   simp only [List.length_append]
   omega
 have q1 : (if p.k = 17 then evN E p.name else []).length ≤ 1 := by
   split
   · unfold evN; split <;> simp
   · exact Nat.zero_le _
 have q2 := evX_len E p.ch
 have q3 := evXs_len E hB.tg
 have q4 : (evXs E (if taggedF E p.k p.ch p.ex.l then p.ex.l.drop 1 else p.ex.l)).length ≤ 256 * 9 := by
   have hen := hB.en
   split
   · have := evXs_len E (l := p.ex.l.drop 1) fun x hx => hB.ex x (List.mem_of_mem_drop hx)
     rw [List.length_drop] at this
     omega
   · have := evXs_len E hB.ex
     omega
 have q5 : (if p.rep.name = [] then [] else evX E p.rep.base ++ evX E p.rep.count).length ≤ 512 := by
   split
   · exact Nat.zero_le _
   · rw [List.length_append]
     have := evX_len E p.rep.base
     have := evX_len E p.rep.count
     have := hB.rb
     have := hB.rc
     omega
 have q6 : (if p.k = 18 then evS p.sp (repF E p.rep) else []).length ≤ 1024 + 16384 * cntPs p.sp.bl := by
   split
   · exact hS _
   · exact Nat.zero_le _
 have q7 := hgs (if p.k = 18 then repF E p.rep ++ ownF (repF E p.rep) p.sp else repF E p.rep)
 have q8 := h1 (if p.k = 18 then repF E p.rep ++ ownF (repF E p.rep) p.sp else repF E p.rep)
 have q9 := hB.ch
 have q10 := hB.tn
 rw [evP_eq, cntP_eq, cntS_eq]
 simp only [List.length_append]
 omega
theorem may_sm {p : Pr} (h : mayP p = true) : SmP p ∧ dcP p ≤ Top ∧ (evP p []).length ≤ Top := by
 obtain ⟨hV, hc⟩ := mayP_vld h
 have h1 := dc_len p hV
 have h2 := ev_len p [] hV
 exact ⟨sm_all p hV hc, by show dcP p ≤ 1099511627776; omega, by show (evP p []).length ≤ 1099511627776; omega⟩
end Go.Proofs.YtdhmplmpbcnojaaGreatDoor
end
/- LwO -/
section
namespace Go.Proofs.YtdhmplmpbcnojaaGreatDoor
open Go.Eng Go.Pc Go.Tg Go.Fr Go
open Go.Xp hiding B nameT zeroT
open Go.Ty (Ty Vr eqT tyV cellT PrOk VOk prL encV encV_len encI encI_len zeroT)
open Go.Lx (encB encB_len)
set_option maxRecDepth 100000
def unB : B := [122, 122, 46, 117, 110, 117, 115, 101, 100]
def spU (b : Nat) (s : Sp) : Sp := .mk s.k s.ty ⟨some ⟨b, 0, none⟩, 1, [unB]⟩ s.e s.cs s.vs s.fs s.ba s.bc s.bl
theorem envS_up : ∀ (l : List Sp) (i : Nat), (envS l (i + 1)).map shE = ((envS l i).map shE).map up
 | [], _ => rfl
 | x :: r, i => by
   show shE ⟨x, ((i + 1 : Nat) : Int)⟩ :: (envS r (i + 1 + 1)).map shE = up (shE ⟨x, (i : Int)⟩) :: ((envS r (i + 1)).map shE).map up
   rw [envS_up r (i + 1)]
   rfl
theorem envX_up (x : Sp) (l : List Sp) : envX (x :: l) = Up (shS x 0) (envX l) := by
 show shE ⟨x, ((0 : Nat) : Int)⟩ :: (envS l (0 + 1)).map shE = _
 rw [envS_up l 0]
 rfl
theorem envX_ar (l : List Sp) : ArOk (envX l) := by
 intro i x hx
 have hx' : ((envS l 0).map shE)[i]? = some x := hx
 rw [List.getElem?_map] at hx'
 cases hq : (envS l 0)[i]? with
 | none => rw [hq] at hx'; cases hx'
 | some y =>
   rw [hq] at hx'
   cases hx'
   have := (envS_get l 0 i y hq).1
   show 0 ≤ y.ar ∧ y.ar ≤ (i : Int)
   omega
theorem out_eq {p : Pr} {l : List Sp} {b : Nat} {s : Sp} (h : ∀ x ∈ l, x.ty.proto ≠ unB ∧ ∀ f ∈ x.fs.l, f.ty.proto ≠ unB) (hn : mayP p = true → ∀ n, (n, false) ∈ evP p [] → n ≠ unB) :
   checkX (mayP p) (envX (spU b s :: l)) p = checkX (mayP p) (envX l) p := by
 rw [envX_up]
 refine outside_plain (u := unB) (by decide) rfl (envX_ar l) (fun x hx => ?_) hn
 have hx' : x ∈ (envS l 0).map shE := hx
 obtain ⟨y, hy, rfl⟩ := List.mem_map.1 hx'
 exact h y.sp (envS_mem hy)
theorem freeF_two (p : Pr) (x y : Res) (h : List Res) (m : View) (hP : POk m h p) :
   CT Tryz.prog 15 [prV p] (x :: y :: h) m (fun v _ h' => ∃ (a : Option Addr) (c : Nat) (l : List B) (e : Int) (r : List Res), v = .tuple #[.slice a l.length c, .int .i64 e] ∧ (mayP p = true → ∀ n, (n, false) ∈ evP p [] → n ∈ l) ∧ Rd m (x :: y :: (h ++ r)) a l.length c 1 (fl encB l) ∧ h' = x :: y :: (h ++ r)) :=
 (freeF_ct p (x :: y :: h) m (hP.mono ((List.sublist_cons_self _ _).trans (List.sublist_cons_self _ _))) may_sm).conv fun v m2 h2 w2 _ st hR => by
   obtain ⟨a, c, l, e, e1, e2, e3, e4⟩ := hR
   obtain ⟨r, hr⟩ := e3.exists_perm_append
   exact ⟨m2, x :: y :: (h ++ r), View.le.refl _, st.perm hr, a, c, l, e, r, e1, e2, e4.permH hr, rfl⟩
theorem vok_cons {m : View} {h : List Res} {x : Sp} {l : List Sp} (hv : VOkE m h l) (h1 : Rd m h x.names.a x.names.l.length x.names.c 1 (fl encB x.names.l)) (h2 : Rd m h x.fs.a x.fs.l.length x.fs.c 6 (fl foE x.fs.l)) (h3 : PrOk m h x.vs.a x.vs.l.length x.vs.c x.vs.l) : VOkE m h (x :: l) := by
 refine ⟨fun y hy => ?_, fun y hy => ?_, fun y hy => ?_⟩
 · rcases List.mem_cons.1 hy with rfl | hy
   · exact h1
   · exact hv.nm y hy
 · rcases List.mem_cons.1 hy with rfl | hy
   · exact h2
   · exact hv.fr y hy
 · rcases List.mem_cons.1 hy with rfl | hy
   · exact h3
   · exact hv.pr y hy
theorem outside_law {m : View} (hg : Glob m) (p : Pr) (a : Option Addr) (k c : Nat) (l : List Sp) (s : Sp) (h : List Res) (hP : POk m h p) (hr : Rd m h a k c 16 (fl spE l)) (hv : VOkE m h l) (_hS : ∀ x ∈ l, SOk m h x) (hS2 : SOk m h s) : CT Tryz.prog 5 [prV p, .slice a k c, spV s] h m Law := by
 have hl := hr.lenF spE_len (by decide)
 subst hl
 have hmx := hr.mx
 have hle := hr.le
 obtain ⟨ls, a2, hn, ha2, hr2, hv2, h30⟩ := env_cut (m := m) hr hv
 refine CT.body Tryz.call5 Tryz.func5 rfl Tryz.ntmps5 Lb rfl ?_
 refine gD ?_; intros
 refine xX fun b3 => ?_
 refine xX fun b5 => ?_
 refine xC ?_
 refine wn [1, 3, 5] ?_
 refine gD ?_; intros
 refine xM ?_
 refine xM ?_
 refine xG (PO.lenSl u28 Et) ?_
 refine xG (PO.min Et Ev.const) ?_
 refine xG (PO.sliceH EL28.und EL28.size Et Et (u := ls.length) (by split <;> omega) (by omega)) ?_
 rw [← ha2]
 refine xA ?_
 refine wn [1, 3, 5] ?_
 refine gD ?_; intros
 refine xG (PO.loadA u56 rfl rfl Et (by (repeat (first | exact mem0 _ | apply memT | apply List.mem_append_right))) rfl) ?_
 refine xg (E1 Et) (freeF_two p _ _ _ m hP) ?_
 rintro _ _ ⟨af, cf, lf, ef, r, rfl, hfr, hrdF, rfl⟩
 refine xM ?_
 refine xE ?_
 refine xE ?_
 refine xA ?_
 refine xA ?_
 have hlf := hrdF.mx
 have hlf2 := hrdF.le
 refine wn [1, 3, 5, 7] ?_
 refine gD ?_; intros
 refine xM ?_
 refine xG (PO.lenSl u48 Et) ?_
 refine xK ?_
 refine wn [1, 3, 5, 26, 27, 28] ?_
 refine gE ?_; intros
 refine WC.loopI [1, 3, 5, 26, 27] rfl (fun μ F' h' => ∃ i : Nat, (i ≤ lf.length ∧ ∀ x ∈ lf.take i, x ≠ unB) ∧ lf.length - i = μ ∧ F' = [(28, .int .i64 i)] ∧ .pt b5 (.cells (spE s).toArray 54 (0, 0)) :: .pt b3 (.cells (prE p).toArray 56 (0, 0)) :: (h ++ r) = h') (lf.length - 0) [(28, .int .i64 0)] (h0 := .pt b5 (.cells (spE s).toArray 54 (0, 0)) :: .pt b3 (.cells (prE p).toArray 56 (0, 0)) :: (h ++ r)) ?_ Sb ⟨0, ⟨by omega, fun _ hx => (List.not_mem_nil hx).elim⟩, rfl, rfl, rfl⟩ ?_
 exact Su
 rintro _ _ _ ⟨i, ⟨hi, hall⟩, rfl, rfl, rfl⟩
 refine WC.frm rfl ?_
 refine gD ?_; intros
 refine bD ?_
 refine wn [1, 3, 5, 26, 27, 28, 29] ?_
 refine gE ?_; intros
 refine wc (fun c29 => ?_) fun c29 => ?_
 replace c29 := dT c29
 obtain ⟨x, hx⟩ := get_some (l := lf) (k := i) (by omega)
 have hxt : lf.take (i + 1) = lf.take i ++ [x] := take_at hx
 refine WC.skip (kp [1, 3, 5, 26, 27, 28] ?_)
 refine gD ?_; intros
 refine xG (PO.idx EL48.und EL48.size EL48.posz Et Et (by first | assumption | exact Rd.ofSl (by assumption) | exact Rd.ofPt rfl (by decide) (by (repeat (first | exact mem0 _ | apply memT | apply List.mem_append_right))) | exact Rd.mono (by assumption) (View.le.refl _) Sb | exact Rd.inRow (by (repeat (first | exact mem0 _ | apply memT | apply List.mem_append_right))) (by assumption) (by assumption) (by assumption)) rfl (by omega)) ?_
 refine xG (PO.loadF1 u9 rfl encB_len (by first | assumption | exact Rd.ofSl (by assumption) | exact Rd.ofPt rfl (by decide) (by (repeat (first | exact mem0 _ | apply memT | apply List.mem_append_right))) | exact Rd.mono (by assumption) (View.le.refl _) Sb | exact Rd.inRow (by (repeat (first | exact mem0 _ | apply memT | apply List.mem_append_right))) (by assumption) (by assumption) (by assumption)) Et (by assumption) rfl) ?_
 refine xA ?_
 refine wn [1, 3, 5, 10, 26, 27, 28] ?_
 refine gD ?_; intros
 refine xM ?_
 refine xG (PO.eqlS Et Ev.const) ?_
 refine wn [1, 3, 5, 26, 27, 28, 33] ?_
 refine gE ?_; intros
 refine wc (fun c33 => ?_) fun c33 => ?_
 refine gD ?_; intros
 refine xf E0 (worksX_ct hg _) ?_
 refine xA ?_
 refine wn [6] ?_
 refine WC.ret (wR (h ++ r) ?_)
 rfl
 have d33 : x ≠ unB := by
   have q : (x == unB) = false := c33
   simpa using q
 refine WC.skip (kp [1, 3, 5, 26, 27, 28] ?_)
 refine gD ?_; intros
 refine bI ?_
 refine xM ?_
 refine WL.nil (loopBackI (lf.length - (i + 1)) [(28, .int .i64 (i + 1))] (h'' := .pt b5 (.cells (spE s).toArray 54 (0, 0)) :: .pt b3 (.cells (prE p).toArray 56 (0, 0)) :: (h ++ r)) (by omega) ?_ Su Sb ⟨i + 1, ⟨by omega, fun y hy => by rw [hxt] at hy; exact (List.mem_append.1 hy).elim (hall y) (fun q => by rw [List.mem_singleton] at q; rw [q]; exact d33)⟩, rfl, rfl, rfl⟩)
 exact Su
 replace c29 := dF c29
 obtain rfl : i = lf.length := by omega
 rw [List.take_length] at hall
 refine WC.exit (kp [1, 3, 5] ?_)
 refine gD ?_; intros
 refine xM ?_
 refine xG (PO.lenSl u28 Et) ?_
 refine xK ?_
 refine wn [1, 3, 5, 36, 37, 38] ?_
 refine gE ?_; intros
 refine WC.loopI [1, 3, 5, 36, 37] rfl (fun μ F' h' => ∃ j : Nat, (j ≤ ls.length ∧ ∀ x ∈ ls.take j, x.ty.proto ≠ unB ∧ ∀ f ∈ x.fs.l, f.ty.proto ≠ unB) ∧ ls.length - j = μ ∧ F' = [(38, .int .i64 j)] ∧ .pt b5 (.cells (spE s).toArray 54 (0, 0)) :: .pt b3 (.cells (prE p).toArray 56 (0, 0)) :: (h ++ r) = h') (ls.length - 0) [(38, .int .i64 0)] (h0 := .pt b5 (.cells (spE s).toArray 54 (0, 0)) :: .pt b3 (.cells (prE p).toArray 56 (0, 0)) :: (h ++ r)) ?_ Sb ⟨0, ⟨by omega, fun _ hx => (List.not_mem_nil hx).elim⟩, rfl, rfl, rfl⟩ ?_
 exact Su
 rintro _ _ _ ⟨j, ⟨hj, hok⟩, rfl, rfl, rfl⟩
 refine WC.frm rfl ?_
 refine gD ?_; intros
 refine bD ?_
 refine wn [1, 3, 5, 36, 37, 38, 39] ?_
 refine gE ?_; intros
 refine wc (fun c39 => ?_) fun c39 => ?_
 replace c39 := dT c39
 obtain ⟨x, hx⟩ := get_some (l := ls) (k := j) (by omega)
 have hxt : ls.take (j + 1) = ls.take j ++ [x] := take_at hx
 have hxm := List.mem_of_getElem? hx
 have hfr1 := hv2.fr x hxm
 have hf1 := hfr1.mx
 have hf2 := hfr1.le
 refine WC.skip (kp [1, 3, 5, 36, 37, 38] ?_)
 refine gD ?_; intros
 refine xG (PO.idx EL28.und EL28.size EL28.posz Et Et (by first | assumption | exact Rd.ofSl (by assumption) | exact Rd.ofPt rfl (by decide) (by (repeat (first | exact mem0 _ | apply memT | apply List.mem_append_right))) | exact Rd.mono (by assumption) (View.le.refl _) Sb | exact Rd.inRow (by (repeat (first | exact mem0 _ | apply memT | apply List.mem_append_right))) (by assumption) (by assumption) (by assumption)) rfl (by omega)) ?_
 refine xG (PO.loadFA u54 rfl rfl spE_len (by first | assumption | exact Rd.ofSl (by assumption) | exact Rd.ofPt rfl (by decide) (by (repeat (first | exact mem0 _ | apply memT | apply List.mem_append_right))) | exact Rd.mono (by assumption) (View.le.refl _) Sb | exact Rd.inRow (by (repeat (first | exact mem0 _ | apply memT | apply List.mem_append_right))) (by assumption) (by assumption) (by assumption)) Et (by assumption) rfl rfl (Nat.succ_pos _)) ?_
 refine xW fun b12 => ?_
 refine xS ?_
 refine wn [1, 3, 5, 12, 36, 37, 38] ?_
 refine gD ?_; intros
 refine xF u54 ?_
 refine xF u30 ?_
 refine xG (PO.load1 u9 rfl Et (by (repeat (first | exact mem0 _ | apply memT | apply List.mem_append_right))) rfl) ?_
 refine xG (PO.eqlS Et Ev.const) ?_
 refine wn [1, 3, 5, 12, 36, 37, 38, 45] ?_
 refine gE ?_; intros
 refine wc (fun c45 => ?_) fun c45 => ?_
 refine gD ?_; intros
 refine xf E0 (worksX_ct hg _) ?_
 refine xA ?_
 refine wn [6] ?_
 refine WC.ret (wR (h ++ r) ?_)
 rfl
 have d45 : x.ty.proto ≠ unB := by
   have q : (x.ty.proto == unB) = false := c45
   simpa using q
 refine WC.skip (kp [1, 3, 5, 12, 36, 37, 38] ?_)
 refine gD ?_; intros
 refine xF u54 ?_
 refine xG (PO.load1 u52 rfl Et (by (repeat (first | exact mem0 _ | apply memT | apply List.mem_append_right))) rfl) ?_
 refine xG (PO.lenSl u52 Et) ?_
 refine xK ?_
 refine wn [1, 3, 5, 36, 37, 38, 48, 49, 50] ?_
 refine gE ?_; intros
 refine WC.loopI [1, 3, 5, 36, 37, 38, 48, 49] rfl (fun μ F' h' => ∃ q : Nat, (q ≤ x.fs.l.length ∧ ∀ f ∈ x.fs.l.take q, f.ty.proto ≠ unB) ∧ x.fs.l.length - q = μ ∧ F' = [(50, .int .i64 q)] ∧ .pt b12 (.cells (spE x).toArray 54 (0, 0)) :: .pt b5 (.cells (spE s).toArray 54 (0, 0)) :: .pt b3 (.cells (prE p).toArray 56 (0, 0)) :: (h ++ r) = h') (x.fs.l.length - 0) [(50, .int .i64 0)] (h0 := .pt b12 (.cells (spE x).toArray 54 (0, 0)) :: .pt b5 (.cells (spE s).toArray 54 (0, 0)) :: .pt b3 (.cells (prE p).toArray 56 (0, 0)) :: (h ++ r)) ?_ Sb ⟨0, ⟨by omega, fun _ hx => (List.not_mem_nil hx).elim⟩, rfl, rfl, rfl⟩ ?_
 exact Su
 rintro _ _ _ ⟨q, ⟨hq, hfo⟩, rfl, rfl, rfl⟩
 refine WC.frm rfl ?_
 refine gD ?_; intros
 refine bD ?_
 refine wn [1, 3, 5, 36, 37, 38, 48, 49, 50, 51] ?_
 refine gE ?_; intros
 refine wc (fun c51 => ?_) fun c51 => ?_
 replace c51 := dT c51
 obtain ⟨f, hf⟩ := get_some (l := x.fs.l) (k := q) (by omega)
 have hft : x.fs.l.take (q + 1) = x.fs.l.take q ++ [f] := take_at hf
 refine WC.skip (kp [1, 3, 5, 36, 37, 38, 48, 49, 50] ?_)
 refine gD ?_; intros
 refine xG (PO.idx EL52.und EL52.size EL52.posz Et Et (by first | assumption | exact Rd.ofSl (by assumption) | exact Rd.ofPt rfl (by decide) (by (repeat (first | exact mem0 _ | apply memT | apply List.mem_append_right))) | exact Rd.mono (by assumption) (View.le.refl _) Sb | exact Rd.inRow (by (repeat (first | exact mem0 _ | apply memT | apply List.mem_append_right))) (by assumption) (by assumption) (by assumption)) rfl (by omega)) ?_
 refine xG (PO.loadFA u60 rfl rfl foE_len (by first | assumption | exact Rd.ofSl (by assumption) | exact Rd.ofPt rfl (by decide) (by (repeat (first | exact mem0 _ | apply memT | apply List.mem_append_right))) | exact Rd.mono (by assumption) (View.le.refl _) Sb | exact Rd.inRow (by (repeat (first | exact mem0 _ | apply memT | apply List.mem_append_right))) (by assumption) (by assumption) (by assumption)) Et (by assumption) rfl rfl (Nat.succ_pos _)) ?_
 refine xW fun b14 => ?_
 refine xS ?_
 refine wn [1, 3, 5, 14, 36, 37, 38, 48, 49, 50] ?_
 refine gD ?_; intros
 refine xF u60 ?_
 refine xF u30 ?_
 refine xG (PO.load1 u9 rfl Et (by (repeat (first | exact mem0 _ | apply memT | apply List.mem_append_right))) rfl) ?_
 refine xG (PO.eqlS Et Ev.const) ?_
 refine wn [1, 3, 5, 36, 37, 38, 48, 49, 50, 57] ?_
 refine gE ?_; intros
 refine wc (fun c57 => ?_) fun c57 => ?_
 refine gD ?_; intros
 refine xf E0 (worksX_ct hg _) ?_
 refine xA ?_
 refine wn [6] ?_
 refine WC.ret (wR (h ++ r) ?_)
 rfl
 have d57 : f.ty.proto ≠ unB := by
   have q : (f.ty.proto == unB) = false := c57
   simpa using q
 refine WC.skip (kp [1, 3, 5, 36, 37, 38, 48, 49, 50] ?_)
 refine gD ?_; intros
 refine bI ?_
 refine xM ?_
 refine WL.nil (loopBackI (x.fs.l.length - (q + 1)) [(50, .int .i64 (q + 1))] (h'' := .pt b12 (.cells (spE x).toArray 54 (0, 0)) :: .pt b5 (.cells (spE s).toArray 54 (0, 0)) :: .pt b3 (.cells (prE p).toArray 56 (0, 0)) :: (h ++ r)) (by omega) ?_ Su Sb ⟨q + 1, ⟨by omega, fun g hg => by rw [hft] at hg; exact (List.mem_append.1 hg).elim (hfo g) (fun e => by rw [List.mem_singleton] at e; rw [e]; exact d57)⟩, rfl, rfl, rfl⟩)
 exact Su
 replace c51 := dF c51
 obtain rfl : q = x.fs.l.length := by omega
 rw [List.take_length] at hfo
 refine WC.exit (kp [1, 3, 5, 36, 37, 38] ?_)
 refine gD ?_; intros
 refine bI ?_
 refine xM ?_
 refine WL.nil (loopBackI (ls.length - (j + 1)) [(38, .int .i64 (j + 1))] (h'' := .pt b5 (.cells (spE s).toArray 54 (0, 0)) :: .pt b3 (.cells (prE p).toArray 56 (0, 0)) :: (h ++ r)) (by omega) ?_ Su Sb ⟨j + 1, ⟨by omega, fun y hy => by rw [hxt] at hy; exact (List.mem_append.1 hy).elim (hok y) (fun e => by rw [List.mem_singleton] at e; rw [e]; exact ⟨d45, hfo⟩)⟩, rfl, rfl, rfl⟩)
 exact Su
 replace c39 := dF c39
 obtain rfl : j = ls.length := by omega
 rw [List.take_length] at hok
 have hnF : mayP p = true → ∀ n, (n, false) ∈ evP p [] → n ≠ unB := fun hm n hn => hall n (hfr hm n hn)
 refine WC.exit (kp [1, 3, 5] ?_)
 refine gD ?_; intros
 refine xY EL48 (EvP.cons Ev.const EvP.nil) fun b61 => ?_
 refine xF u54 ?_
 refine xS ?_
 refine wn [1, 3, 5] ?_
 refine gD ?_; intros
 refine xG (PO.loadA u54 rfl rfl Et (by (repeat (first | exact mem0 _ | apply memT | apply List.mem_append_right))) rfl) ?_
 refine xY EL28 (EvP.cons Et EvP.nil) fun b64 => ?_
 refine xM ?_
 refine WL.ptRow (b := b64) (k := 1) (sz := 16) Up (by omega) rfl ?_
 refine WL.appendE EL28 Et Et (by first | assumption | exact Rd.ofSl (by assumption) | exact Rd.ofPt rfl (by decide) (by (repeat (first | exact mem0 _ | apply memT | apply List.mem_append_right))) | exact Rd.mono (by assumption) (View.le.refl _) Sb | exact Rd.inRow (by (repeat (first | exact mem0 _ | apply memT | apply List.mem_append_right))) (by assumption) (by assumption) (by assumption)) On (Nat.add_comm 1 ls.length) rfl (by omega) (by omega) (fun v' => Up) Lb fun a66 c66 => ?_
 refine WL.knowRow (a := a66) (by (repeat (first | exact mem0 _ | apply memT | apply List.mem_append_right))) fun p66 r66 t66 => ?_
 refine xA ?_
 refine wn [1, 3, 15] ?_
 refine gE ?_; intros
 refine dS [2] (.op 0 (.op 1 (.op 3 (.op 4 (.op 2 .nil))))) [5, 6, 7, 8, 9, 10] mixed ?_
 refine yG rfl (PO.loadA u56 rfl rfl Et (by (repeat (first | exact mem0 _ | apply memT | apply List.mem_append_right))) rfl) ?_
 refine yG rfl (PO.move Et) ?_
 refine yG rfl (PO.loadA u56 rfl rfl Et (by (repeat (first | exact mem0 _ | apply memT | apply List.mem_append_right))) rfl) ?_
 refine yG rfl (PO.move Et) ?_
 refine yf rfl (E2 Et Et) (fun fr => check_ct hg p (hP.mono Sb) (spU b61 s :: ls) a66 (ls.length + 1) c66 (Rd.inRow (by (repeat (first | exact mem0 _ | apply memT | apply List.mem_append_right))) t66 p66 r66) (vok_cons (hv2.mono Sb) (Rd.ofPt rfl (by show 1 ≤ _; decide) (by (repeat (first | exact mem0 _ | apply memT | apply List.mem_append_right)))) (hS2.fr.mono (View.le.refl m) Sb) (hS2.v.mono (View.le.refl m) Sb)) (by show ls.length + 1 ≤ _; omega)) ?_
 refine SR.nil rfl rfl ?_
 refine xf (E2 Et Et) (check_ct hg p (hP.mono Sb) ls a2 ls.length c (hr2.mono (View.le.refl m) Sb) (hv2.mono Sb) (by omega)) ?_
 refine bD ?_
 refine wV (b' := true) (by rw [out_eq hok hnF]; simp) ?_
 refine xM ?_
 refine zU ?_
 refine xf E0 (worksX_ct hg _) ?_
 refine xP ?_
 refine xA ?_
 refine wn [6] ?_
 try clear hG ops
 refine WC.ret (wR (h ++ r) ?_)
 rfl
end Go.Proofs.YtdhmplmpbcnojaaGreatDoor
end

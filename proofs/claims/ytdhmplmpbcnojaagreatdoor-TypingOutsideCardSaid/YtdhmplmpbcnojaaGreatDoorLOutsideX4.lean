/- Glob LexA LexB TyA TpA TpB TpC TpD TpE TpF TpG TpH TpI TpJ TpK TpL -/
import Derived.Test.YtdhmplmpbcnojaaGreatDoorLOutsideX3
import Derived.Test.YtdhmplmpbcnojaaGreatDoorShelf
import Derived.Test.YtdhmplmpbcnojaaGreatDoorRows
/- Glob -/
section
namespace Go.Proofs.YtdhmplmpbcnojaaGreatDoor
abbrev u3 := Tryz.underlying3
abbrev u4 := Tryz.underlying4
abbrev u5 := Tryz.underlying5
abbrev u9 := Tryz.underlying9
abbrev u21 := Tryz.underlying21
abbrev u22 := Tryz.underlying22
abbrev u23 := Tryz.underlying23
abbrev u24 := Tryz.underlying24
abbrev u25 := Tryz.underlying25
abbrev u27 := Tryz.underlying27
abbrev u28 := Tryz.underlying28
abbrev u30 := Tryz.underlying30
abbrev u39 := Tryz.underlying39
abbrev u41 := Tryz.underlying41
abbrev u43 := Tryz.underlying43
abbrev u44 := Tryz.underlying44
abbrev u45 := Tryz.underlying45
abbrev u46 := Tryz.underlying46
abbrev u47 := Tryz.underlying47
abbrev u48 := Tryz.underlying48
abbrev u49 := Tryz.underlying49
abbrev u51 := Tryz.underlying51
abbrev u52 := Tryz.underlying52
abbrev u54 := Tryz.underlying54
abbrev u56 := Tryz.underlying56
abbrev u60 := Tryz.underlying60
abbrev u68 := Tryz.underlying68
abbrev u70 := Tryz.underlying70
abbrev u76 := Tryz.underlying76
abbrev u79 := Tryz.underlying79
abbrev u91 := Tryz.underlying91
abbrev u94 := Tryz.underlying94
abbrev u97 := Tryz.underlying97
abbrev u100 := Tryz.underlying100
abbrev u102 := Tryz.underlying102
abbrev u104 := Tryz.underlying104
abbrev u116 := Tryz.underlying116
abbrev u120 := Tryz.underlying120
abbrev u123 := Tryz.underlying123
abbrev u129 := Tryz.underlying129
abbrev u135 := Tryz.underlying135
abbrev u152 := Tryz.underlying152
abbrev u154 := Tryz.underlying154
abbrev u176 := Tryz.underlying176
abbrev u178 := Tryz.underlying178
abbrev u181 := Tryz.underlying181
abbrev u182 := Tryz.underlying182
abbrev u189 := Tryz.underlying189
abbrev u197 := Tryz.underlying197
abbrev u202 := Tryz.underlying202
abbrev u203 := Tryz.underlying203
abbrev u240 := Tryz.underlying240
abbrev u241 := Tryz.underlying241
open Go.Eng Go
theorem mixed : Tryz.prog.follows .mixedOrders = true := by kernel_rfl
set_option maxRecDepth 100000 in
theorem EL25 : EL Tryz.prog 25 27 6 48 := ⟨_, _, rfl, rfl, rfl, rfl, rfl, rfl, by decide⟩
set_option maxRecDepth 100000 in
theorem EL28 : EL Tryz.prog 28 54 16 200 := ⟨_, _, rfl, rfl, rfl, rfl, rfl, rfl, by decide⟩
set_option maxRecDepth 100000 in
theorem EL44 : EL Tryz.prog 44 70 23 240 := ⟨_, _, rfl, rfl, rfl, rfl, rfl, rfl, by decide⟩
set_option maxRecDepth 100000 in
theorem EL45 : EL Tryz.prog 45 56 42 504 := ⟨_, _, rfl, rfl, rfl, rfl, rfl, rfl, by decide⟩
set_option maxRecDepth 100000 in
theorem EL46 : EL Tryz.prog 46 3 1 8 := ⟨_, _, rfl, rfl, rfl, rfl, rfl, rfl, by decide⟩
set_option maxRecDepth 100000 in
theorem EL48 : EL Tryz.prog 48 9 1 16 := ⟨_, _, rfl, rfl, rfl, rfl, rfl, rfl, by decide⟩
set_option maxRecDepth 100000 in
theorem EL49 : EL Tryz.prog 49 102 2 40 := ⟨_, _, rfl, rfl, rfl, rfl, rfl, rfl, by decide⟩
set_option maxRecDepth 100000 in
theorem EL52 : EL Tryz.prog 52 60 6 64 := ⟨_, _, rfl, rfl, rfl, rfl, rfl, rfl, by decide⟩
set_option maxRecDepth 100000 in
theorem EL79 : EL Tryz.prog 79 104 17 208 := ⟨_, _, rfl, rfl, rfl, rfl, rfl, rfl, by decide⟩
set_option maxRecDepth 100000 in
theorem EL91 : EL Tryz.prog 91 94 2 24 := ⟨_, _, rfl, rfl, rfl, rfl, rfl, rfl, by decide⟩
set_option maxRecDepth 100000 in
theorem EL100 : EL Tryz.prog 100 24 1 1 := ⟨_, _, rfl, rfl, rfl, rfl, rfl, rfl, by decide⟩
set_option maxRecDepth 100000 in
theorem EL129 : EL Tryz.prog 129 135 4 64 := ⟨_, _, rfl, rfl, rfl, rfl, rfl, rfl, by decide⟩
set_option maxRecDepth 100000 in
theorem EL202 : EL Tryz.prog 202 5 1 1 := ⟨_, _, rfl, rfl, rfl, rfl, rfl, rfl, by decide⟩
set_option maxRecDepth 100000 in
theorem EL203 : EL Tryz.prog 203 68 1 1 := ⟨_, _, rfl, rfl, rfl, rfl, rfl, rfl, by decide⟩
def primC : List Value := [.int .u8 1, str [73, 78, 84], .int .i64 4, .int .u8 2, str [66, 89, 84, 69], .int .i64 1, .int .u8 3, str [66, 79, 79, 76], .int .i64 1]
def oneC : List Value := [.int .i64 1, .int .i64 1]
def someC : List Value := [.int .i64 1, .int .i64 8]
def allC : List Value := [.int .i64 0, .int .i64 2048]
structure Glob (m : View) : Prop where
 max : ∃ x, m.cell ⟨3, 0, none⟩ = some (.int .i64 x)
 prim : ∀ j v, primC[j]? = some v → m.cell ⟨4, j, none⟩ = some v
 sOne : ∀ j v, oneC[j]? = some v → m.cell ⟨1, j, none⟩ = some v
 sSome : ∀ j v, someC[j]? = some v → m.cell ⟨2, j, none⟩ = some v
 sAll : ∀ j v, allC[j]? = some v → m.cell ⟨0, j, none⟩ = some v
theorem contains_ct {m : View} (hg : Glob m) (a b : List UInt8) (ha : a.length < 4294967281) (h : List Res) : CT Tryz.prog 143 [str a, str b] h m (Pure1 h (.bool (Lib.contains a b))) := by
 obtain ⟨x, hx⟩ := hg.max
 exact CT.ofCalls Tryz.call143 fun w st => Tryz.strings_Contains ⟨a.toArray⟩ ⟨b.toArray⟩ x w ha (st.cell hx)
end Go.Proofs.YtdhmplmpbcnojaaGreatDoor
end
/- LexA -/
section
namespace Go.Proofs.YtdhmplmpbcnojaaGreatDoor
open Go.Eng Go.Lx

theorem letter_ct (z : Int) (h : List Res) (m : View) : CT Tryz.prog 101 [.int .u8 z] h m (Pure1 h (.bool (ltr z))) := by
 refine CT.body Tryz.call101 Tryz.func101 rfl Tryz.ntmps101 Lb rfl ?_
 refine gD ?_; intros
 refine xC ?_
 refine wn [0] ?_
 refine gG ?_; intros; rename_i ops hG
 refine xM ?_
 refine bB ?_
 refine xM ?_
 refine zM ?_
 refine zG (fun hc => PO.bin (Eg hc) Ev.const rfl) ?_
 refine xP ?_
 refine xM ?_
 refine zM ?_
 refine zG (fun hc => PO.bin (Eg hc) Ev.const rfl) ?_
 refine zV ?_
 refine zM ?_
 refine zG (fun hc => PO.bin (Eg hc) Ev.const rfl) ?_
 refine zG (fun hc => PO.pickAndN hc rfl rfl) ?_
 refine xQ ?_
 refine xA ?_
 refine wn [2] ?_
 try clear hG ops
 refine WC.ret (wR (h) ?_)
 exact ⟨rfl, rfl⟩
theorem digit_ct (z : Int) (h : List Res) (m : View) : CT Tryz.prog 142 [.int .u8 z] h m (Pure1 h (.bool (dig z))) := by
 refine CT.body Tryz.call142 Tryz.func142 rfl Tryz.ntmps142 Lb rfl ?_
 refine gD ?_; intros
 refine xC ?_
 refine wn [0] ?_
 refine gG ?_; intros; rename_i ops hG
 refine xM ?_
 refine bB ?_
 refine xM ?_
 refine zM ?_
 refine zG (fun hc => PO.bin (Eg hc) Ev.const rfl) ?_
 refine xP ?_
 refine xA ?_
 refine wn [2] ?_
 try clear hG ops
 refine WC.ret (wR (h) ?_)
 exact ⟨rfl, rfl⟩
theorem run_ct (s : B) (h : List Res) (m : View) (hs : s.length ≤ 9223372036854775807) : CT Tryz.prog 102 [str s] h m (Pure1 h (.int .i64 (run s))) := by
 refine CT.body Tryz.call102 Tryz.func102 rfl Tryz.ntmps102 Lb rfl ?_
 refine gD ?_; intros
 refine xC ?_
 refine wn [0] ?_
 refine gD ?_; intros
 refine xM ?_
 refine xG (PO.lenS u9 Et) ?_
 refine xK ?_
 refine wn [0, 5, 6] ?_
 refine gE ?_; intros
 refine WC.loopI [0, 5] rfl (fun μ F' h' => ∃ k : Nat, (k ≤ s.length ∧ run s = k + run (s.drop k)) ∧ s.length - k = μ ∧ F' = [(6, .int .i64 k)] ∧ h = h') (s.length - 0) [(6, .int .i64 0)] (h0 := h) ?_ Sb ⟨0, ⟨by omega, by simp⟩, rfl, rfl, rfl⟩ ?_
 exact Su
 rintro _ _ _ ⟨k, ⟨hk, hJ⟩, rfl, rfl, rfl⟩
 refine WC.frm rfl ?_
 refine gD ?_; intros
 refine bD ?_
 refine wn [0, 5, 6, 7] ?_
 refine gE ?_; intros
 refine wc (fun c7 => ?_) fun c7 => ?_
 replace c7 := dT c7
 obtain ⟨c, hc⟩ := get_some (l := s) (k := k) (by omega)
 have hr := run_drop hc
 refine WC.skip (kp [0, 5, 6] ?_)
 refine gD ?_; intros
 refine xM ?_
 refine xA ?_
 refine wn [0, 3, 5, 6] ?_
 refine gG ?_; intros; rename_i ops hG
 refine xM ?_
 refine xM ?_
 refine xG (PO.idxS u9 Et Et rfl (by assumption)) ?_
 refine xf (E1 Et) (letter_ct _ _ _) ?_
 refine xG (PO.not Et) ?_
 refine xM ?_
 refine zM ?_
 refine zM ?_
 refine zG (fun hc => PO.idxS u9 (Eg hc) (Eg hc) rfl (by assumption)) ?_
 refine WL.callG (GU.t (hG _ _ rfl) rfl) (fun hc => ⟨Ev.func, (E1 (Eg hc)), digit_ct _ _ _⟩) Lb ?_
 refine zG (fun hc => PO.not (Eg hc)) ?_
 refine xP ?_
 refine xM ?_
 refine zM ?_
 refine zM ?_
 refine zG (fun hc => PO.idxS u9 (Eg hc) (Eg hc) rfl (by assumption)) ?_
 refine zG (fun hc => PO.bin (Eg hc) Ev.const rfl) ?_
 refine xP ?_
 refine wn [0, 3, 5, 6, 26] ?_
 try clear hG ops
 refine gE ?_; intros
 refine wc (fun c26 => ?_) fun c26 => ?_
 have w : wch c = false := by unfold wch; rw [c26]; rfl
 rw [w] at hr
 refine gD ?_; intros
 refine xM ?_
 refine xA ?_
 refine wn [2] ?_
 refine WC.ret (wR (h) ?_)
 exact ⟨by simp at hr; rw [hJ, hr]; rfl, rfl⟩
 have w : wch c = true := by unfold wch; rw [c26]; rfl
 rw [w] at hr
 refine WC.skip (kp [0, 5, 6] ?_)
 refine gD ?_; intros
 refine bI ?_
 refine xM ?_
 refine WL.nil (loopBackI (s.length - (k + 1)) [(6, .int .i64 (k + 1))] (h'' := h) (by omega) ?_ Su Sb ⟨k + 1, ⟨by omega, by simp at hr; omega⟩, rfl, rfl, rfl⟩)
 exact Su
 replace c7 := dF c7
 have e : k = s.length := by omega
 subst e
 have hr : run s = s.length := by simpa [run] using hJ
 refine WC.exit (kp [0] ?_)
 refine gD ?_; intros
 refine xM ?_
 refine xG (PO.lenS u9 Et) ?_
 refine xA ?_
 refine wn [2] ?_
 refine WC.ret (wR (h) ?_)
 exact ⟨by rw [hr], rfl⟩
set_option maxRecDepth 100000 in
theorem key_ct (s : B) (h : List Res) (m : View) (hg : Glob m) (hs : s.length ≤ 140737488355328) : CT Tryz.prog 103 [str s] h m (Pure1 h (.bool (key s))) := by
 have hs' : s.length ≤ 9223372036854775807 := by omega
 refine CT.body Tryz.call103 Tryz.func103 rfl Tryz.ntmps103 Lb rfl ?_
 refine gD ?_; intros
 refine xC ?_
 refine wn [0] ?_
 refine gG ?_; intros; rename_i ops hG
 refine xM ?_
 refine xG (PO.neqS Et Ev.const) ?_
 refine xM ?_
 refine zM ?_
 refine WL.callG (GU.t (hG _ _ rfl) rfl) (fun hc => ⟨Ev.func, (E1 (Eg hc)), run_ct _ _ _ (by assumption)⟩) Lb ?_
 refine zM ?_
 refine zG (fun hc => PO.lenS u9 (Eg hc)) ?_
 refine zG (fun hc => PO.bin (Eg hc) (Eg hc) rfl) ?_
 refine xP ?_
 refine xM ?_
 refine zM ?_
 refine WL.poG (GU.t (hG _ _ rfl) rfl) (fun hc => PO.catS Ev.const (Eg hc) (by simp; omega)) Lb ?_
 refine WL.poG (GU.t (hG _ _ rfl) rfl) (fun hc => PO.catS (Eg hc) Ev.const (by simp; omega)) Lb ?_
 refine WL.callG (GU.t (hG _ _ rfl) rfl) (fun hc => ⟨Ev.func, (E2 Ev.const (Eg hc)), CT.argsE rfl (contains_ct hg keysB ([32] ++ s ++ [32]) (by decide) _)⟩) Lb ?_
 refine xP ?_
 refine xA ?_
 refine wn [2] ?_
 try clear hG ops
 refine WC.ret (wR (h) ?_)
 exact ⟨rfl, rfl⟩
theorem name_ct (s : B) (h : List Res) (m : View) (hg : Glob m) (hs : s.length ≤ 9223372036854775807) : CT Tryz.prog 65 [str s] h m (Pure1 h (.bool (name s))) := by
 have hs' : s.length ≤ 9223372036854775807 := by omega
 cases s with
 | nil =>
   refine CT.body Tryz.call65 Tryz.func65 rfl Tryz.ntmps65 Lb rfl ?_
   refine gD ?_; intros
   refine xC ?_
   refine wn [0] ?_
   refine gG ?_; intros; rename_i ops hG
   refine xM ?_
   refine xG (PO.neqS Et Ev.const) ?_
   refine xM ?_
   refine zM ?_
   refine zG (fun hc => PO.lenS u9 (Eg hc)) ?_
   refine zG (fun hc => PO.bin (Eg hc) Ev.const rfl) ?_
   refine xP ?_
   refine xM ?_
   refine zM ?_
   refine WL.poG (GU.t (hG _ _ rfl) rfl) (fun hc => PO.idxS u9 (Eg hc) Ev.const (q := 0) rfl (c := 0) (by simp at hc)) Lb ?_
   refine WL.callG (GU.t (hG _ _ rfl) rfl) (fun hc => ⟨Ev.func, (E1 (Eg hc)), letter_ct _ _ _⟩) Lb ?_
   refine xP ?_
   refine xM ?_
   refine zM ?_
   refine WL.callG (GU.t (hG _ _ rfl) rfl) (fun hc => ⟨Ev.func, (E1 (Eg hc)), run_ct _ _ _ (by assumption)⟩) Lb ?_
   refine zM ?_
   refine zG (fun hc => PO.lenS u9 (Eg hc)) ?_
   refine zG (fun hc => PO.bin (Eg hc) (Eg hc) rfl) ?_
   refine xP ?_
   refine xM ?_
   refine zM ?_
   refine WL.callG (GU.t (hG _ _ rfl) rfl) (fun hc => ⟨Ev.func, (E1 (Eg hc)), key_ct _ _ _ hg (by decide)⟩) Lb ?_
   refine zG (fun hc => PO.not (Eg hc)) ?_
   refine xP ?_
   refine xA ?_
   refine wn [2] ?_
   try clear hG ops
   refine WC.ret (wR (h) ?_)
   exact ⟨rfl, rfl⟩
 | cons c s =>
   refine CT.body Tryz.call65 Tryz.func65 rfl Tryz.ntmps65 Lb rfl ?_
   refine gD ?_; intros
   refine xC ?_
   refine wn [0] ?_
   refine gG ?_; intros; rename_i ops hG
   refine xM ?_
   refine xG (PO.neqS Et Ev.const) ?_
   refine xM ?_
   refine zM ?_
   refine zG (fun hc => PO.lenS u9 (Eg hc)) ?_
   refine zG (fun hc => PO.bin (Eg hc) Ev.const rfl) ?_
   refine xP ?_
   refine xM ?_
   refine zM ?_
   refine zG (fun hc => PO.idxS u9 (Eg hc) Ev.const (q := 0) rfl (c := c) rfl) ?_
   refine WL.callG (GU.t (hG _ _ rfl) rfl) (fun hc => ⟨Ev.func, (E1 (Eg hc)), letter_ct _ _ _⟩) Lb ?_
   refine xP ?_
   refine xM ?_
   refine zM ?_
   refine WL.callG (GU.t (hG _ _ rfl) rfl) (fun hc => ⟨Ev.func, (E1 (Eg hc)), run_ct _ _ _ (by assumption)⟩) Lb ?_
   refine zM ?_
   refine zG (fun hc => PO.lenS u9 (Eg hc)) ?_
   refine zG (fun hc => PO.bin (Eg hc) (Eg hc) rfl) ?_
   refine xP ?_
   refine xM ?_
   refine zM ?_
   refine WL.callG (GU.t (hG _ _ rfl) rfl) (fun hc => ⟨Ev.func, (E1 (Eg hc)), key_ct _ _ _ hg (by simp at hc; simp; omega)⟩) Lb ?_
   refine zG (fun hc => PO.not (Eg hc)) ?_
   refine xP ?_
   refine xA ?_
   refine wn [2] ?_
   try clear hG ops
   refine WC.ret (wR (h) ?_)
   exact ⟨rfl, rfl⟩
end Go.Proofs.YtdhmplmpbcnojaaGreatDoor
end
/- LexB -/
section
namespace Go.Proofs.YtdhmplmpbcnojaaGreatDoor
open Go.Eng Go.Lx
theorem letterR_ct (z : Int) (h : List Res) (m : View) : CT Tryz.prog 106 [.int .u8 z] h m (Pure1 h (.bool (ltrR z))) := by
 refine CT.body Tryz.call106 Tryz.func106 rfl Tryz.ntmps106 Lb rfl ?_
 refine gD ?_; intros
 refine xC ?_
 refine wn [0] ?_
 refine gG ?_; intros; rename_i ops hG
 refine xM ?_
 refine bB ?_
 refine xM ?_
 refine zM ?_
 refine zG (fun hc => PO.bin (Eg hc) Ev.const rfl) ?_
 refine xP ?_
 refine xM ?_
 refine zM ?_
 refine zG (fun hc => PO.bin (Eg hc) Ev.const rfl) ?_
 refine zV ?_
 refine zM ?_
 refine zG (fun hc => PO.bin (Eg hc) Ev.const rfl) ?_
 refine zG (fun hc => PO.pickAndN hc rfl rfl) ?_
 refine xQ ?_
 refine xA ?_
 refine wn [2] ?_
 try clear hG ops
 refine WC.ret (wR (h) ?_)
 exact ⟨rfl, rfl⟩
theorem digitR_ct (z : Int) (h : List Res) (m : View) : CT Tryz.prog 148 [.int .u8 z] h m (Pure1 h (.bool (dig z))) := by
 refine CT.body Tryz.call148 Tryz.func148 rfl Tryz.ntmps148 Lb rfl ?_
 refine gD ?_; intros
 refine xC ?_
 refine wn [0] ?_
 refine gG ?_; intros; rename_i ops hG
 refine xM ?_
 refine bB ?_
 refine xM ?_
 refine zM ?_
 refine zG (fun hc => PO.bin (Eg hc) Ev.const rfl) ?_
 refine xP ?_
 refine xA ?_
 refine wn [2] ?_
 try clear hG ops
 refine WC.ret (wR (h) ?_)
 exact ⟨rfl, rfl⟩
theorem wordR_ct (z : Int) (h : List Res) (m : View) : CT Tryz.prog 108 [.int .u8 z] h m (Pure1 h (.bool (wchR z))) := by
 refine CT.body Tryz.call108 Tryz.func108 rfl Tryz.ntmps108 Lb rfl ?_
 refine gD ?_; intros
 refine xC ?_
 refine wn [0] ?_
 refine gG ?_; intros; rename_i ops hG
 refine xM ?_
 refine xf (E1 Et) (letterR_ct _ _ _) ?_
 refine xM ?_
 refine zM ?_
 refine WL.callG (GU.f (hG _ _ rfl) rfl) (fun hc => ⟨Ev.func, (E1 (Eg hc)), digitR_ct _ _ _⟩) Lb ?_
 refine xQ ?_
 refine xM ?_
 refine zM ?_
 refine zG (fun hc => PO.bin (Eg hc) Ev.const rfl) ?_
 refine xQ ?_
 refine xA ?_
 refine wn [2] ?_
 try clear hG ops
 refine WC.ret (wR (h) ?_)
 exact ⟨rfl, rfl⟩
theorem amongR_ct (s : B) (a : Option Addr) (k c : Nat) (l : List B) (h : List Res) (m : View) (hs : Rd m h a k c 1 (fl encB l)) : CT Tryz.prog 146 [str s, .slice a k c] h m (Pure1 h (.bool (among s l))) := by
 have hl := hs.lenF encB_len (by decide)
 have hmx := hs.mx
 have hle := hs.le
 refine CT.body Tryz.call146 Tryz.func146 rfl Tryz.ntmps146 Lb rfl ?_
 refine gD ?_; intros
 refine xC ?_
 refine wn [0, 1] ?_
 refine gD ?_; intros
 refine xC ?_
 refine wn [0, 1, 5] ?_
 refine gE ?_; intros
 refine WC.loopI [0, 1] rfl (fun μ F' h' => ∃ j : Nat, (j ≤ k ∧ among s l = among s (l.drop j)) ∧ k - j = μ ∧ F' = [(5, .int .i64 j)] ∧ h = h') (k - 0) [(5, .int .i64 0)] (h0 := h) ?_ Sb ⟨0, ⟨by omega, rfl⟩, rfl, rfl, rfl⟩ ?_
 exact Su
 rintro _ _ _ ⟨j, ⟨hk, hJ⟩, rfl, rfl, rfl⟩
 refine WC.frm rfl ?_
 refine gD ?_; intros
 refine xM ?_
 refine xM ?_
 refine xG (PO.lenSl u48 Et) ?_
 refine bD ?_
 refine wn [0, 1, 5, 9] ?_
 refine gE ?_; intros
 refine wc (fun c9 => ?_) fun c9 => ?_
 replace c9 := dT c9
 obtain ⟨x, hx⟩ := get_some (l := l) (k := j) (by omega)
 rw [among_drop s hx] at hJ
 refine WC.skip (kp [0, 1, 5] ?_)
 refine gD ?_; intros
 refine xM ?_
 refine xM ?_
 refine xG (PO.idx EL48.und EL48.size EL48.posz (Ev.tmp rfl) (Ev.tmp rfl) Rr rfl (by omega)) ?_
 refine xG (PO.loadF1 u9 rfl encB_len Rr (Ev.tmp rfl) (by assumption) rfl) ?_
 refine xM ?_
 refine xG (PO.eqlS Et Et) ?_
 refine wn [0, 1, 5, 17] ?_
 refine gE ?_; intros
 refine wc (fun c17 => ?_) fun c17 => ?_
 rw [c17] at hJ
 refine gD ?_; intros
 refine xC ?_
 refine wn [4] ?_
 refine WC.ret (wR (h) ?_)
 exact ⟨by rw [hJ]; rfl, rfl⟩
 rw [c17] at hJ
 refine WC.skip (kp [0, 1, 5] ?_)
 refine gD ?_; intros
 refine xM ?_
 refine bI ?_
 refine xA ?_
 refine WL.nil (loopBackI (k - (j + 1)) [(5, .int .i64 (j + 1))] (h'' := h) (by omega) ?_ Su Sb ⟨j + 1, ⟨by omega, by simpa using hJ⟩, rfl, rfl, rfl⟩)
 exact Su
 replace c9 := dF c9
 rw [List.drop_eq_nil_of_le (by omega)] at hJ
 refine WC.exit (kp [] ?_)
 refine gD ?_; intros
 refine xC ?_
 refine wn [4] ?_
 refine WC.ret (wR (h) ?_)
 exact ⟨by rw [hJ]; rfl, rfl⟩
set_option maxRecDepth 100000 in
theorem keysR_ct (h : List Res) (m : View) : CT Tryz.prog 147 [] h m (fun v _ h' => ∃ b, v = .slice (some ⟨b, 0, none⟩) 33 33 ∧ h' = .pt b (.cells (fl encB keysL).toArray 9 (0, 0)) :: h) := by
 refine CT.body Tryz.call147 Tryz.func147 rfl Tryz.ntmps147 Lb rfl ?_
 refine gD ?_; intros
 refine xC ?_
 refine wn [] ?_
 refine gD ?_; intros
 refine xY EL48 (EvP.cons Ev.const (EvP.cons Ev.const (EvP.cons Ev.const (EvP.cons Ev.const (EvP.cons Ev.const (EvP.cons Ev.const (EvP.cons Ev.const (EvP.cons Ev.const (EvP.cons Ev.const (EvP.cons Ev.const (EvP.cons Ev.const (EvP.cons Ev.const (EvP.cons Ev.const (EvP.cons Ev.const (EvP.cons Ev.const (EvP.cons Ev.const (EvP.cons Ev.const (EvP.cons Ev.const (EvP.cons Ev.const (EvP.cons Ev.const (EvP.cons Ev.const (EvP.cons Ev.const (EvP.cons Ev.const (EvP.cons Ev.const (EvP.cons Ev.const (EvP.cons Ev.const (EvP.cons Ev.const (EvP.cons Ev.const (EvP.cons Ev.const (EvP.cons Ev.const (EvP.cons Ev.const (EvP.cons Ev.const (EvP.cons Ev.const EvP.nil))))))))))))))))))))))))))))))))) fun b1 => ?_
 refine xA ?_
 refine wn [0] ?_
 refine WC.ret (wR (.pt b1 (.cells (fl encB keysL).toArray 9 (0, 0)) :: h) ?_)
 exact ⟨b1, rfl, rfl⟩
theorem keyR_ct (s : B) (h : List Res) (m : View) : CT Tryz.prog 107 [str s] h m (Pure1 h (.bool (keyR s))) := by
 refine CT.body Tryz.call107 Tryz.func107 rfl Tryz.ntmps107 Lb rfl ?_
 refine gD ?_; intros
 refine xC ?_
 refine wn [0] ?_
 refine gD ?_; intros
 refine xM ?_
 refine xg E0 (keysR_ct _ _) ?_
 rintro _ _ ⟨b4, rfl, rfl⟩
 refine xf (E2 Et Et) (amongR_ct _ _ _ _ keysL _ _ Rr) ?_
 refine xA ?_
 refine wn [2] ?_
 refine WC.ret (wR (h) ?_)
 exact ⟨rfl, rfl⟩
theorem nameR_ct (s : B) (h : List Res) (m : View) (hs : s.length ≤ 9223372036854775807) : CT Tryz.prog 70 [str s] h m (Pure1 h (.bool (nameR s))) := by
 have hs' : s.length ≤ 9223372036854775807 := by omega
 cases s with
 | nil =>
   refine CT.body Tryz.call70 Tryz.func70 rfl Tryz.ntmps70 Lb rfl ?_
   refine gD ?_; intros
   refine xC ?_
   refine wn [0] ?_
   refine gG ?_; intros; rename_i ops hG
   refine xM ?_
   refine xG (PO.lenS u9 Et) ?_
   refine bB ?_
   refine xM ?_
   refine zM ?_
   refine zG (fun hc => PO.lenS u9 (Eg hc)) ?_
   refine zG (fun hc => PO.bin (Eg hc) Ev.const rfl) ?_
   refine xQ ?_
   refine xM ?_
   refine zM ?_
   refine WL.poG (GU.f (hG _ _ rfl) rfl) (fun hc => PO.idxS u9 (Eg hc) Ev.const (q := 0) rfl (c := 0) (by simp at hc)) Lb ?_
   refine WL.callG (GU.f (hG _ _ rfl) rfl) (fun hc => ⟨Ev.func, (E1 (Eg hc)), letterR_ct _ _ _⟩) Lb ?_
   refine zG (fun hc => PO.not (Eg hc)) ?_
   refine xQ ?_
   refine xM ?_
   refine zM ?_
   refine WL.callG (GU.f (hG _ _ rfl) rfl) (fun hc => ⟨Ev.func, (E1 (Eg hc)), keyR_ct _ _ _⟩) Lb ?_
   refine xQ ?_
   refine wn [0, 21] ?_
   try clear hG ops
   refine gE ?_; intros
   refine wc (fun c21 => ?_) fun c21 => ?_
   refine gD ?_; intros
   refine xC ?_
   refine wn [2] ?_
   refine WC.ret (wR (h) ?_)
   exact ⟨rfl, rfl⟩
   cases c21
 | cons c s =>
   refine CT.body Tryz.call70 Tryz.func70 rfl Tryz.ntmps70 Lb rfl ?_
   refine gD ?_; intros
   refine xC ?_
   refine wn [0] ?_
   refine gG ?_; intros; rename_i ops hG
   refine xM ?_
   refine xG (PO.lenS u9 Et) ?_
   refine bB ?_
   refine xM ?_
   refine zM ?_
   refine zG (fun hc => PO.lenS u9 (Eg hc)) ?_
   refine zG (fun hc => PO.bin (Eg hc) Ev.const rfl) ?_
   refine xQ ?_
   refine xM ?_
   refine zM ?_
   refine zG (fun hc => PO.idxS u9 (Eg hc) Ev.const (q := 0) rfl (c := c) rfl) ?_
   refine WL.callG (GU.f (hG _ _ rfl) rfl) (fun hc => ⟨Ev.func, (E1 (Eg hc)), letterR_ct _ _ _⟩) Lb ?_
   refine zG (fun hc => PO.not (Eg hc)) ?_
   refine xQ ?_
   refine xM ?_
   refine zM ?_
   refine WL.callG (GU.f (hG _ _ rfl) rfl) (fun hc => ⟨Ev.func, (E1 (Eg hc)), keyR_ct _ _ _⟩) Lb ?_
   refine xQ ?_
   refine wn [0, 21] ?_
   try clear hG ops
   refine gE ?_; intros
   refine wc (fun c21 => ?_) fun c21 => ?_
   have d21 : bad (c :: s) = true := c21
   refine gD ?_; intros
   refine xC ?_
   refine wn [2] ?_
   refine WC.ret (wR (h) ?_)
   exact ⟨by unfold nameR; rw [d21]; rfl, rfl⟩
   have d21 : bad (c :: s) = false := c21
   refine WC.skip (kp [0] ?_)
   refine gD ?_; intros
   refine xC ?_
   refine wn [0, 3] ?_
   refine gE ?_; intros
   refine WC.loopI [0] rfl (fun μ F' h' => ∃ j : Nat, (j ≤ (c :: s).length ∧ allW (c :: s) = allW ((c :: s).drop j)) ∧ (c :: s).length - j = μ ∧ F' = [(3, .int .i64 j)] ∧ h = h') ((c :: s).length - 0) [(3, .int .i64 0)] (h0 := h) ?_ Sb ⟨0, ⟨by omega, rfl⟩, rfl, rfl, rfl⟩ ?_
   exact Su
   rintro _ _ _ ⟨j, ⟨hk, hJ⟩, rfl, rfl, rfl⟩
   refine WC.frm rfl ?_
   refine gD ?_; intros
   refine xM ?_
   refine xM ?_
   refine xG (PO.lenS u9 Et) ?_
   refine bD ?_
   refine wn [0, 3, 25] ?_
   refine gE ?_; intros
   refine wc (fun c25 => ?_) fun c25 => ?_
   replace c25 := dT c25
   obtain ⟨x, hx⟩ := get_some (l := c :: s) (k := j) (by omega)
   rw [allW_drop hx] at hJ
   refine WC.skip (kp [0, 3] ?_)
   refine gD ?_; intros
   refine xM ?_
   refine xM ?_
   refine xG (PO.idxS u9 Et Et rfl (by assumption)) ?_
   refine xf (E1 Et) (wordR_ct _ _ _) ?_
   refine xG (PO.not Et) ?_
   refine wn [0, 3, 32] ?_
   refine gE ?_; intros
   refine wc (fun c32 => ?_) fun c32 => ?_
   have d32 : wchR x.toNat = false := by simpa using c32
   rw [d32] at hJ
   refine gD ?_; intros
   refine xC ?_
   refine wn [2] ?_
   refine WC.ret (wR (h) ?_)
   exact ⟨by unfold nameR; rw [d21, hJ]; rfl, rfl⟩
   have d32 : wchR x.toNat = true := by simpa using c32
   rw [d32] at hJ
   refine WC.skip (kp [0, 3] ?_)
   refine gD ?_; intros
   refine xM ?_
   refine bI ?_
   refine xA ?_
   refine WL.nil (loopBackI ((c :: s).length - (j + 1)) [(3, .int .i64 (j + 1))] (h'' := h) (by omega) ?_ Su Sb ⟨j + 1, ⟨by omega, by simpa using hJ⟩, rfl, rfl, rfl⟩)
   exact Su
   replace c25 := dF c25
   rw [List.drop_eq_nil_of_le (by omega)] at hJ
   refine WC.exit (kp [] ?_)
   refine gD ?_; intros
   refine xC ?_
   refine wn [2] ?_
   refine WC.ret (wR (h) ?_)
   exact ⟨by unfold nameR; rw [d21, hJ]; rfl, rfl⟩
end Go.Proofs.YtdhmplmpbcnojaaGreatDoor
end
/- TyA -/
section
namespace Go.Proofs.YtdhmplmpbcnojaaGreatDoor.Ty9
open Go.Eng Go.Lx Go.Ty
set_option maxRecDepth 100000
def W3 (h : List Res) (k : Int) : Value → View → List Res → Prop := Pure1 h (.tuple #[str (wordS k).1, .int .i64 (wordS k).2.1, .bool (wordS k).2.2])
theorem prim_cut {i : Nat} {p : Pm} (hp : prims[i]? = some p) : ((fl encP prims).drop (i * 3)).take 3 = encP p := by
 match i, hp with
 | 0, hp => cases hp; rfl
 | 1, hp => cases hp; rfl
 | 2, hp => cases hp; rfl
theorem word_ct (k : Int) (h : List Res) (m : View) (hg : Glob m) : CT Tryz.prog 208 [.int .u8 k] h m (W3 h k) := by
 refine CT.body Tryz.call208 Tryz.func208 rfl Tryz.ntmps208 Lb rfl ?_
 refine gD ?_; intros
 refine xC ?_
 refine xC ?_
 refine xC ?_
 refine wn [0] ?_
 refine gD ?_; intros
 refine xG (PO.loadAV (vs := fl encP prims) u241 rfl rfl Ev.global rfl (fun j v hj => by rw [Nat.zero_add]; exact hg.prim j v hj)) ?_
 refine xK ?_
 refine wn [0, 7, 8] ?_
 refine gE ?_; intros
 refine WC.loopI [0, 7] rfl (fun μ F' h' => ∃ i : Nat, (i ≤ 3 ∧ wordS k = wordIn k (prims.drop i)) ∧ 3 - i = μ ∧ F' = [(8, .int .i64 i)] ∧ h = h') (3 - 0) [(8, .int .i64 0)] (h0 := h) ?_ Sb ⟨0, ⟨by omega, rfl⟩, rfl, rfl, rfl⟩ ?_
 exact Su
 rintro _ _ _ ⟨i, ⟨hk, hJ⟩, rfl, rfl, rfl⟩
 refine WC.frm rfl ?_
 refine gD ?_; intros
 refine bB ?_
 refine wn [0, 7, 8, 9] ?_
 refine gE ?_; intros
 refine wc (fun c9 => ?_) fun c9 => ?_
 replace c9 := dT c9
 obtain ⟨p, hp⟩ := get_some (l := prims) (k := i) (by show i < 3; omega)
 rw [wordIn_drop k hp] at hJ
 refine WC.skip (kp [0, 7, 8] ?_)
 refine gD ?_; intros
 refine xG (PO.idxArr (sz := 3) (q := i) u241 u240 rfl rfl Et Et rfl (by omega) (prim_cut hp)) ?_
 refine xW fun b6 => ?_
 refine xS ?_
 refine wn [0, 6, 7, 8] ?_
 refine gD ?_; intros
 refine xF u240 ?_
 refine xG (pL u24) ?_
 refine xM ?_
 refine bD ?_
 refine wn [0, 6, 7, 8, 14] ?_
 refine gE ?_; intros
 refine wc (fun c14 => ?_) fun c14 => ?_
 rw [c14] at hJ
 refine gE ?_; intros
 refine dS [] (.op 0 (.op 1 (.op 2 (.op 3 (.op 4 .nil))))) [5, 6] mixed ?_
 refine yG rfl (pF u240) ?_
 refine yG rfl (pL u9) ?_
 refine yG rfl (pF u240) ?_
 refine yG rfl (pL u3) ?_
 refine yG rfl (PO.assign Et) ?_
 refine SR.nil rfl rfl ?_
 refine xA ?_
 refine xC ?_
 refine wn [2, 3, 4] ?_
 refine WC.ret (end3 (h' := h) (.inl rfl) rfl (RV.tmp rfl) (RV.tmp rfl) (RV.tmp rfl) (View.le.refl m) Sb ?_)
 exact ⟨by rw [hJ]; rfl, rfl⟩
 rw [c14] at hJ
 refine WC.skip (kp [0, 7, 8] ?_)
 refine gD ?_; intros
 refine bI ?_
 refine xM ?_
 refine WL.nil (loopBackI (3 - (i + 1)) [(8, .int .i64 (i + 1))] (h'' := h) (by omega) ?_ Su Sb ⟨i + 1, ⟨by omega, by simpa using hJ⟩, rfl, rfl, rfl⟩)
 exact Su
 replace c9 := dF c9
 rw [List.drop_eq_nil_of_le (by show 3 ≤ i; omega)] at hJ
 refine WC.exit (kp [] ?_)
 refine gD ?_; intros
 refine xC ?_
 refine xC ?_
 refine xC ?_
 refine wn [2, 3, 4] ?_
 refine WC.ret (end3 (h' := h) (.inl rfl) rfl (RV.tmp rfl) (RV.tmp rfl) (RV.tmp rfl) (View.le.refl m) Sb ?_)
 exact ⟨by rw [hJ]; rfl, rfl⟩
theorem is_ct (k : Int) (h : List Res) (m : View) (hg : Glob m) : CT Tryz.prog 189 [.int .u8 k] h m (Pure1 h (.bool (is k))) := by
 refine CT.body Tryz.call189 Tryz.func189 rfl Tryz.ntmps189 Lb rfl ?_
 refine gD ?_; intros
 refine xC ?_
 refine wn [0] ?_
 refine gD ?_; intros
 refine xM ?_
 refine xf (E1 Et) (word_ct _ _ _ hg) ?_
 refine xM ?_
 refine xE ?_
 refine xE ?_
 refine xE ?_
 refine xA ?_
 refine xA ?_
 refine xA ?_
 refine wn [5] ?_
 refine gD ?_; intros
 refine xM ?_
 refine xA ?_
 refine wn [2] ?_
 refine WC.ret (wR (h) ?_)
 exact ⟨rfl, rfl⟩
theorem prim_ct (k : Int) (h : List Res) (m : View) : CT Tryz.prog 181 [.int .u8 k] h m (Pure1 h (.bool (prim k))) := by
 refine CT.body Tryz.call181 Tryz.func181 rfl Tryz.ntmps181 Lb rfl ?_
 refine gD ?_; intros
 refine xC ?_
 refine wn [0] ?_
 refine gG ?_; intros; rename_i ops hG
 refine xM ?_
 refine bB ?_
 refine xM ?_
 refine zM ?_
 refine zG (fun hc => PO.bin (Eg hc) Ev.const rfl) ?_
 refine xQ ?_
 refine xM ?_
 refine zM ?_
 refine zG (fun hc => PO.bin (Eg hc) Ev.const rfl) ?_
 refine xQ ?_
 refine xA ?_
 refine wn [2] ?_
 try clear hG ops
 refine WC.ret (wR (h) ?_)
 exact ⟨rfl, rfl⟩
theorem may_ct (t : Ty) (h : List Res) (m : View) (hg : Glob m) (hs : t.proto.length ≤ 9223372036854775807) : CT Tryz.prog 170 [tyV t] h m (Pure1 h (.bool (may t))) := by
 refine CT.body Tryz.call170 Tryz.func170 rfl Tryz.ntmps170 Lb rfl ?_
 refine gD ?_; intros
 refine xX fun b1 => ?_
 refine xC ?_
 refine wn [1] ?_
 refine gG ?_; intros; rename_i ops hG
 refine xF u30 ?_
 refine xG (pL u3) ?_
 refine bB ?_
 refine xM ?_
 refine zG (fun _ => pF u30) ?_
 refine zG (fun hc => PO.load1 u3 rfl (Eg hc) Me rfl) ?_
 refine zG (fun hc => PO.bin (Eg hc) Ev.const rfl) ?_
 refine xQ ?_
 refine xA ?_
 refine wn [1, 3] ?_
 try clear hG ops
 refine gE ?_; intros
 refine wc (fun c3 => ?_) fun c3 => ?_
 have d3 : far t = true := c3
 refine gD ?_; intros
 refine xC ?_
 refine wn [2] ?_
 refine WC.ret (wR (h) ?_)
 exact ⟨by unfold may; rw [d3]; rfl, rfl⟩
 have d3 : far t = false := c3
 refine gD ?_; intros
 refine xF u30 ?_
 refine xG (pL u24) ?_
 refine xf (E1 Et) (is_ct _ _ _ hg) ?_
 refine xA ?_
 refine wn [1, 12] ?_
 refine gE ?_; intros
 refine wc (fun c12 => ?_) fun c12 => ?_
 refine gG ?_; intros; rename_i ops hG
 refine xF u30 ?_
 refine xG (pL u24) ?_
 refine bB ?_
 refine xM ?_
 refine zG (fun _ => pF u30) ?_
 refine zG (fun hc => PO.load1 u9 rfl (Eg hc) Me rfl) ?_
 refine zG (fun hc => PO.eqlS (Eg hc) Ev.const) ?_
 refine xP ?_
 refine xA ?_
 refine wn [2] ?_
 try clear hG ops
 refine WC.ret (wR (h) ?_)
 exact ⟨by unfold may; rw [d3, c12]; rfl, rfl⟩
 refine gD ?_; intros
 refine xF u30 ?_
 refine xG (pL u24) ?_
 refine bB ?_
 refine xA ?_
 refine wn [1, 24] ?_
 refine gE ?_; intros
 refine wc (fun c24 => ?_) fun c24 => ?_
 refine gD ?_; intros
 refine xG (pA u30) ?_
 refine xG (PO.build u30 rfl rfl rfl (EvP.cons Ev.const EvP.nil) rfl) ?_
 refine xG (PO.eqlA u30 (by kernel_rfl) (by kernel_rfl) Et Et rfl) ?_
 refine xA ?_
 refine wn [2] ?_
 refine WC.ret (wR (h) ?_)
 exact ⟨by unfold may; rw [d3, c12, c24]; rfl, rfl⟩
 refine gD ?_; intros
 refine xF u30 ?_
 refine xG (pL u24) ?_
 refine bB ?_
 refine xA ?_
 refine wn [1, 31] ?_
 refine gE ?_; intros
 refine wc (fun c31 => ?_) fun c31 => ?_
 refine gD ?_; intros
 refine xF u30 ?_
 refine xG (pL u9) ?_
 refine xf (E1 Et) (name_ct _ _ _ hg (by assumption)) ?_
 refine xA ?_
 refine wn [2] ?_
 refine WC.ret (wR (h) ?_)
 exact ⟨by unfold may; rw [d3, c12, c24, c31]; rfl, rfl⟩
 refine WC.skip (kp [1] ?_)
 refine gG ?_; intros; rename_i ops hG
 refine xF u30 ?_
 refine xG (pL u24) ?_
 refine xf (E1 Et) (is_ct _ _ _ hg) ?_
 refine xM ?_
 refine zG (fun _ => pF u30) ?_
 refine zG (fun hc => PO.load1 u9 rfl (Eg hc) Me rfl) ?_
 refine zG (fun hc => PO.eqlS (Eg hc) Ev.const) ?_
 refine xP ?_
 refine xA ?_
 refine wn [2] ?_
 try clear hG ops
 refine WC.ret (wR (h) ?_)
 exact ⟨by unfold may; rw [d3, c12, c24, c31]; rfl, rfl⟩
theorem mayR_ct (t : Ty) (h : List Res) (m : View) (hs : t.proto.length ≤ 9223372036854775807) : CT Tryz.prog 150 [tyV t] h m (Pure1 h (.bool (mayR t))) := by
 refine CT.body Tryz.call150 Tryz.func150 rfl Tryz.ntmps150 Lb rfl ?_
 refine gD ?_; intros
 refine xX fun b1 => ?_
 refine xC ?_
 refine wn [1] ?_
 refine gG ?_; intros; rename_i ops hG
 refine xF u30 ?_
 refine xG (pL u3) ?_
 refine bB ?_
 refine xM ?_
 refine zG (fun _ => pF u30) ?_
 refine zG (fun hc => PO.load1 u3 rfl (Eg hc) Me rfl) ?_
 refine zG (fun hc => PO.bin (Eg hc) Ev.const rfl) ?_
 refine xQ ?_
 refine wn [1, 10] ?_
 try clear hG ops
 refine gE ?_; intros
 refine wc (fun c10 => ?_) fun c10 => ?_
 have d3 : far t = true := c10
 refine gD ?_; intros
 refine xC ?_
 refine wn [2] ?_
 refine WC.ret (wR (h) ?_)
 exact ⟨by unfold mayR; rw [d3]; rfl, rfl⟩
 have d3 : far t = false := c10
 refine WC.skip (kp [1] ?_)
 refine gD ?_; intros
 refine xF u30 ?_
 refine xG (pL u24) ?_
 refine xf (E1 Et) (prim_ct _ _ _) ?_
 refine wn [1, 13] ?_
 refine gE ?_; intros
 refine wc (fun c13 => ?_) fun c13 => ?_
 refine gG ?_; intros; rename_i ops hG
 refine xF u30 ?_
 refine xG (pL u24) ?_
 refine bB ?_
 refine xM ?_
 refine zG (fun _ => pF u30) ?_
 refine zG (fun hc => PO.load1 u9 rfl (Eg hc) Me rfl) ?_
 refine zG (fun hc => PO.eqlS (Eg hc) Ev.const) ?_
 refine xP ?_
 refine xA ?_
 refine wn [2] ?_
 try clear hG ops
 refine WC.ret (wR (h) ?_)
 exact ⟨by unfold mayR; rw [d3, c13]; rfl, rfl⟩
 refine WC.skip (kp [1] ?_)
 refine gD ?_; intros
 refine xF u30 ?_
 refine xG (pL u24) ?_
 refine bB ?_
 refine wn [1, 24] ?_
 refine gE ?_; intros
 refine wc (fun c24 => ?_) fun c24 => ?_
 refine gG ?_; intros; rename_i ops hG
 refine xF u30 ?_
 refine xG (pL u24) ?_
 refine xf (E1 Et) (prim_ct _ _ _) ?_
 refine xM ?_
 refine zG (fun _ => pF u30) ?_
 refine zG (fun hc => PO.load1 u9 rfl (Eg hc) Me rfl) ?_
 refine zG (fun hc => PO.eqlS (Eg hc) Ev.const) ?_
 refine xP ?_
 refine xM ?_
 refine zG (fun _ => pF u30) ?_
 refine zG (fun hc => PO.load1 u24 rfl (Eg hc) Me rfl) ?_
 refine zG (fun hc => PO.bin (Eg hc) Ev.const rfl) ?_
 refine zV ?_
 refine zG (fun _ => pF u30) ?_
 refine zG (fun hc => PO.load1 u9 rfl (Eg hc) Me rfl) ?_
 refine WL.callG (GU.nt (hG _ _ rfl) rfl) (fun hc => ⟨Ev.func, (E1 (Eg hc)), nameR_ct _ _ _ (by assumption)⟩) Lb ?_
 refine zG (fun hc => PO.pickAndN hc rfl rfl) ?_
 refine xQ ?_
 refine xA ?_
 refine wn [2] ?_
 try clear hG ops
 refine WC.ret (wR (h) ?_)
 exact ⟨by unfold mayR; rw [d3, c13, c24]; rfl, rfl⟩
 refine WC.skip (kp [1] ?_)
 refine gD ?_; intros
 refine xG (pA u30) ?_
 refine xG (PO.build u30 rfl rfl rfl (EvP.cons Ev.const EvP.nil) rfl) ?_
 refine xG (PO.eqlA u30 (by kernel_rfl) (by kernel_rfl) Et Et rfl) ?_
 refine xA ?_
 refine wn [2] ?_
 refine WC.ret (wR (h) ?_)
 exact ⟨by unfold mayR; rw [d3, c13, c24]; rfl, rfl⟩
theorem items1_ct (k : Int) (h : List Res) (m : View) (hg : Glob m) : CT Tryz.prog 210 [.int .u8 k] h m (Pure1 h (.bool (!is k))) := by
 refine CT.body Tryz.call210 Tryz.func210 rfl Tryz.ntmps210 Lb rfl ?_
 refine gD ?_; intros
 refine xC ?_
 refine wn [0] ?_
 refine gD ?_; intros
 refine xM ?_
 refine xf (E1 Et) (is_ct _ _ _ hg) ?_
 refine xG (PO.not Et) ?_
 refine xA ?_
 refine wn [2] ?_
 refine WC.ret (wR (h) ?_)
 exact ⟨rfl, rfl⟩
theorem idxK_ct (q : FuncId) (pr : Int → Bool) (a : Option Addr) (k c : Nat) (l : List Int) (h : List Res) (m : View) (hq : ∀ x, CT Tryz.prog q [.int .u8 x] h m (Pure1 h (.bool (pr x)))) (hs : Rd m h a k c 1 (fl encI l)) :
   CT Tryz.prog 219 [.slice a k c, .func (.func q) #[] #[]] h m (Pure1 h (.int .i64 (idxF pr l 0))) := by
 have hl := hs.lenF encI_len (by decide)
 have hmx := hs.mx
 have hle := hs.le
 refine CT.body Tryz.call219 Tryz.func219 rfl Tryz.ntmps219 Lb rfl ?_
 refine gD ?_; intros
 refine xC ?_
 refine wn [0, 1] ?_
 refine gD ?_; intros
 refine xM ?_
 refine xG (PO.lenSl u100 Et) ?_
 refine xK ?_
 refine wn [0, 1, 7, 8] ?_
 refine gE ?_; intros
 refine WC.loopI [0, 1, 7] rfl (fun μ F' h' => ∃ j : Nat, (j ≤ k ∧ idxF pr l 0 = idxF pr (l.drop j) j) ∧ k - j = μ ∧ F' = [(8, .int .i64 j)] ∧ h = h') (k - 0) [(8, .int .i64 0)] (h0 := h) ?_ Sb ⟨0, ⟨by omega, rfl⟩, rfl, rfl, rfl⟩ ?_
 exact Su
 rintro _ _ _ ⟨j, ⟨hk, hJ⟩, rfl, rfl, rfl⟩
 refine WC.frm rfl ?_
 refine gD ?_; intros
 refine bD ?_
 refine wn [0, 1, 7, 8, 9] ?_
 refine gE ?_; intros
 refine wc (fun c9 => ?_) fun c9 => ?_
 replace c9 := dT c9
 obtain ⟨x, hx⟩ := get_some (l := l) (k := j) (by omega)
 rw [idxF_drop pr hx] at hJ
 refine WC.skip (kp [0, 1, 7, 8] ?_)
 refine gD ?_; intros
 refine xM ?_
 refine xA ?_
 refine wn [0, 1, 5, 7, 8] ?_
 refine gD ?_; intros
 refine xM ?_
 refine xM ?_
 refine xM ?_
 refine xG (PO.idx EL100.und EL100.size EL100.posz (Ev.tmp rfl) (Ev.tmp rfl) Rr rfl (by omega)) ?_
 refine xG (PO.loadF1 u24 rfl encI_len Rr (Ev.tmp rfl) (by assumption) rfl) ?_
 refine WL.callP (Ev.tmp rfl) (E1 (Ev.tmp rfl)) (hq x) Lb ?_
 refine wn [0, 1, 5, 7, 8, 16] ?_
 refine gE ?_; intros
 refine wc (fun c16 => ?_) fun c16 => ?_
 rw [c16] at hJ
 refine gD ?_; intros
 refine xM ?_
 refine xA ?_
 refine wn [4] ?_
 refine WC.ret (wR (h) ?_)
 exact ⟨by rw [hJ]; rfl, rfl⟩
 rw [c16] at hJ
 refine WC.skip (kp [0, 1, 7, 8] ?_)
 refine gD ?_; intros
 refine bI ?_
 refine xM ?_
 refine WL.nil (loopBackI (k - (j + 1)) [(8, .int .i64 (j + 1))] (h'' := h) (by omega) ?_ Su Sb ⟨j + 1, ⟨by omega, by simpa using hJ⟩, rfl, rfl, rfl⟩)
 exact Su
 replace c9 := dF c9
 rw [List.drop_eq_nil_of_le (by omega)] at hJ
 refine WC.exit (kp [] ?_)
 refine gD ?_; intros
 refine xC ?_
 refine wn [4] ?_
 refine WC.ret (wR (h) ?_)
 exact ⟨by rw [hJ]; rfl, rfl⟩
theorem anyK_ct (q : FuncId) (pr : Int → Bool) (a : Option Addr) (k c : Nat) (l : List Int) (h : List Res) (m : View) (hq : ∀ x, CT Tryz.prog q [.int .u8 x] h m (Pure1 h (.bool (pr x)))) (hs : Rd m h a k c 1 (fl encI l)) :
   CT Tryz.prog 209 [.slice a k c, .func (.func q) #[] #[]] h m (Pure1 h (.bool (l.any pr))) := by
 refine CT.body Tryz.call209 Tryz.func209 rfl Tryz.ntmps209 Lb rfl ?_
 refine gD ?_; intros
 refine xC ?_
 refine wn [0, 1] ?_
 refine gD ?_; intros
 refine xM ?_
 refine xM ?_
 refine xf (E2 Et Et) (idxK_ct q pr _ _ _ l _ _ hq hs) ?_
 refine bB ?_
 refine xA ?_
 refine wn [4] ?_
 refine WC.ret (wR (h) ?_)
 exact ⟨congrArg Value.bool (idxF_any pr l 0 (by decide)), rfl⟩
theorem items_ct (least : Int) (a : Option Addr) (k c : Nat) (l : List Int) (h : List Res) (m : View) (hg : Glob m) (hs : Rd m h a k c 1 (fl encI l)) :
   CT Tryz.prog 190 [.slice a k c, .int .i64 least] h m (Pure1 h (.bool (itemsB l least))) := by
 have hl := hs.lenF encI_len (by decide)
 subst hl
 refine CT.body Tryz.call190 Tryz.func190 rfl Tryz.ntmps190 Lb rfl ?_
 refine gD ?_; intros
 refine xC ?_
 refine wn [0, 1] ?_
 refine gG ?_; intros; rename_i ops hG
 refine xM ?_
 refine xG (PO.lenSl u100 Et) ?_
 refine xM ?_
 refine bD ?_
 refine xM ?_
 refine zM ?_
 refine zG (fun hc => PO.lenSl u100 (Eg hc)) ?_
 refine zG (fun hc => PO.bin (Eg hc) Ev.const rfl) ?_
 refine xP ?_
 refine xM ?_
 refine zM ?_
 refine WL.callG (GU.t (hG _ _ rfl) rfl) (fun hc => ⟨Ev.func, (E2 (Eg hc) Ev.func), anyK_ct 210 (fun k => !is k) _ _ _ l _ _ (fun x => items1_ct x _ _ hg) hs⟩) Lb ?_
 refine zG (fun hc => PO.not (Eg hc)) ?_
 refine xP ?_
 refine xA ?_
 refine wn [4] ?_
 try clear hG ops
 refine WC.ret (wR (h) ?_)
 exact ⟨rfl, rfl⟩
theorem itemsR_ct (least : Int) (a : Option Addr) (k c : Nat) (l : List Int) (h : List Res) (m : View) (hs : Rd m h a k c 1 (fl encI l)) :
   CT Tryz.prog 182 [.slice a k c, .int .i64 least] h m (Pure1 h (.bool (itemsB l least))) := by
 have hl := hs.lenF encI_len (by decide)
 subst hl
 have hmx := hs.mx
 have hle := hs.le
 rw [items_eq]
 refine CT.body Tryz.call182 Tryz.func182 rfl Tryz.ntmps182 Lb rfl ?_
 refine gD ?_; intros
 refine xC ?_
 refine wn [0, 1] ?_
 refine gD ?_; intros
 refine xC ?_
 refine wn [0, 1, 5] ?_
 refine gE ?_; intros
 refine WC.loopI [0, 1] rfl (fun μ F' h' => ∃ j : Nat, (j ≤ l.length ∧ l.all prim = (l.drop j).all prim) ∧ l.length - j = μ ∧ F' = [(5, .int .i64 j)] ∧ h = h') (l.length - 0) [(5, .int .i64 0)] (h0 := h) ?_ Sb ⟨0, ⟨by omega, rfl⟩, rfl, rfl, rfl⟩ ?_
 exact Su
 rintro _ _ _ ⟨j, ⟨hk, hJ⟩, rfl, rfl, rfl⟩
 refine WC.frm rfl ?_
 refine gD ?_; intros
 refine xM ?_
 refine xM ?_
 refine xG (PO.lenSl u100 Et) ?_
 refine bD ?_
 refine wn [0, 1, 5, 9] ?_
 refine gE ?_; intros
 refine wc (fun c9 => ?_) fun c9 => ?_
 replace c9 := dT c9
 obtain ⟨x, hx⟩ := get_some (l := l) (k := j) (by omega)
 rw [List.drop_eq_getElem_cons (by omega), (List.getElem?_eq_some_iff.1 hx).2, List.all_cons] at hJ
 refine WC.skip (kp [0, 1, 5] ?_)
 refine gD ?_; intros
 refine xM ?_
 refine xM ?_
 refine xG (PO.idx EL100.und EL100.size EL100.posz (Ev.tmp rfl) (Ev.tmp rfl) Rr rfl (by omega)) ?_
 refine xG (PO.loadF1 u24 rfl encI_len Rr (Ev.tmp rfl) (by assumption) rfl) ?_
 refine xf (E1 Et) (prim_ct _ _ _) ?_
 refine xG (PO.not Et) ?_
 refine wn [0, 1, 5, 17] ?_
 refine gE ?_; intros
 refine wc (fun c17 => ?_) fun c17 => ?_
 have d : prim x = false := by simpa using c17
 rw [d] at hJ
 refine gD ?_; intros
 refine xC ?_
 refine wn [4] ?_
 refine WC.ret (wR (h) ?_)
 exact ⟨by unfold itemsR; rw [hJ]; rfl, rfl⟩
 have d : prim x = true := by simpa using c17
 rw [d] at hJ
 refine WC.skip (kp [0, 1, 5] ?_)
 refine gD ?_; intros
 refine xM ?_
 refine bI ?_
 refine xA ?_
 refine WL.nil (loopBackI (l.length - (j + 1)) [(5, .int .i64 (j + 1))] (h'' := h) (by omega) ?_ Su Sb ⟨j + 1, ⟨by omega, by simpa using hJ⟩, rfl, rfl, rfl⟩)
 exact Su
 replace c9 := dF c9
 rw [List.drop_eq_nil_of_le (by omega)] at hJ
 refine WC.exit (kp [0, 1] ?_)
 refine gG ?_; intros; rename_i ops hG
 refine xM ?_
 refine xG (PO.lenSl u100 Et) ?_
 refine xM ?_
 refine bD ?_
 refine xM ?_
 refine zM ?_
 refine zG (fun hc => PO.lenSl u100 (Eg hc)) ?_
 refine zG (fun hc => PO.bin (Eg hc) Ev.const rfl) ?_
 refine xP ?_
 refine xA ?_
 refine wn [4] ?_
 try clear hG ops
 refine WC.ret (wR (h) ?_)
 exact ⟨by unfold itemsR; rw [hJ]; rfl, rfl⟩
theorem equal207_ct (s1 s2 : Option Addr) (n1 c1 n2 c2 : Nat) (xs ys : List _) (h : List Res) (m : View) (h1 : Rd m h s1 n1 c1 1 (fl encI xs)) (h2 : Rd m h s2 n2 c2 1 (fl encI ys)) :
   CT Tryz.prog 207 [.slice s1 n1 c1, .slice s2 n2 c2] h m (Pure1 h (.bool (eqL eqI xs ys))) := by
 have l1 := h1.lenF encI_len (by decide)
 have l2 := h2.lenF encI_len (by decide)
 have m1 := h1.mx
 have m2 := h2.mx
 have k1 := h1.le
 have k2 := h2.le
 refine CT.body Tryz.call207 Tryz.func207 rfl Tryz.ntmps207 Lb rfl ?_
 refine gD ?_; intros
 refine xC ?_
 refine wn [0, 1] ?_
 refine gD ?_; intros
 refine xM ?_
 refine xG (PO.lenSl u100 Et) ?_
 refine xM ?_
 refine xG (PO.lenSl u100 Et) ?_
 refine bD ?_
 refine wn [0, 1, 10] ?_
 refine gE ?_; intros
 refine wc (fun c10 => ?_) fun c10 => ?_
 replace c10 := t_ne c10
 refine gD ?_; intros
 refine xC ?_
 refine wn [4] ?_
 refine WC.ret (wR (h) ?_)
 exact ⟨by rw [eqL_len _ _ _ (by omega)], rfl⟩
 replace c10 := f_ne c10
 refine WC.skip (kp [0, 1] ?_)
 refine gD ?_; intros
 refine xC ?_
 refine wn [0, 1, 5] ?_
 refine gE ?_; intros
 refine WC.loopI [0, 1] rfl (fun μ F' h' => ∃ k : Nat, (k ≤ n1 ∧ eqL eqI xs ys = eqL eqI (xs.drop k) (ys.drop k)) ∧ n1 - k = μ ∧ F' = [(5, .int .i64 k)] ∧ h = h') (n1 - 0) [(5, .int .i64 0)] (h0 := h) ?_ Sb ⟨0, ⟨by omega, by simp⟩, rfl, rfl, rfl⟩ ?_
 exact Su
 rintro _ _ _ ⟨k, ⟨hk, hJ⟩, rfl, rfl, rfl⟩
 refine WC.frm rfl ?_
 refine gD ?_; intros
 refine xM ?_
 refine xM ?_
 refine xG (PO.lenSl u100 Et) ?_
 refine bD ?_
 refine wn [0, 1, 5, 14] ?_
 refine gE ?_; intros
 refine wc (fun c14 => ?_) fun c14 => ?_
 replace c14 := dT c14
 obtain ⟨x, hx⟩ := get_some (l := xs) (k := k) (by omega)
 obtain ⟨y, hy⟩ := get_some (l := ys) (k := k) (by omega)
 rw [eqL_drop _ hx hy] at hJ
 refine WC.skip (kp [0, 1, 5] ?_)
 refine gE ?_; intros
 refine dS [] (.op 0 (.op 1 (.op 2 (.op 3 (.op 4 (.op 5 (.op 6 (.op 7 .nil)))))))) [8] mixed ?_
 refine yG rfl (PO.move Et) ?_
 refine yG rfl (PO.move Et) ?_
 refine yG rfl (PO.idx EL100.und EL100.size EL100.posz (Ev.tmp rfl) (Ev.tmp rfl) Rr rfl (by omega)) ?_
 refine yG rfl (PO.loadF1 u24 rfl encI_len Rr (Ev.tmp rfl) (by assumption) rfl) ?_
 refine yG rfl (PO.move Et) ?_
 refine yG rfl (PO.move Et) ?_
 refine yG rfl (PO.idx EL100.und EL100.size EL100.posz (Ev.tmp rfl) (Ev.tmp rfl) Rr rfl (by omega)) ?_
 refine yG rfl (PO.loadF1 u24 rfl encI_len Rr (Ev.tmp rfl) (by assumption) rfl) ?_
 refine SR.nil rfl rfl ?_
 refine bD ?_
 refine wn [0, 1, 5, 25] ?_
 refine gE ?_; intros
 refine wc (fun c25 => ?_) fun c25 => ?_
 refine gD ?_; intros
 refine xC ?_
 refine wn [4] ?_
 refine WC.ret (wR (h) ?_)
 exact ⟨by rw [hJ, eqI_ne c25]; rfl, rfl⟩
 rw [eqI_eq c25, Bool.true_and] at hJ
 refine WC.skip (kp [0, 1, 5] ?_)
 refine gD ?_; intros
 refine xM ?_
 refine bI ?_
 refine xA ?_
 refine WL.nil (loopBackI (n1 - (k + 1)) [(5, .int .i64 (k + 1))] (h'' := h) (by omega) ?_ Su Sb ⟨k + 1, ⟨by omega, hJ⟩, rfl, rfl, rfl⟩)
 exact Su
 replace c14 := dF c14
 refine WC.exit (kp [] ?_)
 refine gD ?_; intros
 refine xC ?_
 refine wn [4] ?_
 refine WC.ret (wR (h) ?_)
 exact ⟨by rw [hJ, List.drop_eq_nil_of_le (by omega), List.drop_eq_nil_of_le (by omega)]; rfl, rfl⟩
theorem mayProto1_ct (w v : Vr) (b : Nat) (h : List Res) (m : View) (hb : Res.pt b (.cells (encV v).toArray 102 (0, 0)) ∈ h) :
   CT Tryz.prog 192 [.agg (encV w).toArray, .pointer (some ⟨b, 0, none⟩)] h m (Pure1 h (.bool (w.tag == v.tag))) := by
 refine CT.body Tryz.call192 Tryz.func192 rfl Tryz.ntmps192 Lb rfl ?_
 refine gD ?_; intros
 refine xX fun b2 => ?_
 refine xC ?_
 refine wn [1, 2] ?_
 refine gD ?_; intros
 refine xF u102 ?_
 refine xG (pL u9) ?_
 refine xF u102 ?_
 refine xG (PO.load1 u9 rfl Et (List.Mem.tail _ hb) rfl) ?_
 refine xG (PO.eqlS Et Et) ?_
 refine xA ?_
 refine wn [3] ?_
 refine WC.ret (wR (h) ?_)
 exact ⟨rfl, rfl⟩
theorem idxV_ct (q : FuncId) (pr : Vr → Bool) (cap : List Value) (a : Option Addr) (k c : Nat) (l : List Vr) (h : List Res) (m : View) (hq : ∀ x, x ∈ l → CT Tryz.prog q ([.agg (encV x).toArray] ++ cap) h m (Pure1 h (.bool (pr x)))) (hs : Rd m h a k c 2 (fl encV l)) :
   CT Tryz.prog 211 [.slice a k c, .func (.func q) #[] cap.toArray] h m (Pure1 h (.int .i64 (idxF pr l 0))) := by
 have hl := hs.lenF encV_len (by decide)
 have hmx := hs.mx
 have hle := hs.le
 refine CT.body Tryz.call211 Tryz.func211 rfl Tryz.ntmps211 Lb rfl ?_
 refine gD ?_; intros
 refine xC ?_
 refine wn [0, 1] ?_
 refine gD ?_; intros
 refine xM ?_
 refine xG (PO.lenSl u49 Et) ?_
 refine xK ?_
 refine wn [0, 1, 7, 8] ?_
 refine gE ?_; intros
 refine WC.loopI [0, 1, 7] rfl (fun μ F' h' => ∃ j : Nat, (j ≤ k ∧ idxF pr l 0 = idxF pr (l.drop j) j) ∧ k - j = μ ∧ F' = [(8, .int .i64 j)] ∧ h = h') (k - 0) [(8, .int .i64 0)] (h0 := h) ?_ Sb ⟨0, ⟨by omega, rfl⟩, rfl, rfl, rfl⟩ ?_
 exact Su
 rintro _ _ _ ⟨j, ⟨hk, hJ⟩, rfl, rfl, rfl⟩
 refine WC.frm rfl ?_
 refine gD ?_; intros
 refine bD ?_
 refine wn [0, 1, 7, 8, 9] ?_
 refine gE ?_; intros
 refine wc (fun c9 => ?_) fun c9 => ?_
 replace c9 := dT c9
 obtain ⟨x, hx⟩ := get_some (l := l) (k := j) (by omega)
 rw [idxF_drop pr hx] at hJ
 refine WC.skip (kp [0, 1, 7, 8] ?_)
 refine gD ?_; intros
 refine xM ?_
 refine xA ?_
 refine wn [0, 1, 5, 7, 8] ?_
 refine gD ?_; intros
 refine xM ?_
 refine xM ?_
 refine xM ?_
 refine xG (PO.idx EL49.und EL49.size EL49.posz (Ev.tmp rfl) (Ev.tmp rfl) Rr rfl (by omega)) ?_
 refine xG (PO.loadFA u102 rfl rfl encV_len Rr (Ev.tmp rfl) (by assumption) rfl rfl (Nat.succ_pos _)) ?_
 refine WL.callP (Ev.tmp rfl) (E1 (Ev.tmp rfl)) (hq x (List.mem_of_getElem? hx)) Lb ?_
 refine wn [0, 1, 5, 7, 8, 16] ?_
 refine gE ?_; intros
 refine wc (fun c16 => ?_) fun c16 => ?_
 rw [c16] at hJ
 refine gD ?_; intros
 refine xM ?_
 refine xA ?_
 refine wn [4] ?_
 refine WC.ret (wR (h) ?_)
 exact ⟨by rw [hJ]; rfl, rfl⟩
 rw [c16] at hJ
 refine WC.skip (kp [0, 1, 7, 8] ?_)
 refine gD ?_; intros
 refine bI ?_
 refine xM ?_
 refine WL.nil (loopBackI (k - (j + 1)) [(8, .int .i64 (j + 1))] (h'' := h) (by omega) ?_ Su Sb ⟨j + 1, ⟨by omega, by simpa using hJ⟩, rfl, rfl, rfl⟩)
 exact Su
 replace c9 := dF c9
 rw [List.drop_eq_nil_of_le (by omega)] at hJ
 refine WC.exit (kp [] ?_)
 refine gD ?_; intros
 refine xC ?_
 refine wn [4] ?_
 refine WC.ret (wR (h) ?_)
 exact ⟨by rw [hJ]; rfl, rfl⟩
theorem anyV_ct (q : FuncId) (pr : Vr → Bool) (cap : List Value) (a : Option Addr) (k c : Nat) (l : List Vr) (h : List Res) (m : View) (hq : ∀ x, x ∈ l → CT Tryz.prog q ([.agg (encV x).toArray] ++ cap) h m (Pure1 h (.bool (pr x)))) (hs : Rd m h a k c 2 (fl encV l)) :
   CT Tryz.prog 191 [.slice a k c, .func (.func q) #[] cap.toArray] h m (Pure1 h (.bool (l.any pr))) := by
 refine CT.body Tryz.call191 Tryz.func191 rfl Tryz.ntmps191 Lb rfl ?_
 refine gD ?_; intros
 refine xC ?_
 refine wn [0, 1] ?_
 refine gD ?_; intros
 refine xM ?_
 refine xM ?_
 refine xf (E2 Et Et) (idxV_ct q pr cap _ _ _ l _ _ hq hs) ?_
 refine bB ?_
 refine xA ?_
 refine wn [4] ?_
 refine WC.ret (wR (h) ?_)
 exact ⟨congrArg Value.bool (idxF_any pr l 0 (by decide)), rfl⟩
theorem mayProto_ct (cs : Bool) (a : Option Addr) (k c : Nat) (l : List Vr) (h : List Res) (m : View) (hg : Glob m) (hp : PrOk m h a k c l) :
   CT Tryz.prog 172 [prV cs a k c] h m (Pure1 h (.bool (mayPr cs l))) := by
 obtain ⟨hs, hv, ht⟩ := hp
 have hl := hs.lenF encV_len (by decide)
 subst hl
 have hmx := hs.mx
 have hle := hs.le
 refine CT.body Tryz.call172 Tryz.func172 rfl Tryz.ntmps172 Lb rfl ?_
 refine gD ?_; intros
 refine xX fun b1 => ?_
 refine xC ?_
 refine wn [1] ?_
 refine gD ?_; intros
 refine xF u51 ?_
 refine xG (pL u4) ?_
 refine xG (PO.not Et) ?_
 refine wn [1, 7] ?_
 refine gE ?_; intros
 refine wc (fun c7 => ?_) fun c7 => ?_
 have hd := hdV_get (l := l)
 refine gG ?_; intros; rename_i ops hG
 refine xF u51 ?_
 refine xG (pL u49) ?_
 refine xG (PO.lenSl u49 Et) ?_
 refine bB ?_
 refine xM ?_
 refine zG (fun _ => pF u51) ?_
 refine zG (fun hc => PO.load1 u49 rfl (Eg hc) Me rfl) ?_
 refine WL.poG (GU.t (hG _ _ rfl) rfl) (fun hc => PO.idx EL49.und EL49.size EL49.posz (Eg hc) Ev.const Rr rfl (q := 0) (by simp at hc; omega)) Lb ?_
 refine zG (fun hc => PO.fieldF u102 rfl (Nat.ne_of_beq_eq_false rfl) encV_len (Nat.succ_pos _) Rr (hd hc) (Eg hc)) ?_
 refine zG (fun hc => PO.loadFf u9 rfl encV_len Rr (Eg hc) (hd hc) rfl) ?_
 refine zG (fun hc => PO.eqlS (Eg hc) Ev.const) ?_
 refine xP ?_
 refine xM ?_
 refine zG (fun _ => pF u51) ?_
 refine zG (fun hc => PO.load1 u49 rfl (Eg hc) Me rfl) ?_
 refine WL.poG (GU.t (hG _ _ rfl) rfl) (fun hc => PO.idx EL49.und EL49.size EL49.posz (Eg hc) Ev.const Rr rfl (q := 0) (by simp at hc; omega)) Lb ?_
 refine zG (fun hc => PO.fieldF u102 rfl (Nat.ne_of_beq_eq_false rfl) encV_len (Nat.succ_pos _) Rr (hd (and_l hc)) (Eg hc)) ?_
 refine zG (fun hc => PO.loadFf u100 rfl encV_len Rr (Eg hc) (hd (and_l hc)) rfl) ?_
 refine WL.callG (GU.t (hG _ _ rfl) rfl) (fun hc => ⟨Ev.func, (E2 (Eg hc) Ev.const), items_ct 1 _ _ _ (hdV l).items _ _ hg ((hv _ (List.mem_of_getElem? (hd (and_l hc)))).rd.mono (View.le.refl _) Sb)⟩) Lb ?_
 refine xP ?_
 refine xA ?_
 refine wn [2] ?_
 try clear hG ops
 refine WC.ret (wR (h) ?_)
 exact ⟨by unfold mayPr; rw [c7]; rfl, rfl⟩
 refine WC.skip (kp [1] ?_)
 refine gG ?_; intros; rename_i ops hG
 refine xF u51 ?_
 refine xG (pL u49) ?_
 refine xG (PO.lenSl u49 Et) ?_
 refine bB ?_
 refine xM ?_
 refine zG (fun _ => pF u51) ?_
 refine zG (fun hc => PO.load1 u49 rfl (Eg hc) Me rfl) ?_
 refine zG (fun hc => PO.lenSl u49 (Eg hc)) ?_
 refine zG (fun hc => PO.bin (Eg hc) Ev.const rfl) ?_
 refine xQ ?_
 refine wn [1, 37] ?_
 try clear hG ops
 refine gE ?_; intros
 refine wc (fun c37 => ?_) fun c37 => ?_
 refine gD ?_; intros
 refine xC ?_
 refine wn [2] ?_
 refine WC.ret (wR (h) ?_)
 exact ⟨by unfold mayPr; rw [c7, c37]; rfl, rfl⟩
 refine WC.skip (kp [1] ?_)
 refine gD ?_; intros
 refine xF u51 ?_
 refine xG (pL u49) ?_
 refine xG (PO.lenSl u49 Et) ?_
 refine xK ?_
 refine wn [1, 39, 40, 41] ?_
 refine gE ?_; intros
 refine WC.loopI [1, 39, 40] rfl (fun μ F' h' => ∃ j : Nat, (j ≤ l.length ∧ mayIn [] l = mayIn (l.take j) (l.drop j)) ∧ l.length - j = μ ∧ F' = [(41, .int .i64 j)] ∧ .pt b1 (.cells (prL cs a l.length c).toArray 51 (0, 0)) :: h = h') (l.length - 0) [(41, .int .i64 0)] (h0 := .pt b1 (.cells (prL cs a l.length c).toArray 51 (0, 0)) :: h) ?_ Sb ⟨0, ⟨by omega, rfl⟩, rfl, rfl, rfl⟩ ?_
 exact Su
 rintro _ _ _ ⟨j, ⟨hk, hJ⟩, rfl, rfl, rfl⟩
 refine WC.frm rfl ?_
 refine gD ?_; intros
 refine bD ?_
 refine wn [1, 39, 40, 41, 42] ?_
 refine gE ?_; intros
 refine wc (fun c42 => ?_) fun c42 => ?_
 replace c42 := dT c42
 obtain ⟨v, hx⟩ := get_some (l := l) (k := j) (by omega)
 rw [mayIn_drop hx] at hJ
 have hvt := ht v (List.mem_of_getElem? hx)
 have hvr := (hv v (List.mem_of_getElem? hx)).rd
 refine WC.skip (kp [1, 39, 40, 41] ?_)
 refine gD ?_; intros
 refine xM ?_
 refine xG (PO.idx EL49.und EL49.size EL49.posz (Ev.tmp rfl) (Ev.tmp rfl) Rr rfl (by omega)) ?_
 refine xG (PO.loadFA u102 rfl rfl encV_len Rr (Ev.tmp rfl) (by assumption) rfl rfl (Nat.succ_pos _)) ?_
 refine xW fun b4 => ?_
 refine xA ?_
 refine xS ?_
 refine wn [1, 3, 4, 39, 40, 41] ?_
 refine gG ?_; intros; rename_i ops hG
 refine xF u102 ?_
 refine xG (pL u9) ?_
 refine xf (E1 Et) (name_ct _ _ _ hg (by assumption)) ?_
 refine xG (PO.not Et) ?_
 refine xM ?_
 refine zG (fun _ => pF u102) ?_
 refine zG (fun hc => PO.load1 u100 rfl (Eg hc) Me rfl) ?_
 refine WL.callG (GU.f (hG _ _ rfl) rfl) (fun hc => ⟨Ev.func, (E2 (Eg hc) Ev.const), items_ct 0 _ _ _ v.items _ _ hg Rr⟩) Lb ?_
 refine zG (fun hc => PO.not (Eg hc)) ?_
 refine xQ ?_
 refine xM ?_
 refine zG (fun _ => pF u51) ?_
 refine zG (fun hc => PO.load1 u49 rfl (Eg hc) Me rfl) ?_
 refine zM ?_
 refine WL.poG (GU.f (hG _ _ rfl) rfl) (fun hc => PO.sliceH EL49.und EL49.size (Eg hc) (Eg hc) rfl (by omega)) Lb ?_
 refine zG (fun _ => PO.makeFunc Evs.nil (E1 Et)) ?_
 refine WL.callG (GU.f (hG _ _ rfl) rfl) (fun hc => ⟨Ev.func, (E2 (Eg hc) (Eg hc)), anyV_ct 192 (fun w => w.tag == v.tag) [.pointer (some ⟨b4, 0, none⟩)] _ _ _ (l.take j) _ _ (fun x _ => mayProto1_ct x v b4 _ _ Me) (Rd.takeF encV_len (hs.mono (View.le.refl _) Sb) (by omega))⟩) Lb ?_
 refine xQ ?_
 refine wn [1, 39, 40, 41, 63] ?_
 try clear hG ops
 refine gE ?_; intros
 refine wc (fun c63 => ?_) fun c63 => ?_
 have d63 : badV (l.take j) v = true := c63
 rw [d63] at hJ
 refine gD ?_; intros
 refine xC ?_
 refine wn [2] ?_
 refine WC.ret (wR (h) ?_)
 exact ⟨by unfold mayPr; rw [c7, c37, hJ]; rfl, rfl⟩
 have d63 : badV (l.take j) v = false := c63
 rw [d63] at hJ
 refine WC.skip (kp [1, 39, 40, 41] ?_)
 refine gD ?_; intros
 refine bI ?_
 refine xM ?_
 refine WL.nil (loopBackI (l.length - (j + 1)) [(41, .int .i64 (j + 1))] (h'' := .pt b1 (.cells (prL cs a l.length c).toArray 51 (0, 0)) :: h) (by omega) ?_ Su Sb ⟨j + 1, ⟨by omega, by simpa using hJ⟩, rfl, rfl, rfl⟩)
 exact Su
 replace c42 := dF c42
 rw [List.drop_eq_nil_of_le (by omega)] at hJ
 refine WC.exit (kp [] ?_)
 refine gD ?_; intros
 refine xC ?_
 refine wn [2] ?_
 refine WC.ret (wR (h) ?_)
 exact ⟨by unfold mayPr; rw [c7, c37, hJ]; rfl, rfl⟩
theorem mayProtoR_ct (cs : Bool) (a : Option Addr) (k c : Nat) (l : List Vr) (h : List Res) (m : View) (hp : PrOk m h a k c l) :
   CT Tryz.prog 153 [prV cs a k c] h m (Pure1 h (.bool (mayPr cs l))) := by
 obtain ⟨hs, hv, ht⟩ := hp
 have hl := hs.lenF encV_len (by decide)
 subst hl
 have hmx := hs.mx
 have hle := hs.le
 refine CT.body Tryz.call153 Tryz.func153 rfl Tryz.ntmps153 Lb rfl ?_
 refine gD ?_; intros
 refine xX fun b1 => ?_
 refine xC ?_
 refine wn [1] ?_
 refine gD ?_; intros
 refine xF u51 ?_
 refine xG (pL u4) ?_
 refine xG (PO.not Et) ?_
 refine wn [1, 7] ?_
 refine gE ?_; intros
 refine wc (fun c7 => ?_) fun c7 => ?_
 have hd := hdV_get (l := l)
 refine gG ?_; intros; rename_i ops hG
 refine xF u51 ?_
 refine xG (pL u49) ?_
 refine xG (PO.lenSl u49 Et) ?_
 refine bB ?_
 refine xM ?_
 refine zG (fun _ => pF u51) ?_
 refine zG (fun hc => PO.load1 u49 rfl (Eg hc) Me rfl) ?_
 refine WL.poG (GU.t (hG _ _ rfl) rfl) (fun hc => PO.idx EL49.und EL49.size EL49.posz (Eg hc) Ev.const Rr rfl (q := 0) (by simp at hc; omega)) Lb ?_
 refine zG (fun hc => PO.fieldF u102 rfl (Nat.ne_of_beq_eq_false rfl) encV_len (Nat.succ_pos _) Rr (hd hc) (Eg hc)) ?_
 refine zG (fun hc => PO.loadFf u9 rfl encV_len Rr (Eg hc) (hd hc) rfl) ?_
 refine zG (fun hc => PO.eqlS (Eg hc) Ev.const) ?_
 refine xP ?_
 refine xM ?_
 refine zG (fun _ => pF u51) ?_
 refine zG (fun hc => PO.load1 u49 rfl (Eg hc) Me rfl) ?_
 refine WL.poG (GU.t (hG _ _ rfl) rfl) (fun hc => PO.idx EL49.und EL49.size EL49.posz (Eg hc) Ev.const Rr rfl (q := 0) (by simp at hc; omega)) Lb ?_
 refine zG (fun hc => PO.fieldF u102 rfl (Nat.ne_of_beq_eq_false rfl) encV_len (Nat.succ_pos _) Rr (hd (and_l hc)) (Eg hc)) ?_
 refine zG (fun hc => PO.loadFf u100 rfl encV_len Rr (Eg hc) (hd (and_l hc)) rfl) ?_
 refine WL.callG (GU.t (hG _ _ rfl) rfl) (fun hc => ⟨Ev.func, (E2 (Eg hc) Ev.const), itemsR_ct 1 _ _ _ (hdV l).items _ _ ((hv _ (List.mem_of_getElem? (hd (and_l hc)))).rd.mono (View.le.refl _) Sb)⟩) Lb ?_
 refine xP ?_
 refine xA ?_
 refine wn [2] ?_
 try clear hG ops
 refine WC.ret (wR (h) ?_)
 exact ⟨by unfold mayPr; rw [c7]; rfl, rfl⟩
 refine WC.skip (kp [1] ?_)
 refine gG ?_; intros; rename_i ops hG
 refine xF u51 ?_
 refine xG (pL u49) ?_
 refine xG (PO.lenSl u49 Et) ?_
 refine bB ?_
 refine xM ?_
 refine zG (fun _ => pF u51) ?_
 refine zG (fun hc => PO.load1 u49 rfl (Eg hc) Me rfl) ?_
 refine zG (fun hc => PO.lenSl u49 (Eg hc)) ?_
 refine zG (fun hc => PO.bin (Eg hc) Ev.const rfl) ?_
 refine xQ ?_
 refine wn [1, 37] ?_
 try clear hG ops
 refine gE ?_; intros
 refine wc (fun c37 => ?_) fun c37 => ?_
 refine gD ?_; intros
 refine xC ?_
 refine wn [2] ?_
 refine WC.ret (wR (h) ?_)
 exact ⟨by unfold mayPr; rw [c7, c37]; rfl, rfl⟩
 refine WC.skip (kp [1] ?_)
 refine gD ?_; intros
 refine xC ?_
 refine wn [1, 3] ?_
 refine gE ?_; intros
 refine WC.loopI [1] rfl (fun μ F' h' => ∃ j : Nat, (j ≤ l.length ∧ mayIn [] l = mayIn (l.take j) (l.drop j)) ∧ l.length - j = μ ∧ F' = [(3, .int .i64 j)] ∧ .pt b1 (.cells (prL cs a l.length c).toArray 51 (0, 0)) :: h = h') (l.length - 0) [(3, .int .i64 0)] (h0 := .pt b1 (.cells (prL cs a l.length c).toArray 51 (0, 0)) :: h) ?_ Sb ⟨0, ⟨by omega, rfl⟩, rfl, rfl, rfl⟩ ?_
 exact Su
 rintro _ _ _ ⟨j, ⟨hk, hJ⟩, rfl, rfl, rfl⟩
 refine WC.frm rfl ?_
 refine gD ?_; intros
 refine xM ?_
 refine xF u51 ?_
 refine xG (pL u49) ?_
 refine xG (PO.lenSl u49 Et) ?_
 refine bD ?_
 refine wn [1, 3, 42] ?_
 refine gE ?_; intros
 refine wc (fun c42 => ?_) fun c42 => ?_
 replace c42 := dT c42
 obtain ⟨v, hx⟩ := get_some (l := l) (k := j) (by omega)
 rw [mayIn_drop hx] at hJ
 have hvt := ht v (List.mem_of_getElem? hx)
 have hvr := (hv v (List.mem_of_getElem? hx)).rd
 refine WC.skip (kp [1, 3] ?_)
 refine gG ?_; intros; rename_i ops hG
 refine xF u51 ?_
 refine xG (pL u49) ?_
 refine xM ?_
 refine xG (PO.idx EL49.und EL49.size EL49.posz (Ev.tmp rfl) (Ev.tmp rfl) Rr rfl (by omega)) ?_
 refine xG (PO.fieldF u102 rfl (Nat.ne_of_beq_eq_false rfl) encV_len (Nat.succ_pos _) Rr (by assumption) (Ev.tmp rfl)) ?_
 refine xG (PO.loadFf u9 rfl encV_len Rr (Ev.tmp rfl) (by assumption) rfl) ?_
 refine xf (E1 Et) (nameR_ct _ _ _ (by assumption)) ?_
 refine xG (PO.not Et) ?_
 refine xM ?_
 refine zG (fun _ => pF u51) ?_
 refine zG (fun hc => PO.load1 u49 rfl (Eg hc) Me rfl) ?_
 refine zM ?_
 refine WL.poG (GU.f (hG _ _ rfl) rfl) (fun hc => PO.idx EL49.und EL49.size EL49.posz (Eg hc) (Eg hc) Rr rfl (by omega)) Lb ?_
 refine zG (fun hc => PO.fieldF u102 rfl (Nat.ne_of_beq_eq_false rfl) encV_len (Nat.succ_pos _) Rr (by assumption) (Eg hc)) ?_
 refine zG (fun hc => PO.loadFf u100 rfl encV_len Rr (Eg hc) (by assumption) rfl) ?_
 refine WL.callG (GU.f (hG _ _ rfl) rfl) (fun hc => ⟨Ev.func, (E2 (Eg hc) Ev.const), itemsR_ct 0 _ _ _ v.items _ _ Rr⟩) Lb ?_
 refine zG (fun hc => PO.not (Eg hc)) ?_
 refine xQ ?_
 refine wn [1, 3, 62] ?_
 try clear hG ops
 refine gE ?_; intros
 refine wc (fun c62 => ?_) fun c62 => ?_
 rw [← name_eq] at c62
 have d62 : badV (l.take j) v = true := by unfold badV; rw [c62]; rfl
 rw [d62] at hJ
 refine gD ?_; intros
 refine xC ?_
 refine wn [2] ?_
 refine WC.ret (wR (h) ?_)
 exact ⟨by unfold mayPr; rw [c7, c37, hJ]; rfl, rfl⟩
 rw [← name_eq] at c62
 have d62 : badV (l.take j) v = tagIn v.tag (l.take j) := by unfold badV; rw [c62]; rfl
 rw [d62] at hJ
 refine WC.skip (kp [1, 3] ?_)
 refine gD ?_; intros
 refine xC ?_
 refine wn [1, 3, 4] ?_
 refine gE ?_; intros
 refine WC.loopI [1, 3] rfl (fun μ F' h' => ∃ q : Nat, (q ≤ j ∧ tagIn v.tag (l.take j) = tagIn v.tag ((l.take j).drop q)) ∧ j - q = μ ∧ F' = [(4, .int .i64 q)] ∧ .pt b1 (.cells (prL cs a l.length c).toArray 51 (0, 0)) :: h = h') (j - 0) [(4, .int .i64 0)] (h0 := .pt b1 (.cells (prL cs a l.length c).toArray 51 (0, 0)) :: h) ?_ Sb ⟨0, ⟨by omega, rfl⟩, rfl, rfl, rfl⟩ ?_
 exact Su
 rintro _ _ _ ⟨q, ⟨hq, hT⟩, rfl, rfl, rfl⟩
 refine WC.frm rfl ?_
 refine gD ?_; intros
 refine xM ?_
 refine xM ?_
 refine bD ?_
 refine wn [1, 3, 4, 65] ?_
 refine gE ?_; intros
 refine wc (fun c65 => ?_) fun c65 => ?_
 replace c65 := dT c65
 obtain ⟨w, hw⟩ := get_some (l := l) (k := q) (by omega)
 have hw' : (l.take j)[q]? = some w := by rw [List.getElem?_take_of_lt (by omega)]; exact hw
 rw [tagIn_drop v.tag hw'] at hT
 refine WC.skip (kp [1, 3, 4] ?_)
 refine gE ?_; intros
 refine dS [] (.op 0 (.op 1 (.op 2 (.op 3 (.op 4 (.op 5 (.op 6 (.op 7 (.op 8 (.op 9 (.op 10 (.op 11 .nil)))))))))))) [12] mixed ?_
 refine yG rfl (pF u51) ?_
 refine yG rfl (pL u49) ?_
 refine yG rfl (PO.move Et) ?_
 refine yG rfl (PO.idx EL49.und EL49.size EL49.posz (Ev.tmp rfl) (Ev.tmp rfl) Rr rfl (by omega)) ?_
 refine yG rfl (PO.fieldF u102 rfl (Nat.ne_of_beq_eq_false rfl) encV_len (Nat.succ_pos _) Rr (by assumption) (Ev.tmp rfl)) ?_
 refine yG rfl (PO.loadFf u9 rfl encV_len Rr (Ev.tmp rfl) (by assumption) rfl) ?_
 refine yG rfl (pF u51) ?_
 refine yG rfl (pL u49) ?_
 refine yG rfl (PO.move Et) ?_
 refine yG rfl (PO.idx EL49.und EL49.size EL49.posz (Ev.tmp rfl) (Ev.tmp rfl) Rr rfl (by omega)) ?_
 refine yG rfl (PO.fieldF u102 rfl (Nat.ne_of_beq_eq_false rfl) encV_len (Nat.succ_pos _) Rr (by assumption) (Ev.tmp rfl)) ?_
 refine yG rfl (PO.loadFf u9 rfl encV_len Rr (Ev.tmp rfl) (by assumption) rfl) ?_
 refine SR.nil rfl rfl ?_
 refine xG (PO.eqlS Et Et) ?_
 refine wn [1, 3, 4, 80] ?_
 refine gE ?_; intros
 refine wc (fun c80 => ?_) fun c80 => ?_
 rw [c80, Bool.true_or] at hT
 rw [hT] at hJ
 refine gD ?_; intros
 refine xC ?_
 refine wn [2] ?_
 refine WC.ret (wR (h) ?_)
 exact ⟨by unfold mayPr; rw [c7, c37, hJ]; rfl, rfl⟩
 rw [c80, Bool.false_or] at hT
 refine WC.skip (kp [1, 3, 4] ?_)
 refine gD ?_; intros
 refine xM ?_
 refine bI ?_
 refine xA ?_
 refine WL.nil (loopBackI (j - (q + 1)) [(4, .int .i64 (q + 1))] (h'' := .pt b1 (.cells (prL cs a l.length c).toArray 51 (0, 0)) :: h) (by omega) ?_ Su Sb ⟨q + 1, ⟨by omega, hT⟩, rfl, rfl, rfl⟩)
 exact Su
 replace c65 := dF c65
 rw [List.drop_eq_nil_of_le (by rw [List.length_take]; omega)] at hT
 rw [hT] at hJ
 refine WC.exit (kp [1, 3] ?_)
 refine gD ?_; intros
 refine xM ?_
 refine bI ?_
 refine xA ?_
 refine WL.nil (loopBackI (l.length - (j + 1)) [(3, .int .i64 (j + 1))] (h'' := .pt b1 (.cells (prL cs a l.length c).toArray 51 (0, 0)) :: h) (by omega) ?_ Su Sb ⟨j + 1, ⟨by omega, hJ⟩, rfl, rfl, rfl⟩)
 exact Su
 replace c42 := dF c42
 rw [List.drop_eq_nil_of_le (by omega)] at hJ
 refine WC.exit (kp [] ?_)
 refine gD ?_; intros
 refine xC ?_
 refine wn [2] ?_
 refine WC.ret (wR (h) ?_)
 exact ⟨by unfold mayPr; rw [c7, c37, hJ]; rfl, rfl⟩
end Go.Proofs.YtdhmplmpbcnojaaGreatDoor.Ty9
end
/- TpA -/
section
namespace Go.Proofs.YtdhmplmpbcnojaaGreatDoor
open Go.Eng Go.Pc Go.Tg Go
open Go.Xp hiding B nameT
open Go.Ty (Ty eqT idxF idxF_drop idxF_any)
open Go.Lx (encB encB_len)
set_option maxRecDepth 100000
theorem idxS_ct (v : B) (a : Option Addr) (k c : Nat) (l : List B) (h : List Res) (m : View) (hs : Rd m h a k c 1 (fl encB l)) :
   CT Tryz.prog 145 [.slice a k c, str v] h m (Pure1 h (.int .i64 (idxF (v == ·) l 0))) := by
 have hl := hs.lenF encB_len (by decide)
 have hmx := hs.mx
 have hle := hs.le
 refine CT.body Tryz.call145 Tryz.func145 rfl Tryz.ntmps145 Lb rfl ?_
 refine gD ?_; intros
 refine xC ?_
 refine wn [0, 1] ?_
 refine gD ?_; intros
 refine xM ?_
 refine xG (PO.lenSl u48 Et) ?_
 refine xK ?_
 refine wn [0, 1, 7, 8] ?_
 refine gE ?_; intros
 refine WC.loopI [0, 1, 7] rfl (fun μ F' h' => ∃ j : Nat, (j ≤ k ∧ idxF (v == ·) l 0 = idxF (v == ·) (l.drop j) j) ∧ k - j = μ ∧ F' = [(8, .int .i64 j)] ∧ h = h') (k - 0) [(8, .int .i64 0)] (h0 := h) ?_ Sb ⟨0, ⟨by omega, rfl⟩, rfl, rfl, rfl⟩ ?_
 exact Su
 rintro _ _ _ ⟨j, ⟨hk, hJ⟩, rfl, rfl, rfl⟩
 refine WC.frm rfl ?_
 refine gD ?_; intros
 refine bD ?_
 refine wn [0, 1, 7, 8, 9] ?_
 refine gE ?_; intros
 refine wc (fun c9 => ?_) fun c9 => ?_
 replace c9 := dT c9
 obtain ⟨x, hx⟩ := get_some (l := l) (k := j) (by omega)
 rw [idxF_drop _ hx] at hJ
 refine WC.skip (kp [0, 1, 7, 8] ?_)
 refine gD ?_; intros
 refine xM ?_
 refine xA ?_
 refine wn [0, 1, 5, 7, 8] ?_
 refine gD ?_; intros
 refine xM ?_
 refine xM ?_
 refine xM ?_
 refine xG (PO.idx EL48.und EL48.size EL48.posz (Ev.tmp rfl) (Ev.tmp rfl) Rr rfl (by omega)) ?_
 refine xG (PO.loadF1 u9 rfl encB_len Rr (Ev.tmp rfl) (by assumption) rfl) ?_
 refine xG (PO.eqlS Et Et) ?_
 refine wn [0, 1, 5, 7, 8, 16] ?_
 refine gE ?_; intros
 refine wc (fun c16 => ?_) fun c16 => ?_
 rw [c16] at hJ
 refine gD ?_; intros
 refine xM ?_
 refine xA ?_
 refine wn [4] ?_
 refine WC.ret (wR (h) ?_)
 exact ⟨by rw [hJ]; rfl, rfl⟩
 rw [c16] at hJ
 refine WC.skip (kp [0, 1, 7, 8] ?_)
 refine gD ?_; intros
 refine bI ?_
 refine xM ?_
 refine WL.nil (loopBackI (k - (j + 1)) [(8, .int .i64 (j + 1))] (h'' := h) (by omega) ?_ Su Sb ⟨j + 1, ⟨by omega, by simpa using hJ⟩, rfl, rfl, rfl⟩)
 exact Su
 replace c9 := dF c9
 rw [List.drop_eq_nil_of_le (by omega)] at hJ
 refine WC.exit (kp [] ?_)
 refine gD ?_; intros
 refine xC ?_
 refine wn [4] ?_
 refine WC.ret (wR (h) ?_)
 exact ⟨by rw [hJ]; rfl, rfl⟩
theorem hasS_ct (v : B) (a : Option Addr) (k c : Nat) (l : List B) (h : List Res) (m : View) (hs : Rd m h a k c 1 (fl encB l)) :
   CT Tryz.prog 105 [.slice a k c, str v] h m (Pure1 h (.bool (l.contains v))) := by
 refine CT.body Tryz.call105 Tryz.func105 rfl Tryz.ntmps105 Lb rfl ?_
 refine gD ?_; intros
 refine xC ?_
 refine wn [0, 1] ?_
 refine gD ?_; intros
 refine xM ?_
 refine xM ?_
 refine xf (E2 Et Et) (idxS_ct v _ _ _ l _ _ hs) ?_
 refine bB ?_
 refine xA ?_
 refine wn [4] ?_
 refine WC.ret (wR (h) ?_)
 exact ⟨congrArg Value.bool (by rw [List.contains_eq_any_beq]; exact idxF_any _ l 0 (by decide)), rfl⟩
def down (s : List En) : Nat → List (Nat × En)
 | 0 => []
 | n + 1 => match s[n]? with
   | some x => (n, x) :: down s n
   | none => down s n
def findL (nm : B) : List (Nat × En) → Int
 | [] => -1
 | p :: r => if p.2.sp.names.l.contains nm then (p.1 : Int) else findL nm r
theorem findL_down (s : List En) (nm : B) : ∀ n, findL nm (down s n) = findN s nm n
 | 0 => rfl
 | n + 1 => by
   unfold down findN
   cases hs : s[n]? with
   | none => exact findL_down s nm n
   | some x =>
     show (if x.sp.names.l.contains nm then (n : Int) else findL nm (down s n)) = _
     rw [findL_down s nm n]
theorem down_mem {s : List En} {p : Nat × En} : ∀ {n}, p ∈ down s n → s[p.1]? = some p.2
 | 0, h => by cases h
 | n + 1, h => by
   unfold down at h
   split at h
   · rename_i x hx
     rcases List.mem_cons.1 h with rfl | h
     · exact hx
     · exact down_mem h
   · exact down_mem h
def plV (p : Nat × En) : Value := .int .i64 p.1
def plE (p : Nat × En) : Value := enV p.2
structure ScOk (m : View) (a : Option Addr) (k c : Nat) (s : List En) : Prop where
 rd : Rd m [] a k c 17 (fl enE s)
 nm : ∀ x ∈ s, Rd m [] x.sp.names.a x.sp.names.l.length x.sp.names.c 1 (fl encB x.sp.names.l)
theorem inw_ct (a : Option Addr) (k c : Nat) (n : Int) (h : List Res) (m : View) : CT Tryz.prog 104 [.slice a k c, .int .i64 n] h m (fun r _ h' => ∃ b2 b3, r = .func (.func 144) #[] #[.pointer (some ⟨b3, 0, none⟩), .pointer (some ⟨b2, 0, none⟩)] ∧ h' = .pt b3 (.cells [.int .i64 n].toArray 3 (0, 0)) :: .pt b2 (.cells [.slice a k c].toArray 79 (0, 0)) :: h) := by
 refine CT.body Tryz.call104 Tryz.func104 rfl Tryz.ntmps104 Lb rfl ?_
 refine gD ?_; intros
 refine xX fun b2 => ?_
 refine xX fun b3 => ?_
 refine xC ?_
 refine wn [2, 3] ?_
 refine gD ?_; intros
 refine xG (PO.makeFunc Evs.nil (E2 Et Et)) ?_
 refine xA ?_
 refine wn [4] ?_
 refine WC.ret (wR (.pt b3 (.cells [.int .i64 n].toArray 3 (0, 0)) :: .pt b2 (.cells [.slice a k c].toArray 79 (0, 0)) :: h) ?_)
 exact ⟨b2, b3, rfl, rfl⟩
theorem inwI_ct {m : View} (s : List En) (a : Option Addr) (k c n : Nat) (hn : n ≤ s.length) (ho : ScOk m a k c s) (b3 b2 l : Nat) (J : List (Nat × En) → List Res → Prop) (Jx : List Res → Prop) (h0 : List Res) (hY : YieldK2 Tryz.prog m l plV plE (down s n) J Jx) (hJ0 : J [] h0) :
   CT Tryz.prog 144 [.func (.yield l) #[] #[], .pointer (some ⟨b3, 0, none⟩), .pointer (some ⟨b2, 0, none⟩)] (.pt b3 (.cells [.int .i64 n].toArray 3 (0, 0)) :: .pt b2 (.cells [.slice a k c].toArray 79 (0, 0)) :: h0) m (fun _ _ h' => J (down s n) h' ∨ Jx h') := by
 have hl := ho.rd.lenF enE_len (by decide)
 have hmx := ho.rd.mx
 have hle := ho.rd.le
 refine CT.body Tryz.call144 Tryz.func144 rfl Tryz.ntmps144 Lb rfl ?_
 refine gD ?_; intros
 refine xG (pL u3) ?_
 refine xG (PO.subI Et Ev.const (by omega)) ?_
 refine xA ?_
 refine wn [0, 2, 4] ?_
 refine gE ?_; intros
 refine WC.loopI [0, 2] rfl (fun μ F' h' => ∃ i : Nat, ∃ pre : List (Nat × En), ∃ hj : List Res, ((i ≤ n ∧ J pre hj) ∧ down s n = pre ++ down s i) ∧ i = μ ∧ F' = [(4, .int .i64 ((i : Int) - 1))] ∧ .pt b3 (.cells [.int .i64 n].toArray 3 (0, 0)) :: .pt b2 (.cells [.slice a k c].toArray 79 (0, 0)) :: hj = h') (n) [(4, .int .i64 ((n : Int) - 1))] (h0 := .pt b3 (.cells [.int .i64 n].toArray 3 (0, 0)) :: .pt b2 (.cells [.slice a k c].toArray 79 (0, 0)) :: h0) ?_ Sb ⟨n, [], h0, ⟨⟨by omega, hJ0⟩, rfl⟩, rfl, rfl, rfl⟩ ?_
 exact Su
 rintro _ _ _ ⟨i, pre, hj, ⟨⟨hk, hJp⟩, hx⟩, rfl, rfl, rfl⟩
 refine WC.frm rfl ?_
 refine gD ?_; intros
 refine xM ?_
 refine bB ?_
 refine wn [0, 2, 4, 8] ?_
 refine gE ?_; intros
 refine wc (fun c8 => ?_) fun c8 => ?_
 replace c8 := dT c8
 obtain ⟨q, rfl⟩ : ∃ q, i = q + 1 := ⟨i - 1, by omega⟩
 obtain ⟨x, hc⟩ := get_some (l := s) (k := q) (by omega)
 have hd : down s (q + 1) = (q, x) :: down s q := by
   show (match s[q]? with | some x => (q, x) :: down s q | none => down s q) = _
   rw [hc]
 rw [hd] at hx
 rw [show ((q + 1 : Nat) : Int) - 1 = (q : Int) by omega]
 have hrd : Rd m (.pt b3 (.cells [.int .i64 n].toArray 3 (0, 0)) :: .pt b2 (.cells [.slice a k c].toArray 79 (0, 0)) :: hj) a k c 17 (fl enE s) := ho.rd.mono (View.le.refl _) (List.nil_sublist _)
 refine WC.skip (kp [0, 2, 4] ?_)
 (repeat (first | refine WC.seqK fun K hK => ?_ | refine WC.block ?_))
 refine WC.regionY rfl fun ops hG => ?_
 refine WY.po rfl (PO.move Et) Lb ?_
 refine WY.po rfl (PO.move Et) Lb ?_
 refine WY.po rfl (PO.load1 u79 rfl Et Me rfl) Lb ?_
 refine WY.po rfl (PO.move Et) Lb ?_
 refine WY.po rfl (PO.idx EL79.und EL79.size EL79.posz (Ev.tmp rfl) (Ev.tmp rfl) Rr rfl (by omega)) Lb ?_
 refine WY.po rfl (PO.loadFA u104 rfl rfl enE_len Rr (Ev.tmp rfl) (by assumption) rfl rfl (Nat.succ_pos _)) Lb ?_
 refine WY.yield2 (R := fun b h2 => ∃ h3, h2 = .pt b3 (.cells [.int .i64 n].toArray 3 (0, 0)) :: .pt b2 (.cells [.slice a k c].toArray 79 (0, 0)) :: h3 ∧ ((b = true ∧ J (pre ++ [(q, x)]) h3) ∨ (b = false ∧ Jx h3))) rfl Et Et Et (fun w st => ?_) Lb fun b17 h2 hb => ?_
 · refine (hY pre _ _ hj [_, _] w hx hJp st).mono ?_
   rintro b w' ⟨h3, st3, hR⟩
   exact ⟨_, st3, h3, rfl, hR⟩
 obtain ⟨h3, rfl, hR⟩ := hb
 refine WY.ofWL rfl ?_
 refine xG (PO.not Et) ?_
 refine wn [0, 2, 4, 18] ?_
 refine gE ?_; intros
 refine wc (fun c18 => ?_) fun c18 => ?_
 have hb : b17 = false := by simpa using c18
 rcases hR with ⟨hbt, _⟩ | ⟨_, hJx⟩
 · rw [hb] at hbt
   cases hbt
 refine WC.ret (end0 (h' := h3) (.inl rfl) rfl  (View.le.refl m) Sb ?_)
 exact .inr hJx
 have hb : b17 = true := by simpa using c18
 rcases hR with ⟨_, hJ3⟩ | ⟨hbf, _⟩
 case inr => rw [hb] at hbf; cases hbf
 refine WC.skip (kp [0, 2, 4] ?_)
 refine gD ?_; intros
 refine xM ?_
 refine xG (PO.subI Et Ev.const (by omega)) ?_
 refine xA ?_
 refine WL.nil (loopBackI (q) [(4, .int .i64 ((q : Int) - 1))] (h'' := .pt b3 (.cells [.int .i64 n].toArray 3 (0, 0)) :: .pt b2 (.cells [.slice a k c].toArray 79 (0, 0)) :: h3) (by omega) ?_ Su Sb ⟨q, pre ++ [(q, x)], h3, ⟨⟨by omega, hJ3⟩, by rw [hx]; simp⟩, rfl, rfl, rfl⟩)
 exact Su
 replace c8 := dF c8
 obtain rfl : i = 0 := by omega
 simp only [down, List.append_nil] at hx
 refine WC.exit (end0 (h' := hj) (.inr rfl) rfl  (View.le.refl m) Sb ?_)
 exact .inl (by rw [hx]; exact hJp)
end Go.Proofs.YtdhmplmpbcnojaaGreatDoor
end
/- TpB -/
section
namespace Go.Proofs.YtdhmplmpbcnojaaGreatDoor
open Go.Eng Go.Pc Go.Tg Go
open Go.Xp hiding B nameT
open Go.Ty (Ty eqT)
open Go.Lx (encB encB_len)
set_option maxRecDepth 100000
theorem find_ct {m : View} (s : List En) (a : Option Addr) (k c : Nat) (ho : ScOk m a k c s) (nm : B) (n : Nat) (hn : n ≤ s.length) (h : List Res) :
   CT Tryz.prog 67 [.slice a k c, .int .i64 n, str nm] h m (Pure1 h (.int .i64 (findN s nm n))) := by
 refine CT.bodyM Tryz.call67 Tryz.func67 rfl Tryz.ntmps67 Lb rfl ?_
 refine gD ?_; intros
 refine xX fun b5 => ?_
 refine xC ?_
 refine wn [0, 1, 5] ?_
 (repeat (first | refine WC.seqK fun K hK => ?_ | refine WC.block ?_))
 refine WC.scope rfl ?_
 refine gD ?_; intros
 refine xW fun b7 => ?_
 refine xS ?_
 refine wn [0, 1, 5, 7] ?_
 refine gE ?_; intros
 refine WC.label (kp [0, 1, 5, 7] ?_)
 refine gD ?_; intros
 refine xM ?_
 refine xM ?_
 refine xg (E2 Et Et) (inw_ct _ _ _ _ _ _) ?_
 rintro _ _ ⟨b12, c12, rfl, rfl⟩
 refine wn [5, 7, 12] ?_
 (repeat (first | refine WC.seqK fun K hK => ?_ | refine WC.block ?_))
 refine WC.rangeFunc2 plV plE 0 (down s n) ([.pt c12 (.cells [.int .i64 n].toArray 3 (0, 0)), .pt b12 (.cells [.slice a k c].toArray 79 (0, 0))]) (.pt b7 (.cells [.int .i64 (-1)].toArray 3 (0, 0)) :: .pt b5 (.cells [str nm].toArray 9 (0, 0)) :: h) (fun pre hc => (∀ post, findL nm (pre ++ post) = findL nm post) ∧ hc = .pt b7 (.cells [.int .i64 (-1)].toArray 3 (0, 0)) :: .pt b5 (.cells [str nm].toArray 9 (0, 0)) :: h) (fun hc => hc = .pt b7 (.cells [.int .i64 (findL nm (down s n))].toArray 3 (0, 0)) :: .pt b5 (.cells [str nm].toArray 9 (0, 0)) :: h) Lb Lb Et Tryz.call144 ((fun l J Jx h0 hY hJ => inwI_ct s a k c n hn ho _ _ l J Jx h0 hY hJ)) (⟨fun _ => rfl, rfl⟩) rfl (fun l pre x post hc hx hI fr KA hKA => ?_) (fun D hc hI => ?_) (fun D hc hX => ?_)
 obtain ⟨hrun, rfl⟩ := hI
 have hx1 : s[x.1]? = some x.2 := down_mem (n := n) (by rw [hx]; simp)
 have hnr := ho.nm x.2 (List.mem_of_getElem? hx1)
 refine gG ?_; intros; rename_i ops hG
 refine xA ?_
 refine wn [5, 7, 8, 14] ?_
 (try clear hG ops)
 refine gD ?_; intros
 refine xW fun b9 => ?_
 refine xS ?_
 refine WL.nil (keepF (ts := [5, 7, 8, 9]) rfl (hKA _ (.pt b9 (.cells (enE x.2).toArray 104 (0, 0)) :: .pt b7 (.cells [.int .i64 (-1)].toArray 3 (0, 0)) :: .pt b5 (.cells [str nm].toArray 9 (0, 0)) :: h) fun fr2 => ?_))
 (try clear hG ops)
 try clear hKA KA
 refine WC.resE (h' := .pt b9 (.cells (enE x.2).toArray 104 (0, 0)) :: .pt b7 (.cells [.int .i64 (-1)].toArray 3 (0, 0)) :: .pt b5 (.cells [str nm].toArray 9 (0, 0)) :: (h ++ fr2)) rfl ?_
 refine WC.block ?_
 refine gD ?_; intros
 refine xF u104 ?_
 refine xF u54 ?_
 refine xG (pL u48) ?_
 refine xG (pL u9) ?_
 refine xf (E2 Et Et) (hasS_ct nm _ _ _ x.2.sp.names.l _ _ (hnr.mono (View.le.refl _) (List.nil_sublist _))) ?_
 refine wn [7, 8, 19] ?_
 refine gE ?_; intros
 refine wc (fun c19 => ?_) fun c19 => ?_
 refine gD ?_; intros
 refine xM ?_
 refine xS ?_
 refine wn [] ?_
 refine WC.exit (roundStop (.pt b7 (.cells [.int .i64 x.1].toArray 3 (0, 0)) :: .pt b5 (.cells [str nm].toArray 9 (0, 0)) :: h) Sb ?_)
 rw [hx, hrun]; unfold findL; rw [if_pos c19]
 refine WC.skip (roundNext (.pt b7 (.cells [.int .i64 (-1)].toArray 3 (0, 0)) :: .pt b5 (.cells [str nm].toArray 9 (0, 0)) :: h) Sb ?_)
 exact ⟨fun post => by rw [List.append_assoc, hrun]; show findL nm (x :: post) = _; unfold findL; rw [if_neg (by rw [c19]; decide)]; cases post <;> rfl, rfl⟩
 obtain ⟨hrun, hh⟩ := hI
 have he : (-1 : Int) = findL nm (down s n) := by have := hrun []; rw [List.append_nil] at this; exact this.symm
 rw [he] at hh
 subst hh
 refine kp [7] ?_
 refine gD ?_; intros
 refine xG (pL u3) ?_
 refine xA ?_
 refine wn [6] ?_
 refine WC.ret (endM1 (h' := h) (.inl rfl) (.inr ⟨_, _, rfl, rfl, rfl⟩) rfl (RV.tmp rfl) (View.le.refl m) Sb ?_)
 exact ⟨congrArg (Value.int .i64) (findL_down s nm n), rfl⟩
 subst hX
 refine kp [7] ?_
 refine gD ?_; intros
 refine xG (pL u3) ?_
 refine xA ?_
 refine wn [6] ?_
 refine WC.ret (endM1 (h' := h) (.inl rfl) (.inr ⟨_, _, rfl, rfl, rfl⟩) rfl (RV.tmp rfl) (View.le.refl m) Sb ?_)
 exact ⟨congrArg (Value.int .i64) (findL_down s nm n), rfl⟩
end Go.Proofs.YtdhmplmpbcnojaaGreatDoor
end
/- TpC -/
section
namespace Go.Proofs.YtdhmplmpbcnojaaGreatDoor
open Go.Eng Go.Pc Go.Tg Go
open Go.Xp hiding B nameT
open Go.Ty (Ty eqT tyV zeroT)
open Go.Lx (encB encB_len)
set_option maxRecDepth 100000
theorem tof_ct (k : Int) (h : List Res) (m : View) : CT Tryz.prog 38 [.int .u8 k] h m (Pure1 h (tyV (tyK k))) := by
 refine CT.body Tryz.call38 Tryz.func38 rfl Tryz.ntmps38 Lb rfl ?_
 refine gD ?_; intros
 refine xW fun b2 => ?_
 refine wn [0, 2] ?_
 refine gD ?_; intros
 refine xM ?_
 refine xG (PO.build u30 rfl rfl rfl (EvP.cons Et EvP.nil) rfl) ?_
 refine xS ?_
 refine wn [2] ?_
 refine WC.ret (end1 (h' := h) (.inl rfl) rfl (RV.cellA u30 rfl rfl rfl Me rfl) (View.le.refl m) Sb ?_)
 exact ⟨rfl, rfl⟩
theorem tsim_ct (t : Ty) (h : List Res) (m : View) : CT Tryz.prog 43 [tyV t] h m (Pure1 h (.bool (simT t))) := by
 refine CT.body Tryz.call43 Tryz.func43 rfl Tryz.ntmps43 Lb rfl ?_
 refine gD ?_; intros
 refine xX fun b1 => ?_
 refine xC ?_
 refine wn [1] ?_
 refine gE ?_; intros
 refine dS [3] (.op 0 (.op 1 (.op 2 (.op 3 .nil)))) [4, 5, 6, 7, 8, 9, 10, 11, 12, 13, 14, 15] mixed ?_
 refine yG rfl (pA u30) ?_
 refine yG rfl (pF u30) ?_
 refine yG rfl (pL u24) ?_
 refine yf rfl (E1 Et) (fun fr => tof_ct _ _ _) ?_
 refine SR.nil rfl rfl ?_
 refine xG (PO.eqlA u30 (by kernel_rfl) (by kernel_rfl) Et Et rfl) ?_
 refine xM ?_
 refine zG (fun _ => pF u30) ?_
 refine zG (fun hc => PO.load1 u24 rfl (Eg hc) Me rfl) ?_
 refine zG (fun hc => PO.bin (Eg hc) Ev.const rfl) ?_
 refine xP ?_
 refine xM ?_
 refine zG (fun _ => pF u30) ?_
 refine zG (fun hc => PO.load1 u24 rfl (Eg hc) Me rfl) ?_
 refine zG (fun hc => PO.bin (Eg hc) Ev.const rfl) ?_
 refine xP ?_
 refine xA ?_
 refine wn [2] ?_
 try clear hG ops
 refine WC.ret (wR (h) ?_)
 exact ⟨rfl, rfl⟩
def heldV (h : Hd) (e : Int) : Value := .tuple #[hdV h, .int .i64 e]
theorem tname_ct {m : View} (s : List En) (a : Option Addr) (k c : Nat) (ho : ScOk m a k c s) (nm : B) (h : List Res) :
   CT Tryz.prog 39 [.slice a k c, str nm] h m (Pure1 h (heldV (okT (nameT s nm)) (errT (nameT s nm)))) := by
 have hl := ho.rd.lenF enE_len (by decide)
 have hmx := ho.rd.mx
 have hle := ho.rd.le
 subst hl
 have hf := findN_lt s nm s.length
 refine CT.body Tryz.call39 Tryz.func39 rfl Tryz.ntmps39 Lb rfl ?_
 refine gD ?_; intros
 refine xW fun b4 => ?_
 refine xC ?_
 refine wn [0, 1, 4] ?_
 refine gD ?_; intros
 refine xM ?_
 refine xM ?_
 refine xG (PO.lenSl u79 Et) ?_
 refine xM ?_
 refine xf (E3 Et Et Et) (find_ct s _ _ _ ho nm s.length (by omega) _) ?_
 refine xA ?_
 refine wn [0, 4, 6] ?_
 refine gD ?_; intros
 refine xM ?_
 refine bB ?_
 refine wn [0, 4, 6, 14] ?_
 refine gE ?_; intros
 refine wc (fun c14 => ?_) fun c14 => ?_
 replace c14 := dT c14
 have hN : nameT s nm = .error 120 := by
   unfold nameT fnd
   rw [if_pos (by first | exact c14 | simpa using c14)]
 refine gD ?_; intros
 refine xG (PO.build u76 rfl rfl rfl EvP.nil rfl) ?_
 refine xS ?_
 refine xC ?_
 refine wn [4, 5] ?_
 refine WC.ret (end2 (h' := h) (.inl rfl) rfl (RV.cellA u76 rfl rfl rfl Me rfl) (RV.tmp rfl) (View.le.refl m) Sb ?_)
 exact ⟨by rw [hN]; rfl, rfl⟩
 replace c14 := dF c14
 obtain ⟨q, hq⟩ : ∃ q : Nat, findN s nm s.length = q := ⟨(findN s nm s.length).toNat, by omega⟩
 obtain ⟨x, hx⟩ := get_some (l := s) (k := q) (by omega)
 have hN : nameT s nm = if x.sp.k = 1 ∨ x.sp.k = 2 ∨ x.sp.k = 3 then .ok ⟨x.sp.ty, x.ar⟩ else .error 130 := by
   unfold nameT fnd
   rw [if_neg (by omega), hq, Int.toNat_natCast, hx]
 have hrd : Rd m h a s.length c 17 (fl enE s) := ho.rd.mono (View.le.refl _) (List.nil_sublist _)
 rw [hq]
 refine WC.skip (kp [0, 4, 6] ?_)
 refine gD ?_; intros
 refine xM ?_
 refine xM ?_
 refine xG (PO.idx EL79.und EL79.size EL79.posz (Ev.tmp rfl) (Ev.tmp rfl) Rr rfl (by omega)) ?_
 refine xG (PO.loadFA u104 rfl rfl enE_len Rr (Ev.tmp rfl) (by assumption) rfl rfl (Nat.succ_pos _)) ?_
 refine xW fun b7 => ?_
 refine xS ?_
 refine wn [4, 7] ?_
 refine gD ?_; intros
 refine xF u104 ?_
 refine xF u54 ?_
 refine xG (pL u47) ?_
 refine wn [4, 7, 22] ?_
 refine gD ?_; intros
 refine bB ?_
 refine xA ?_
 refine wn [4, 7, 22, 23] ?_
 refine gE ?_; intros
 refine wc (fun c23 => ?_) fun c23 => ?_
 replace c23 := t_eq c23
 refine WC.skip (kp [4, 7, 23] ?_)
 refine gE ?_; intros
 refine wc (fun c23 => ?_) fun c23 => ?_
 replace c23 := t_eq c23
 refine gD ?_; intros
 refine xF u104 ?_
 refine xF u54 ?_
 refine xG (pA u30) ?_
 refine xF u104 ?_
 refine xG (pL u3) ?_
 refine xG (PO.build u76 rfl rfl rfl (EvP.cons Et (EvP.cons Et EvP.nil)) rfl) ?_
 refine xS ?_
 refine xC ?_
 refine wn [4, 5] ?_
 refine WC.ret (end2 (h' := h) (.inl rfl) rfl (RV.cellA u76 rfl rfl rfl Me rfl) (RV.tmp rfl) (View.le.refl m) Sb ?_)
 exact ⟨by rw [hN, if_pos (by omega)]; rfl, rfl⟩
 replace c23 := f_eq c23
 refine WC.skip (kp [4] ?_)
 refine gD ?_; intros
 refine xG (PO.build u76 rfl rfl rfl EvP.nil rfl) ?_
 refine xS ?_
 refine xC ?_
 refine wn [4, 5] ?_
 refine WC.ret (end2 (h' := h) (.inl rfl) rfl (RV.cellA u76 rfl rfl rfl Me rfl) (RV.tmp rfl) (View.le.refl m) Sb ?_)
 exact ⟨by rw [hN, if_neg (by omega)]; rfl, rfl⟩
 replace c23 := f_eq c23
 refine gD ?_; intros
 refine bB ?_
 refine xA ?_
 refine wn [4, 7, 22, 23] ?_
 refine gE ?_; intros
 refine wc (fun c23 => ?_) fun c23 => ?_
 replace c23 := t_eq c23
 refine WC.skip (kp [4, 7, 23] ?_)
 refine gE ?_; intros
 refine wc (fun c23 => ?_) fun c23 => ?_
 replace c23 := t_eq c23
 refine gD ?_; intros
 refine xF u104 ?_
 refine xF u54 ?_
 refine xG (pA u30) ?_
 refine xF u104 ?_
 refine xG (pL u3) ?_
 refine xG (PO.build u76 rfl rfl rfl (EvP.cons Et (EvP.cons Et EvP.nil)) rfl) ?_
 refine xS ?_
 refine xC ?_
 refine wn [4, 5] ?_
 refine WC.ret (end2 (h' := h) (.inl rfl) rfl (RV.cellA u76 rfl rfl rfl Me rfl) (RV.tmp rfl) (View.le.refl m) Sb ?_)
 exact ⟨by rw [hN, if_pos (by omega)]; rfl, rfl⟩
 replace c23 := f_eq c23
 refine WC.skip (kp [4] ?_)
 refine gD ?_; intros
 refine xG (PO.build u76 rfl rfl rfl EvP.nil rfl) ?_
 refine xS ?_
 refine xC ?_
 refine wn [4, 5] ?_
 refine WC.ret (end2 (h' := h) (.inl rfl) rfl (RV.cellA u76 rfl rfl rfl Me rfl) (RV.tmp rfl) (View.le.refl m) Sb ?_)
 exact ⟨by rw [hN, if_neg (by omega)]; rfl, rfl⟩
 replace c23 := f_eq c23
 refine gD ?_; intros
 refine bB ?_
 refine xA ?_
 refine wn [4, 7, 23] ?_
 refine gE ?_; intros
 refine wc (fun c23 => ?_) fun c23 => ?_
 replace c23 := t_eq c23
 refine gD ?_; intros
 refine xF u104 ?_
 refine xF u54 ?_
 refine xG (pA u30) ?_
 refine xF u104 ?_
 refine xG (pL u3) ?_
 refine xG (PO.build u76 rfl rfl rfl (EvP.cons Et (EvP.cons Et EvP.nil)) rfl) ?_
 refine xS ?_
 refine xC ?_
 refine wn [4, 5] ?_
 refine WC.ret (end2 (h' := h) (.inl rfl) rfl (RV.cellA u76 rfl rfl rfl Me rfl) (RV.tmp rfl) (View.le.refl m) Sb ?_)
 exact ⟨by rw [hN, if_pos (by omega)]; rfl, rfl⟩
 replace c23 := f_eq c23
 refine WC.skip (kp [4] ?_)
 refine gD ?_; intros
 refine xG (PO.build u76 rfl rfl rfl EvP.nil rfl) ?_
 refine xS ?_
 refine xC ?_
 refine wn [4, 5] ?_
 refine WC.ret (end2 (h' := h) (.inl rfl) rfl (RV.cellA u76 rfl rfl rfl Me rfl) (RV.tmp rfl) (View.le.refl m) Sb ?_)
 exact ⟨by rw [hN, if_neg (by omega)]; rfl, rfl⟩
theorem tarr_ct {m : View} (s : List En) (a : Option Addr) (k c : Nat) (ho : ScOk m a k c s) (nm : B) (h : List Res) :
   CT Tryz.prog 40 [.slice a k c, str nm] h m (Pure1 h (heldV (okT (nameT s nm)) (errT (arrT s nm)))) := by
 obtain ⟨hd, hhd⟩ : ∃ hd, hd = okT (nameT s nm) := ⟨_, rfl⟩
 obtain ⟨er, her⟩ : ∃ er, er = errT (nameT s nm) := ⟨_, rfl⟩
 have hA : errT (arrT s nm) = if er = 0 ∧ hd.t.dim < 1 then 130 else er := by
   subst hhd her
   unfold arrT
   cases hN : nameT s nm with
   | error e =>
     have he : e ≠ 0 := by
       unfold nameT at hN
       split at hN
       · cases hN; decide
       · split at hN
         · cases hN
         · cases hN; decide
     rw [if_neg (by intro hc; exact he hc.1)]
   | ok x =>
     show errT (if x.t.dim < 1 then Except.error 130 else Except.ok x) = if (0 : Int) = 0 ∧ x.t.dim < 1 then 130 else 0
     split
     · rw [if_pos ⟨rfl, by assumption⟩]; rfl
     · rw [if_neg (by intro hc; exact absurd hc.2 (by assumption))]; rfl
 refine CT.body Tryz.call40 Tryz.func40 rfl Tryz.ntmps40 Lb rfl ?_
 refine gD ?_; intros
 refine xW fun b4 => ?_
 refine xC ?_
 refine wn [0, 1, 4] ?_
 refine gD ?_; intros
 refine xM ?_
 refine xM ?_
 refine xf (E2 Et Et) (hhd ▸ her ▸ tname_ct s _ _ _ ho nm _) ?_
 refine xM ?_
 refine xE ?_
 refine xE ?_
 refine xW fun b6 => ?_
 refine xS ?_
 refine xA ?_
 refine wn [4, 6, 7] ?_
 refine gG ?_; intros; rename_i ops hG
 refine xM ?_
 refine bB ?_
 refine xM ?_
 refine zG (fun _ => pF u76) ?_
 refine zG (fun hc => PO.fieldAddr u30 rfl (Nat.ne_of_beq_eq_false rfl) (Eg hc)) ?_
 refine zG (fun hc => PO.load1 u3 rfl (Eg hc) Me rfl) ?_
 refine zG (fun hc => PO.bin (Eg hc) Ev.const rfl) ?_
 refine xP ?_
 refine wn [4, 6, 7, 21] ?_
 try clear hG ops
 refine gE ?_; intros
 refine wc (fun c21 => ?_) fun c21 => ?_
 have hc : er = 0 ∧ hd.t.dim < 1 := by simpa using c21
 refine gD ?_; intros
 refine xC ?_
 refine wn [4, 6, 7] ?_
 refine gD ?_; intros
 refine xG (pA u76) ?_
 refine xM ?_
 refine xS ?_
 refine xA ?_
 refine wn [4, 5] ?_
 refine WC.ret (end2 (h' := h) (.inl rfl) rfl (RV.cellA u76 rfl rfl rfl Me rfl) (RV.tmp rfl) (View.le.refl m) Sb ?_)
 exact ⟨by rw [hA, ← hhd]; first | (rw [if_pos hc]; rfl) | (rw [if_neg hc]; rfl), rfl⟩
 have hc : ¬ (er = 0 ∧ hd.t.dim < 1) := by simpa using c21
 refine WC.skip (kp [4, 6, 7] ?_)
 refine gD ?_; intros
 refine xG (pA u76) ?_
 refine xM ?_
 refine xS ?_
 refine xA ?_
 refine wn [4, 5] ?_
 refine WC.ret (end2 (h' := h) (.inl rfl) rfl (RV.cellA u76 rfl rfl rfl Me rfl) (RV.tmp rfl) (View.le.refl m) Sb ?_)
 exact ⟨by rw [hA, ← hhd]; first | (rw [if_pos hc]; rfl) | (rw [if_neg hc]; rfl), rfl⟩
end Go.Proofs.YtdhmplmpbcnojaaGreatDoor
end
/- TpD -/
section
namespace Go.Proofs.YtdhmplmpbcnojaaGreatDoor
open Go.Eng Go.Pc Go.Tg Go
open Go.Xp hiding B nameT
open Go.Ty (Ty eqT tyV cellT zeroT)
open Go.Lx (encB encB_len)
set_option maxRecDepth 100000
def okY (r : Except Int Ty) : Ty := match r with | .error _ => zeroT | .ok t => t
def resV (r : Except Int Ty) : Value := .tuple #[tyV (okY r), .int .i64 (errT r)]
theorem tres_ct (o : Int) (t : Ty) (h : List Res) (m : View) :
   CT Tryz.prog 42 [.int .u8 o, tyV t] h m (Pure1 h (resV (resT o t))) := by
 refine CT.body Tryz.call42 Tryz.func42 rfl Tryz.ntmps42 Lb rfl ?_
 refine gD ?_; intros
 refine xX fun b3 => ?_
 refine xW fun b4 => ?_
 refine xC ?_
 refine wn [0, 3, 4] ?_
 refine gD ?_; intros
 refine xC ?_
 refine xC ?_
 refine wn [0, 3, 4, 6] ?_
 refine gD ?_; intros
 refine xM ?_
 refine wn [3, 4, 6, 8] ?_
 (repeat refine WC.seqK fun K hK => ?_)
 refine WC.cutK (by assumption) [4] rfl (fun F' h' => ∃ kk : Int, ∃ bb : Bool, (resT o t = if bb then .ok (tyK kk) else .error 130) ∧ F' = [(6, .int .u8 kk), (7, .bool bb)] ∧ .pt b4 (.cells (cellT zeroT).toArray 30 (0, 0)) :: .pt b3 (.cells (cellT t).toArray 30 (0, 0)) :: h = h') ?_ ?_
 refine gD ?_; intros
 refine bB ?_
 refine xA ?_
 refine wn [3, 4, 6, 8, 12] ?_
 (repeat refine WC.seqK fun K hK => ?_)
 refine WC.cutK (by assumption) [3, 4, 6, 8] rfl (fun F' h' => ∃ b12 : Bool, ((b12 = true ↔ (o = 14 ∨ o = 15))) ∧ F' = [(12, .bool b12)] ∧ .pt b4 (.cells (cellT zeroT).toArray 30 (0, 0)) :: .pt b3 (.cells (cellT t).toArray 30 (0, 0)) :: h = h') ?_ ?_
 refine gE ?_; intros
 refine wc (fun c12 => ?_) fun c12 => ?_
 replace c12 := t_eq c12
 refine WC.skip (meetI [(12, .bool ((o == 14)))] (h'' := .pt b4 (.cells (cellT zeroT).toArray 30 (0, 0)) :: .pt b3 (.cells (cellT t).toArray 30 (0, 0)) :: h) ?_ Su Sb ⟨(o == 14), by simp only [beq_iff_eq]; omega, rfl, rfl⟩)
 exact Su
 replace c12 := f_eq c12
 refine gD ?_; intros
 refine bB ?_
 refine xA ?_
 refine WL.nil (meetI [(12, .bool ((o == 15)))] (h'' := .pt b4 (.cells (cellT zeroT).toArray 30 (0, 0)) :: .pt b3 (.cells (cellT t).toArray 30 (0, 0)) :: h) ?_ Su Sb ⟨(o == 15), by simp only [beq_iff_eq]; omega, rfl, rfl⟩)
 exact Su
 rintro _ _ ⟨b12, j12, rfl, rfl⟩
 refine WC.frm rfl ?_
 refine gE ?_; intros
 refine wc (fun c12 => ?_) fun c12 => ?_
 have d12 := j12.1 c12
 refine gD ?_; intros
 refine xG (pA u30) ?_
 refine xf (E1 Et) (tsim_ct _ _ _) ?_
 refine xA ?_
 refine WL.nil (meetI [(6, .int .u8 3), (7, .bool (simT t))] (h'' := .pt b4 (.cells (cellT zeroT).toArray 30 (0, 0)) :: .pt b3 (.cells (cellT t).toArray 30 (0, 0)) :: h) ?_ Su Sb ⟨3, simT t, by unfold resT; rw [if_pos (by omega)], rfl, rfl⟩)
 exact Su
 have d12 : ¬ (o = 14 ∨ o = 15) := (fun q => by rw [j12.2 q] at c12; cases c12)
 refine gD ?_; intros
 refine bB ?_
 refine xA ?_
 refine wn [3, 4, 6, 8, 17] ?_
 (repeat refine WC.seqK fun K hK => ?_)
 refine WC.cutK (by assumption) [3, 4, 6, 8] rfl (fun F' h' => ∃ b17 : Bool, ((b17 = true ↔ (o = 16 ∨ o = 17 ∨ o = 18 ∨ o = 19))) ∧ F' = [(17, .bool b17)] ∧ .pt b4 (.cells (cellT zeroT).toArray 30 (0, 0)) :: .pt b3 (.cells (cellT t).toArray 30 (0, 0)) :: h = h') ?_ ?_
 refine gE ?_; intros
 refine wc (fun c17 => ?_) fun c17 => ?_
 replace c17 := t_eq c17
 refine WC.skip (meetI [(17, .bool ((o == 16)))] (h'' := .pt b4 (.cells (cellT zeroT).toArray 30 (0, 0)) :: .pt b3 (.cells (cellT t).toArray 30 (0, 0)) :: h) ?_ Su Sb ⟨(o == 16), by simp only [beq_iff_eq]; omega, rfl, rfl⟩)
 exact Su
 replace c17 := f_eq c17
 refine gD ?_; intros
 refine bB ?_
 refine xA ?_
 refine wn [3, 4, 6, 8, 17] ?_
 refine gE ?_; intros
 refine wc (fun c17 => ?_) fun c17 => ?_
 replace c17 := t_eq c17
 refine WC.skip (meetI [(17, .bool ((o == 17)))] (h'' := .pt b4 (.cells (cellT zeroT).toArray 30 (0, 0)) :: .pt b3 (.cells (cellT t).toArray 30 (0, 0)) :: h) ?_ Su Sb ⟨(o == 17), by simp only [beq_iff_eq]; omega, rfl, rfl⟩)
 exact Su
 replace c17 := f_eq c17
 refine gD ?_; intros
 refine bB ?_
 refine xA ?_
 refine wn [3, 4, 6, 8, 17] ?_
 refine gE ?_; intros
 refine wc (fun c17 => ?_) fun c17 => ?_
 replace c17 := t_eq c17
 refine WC.skip (meetI [(17, .bool ((o == 18)))] (h'' := .pt b4 (.cells (cellT zeroT).toArray 30 (0, 0)) :: .pt b3 (.cells (cellT t).toArray 30 (0, 0)) :: h) ?_ Su Sb ⟨(o == 18), by simp only [beq_iff_eq]; omega, rfl, rfl⟩)
 exact Su
 replace c17 := f_eq c17
 refine gD ?_; intros
 refine bB ?_
 refine xA ?_
 refine WL.nil (meetI [(17, .bool ((o == 19)))] (h'' := .pt b4 (.cells (cellT zeroT).toArray 30 (0, 0)) :: .pt b3 (.cells (cellT t).toArray 30 (0, 0)) :: h) ?_ Su Sb ⟨(o == 19), by simp only [beq_iff_eq]; omega, rfl, rfl⟩)
 exact Su
 rintro _ _ ⟨b17, j17, rfl, rfl⟩
 refine WC.frm rfl ?_
 refine gE ?_; intros
 refine wc (fun c17 => ?_) fun c17 => ?_
 have d17 := j17.1 c17
 refine gE ?_; intros
 refine dS [1, 5] (.op 0 (.op 1 (.op 2 (.op 3 (.op 4 (.op 5 .nil)))))) [6, 7, 8] mixed ?_
 refine yG rfl (pA u30) ?_
 refine yf rfl (E1 Ev.const) (fun fr => tof_ct _ _ _) ?_
 refine yG rfl (PO.eqlA u30 (by kernel_rfl) (by kernel_rfl) Et Et rfl) ?_
 refine yG rfl (PO.move Et) ?_
 refine SR.poG rfl rfl (GU.f rfl rfl) (fun hc => PO.loadA u30 rfl rfl Et Me rfl) Lb ?_
 refine SR.callG rfl rfl (GU.f rfl rfl) (fun hc => ⟨Ev.func, (E1 Ev.const), fun fr => tof_ct _ _ _⟩) Lb ?_
 refine SR.nil rfl rfl ?_
 refine WL.poG (GU.f rfl rfl) (fun hc => PO.eqlA u30 (by kernel_rfl) (by kernel_rfl) (Eg hc) (Eg hc) rfl) Lb ?_
 refine xQ ?_
 refine xA ?_
 refine WL.nil (meetI [(6, .int .u8 3), (7, .bool (eqT t (tyK 1) || eqT t (tyK 2)))] (h'' := .pt b4 (.cells (cellT zeroT).toArray 30 (0, 0)) :: .pt b3 (.cells (cellT t).toArray 30 (0, 0)) :: h) ?_ Su Sb ⟨3, eqT t (tyK 1) || eqT t (tyK 2), by unfold resT; rw [if_neg (by omega), if_pos (by omega)], rfl, rfl⟩)
 exact Su
 have d17 : ¬ (o = 16 ∨ o = 17 ∨ o = 18 ∨ o = 19) := (fun q => by rw [j17.2 q] at c17; cases c17)
 refine gD ?_; intros
 refine bB ?_
 refine xA ?_
 refine wn [3, 4, 6, 8, 30] ?_
 (repeat refine WC.seqK fun K hK => ?_)
 refine WC.cutK (by assumption) [3, 4, 6, 8] rfl (fun F' h' => ∃ b30 : Bool, ((b30 = true ↔ (o = 20 ∨ o = 21 ∨ o = 26))) ∧ F' = [(30, .bool b30)] ∧ .pt b4 (.cells (cellT zeroT).toArray 30 (0, 0)) :: .pt b3 (.cells (cellT t).toArray 30 (0, 0)) :: h = h') ?_ ?_
 refine gE ?_; intros
 refine wc (fun c30 => ?_) fun c30 => ?_
 replace c30 := t_eq c30
 refine WC.skip (meetI [(30, .bool ((o == 20)))] (h'' := .pt b4 (.cells (cellT zeroT).toArray 30 (0, 0)) :: .pt b3 (.cells (cellT t).toArray 30 (0, 0)) :: h) ?_ Su Sb ⟨(o == 20), by simp only [beq_iff_eq]; omega, rfl, rfl⟩)
 exact Su
 replace c30 := f_eq c30
 refine gD ?_; intros
 refine bB ?_
 refine xA ?_
 refine wn [3, 4, 6, 8, 30] ?_
 refine gE ?_; intros
 refine wc (fun c30 => ?_) fun c30 => ?_
 replace c30 := t_eq c30
 refine WC.skip (meetI [(30, .bool ((o == 21)))] (h'' := .pt b4 (.cells (cellT zeroT).toArray 30 (0, 0)) :: .pt b3 (.cells (cellT t).toArray 30 (0, 0)) :: h) ?_ Su Sb ⟨(o == 21), by simp only [beq_iff_eq]; omega, rfl, rfl⟩)
 exact Su
 replace c30 := f_eq c30
 refine gD ?_; intros
 refine bB ?_
 refine xA ?_
 refine WL.nil (meetI [(30, .bool ((o == 26)))] (h'' := .pt b4 (.cells (cellT zeroT).toArray 30 (0, 0)) :: .pt b3 (.cells (cellT t).toArray 30 (0, 0)) :: h) ?_ Su Sb ⟨(o == 26), by simp only [beq_iff_eq]; omega, rfl, rfl⟩)
 exact Su
 rintro _ _ ⟨b30, j30, rfl, rfl⟩
 refine WC.frm rfl ?_
 refine gE ?_; intros
 refine wc (fun c30 => ?_) fun c30 => ?_
 have d30 := j30.1 c30
 refine gE ?_; intros
 refine dS [1] (.op 0 (.op 1 .nil)) [2, 3] mixed ?_
 refine yG rfl (pA u30) ?_
 refine yf rfl (E1 Ev.const) (fun fr => tof_ct _ _ _) ?_
 refine SR.nil rfl rfl ?_
 refine xG (PO.eqlA u30 (by kernel_rfl) (by kernel_rfl) Et Et rfl) ?_
 refine xA ?_
 refine WL.nil (meetI [(6, .int .u8 3), (7, .bool (eqT t (tyK 3)))] (h'' := .pt b4 (.cells (cellT zeroT).toArray 30 (0, 0)) :: .pt b3 (.cells (cellT t).toArray 30 (0, 0)) :: h) ?_ Su Sb ⟨3, eqT t (tyK 3), by unfold resT; rw [if_neg (by omega), if_neg (by omega), if_pos (by omega)], rfl, rfl⟩)
 exact Su
 have d30 : ¬ (o = 20 ∨ o = 21 ∨ o = 26) := (fun q => by rw [j30.2 q] at c30; cases c30)
 refine gD ?_; intros
 refine bB ?_
 refine xA ?_
 refine wn [3, 4, 6, 37] ?_
 refine gE ?_; intros
 refine wc (fun c37 => ?_) fun c37 => ?_
 replace c37 := t_eq c37
 refine gE ?_; intros
 refine dS [1] (.op 0 (.op 1 .nil)) [2, 3] mixed ?_
 refine yG rfl (pA u30) ?_
 refine yf rfl (E1 Ev.const) (fun fr => tof_ct _ _ _) ?_
 refine SR.nil rfl rfl ?_
 refine xG (PO.eqlA u30 (by kernel_rfl) (by kernel_rfl) Et Et rfl) ?_
 refine xA ?_
 refine WL.nil (meetI [(6, .int .u8 3), (7, .bool (eqT t (tyK 1)))] (h'' := .pt b4 (.cells (cellT zeroT).toArray 30 (0, 0)) :: .pt b3 (.cells (cellT t).toArray 30 (0, 0)) :: h) ?_ Su Sb ⟨3, eqT t (tyK 1), by unfold resT; rw [if_neg (by omega), if_neg (by omega), if_neg (by omega), if_pos (by omega)], rfl, rfl⟩)
 exact Su
 replace c37 := f_eq c37
 refine gE ?_; intros
 refine dS [1] (.op 0 (.op 1 (.op 2 (.op 3 .nil)))) [4] mixed ?_
 refine yG rfl (pA u30) ?_
 refine yf rfl (E1 Ev.const) (fun fr => tof_ct _ _ _) ?_
 refine yG rfl (PO.eqlA u30 (by kernel_rfl) (by kernel_rfl) Et Et rfl) ?_
 refine yG rfl (PO.assign Ev.const) ?_
 refine SR.nil rfl rfl ?_
 refine xA ?_
 refine WL.nil (meetI [(6, .int .u8 1), (7, .bool (eqT t (tyK 1)))] (h'' := .pt b4 (.cells (cellT zeroT).toArray 30 (0, 0)) :: .pt b3 (.cells (cellT t).toArray 30 (0, 0)) :: h) ?_ Su Sb ⟨1, eqT t (tyK 1), by unfold resT; rw [if_neg (by omega), if_neg (by omega), if_neg (by omega), if_neg (by omega)], rfl, rfl⟩)
 exact Su
 rintro _ _ ⟨kk, bb, hr, rfl, rfl⟩
 refine WC.frm rfl ?_
 refine gD ?_; intros
 refine xM ?_
 refine xG (PO.not Et) ?_
 refine wn [4, 6, 43] ?_
 refine gE ?_; intros
 refine wc (fun c43 => ?_) fun c43 => ?_
 have hb : bb = false := by simpa using c43
 rw [hb] at hr
 refine gD ?_; intros
 refine xG (PO.build u30 rfl rfl rfl EvP.nil rfl) ?_
 refine xS ?_
 refine xC ?_
 refine wn [4, 5] ?_
 refine WC.ret (end2 (h' := h) (.inl rfl) rfl (RV.cellA u30 rfl rfl rfl Me rfl) (RV.tmp rfl) (View.le.refl m) Sb ?_)
 exact ⟨by rw [hr]; rfl, rfl⟩
 have hb : bb = true := by simpa using c43
 rw [hb] at hr
 refine WC.skip (kp [4, 6] ?_)
 refine gD ?_; intros
 refine xM ?_
 refine xf (E1 Et) (tof_ct _ _ _) ?_
 refine xS ?_
 refine xC ?_
 refine wn [4, 5] ?_
 refine WC.ret (end2 (h' := h) (.inl rfl) rfl (RV.cellA u30 rfl rfl rfl Me rfl) (RV.tmp rfl) (View.le.refl m) Sb ?_)
 exact ⟨by rw [hr]; rfl, rfl⟩
end Go.Proofs.YtdhmplmpbcnojaaGreatDoor
end
/- TpE -/
section
namespace Go.Proofs.YtdhmplmpbcnojaaGreatDoor
open Go.Eng Go.Pc Go.Tg Go
open Go.Xp hiding B nameT
open Go.Ty (Ty eqT tyV cellT zeroT)
open Go.Lx (encB encB_len)
set_option maxRecDepth 100000
def TyR (h : List Res) (r : Except Int Hd) : Value → View → List Res → Prop := fun v _ h' => ∃ hd, v = heldV hd (errT r) ∧ (∀ x, r = .ok x → hd = x) ∧ h' = h
theorem tis_ct {m : View} (v : Value) (e : Ex) (t : Ty) (r : Except Int Hd) (hr0 : ∀ w, r = .error w → w ≠ 0) (h : List Res) (hq : ∀ h', h.Sublist h' → CT Tryz.prog 26 [v, exV e] h' m (TyR h' r)) :
   CT Tryz.prog 41 [v, exV e, tyV t] h m (Pure1 h (.int .i64 (isT r t))) := by
 refine CT.body Tryz.call41 Tryz.func41 rfl Tryz.ntmps41 Lb rfl ?_
 refine gD ?_; intros
 refine xX fun b4 => ?_
 refine xX fun b5 => ?_
 refine xC ?_
 refine wn [0, 4, 5] ?_
 refine gD ?_; intros
 refine xM ?_
 refine xG (pA u27) ?_
 refine xg (E2 Et Et) (hq _ Sb) ?_
 rintro _ _ ⟨hd, rfl, hhd, rfl⟩
 refine xM ?_
 refine xE ?_
 refine xE ?_
 refine xW fun b7 => ?_
 refine xS ?_
 refine xA ?_
 refine wn [5, 7, 8] ?_
 refine gG ?_; intros; rename_i ops hG
 refine xM ?_
 refine bB ?_
 refine xM ?_
 refine zG (fun _ => pF u76) ?_
 refine zG (fun hc => PO.loadA u30 rfl rfl (Eg hc) Me rfl) ?_
 refine zG (fun _ => pA u30) ?_
 refine WL.poG (GU.t (hG _ _ rfl) rfl) (fun hc => PO.neqA u30 (by kernel_rfl) (by kernel_rfl) (Eg hc) (Eg hc) rfl) Lb ?_
 refine xP ?_
 refine wn [8, 22] ?_
 try clear hG ops
 refine gE ?_; intros
 refine wc (fun c22 => ?_) fun c22 => ?_
 have hc : errT r = 0 ∧ eqT hd.t t = false := by
   simp only [Bool.and_eq_true, beq_iff_eq] at c22
   refine ⟨c22.1, ?_⟩
   cases heq : eqT hd.t t with
   | false => rfl
   | true =>
     simp [eqT] at heq
     simp at c22
     simp_all
 have hi : isT r t = 130 := by
   cases hr : r with
   | error w => rw [hr] at hc; exact absurd hc.1 (hr0 w hr)
   | ok x =>
     rw [hhd x hr] at hc
     show (if eqT x.t t then (0 : Int) else 130) = 130
     rw [if_neg (by rw [hc.2]; decide)]
 refine gD ?_; intros
 refine xC ?_
 refine wn [6] ?_
 refine WC.ret (wR (h) ?_)
 exact ⟨by rw [hi], rfl⟩
 have hi : isT r t = errT r := by
   cases hr : r with
   | error w => rfl
   | ok x =>
     rw [hr, hhd x hr] at c22
     show (if eqT x.t t then (0 : Int) else 130) = 0
     rw [if_pos (by simpa [bne, errT, eqT] using c22)]
 refine WC.skip (kp [8] ?_)
 refine gD ?_; intros
 refine xM ?_
 refine xA ?_
 refine wn [6] ?_
 refine WC.ret (wR (h) ?_)
 exact ⟨by rw [hi]; rfl, rfl⟩
end Go.Proofs.YtdhmplmpbcnojaaGreatDoor
end
/- TpF -/
section
namespace Go.Proofs.YtdhmplmpbcnojaaGreatDoor
open Go.Eng Go.Pc Go.Tg Go
open Go.Xp hiding B nameT
open Go.Ty (Ty eqT tyV cellT zeroT)
open Go.Lx (encB encB_len)
set_option maxRecDepth 100000
def tailT (k o t : Int) (hd : Hd) : Except Int Hd :=
 if k ≠ 8 then (match resT o hd.t with | .error w => .error w | .ok r => .ok ⟨r, 0⟩) else if simT hd.t then .ok (simpleH t) else .error 130
theorem okE {r : Except Int Hd} {hd : Hd} (hr : ∀ w, r = .error w → w ≠ 0) (h0 : errT r = 0) (hh : ∀ x, r = .ok x → hd = x) : r = .ok hd := by
 cases r with
 | error w => exact absurd h0 (hr w rfl)
 | ok x => rw [hh x rfl]
theorem arr_ok {s : List En} {nm : B} (h : errT (arrT s nm) = 0) : ∃ q, arrT s nm = .ok q ∧ nameT s nm = .ok q := by
 cases hA : arrT s nm with
 | error w => rw [hA] at h; exact absurd h (arrT_err s nm w hA)
 | ok q =>
   refine ⟨q, rfl, ?_⟩
   unfold arrT at hA
   split at hA
   · cases hA
   · rename_i x hx
     split at hA
     · cases hA
     · cases hA; exact hx
theorem typL_0 (s : List En) {l : List Ex} {x : Ex} (h : l[0]? = some x) : (typL s l).getD 0 (.error 130) = typE s x := by
 cases l with
 | nil => cases h
 | cons y r => cases h; rfl
theorem typeOf_ct {m : View} (s : List En) (a : Option Addr) (k c : Nat) (ho : ScOk m a k c s) (e : Ex) : ∀ h, TOk m h e → Wf e → Fine e →
   CT Tryz.prog 26 [.slice a k c, exV e] h m (TyR h (typE s e)) := by
 refine Ex.ind (p := fun e => ∀ h, TOk m h e → Wf e → Fine e → CT Tryz.prog 26 [.slice a k c, exV e] h m (TyR h (typE s e))) (fun e ih h hT hW hF => ?_) e
 have hr := hT.rd
 have hmx := hr.mx
 have hkx := hr.le
 have he := typE_eq s e
 refine CT.body Tryz.call26 Tryz.func26 rfl Tryz.ntmps26 Lb rfl ?_
 refine gD ?_; intros
 refine xX fun b3 => ?_
 refine xW fun b4 => ?_
 refine xC ?_
 refine wn [0, 3, 4] ?_
 refine gD ?_; intros
 refine xF u27 ?_
 refine xG (pL u22) ?_
 refine wn [0, 3, 4, 15] ?_
 refine gD ?_; intros
 refine bB ?_
 refine xA ?_
 refine wn [0, 3, 4, 15, 16] ?_
 refine gE ?_; intros
 refine wc (fun c16 => ?_) fun c16 => ?_
 replace c16 := t_eq c16
 unfold tyC at he
 rw [if_pos c16] at he
 refine gD ?_; intros
 refine xf (E1 Ev.const) (tof_ct _ _ _) ?_
 refine xG (PO.build u76 rfl rfl rfl (EvP.cons Et EvP.nil) rfl) ?_
 refine xS ?_
 refine xC ?_
 refine wn [4, 5] ?_
 refine WC.ret (end2 (h' := h) (.inl rfl) rfl (RV.cellA u76 rfl rfl rfl Me rfl) (RV.tmp rfl) (View.le.refl m) Sb ?_)
 exact ⟨simpleH 1, by rw [he]; rfl, fun x hx => by rw [he] at hx; cases hx; rfl, rfl⟩
 replace c16 := f_eq c16
 refine gD ?_; intros
 refine bB ?_
 refine xA ?_
 refine wn [0, 3, 4, 15, 20] ?_
 refine gE ?_; intros
 refine wc (fun c20 => ?_) fun c20 => ?_
 replace c20 := t_eq c20
 unfold tyC at he
 rw [if_neg c16, if_pos c20] at he
 refine gD ?_; intros
 refine xf (E1 Ev.const) (tof_ct _ _ _) ?_
 refine xG (PO.build u76 rfl rfl rfl (EvP.cons Et EvP.nil) rfl) ?_
 refine xS ?_
 refine xC ?_
 refine wn [4, 5] ?_
 refine WC.ret (end2 (h' := h) (.inl rfl) rfl (RV.cellA u76 rfl rfl rfl Me rfl) (RV.tmp rfl) (View.le.refl m) Sb ?_)
 exact ⟨simpleH 2, by rw [he]; rfl, fun x hx => by rw [he] at hx; cases hx; rfl, rfl⟩
 replace c20 := f_eq c20
 refine gD ?_; intros
 refine bB ?_
 refine xA ?_
 refine wn [0, 3, 4, 15, 24] ?_
 refine gE ?_; intros
 refine wc (fun c24 => ?_) fun c24 => ?_
 replace c24 := t_eq c24
 unfold tyC at he
 rw [if_neg c16, if_neg c20, if_pos c24] at he
 refine gD ?_; intros
 refine xf (E1 Ev.const) (tof_ct _ _ _) ?_
 refine xG (PO.build u76 rfl rfl rfl (EvP.cons Et EvP.nil) rfl) ?_
 refine xS ?_
 refine xC ?_
 refine wn [4, 5] ?_
 refine WC.ret (end2 (h' := h) (.inl rfl) rfl (RV.cellA u76 rfl rfl rfl Me rfl) (RV.tmp rfl) (View.le.refl m) Sb ?_)
 exact ⟨simpleH 3, by rw [he]; rfl, fun x hx => by rw [he] at hx; cases hx; rfl, rfl⟩
 replace c24 := f_eq c24
 refine gD ?_; intros
 refine bB ?_
 refine xA ?_
 refine wn [0, 3, 4, 15, 28] ?_
 refine gE ?_; intros
 refine wc (fun c28 => ?_) fun c28 => ?_
 replace c28 := t_eq c28
 unfold tyC at he
 rw [if_neg c16, if_neg c20, if_neg c24, if_pos c28] at he
 refine gD ?_; intros
 refine xM ?_
 refine xF u27 ?_
 refine xG (pL u9) ?_
 refine xf (E2 Et Et) (tname_ct s _ _ _ ho e.s _) ?_
 refine xE ?_
 refine xE ?_
 refine xS ?_
 refine xA ?_
 refine wn [4, 5] ?_
 refine WC.ret (end2 (h' := h) (.inl rfl) rfl (RV.cellA u76 rfl rfl rfl Me rfl) (RV.tmp rfl) (View.le.refl m) Sb ?_)
 exact ⟨okT (nameT s e.s), by rw [he]; rfl, fun x hx => by rw [he] at hx; rw [hx]; rfl, rfl⟩
 replace c28 := f_eq c28
 refine gD ?_; intros
 refine bB ?_
 refine xA ?_
 refine wn [0, 3, 4, 15, 36] ?_
 refine gE ?_; intros
 refine wc (fun c36 => ?_) fun c36 => ?_
 replace c36 := t_eq c36
 unfold tyC at he
 rw [if_neg c16, if_neg c20, if_neg c24, if_neg c28, if_pos c36] at he
 refine gD ?_; intros
 refine xM ?_
 refine xF u27 ?_
 refine xG (pL u9) ?_
 refine xf (E2 Et Et) (tarr_ct s _ _ _ ho e.s _) ?_
 refine xM ?_
 refine xE ?_
 refine xE ?_
 refine xW fun b6 => ?_
 refine xS ?_
 refine xA ?_
 refine wn [4, 7] ?_
 refine gD ?_; intros
 refine xf (E1 Ev.const) (tof_ct _ _ _) ?_
 refine xG (PO.build u76 rfl rfl rfl (EvP.cons Et EvP.nil) rfl) ?_
 refine xM ?_
 refine xS ?_
 refine xA ?_
 refine wn [4, 5] ?_
 refine WC.ret (end2 (h' := h) (.inl rfl) rfl (RV.cellA u76 rfl rfl rfl Me rfl) (RV.tmp rfl) (View.le.refl m) Sb ?_)
 exact ⟨simpleH 1, by rw [he]; cases arrT s e.s <;> rfl, fun x hx => by rw [he] at hx; cases hA : arrT s e.s <;> rw [hA] at hx <;> cases hx <;> rfl, rfl⟩
 replace c36 := f_eq c36
 refine gD ?_; intros
 refine bB ?_
 refine xA ?_
 refine wn [0, 3, 4, 48] ?_
 refine gE ?_; intros
 refine wc (fun c48 => ?_) fun c48 => ?_
 replace c48 := t_eq c48
 unfold tyC at he
 rw [if_neg c16, if_neg c20, if_neg c24, if_neg c28, if_neg c36, if_pos c48] at he
 obtain ⟨x0, hl⟩ := one_part hF (.inl c48)
 have hx0 : e.l[0]? = some x0 := by rw [hl]; rfl
 have hln : e.l.length = 1 := by rw [hl]; rfl
 have hxm : x0 ∈ e.l := by rw [hl]; exact List.Mem.head _
 have h0 : (typL s e.l).getD 0 (.error 130) = typE s x0 := by rw [hl]; rfl
 rw [h0] at he
 refine gD ?_; intros
 refine xM ?_
 refine xF u27 ?_
 refine xG (pL u9) ?_
 refine xf (E2 Et Et) (tarr_ct s _ _ _ ho e.s _) ?_
 refine xM ?_
 refine xE ?_
 refine xE ?_
 refine xW fun b8 => ?_
 refine xS ?_
 refine xA ?_
 refine wn [0, 3, 4, 8, 9] ?_
 refine gD ?_; intros
 refine xM ?_
 refine bB ?_
 refine wn [0, 3, 4, 8, 9, 58] ?_
 refine gE ?_; intros
 refine wc (fun c58 => ?_) fun c58 => ?_
 replace c58 := t_eq c58
 obtain ⟨q, h1, h2⟩ := arr_ok c58
 rw [h1] at he
 dsimp only at he
 refine gE ?_; intros
 refine dS [5] (.op 0 (.op 1 (.op 2 (.op 3 (.op 4 (.op 5 .nil)))))) [6, 7] mixed ?_
 refine yG rfl (PO.move Et) ?_
 refine yG rfl (pF u27) ?_
 refine yG rfl (pL u25) ?_
 refine yG rfl (PO.idx EL25.und EL25.size EL25.posz (Ev.tmp rfl) Ev.const Rr rfl (q := 0) (by omega)) ?_
 refine yG rfl (PO.loadFA u27 rfl rfl exE_len Rr (Ev.tmp rfl) (by assumption) rfl rfl (Nat.succ_pos _)) ?_
 refine yf rfl (E1 Ev.const) (fun fr => tof_ct _ _ _) ?_
 refine SR.nil rfl rfl ?_
 refine xf (E3 Et Et Et) (tis_ct _ x0 (tyK 1) (typE s x0) (typE_err s x0) _ (fun h' hs => ih x0 hxm h' ((hT.part hxm).mono (List.Sublist.trans Sb hs)) (hW.part hxm) (hF.part hxm))) ?_
 refine xA ?_
 refine wn [4, 8, 9] ?_
 refine gD ?_; intros
 refine xF u76 ?_
 refine xF u30 ?_
 refine xS ?_
 refine wn [4, 8, 9] ?_
 refine gD ?_; intros
 refine xG (pA u76) ?_
 refine xM ?_
 refine xS ?_
 refine xA ?_
 refine wn [4, 5] ?_
 refine WC.ret (end2 (h' := h) (.inl rfl) rfl (RV.cellA u76 rfl rfl rfl Me rfl) (RV.tmp rfl) (View.le.refl m) Sb ?_)
 by_cases hi : isT (typE s x0) (tyK 1) = 0
 · rw [if_pos hi] at he
   exact ⟨⟨{ q.t with dim := 0 }, q.ar⟩, by rw [he, h2, hi]; rfl, fun x hx => (by rw [he] at hx; cases hx; rfl), rfl⟩
 · rw [if_neg hi] at he
   exact ⟨⟨{ q.t with dim := 0 }, q.ar⟩, by rw [he, h2]; rfl, fun x hx => (by rw [he] at hx; cases hx), rfl⟩
 replace c58 := f_eq c58
 obtain ⟨q, h1⟩ : ∃ w, arrT s e.s = .error w := by
   cases hA : arrT s e.s with
   | error w => exact ⟨w, rfl⟩
   | ok q => rw [hA] at c58; exact absurd rfl c58
 rw [h1] at he
 dsimp only at he
 refine WC.skip (kp [4, 8, 9] ?_)
 refine gD ?_; intros
 refine xF u76 ?_
 refine xF u30 ?_
 refine xS ?_
 refine wn [4, 8, 9] ?_
 refine gD ?_; intros
 refine xG (pA u76) ?_
 refine xM ?_
 refine xS ?_
 refine xA ?_
 refine wn [4, 5] ?_
 refine WC.ret (end2 (h' := h) (.inl rfl) rfl (RV.cellA u76 rfl rfl rfl Me rfl) (RV.tmp rfl) (View.le.refl m) Sb ?_)
 exact ⟨⟨{ (okT (nameT s e.s)).t with dim := 0 }, (okT (nameT s e.s)).ar⟩, by rw [he, h1]; rfl, fun x hx => (by rw [he] at hx; cases hx), rfl⟩
 replace c48 := f_eq c48
 unfold tyC at he
 rw [if_neg c16, if_neg c20, if_neg c24, if_neg c28, if_neg c36, if_neg c48] at he
 have hkd := good_kind hF
 have hk3 : e.k = 6 ∨ e.k = 7 ∨ e.k = 8 := by omega
 have hl1 : 1 ≤ e.l.length := by
   rcases hk3 with h6 | h7 | h8
   · obtain ⟨x, hl⟩ := one_part hF (.inr (.inl h6)); rw [hl]; exact Nat.le_refl _
   · obtain ⟨x, y, hl⟩ := two_parts hF h7; rw [hl]; exact Nat.le_succ _
   · obtain ⟨x, hl⟩ := one_part hF (.inr (.inr h8)); rw [hl]; exact Nat.le_refl _
 obtain ⟨x0, hx0⟩ := get_some (l := e.l) (k := 0) (by omega)
 have hxm := List.mem_of_getElem? hx0
 have g0 := typL_0 s hx0
 refine WC.skip (kp [0, 3, 4] ?_)
 refine gD ?_; intros
 refine xM ?_
 refine xF u27 ?_
 refine xG (pL u25) ?_
 refine xG (PO.idx EL25.und EL25.size EL25.posz (Ev.tmp rfl) Ev.const Rr rfl (q := 0) (by omega)) ?_
 refine xG (PO.loadFA u27 rfl rfl exE_len Rr (Ev.tmp rfl) (by assumption) rfl rfl (Nat.succ_pos _)) ?_
 refine xg (E2 Et Et) (ih x0 hxm _ ((hT.part hxm).mono Sb) (hW.part hxm) (hF.part hxm)) ?_
 rintro _ _ ⟨hd, rfl, hhd, rfl⟩
 refine xM ?_
 refine xE ?_
 refine xE ?_
 refine xW fun b10 => ?_
 refine xS ?_
 refine xA ?_
 refine wn [0, 3, 4, 10, 11] ?_
 refine gG ?_; intros; rename_i ops hG
 refine xM ?_
 refine bB ?_
 refine xM ?_
 refine zG (fun _ => pF u27) ?_
 refine zG (fun hc => PO.load1 u22 rfl (Eg hc) Me rfl) ?_
 refine zG (fun hc => PO.bin (Eg hc) Ev.const rfl) ?_
 refine xP ?_
 refine wn [0, 3, 4, 10, 11, 85] ?_
 try clear hG ops
 (repeat refine WC.seqK fun K hK => ?_)
 refine WC.cutK (by assumption) [3, 4, 10] rfl (fun F' h' => ∃ er : Int, ((er ≠ 0 → typE s e = .error er) ∧ (er = 0 → typE s e = tailT e.k e.o e.t hd)) ∧ F' = [(11, .int .i64 er)] ∧ .pt b10 (.cells (hdE hd).toArray 76 (0, 0)) :: .pt b4 (.cells (hdE zeroH).toArray 76 (0, 0)) :: .pt b3 (.cells (exE e).toArray 27 (0, 0)) :: h = h') ?_ ?_
 refine gE ?_; intros
 refine wc (fun c85 => ?_) fun c85 => ?_
 have hk7 : e.k = 7 := by simp at c85; exact c85.2
 obtain ⟨xx, y0, hl⟩ := two_parts hF hk7
 have hy0 : e.l[1]? = some y0 := by rw [hl]; rfl
 have hln2 : e.l.length = 2 := by rw [hl]; rfl
 have hym := List.mem_of_getElem? hy0
 have hE : typE s x0 = .ok hd := okE (typE_err s x0) (by simp at c85; exact c85.1) hhd
 have g1 : (typL s e.l).getD 1 (.error 130) = typE s y0 := by rw [hl]; rfl
 rw [g0, g1, hE] at he
 dsimp only at he
 refine gE ?_; intros
 refine dS [] (.op 0 (.op 1 (.op 2 (.op 3 (.op 4 (.op 5 (.op 6 .nil))))))) [7, 8] mixed ?_
 refine yG rfl (PO.move Et) ?_
 refine yG rfl (pF u27) ?_
 refine yG rfl (pL u25) ?_
 refine yG rfl (PO.idx EL25.und EL25.size EL25.posz (Ev.tmp rfl) Ev.const Rr rfl (q := 1) (by omega)) ?_
 refine yG rfl (PO.loadFA u27 rfl rfl exE_len Rr (Ev.tmp rfl) (by assumption) rfl rfl (Nat.succ_pos _)) ?_
 refine yG rfl (pF u76) ?_
 refine yG rfl (pA u30) ?_
 refine SR.nil rfl rfl ?_
 refine xf (E3 Et Et Et) (tis_ct _ y0 hd.t (typE s y0) (typE_err s y0) _ (fun h' hs => ih y0 hym h' ((hT.part hym).mono (List.Sublist.trans Sb hs)) (hW.part hym) (hF.part hym))) ?_
 refine xA ?_
 refine WL.nil (meetI [(11, .int .i64 (isT (typE s y0) hd.t))] (h'' := .pt b10 (.cells (hdE hd).toArray 76 (0, 0)) :: .pt b4 (.cells (hdE zeroH).toArray 76 (0, 0)) :: .pt b3 (.cells (exE e).toArray 27 (0, 0)) :: h) ?_ Su Sb ⟨isT (typE s y0) hd.t, ⟨fun h => by rw [he, if_pos ⟨hk7, h⟩], fun h => (by rw [he, if_neg (fun q => q.2 h)]; rfl)⟩, rfl, rfl⟩)
 exact Su
 have hj : (errT (typE s x0) ≠ 0 → typE s e = .error (errT (typE s x0))) ∧ (errT (typE s x0) = 0 → typE s e = tailT e.k e.o e.t hd) := by
   refine ⟨fun h => ?_, fun h => ?_⟩
   · cases hx : typE s x0 with
     | error w => rw [he, g0, hx]; rfl
     | ok q => rw [hx] at h; exact absurd rfl h
   · have hE := okE (typE_err s x0) h hhd
     have hk : e.k ≠ 7 := by simp [h] at c85; exact c85
     rw [he, g0, hE]
     dsimp only
     rw [if_neg (fun q => hk q.1)]
     rfl
 refine WC.skip (meetI [(11, .int .i64 (errT (typE s x0)))] (h'' := .pt b10 (.cells (hdE hd).toArray 76 (0, 0)) :: .pt b4 (.cells (hdE zeroH).toArray 76 (0, 0)) :: .pt b3 (.cells (exE e).toArray 27 (0, 0)) :: h) ?_ Su Sb ⟨errT (typE s x0), hj, rfl, rfl⟩)
 exact Su
 rintro _ _ ⟨er, ⟨hj1, hj2⟩, rfl, rfl⟩
 refine WC.frm rfl ?_
 refine gD ?_; intros
 refine xM ?_
 refine bB ?_
 refine xA ?_
 refine wn [3, 4, 10, 11, 94] ?_
 refine gE ?_; intros
 refine wc (fun c94 => ?_) fun c94 => ?_
 replace c94 := t_ne c94
 have hq := hj1 c94
 refine gD ?_; intros
 refine xG (PO.build u76 rfl rfl rfl EvP.nil rfl) ?_
 refine xM ?_
 refine xS ?_
 refine xA ?_
 refine wn [4, 5] ?_
 refine WC.ret (end2 (h' := h) (.inl rfl) rfl (RV.cellA u76 rfl rfl rfl Me rfl) (RV.tmp rfl) (View.le.refl m) Sb ?_)
 exact ⟨zeroH, by rw [hq]; rfl, fun x hx => (by rw [hq] at hx; cases hx), rfl⟩
 replace c94 := f_ne c94
 have hq := hj2 c94
 refine gD ?_; intros
 refine xF u27 ?_
 refine xG (pL u22) ?_
 refine bB ?_
 refine xA ?_
 refine wn [3, 4, 10, 99] ?_
 refine gE ?_; intros
 refine wc (fun c99 => ?_) fun c99 => ?_
 replace c99 := t_ne c99
 have hk8 : e.k ≠ 8 := by simpa [bne] using c99
 unfold tailT at hq
 rw [if_pos hk8] at hq
 refine gD ?_; intros
 refine xF u27 ?_
 refine xG (pL u23) ?_
 refine xF u76 ?_
 refine xG (pA u30) ?_
 refine xf (E2 Et Et) (tres_ct e.o hd.t _ _) ?_
 refine xM ?_
 refine xE ?_
 refine xE ?_
 refine xW fun b12 => ?_
 refine xS ?_
 refine xA ?_
 refine wn [4, 12, 13] ?_
 refine gD ?_; intros
 refine xG (pA u30) ?_
 refine xG (PO.build u76 rfl rfl rfl (EvP.cons Et EvP.nil) rfl) ?_
 refine xM ?_
 refine xS ?_
 refine xA ?_
 refine wn [4, 5] ?_
 refine WC.ret (end2 (h' := h) (.inl rfl) rfl (RV.cellA u76 rfl rfl rfl Me rfl) (RV.tmp rfl) (View.le.refl m) Sb ?_)
 exact ⟨⟨okY (resT e.o hd.t), 0⟩, by rw [hq]; cases resT e.o hd.t <;> rfl, fun x hx => (by rw [hq] at hx; cases hy : resT e.o hd.t <;> rw [hy] at hx <;> cases hx <;> rfl), rfl⟩
 replace c99 := f_ne c99
 have hk8 : ¬ e.k ≠ 8 := by simpa [bne] using c99
 unfold tailT at hq
 rw [if_neg hk8] at hq
 refine gD ?_; intros
 refine xF u76 ?_
 refine xG (pA u30) ?_
 refine xf (E1 Et) (tsim_ct _ _ _) ?_
 refine xG (PO.not Et) ?_
 refine xA ?_
 refine wn [3, 4, 114] ?_
 refine gE ?_; intros
 refine wc (fun c114 => ?_) fun c114 => ?_
 refine gD ?_; intros
 refine xG (PO.build u76 rfl rfl rfl EvP.nil rfl) ?_
 refine xS ?_
 refine xC ?_
 refine wn [4, 5] ?_
 refine WC.ret (end2 (h' := h) (.inl rfl) rfl (RV.cellA u76 rfl rfl rfl Me rfl) (RV.tmp rfl) (View.le.refl m) Sb ?_)
 exact ⟨zeroH, by rw [hq, if_neg (by simpa using c114)]; rfl, fun x hx => (by rw [hq, if_neg (by simpa using c114)] at hx; cases hx), rfl⟩
 refine WC.skip (kp [3, 4] ?_)
 refine gD ?_; intros
 refine xF u27 ?_
 refine xG (pL u24) ?_
 refine xf (E1 Et) (tof_ct _ _ _) ?_
 refine xG (PO.build u76 rfl rfl rfl (EvP.cons Et EvP.nil) rfl) ?_
 refine xS ?_
 refine xC ?_
 refine wn [4, 5] ?_
 refine WC.ret (end2 (h' := h) (.inl rfl) rfl (RV.cellA u76 rfl rfl rfl Me rfl) (RV.tmp rfl) (View.le.refl m) Sb ?_)
 exact ⟨simpleH e.t, by rw [hq, if_pos (by simpa using c114)]; rfl, fun x hx => (by rw [hq, if_pos (by simpa using c114)] at hx; cases hx; rfl), rfl⟩
end Go.Proofs.YtdhmplmpbcnojaaGreatDoor
end
/- TpG -/
section
namespace Go.Proofs.YtdhmplmpbcnojaaGreatDoor
open Go.Eng Go.Pc Go.Tg Go
open Go.Xp hiding B nameT
open Go.Ty (Ty eqT tyV cellT zeroT PrOk)
open Go.Lx (encB encB_len)
set_option maxRecDepth 100000
theorem tok_lend {m m' : View} {h : List Res} (L : Lend m h m') {e : Ex} (q : TOk m h e) : TOk m' [] e := by
 induction q with
 | mk hr _ ih => exact .mk (L _ _ _ _ _ hr) ih
structure ScR (m : View) (h : List Res) (a : Option Addr) (k c : Nat) (s : List En) : Prop where
 rd : Rd m h a k c 17 (fl enE s)
 nm : ∀ x ∈ s, Rd m h x.sp.names.a x.sp.names.l.length x.sp.names.c 1 (fl encB x.sp.names.l)
 fr : ∀ x ∈ s, Rd m h x.sp.fs.a x.sp.fs.l.length x.sp.fs.c 6 (fl foE x.sp.fs.l)
 pr : ∀ x ∈ s, PrOk m h x.sp.vs.a x.sp.vs.l.length x.sp.vs.c x.sp.vs.l
 ar : ∀ (i : Nat) x, s[i]? = some x → 0 ≤ x.ar ∧ x.ar ≤ i
theorem ScR.mono {m : View} {h h' : List Res} {a : Option Addr} {k c : Nat} {s : List En} (q : ScR m h a k c s) (r : h.Sublist h') : ScR m h' a k c s :=
 ⟨q.rd.mono (View.le.refl m) r, fun x hx => (q.nm x hx).mono (View.le.refl m) r, fun x hx => (q.fr x hx).mono (View.le.refl m) r, fun x hx => (q.pr x hx).mono (View.le.refl m) r, q.ar⟩
theorem ScR.lend {m m' : View} {h : List Res} {a : Option Addr} {k c : Nat} {s : List En} (q : ScR m h a k c s) (L : Lend m h m') : ScOk m' a k c s :=
 ⟨L _ _ _ _ _ q.rd, fun x hx => L _ _ _ _ _ (q.nm x hx)⟩
def shL (s : List En) : List Ent := s.map shE
theorem shL_len (s : List En) : (shL s).length = s.length := List.length_map _
theorem shL_get {s : List En} {q : Nat} {x : En} (h : s[q]? = some x) : (shL s)[q]? = some (shE x) := by
 unfold shL
 rw [List.getElem?_map, h]
 rfl
structure XOk (m : View) (h : List Res) (e : Ex) : Prop where
 t : TOk m h e
 w : Wf e
 f : Fine e
theorem XOk.mono {m : View} {h h' : List Res} {e : Ex} (q : XOk m h e) (r : h.Sublist h') : XOk m h' e := ⟨q.t.mono r, q.w, q.f⟩
theorem typX_err (s : List En) (e : Ex) : ∀ w, typX (shL s) e = .error w → w ≠ 0 := fun w hw => typE_err s e w ((typX_eq s e).trans hw)
section
variable {m : View} {h : List Res} {s : List En} {a : Option Addr} {k c : Nat}
theorem findR_ct (hs : ScR m h a k c s) (nm : B) (n : Nat) (hn : n ≤ s.length) : CT Tryz.prog 67 [.slice a k c, .int .i64 n, str nm] h m (Pure1 h (.int .i64 (findE (shL s) nm n))) :=
 (CT.lendP Tryz.call67 fun _ _ L => find_ct s a k c (hs.lend L) nm n hn []).val (congrArg (Value.int .i64) (findE_eq s nm n))
theorem typeOfR_ct (hs : ScR m h a k c s) (e : Ex) (hx : XOk m h e) : CT Tryz.prog 26 [.slice a k c, exV e] h m (TyR h (typX (shL s) e)) := by
 have h1 : typX (shL s) e = typE s e := (typX_eq s e).symm
 rw [h1]
 exact (CT.lendV (R := fun v => ∃ hd, v = heldV hd (errT (typE s e)) ∧ ∀ x, typE s e = .ok x → hd = x) Tryz.call26 fun _ _ L =>
   (typeOf_ct s a k c (hs.lend L) e [] (tok_lend L hx.t) hx.w hx.f).mono (by rintro v _ _ _ ⟨hd, h1, h2, h3⟩; exact ⟨⟨hd, h1, h2⟩, h3⟩)).mono (by rintro v _ _ _ ⟨⟨hd, h1, h2⟩, h3⟩; exact ⟨hd, h1, h2, h3⟩)
theorem isR_ct (hs : ScR m h a k c s) (e : Ex) (t : Ty) (hx : XOk m h e) : CT Tryz.prog 41 [.slice a k c, exV e, tyV t] h m (Pure1 h (.int .i64 (isX (shL s) e t))) :=
 tis_ct _ e t (typX (shL s) e) (typX_err s e) h fun _ hh => typeOfR_ct (hs.mono hh) e (hx.mono hh)
end
theorem ne_eqT {x t : Ty} (h : ¬x.kind = t.kind ∨ ¬x.dim = t.dim ∨ ¬x.item = t.item ∨ ¬x.proto = t.proto) : eqT x t = false := by
 cases hq : eqT x t with
 | false => rfl
 | true =>
   simp [eqT] at hq
   rcases h with h | h | h | h <;> exact absurd (by first | exact hq.1 | exact hq.2.1 | exact hq.2.2.1 | exact hq.2.2.2) h
def tgtV (r : Except Int Ty) : Value := .tuple #[tyV (okY r), .int .i64 (errT r)]
theorem nameE_found {S : List Ent} {nm : B} {hd : Hd} (h : nameE S nm = .ok hd) : ∃ (q : Nat) (x : Ent), findE S nm S.length = (q : Int) ∧ S[q]? = some x ∧ q < S.length := by
 unfold nameE at h
 have hb := findE_lt S nm S.length
 by_cases hn : findE S nm S.length < 0
 · rw [if_pos hn] at h; cases h
 · rw [if_neg hn] at h
   obtain ⟨q, hq⟩ : ∃ q : Nat, findE S nm S.length = q := ⟨(findE S nm S.length).toNat, by omega⟩
   obtain ⟨x, hx⟩ := get_some (l := S) (k := q) (by omega)
   exact ⟨q, x, hq, hx, by omega⟩
theorem typX_found {S : List Ent} {e : Ex} {hd : Hd} (h : typX S e = .ok hd) (hk : e.k = 4 ∨ e.k = 5) : ∃ (q : Nat) (x : Ent), findE S e.s S.length = (q : Int) ∧ S[q]? = some x ∧ q < S.length := by
 unfold typX at h
 rw [typF_eq] at h
 unfold tyF at h
 have hn : ∀ w, nameE S e.s ≠ .error w := by
   intro w hw
   rw [hw] at h
   rcases hk with hk | hk
   · rw [if_neg (by omega), if_neg (by omega), if_neg (by omega), if_pos hk] at h
     cases h
   · rw [if_neg (by omega), if_neg (by omega), if_neg (by omega), if_neg (by omega), if_neg (by omega), if_pos hk] at h
     cases h
 cases hN : nameE S e.s with
 | error w => exact absurd hN (hn w)
 | ok q => exact nameE_found hN
theorem target_ct {m : View} {h : List Res} {s : List En} {a : Option Addr} {k c : Nat} (hs : ScR m h a k c s) (e : Ex) (hx : XOk m h e) :
   CT Tryz.prog 83 [.slice a k c, exV e] h m (Pure1 h (tgtV (tgtX (shL s) e))) := by
 have hl := hs.rd.lenF enE_len (by decide)
 have hmx := hs.rd.mx
 have hle := hs.rd.le
 subst hl
 refine CT.body Tryz.call83 Tryz.func83 rfl Tryz.ntmps83 Lb rfl ?_
 refine gD ?_; intros
 refine xX fun b3 => ?_
 refine xW fun b4 => ?_
 refine xC ?_
 refine wn [0, 3, 4] ?_
 refine gD ?_; intros
 refine xM ?_
 refine xG (pA u27) ?_
 refine xg (E2 Et Et) (typeOfR_ct (hs.mono Sb) e (hx.mono Sb)) ?_
 rintro _ _ ⟨hd, rfl, hhd, rfl⟩
 refine xM ?_
 refine xE ?_
 refine xE ?_
 refine xW fun b6 => ?_
 refine xS ?_
 refine xA ?_
 refine wn [0, 3, 4, 6, 7] ?_
 refine gD ?_; intros
 refine xM ?_
 refine bB ?_
 refine xA ?_
 refine wn [0, 3, 4, 6, 7, 14] ?_
 refine gE ?_; intros
 refine wc (fun c14 => ?_) fun c14 => ?_
 replace c14 := t_ne c14
 obtain ⟨w, hw⟩ : ∃ w, typX (shL s) e = .error w := by
   cases hw : typX (shL s) e with
   | error w => exact ⟨w, rfl⟩
   | ok q => rw [hw] at c14; exact absurd rfl c14
 have hg : tgtX (shL s) e = .error w := by unfold tgtX; rw [hw]
 refine gD ?_; intros
 refine xG (PO.build u30 rfl rfl rfl EvP.nil rfl) ?_
 refine xM ?_
 refine xS ?_
 refine xA ?_
 refine wn [4, 5] ?_
 refine WC.ret (end2 (h' := h) (.inl rfl) rfl (RV.cellA u30 rfl rfl rfl Me rfl) (RV.tmp rfl) (View.le.refl m) Sb ?_)
 exact ⟨by rw [hg, hw]; rfl, rfl⟩
 replace c14 := f_ne c14
 have hE := okE (typX_err s e) c14 hhd
 have hg : tgtX (shL s) e = if (e.k ≠ 4 ∧ e.k ≠ 5) ∨ simT hd.t = false ∨ kindX (shL s) e.s = 2 then .error 130 else .ok hd.t := by unfold tgtX; rw [hE]
 refine gG ?_; intros; rename_i ops hG
 refine xF u27 ?_
 refine xG (pL u22) ?_
 refine bB ?_
 refine xM ?_
 refine zG (fun _ => pF u27) ?_
 refine zG (fun hc => PO.load1 u22 rfl (Eg hc) Me rfl) ?_
 refine zG (fun hc => PO.bin (Eg hc) Ev.const rfl) ?_
 refine xP ?_
 refine xA ?_
 refine wn [0, 3, 4, 6, 19] ?_
 try clear hG ops
 (repeat refine WC.seqK fun K hK => ?_)
 refine WC.cutK (by assumption) [4, 6] rfl (fun F' h' => ∃ bb : Bool, (bb = true ↔ ((e.k ≠ 4 ∧ e.k ≠ 5) ∨ simT hd.t = false ∨ kindX (shL s) e.s = 2)) ∧ F' = [(19, .bool bb)] ∧ .pt b6 (.cells (hdE hd).toArray 76 (0, 0)) :: .pt b4 (.cells (cellT zeroT).toArray 30 (0, 0)) :: .pt b3 (.cells (exE e).toArray 27 (0, 0)) :: h = h') ?_ ?_
 refine gE ?_; intros
 refine wc (fun c19 => ?_) fun c19 => ?_
 have ca : (e.k != 4 && e.k != 5) = true := c19
 refine WC.skip (meetI [(19, .bool ((e.k != 4 && e.k != 5)))] (h'' := .pt b6 (.cells (hdE hd).toArray 76 (0, 0)) :: .pt b4 (.cells (cellT zeroT).toArray 30 (0, 0)) :: .pt b3 (.cells (exE e).toArray 27 (0, 0)) :: h) ?_ Su Sb ⟨(e.k != 4 && e.k != 5), ⟨fun _ => .inl (by simpa using ca), fun _ => ca⟩, rfl, rfl⟩)
 exact Su
 have ca : (e.k != 4 && e.k != 5) = false := c19
 have hk45 : e.k = 4 ∨ e.k = 5 := by
   by_cases h4 : e.k = 4
   · exact .inl h4
   · by_cases h5 : e.k = 5
     · exact .inr h5
     · simp [h4, h5] at ca
 refine gD ?_; intros
 refine xF u76 ?_
 refine xG (pA u30) ?_
 refine xf (E1 Et) (tsim_ct _ _ _) ?_
 refine xG (PO.not Et) ?_
 refine xA ?_
 refine wn [0, 3, 4, 6, 19] ?_
 refine gE ?_; intros
 refine wc (fun c19 => ?_) fun c19 => ?_
 have cb : (!simT hd.t) = true := c19
 refine WC.skip (meetI [(19, .bool ((!simT hd.t)))] (h'' := .pt b6 (.cells (hdE hd).toArray 76 (0, 0)) :: .pt b4 (.cells (cellT zeroT).toArray 30 (0, 0)) :: .pt b3 (.cells (exE e).toArray 27 (0, 0)) :: h) ?_ Su Sb ⟨(!simT hd.t), ⟨fun _ => .inr (.inl (by simpa using cb)), fun _ => cb⟩, rfl, rfl⟩)
 exact Su
 have cb : (!simT hd.t) = false := c19
 obtain ⟨q, y, hq, hy, hql⟩ := typX_found hE hk45
 rw [shL_len] at hq hql
 obtain ⟨x, hxs⟩ := get_some (l := s) (k := q) hql
 have hyx := shL_get hxs
 rw [hy] at hyx
 have hkX : kindX (shL s) e.s = x.sp.k := by
   unfold kindX
   rw [shL_len, hq, Int.toNat_natCast, hy]
   cases hyx
   rfl
 have hM : (x.sp.k == 2) = true ↔ ((e.k ≠ 4 ∧ e.k ≠ 5) ∨ simT hd.t = false ∨ kindX (shL s) e.s = 2) := by
   rw [hkX]
   constructor
   · intro hk
     exact .inr (.inr (by simpa using hk))
   · rintro (h1 | h1 | h1)
     · exact absurd h1 (by omega)
     · rw [h1] at cb
       cases cb
     · simpa using h1
 have hrd : Rd m (.pt b6 (.cells (hdE hd).toArray 76 (0, 0)) :: .pt b4 (.cells (cellT zeroT).toArray 30 (0, 0)) :: .pt b3 (.cells (exE e).toArray 27 (0, 0)) :: h) a s.length c 17 (fl enE s) := hs.rd.mono (View.le.refl _) Sb
 refine gD ?_; intros
 refine xM ?_
 refine xM ?_
 refine xM ?_
 refine xG (PO.lenSl u79 Et) ?_
 refine xF u27 ?_
 refine xG (pL u9) ?_
 refine xf (E3 Et Et Et) (findR_ct (hs.mono Sb) e.s s.length (Nat.le_refl _)) ?_
 rw [hq]
 refine xG (PO.idx EL79.und EL79.size EL79.posz (Ev.tmp rfl) (Ev.tmp rfl) Rr rfl (by omega)) ?_
 refine xG (PO.fieldF u104 rfl (Nat.ne_of_beq_eq_false rfl) enE_len (Nat.succ_pos _) Rr (by assumption) (Ev.tmp rfl)) ?_
 refine xG (PO.fieldF u54 rfl (Nat.ne_of_beq_eq_false rfl) enE_len (Nat.succ_pos _) Rr (by assumption) (Ev.tmp rfl)) ?_
 refine xG (PO.loadFf u47 rfl enE_len Rr (Ev.tmp rfl) (by assumption) rfl) ?_
 refine bB ?_
 refine xA ?_
 refine WL.nil (meetI [(19, .bool ((x.sp.k == 2)))] (h'' := .pt b6 (.cells (hdE hd).toArray 76 (0, 0)) :: .pt b4 (.cells (cellT zeroT).toArray 30 (0, 0)) :: .pt b3 (.cells (exE e).toArray 27 (0, 0)) :: h) ?_ Su Sb ⟨(x.sp.k == 2), hM, rfl, rfl⟩)
 exact Su
 rintro _ _ ⟨bb, hb, rfl, rfl⟩
 refine WC.frm rfl ?_
 refine gE ?_; intros
 refine wc (fun c19 => ?_) fun c19 => ?_
 have ht := hb.1 c19
 refine gD ?_; intros
 refine xG (PO.build u30 rfl rfl rfl EvP.nil rfl) ?_
 refine xS ?_
 refine xC ?_
 refine wn [4, 5] ?_
 refine WC.ret (end2 (h' := h) (.inl rfl) rfl (RV.cellA u30 rfl rfl rfl Me rfl) (RV.tmp rfl) (View.le.refl m) Sb ?_)
 exact ⟨by rw [hg, if_pos ht]; rfl, rfl⟩
 have ht : ¬ ((e.k ≠ 4 ∧ e.k ≠ 5) ∨ simT hd.t = false ∨ kindX (shL s) e.s = 2) := fun q => by rw [hb.2 q] at c19; cases c19
 refine WC.skip (kp [4, 6] ?_)
 refine gD ?_; intros
 refine xF u76 ?_
 refine xG (pA u30) ?_
 refine xS ?_
 refine xC ?_
 refine wn [4, 5] ?_
 refine WC.ret (end2 (h' := h) (.inl rfl) rfl (RV.cellA u30 rfl rfl rfl Me rfl) (RV.tmp rfl) (View.le.refl m) Sb ?_)
 exact ⟨by rw [hg, if_neg ht]; rfl, rfl⟩
theorem tgtX_err (s : List En) (e : Ex) : ∀ w, tgtX (shL s) e = .error w → w ≠ 0 := by
 intro w hw
 unfold tgtX at hw
 split at hw
 · rename_i x hx
   cases hw
   exact typX_err s e _ hx
 · split at hw
   · cases hw; decide
   · cases hw
theorem takes_ct {m : View} {h : List Res} {s : List En} {a : Option Addr} {k c : Nat} (hs : ScR m h a k c s) (e : Ex) (t : Ty) (hx : XOk m h e) :
   CT Tryz.prog 85 [.slice a k c, exV e, tyV t] h m (Pure1 h (.int .i64 (takesX (shL s) e t))) := by
 obtain ⟨r, hr⟩ : ∃ r, r = tgtX (shL s) e := ⟨_, rfl⟩
 have h0 : ∀ w, r = .error w → w ≠ 0 := by subst hr; exact tgtX_err s e
 have hT : takesX (shL s) e t = isY r t := by unfold takesX; rw [hr]
 refine CT.body Tryz.call85 Tryz.func85 rfl Tryz.ntmps85 Lb rfl ?_
 refine gD ?_; intros
 refine xX fun b4 => ?_
 refine xX fun b5 => ?_
 refine xC ?_
 refine wn [0, 4, 5] ?_
 refine gD ?_; intros
 refine xM ?_
 refine xG (pA u27) ?_
 refine xf (E2 Et Et) (hr ▸ target_ct (hs.mono Sb) e (hx.mono Sb)) ?_
 refine xM ?_
 refine xE ?_
 refine xE ?_
 refine xW fun b7 => ?_
 refine xS ?_
 refine xA ?_
 refine wn [5, 7, 8] ?_
 refine gG ?_; intros; rename_i ops hG
 refine xM ?_
 refine bB ?_
 refine xM ?_
 refine zG (fun _ => pA u30) ?_
 refine zG (fun _ => pA u30) ?_
 refine WL.poG (GU.t (hG _ _ rfl) rfl) (fun hc => PO.neqA u30 (by kernel_rfl) (by kernel_rfl) (Eg hc) (Eg hc) rfl) Lb ?_
 refine xP ?_
 refine wn [8, 21] ?_
 try clear hG ops
 refine gE ?_; intros
 refine wc (fun c21 => ?_) fun c21 => ?_
 have hi : isY r t = 130 := by
   cases hq : r with
   | error w => rw [hq] at c21; simp [errT] at c21; exact absurd c21.1 (h0 w hq)
   | ok x =>
     rw [hq] at c21
     show (if eqT x t then (0 : Int) else 130) = 130
     rw [if_neg (by rw [ne_eqT (by simpa [errT, okY, eqT, bne] using c21)]; decide)]
 refine gD ?_; intros
 refine xC ?_
 refine wn [6] ?_
 refine WC.ret (wR (h) ?_)
 exact ⟨by rw [hT, hi], rfl⟩
 have hi : isY r t = errT r := by
   cases hq : r with
   | error w => rfl
   | ok x =>
     rw [hq] at c21
     show (if eqT x t then (0 : Int) else 130) = 0
     rw [if_pos (by simpa [errT, okY, eqT, bne] using c21)]
 refine WC.skip (kp [8] ?_)
 refine gD ?_; intros
 refine xM ?_
 refine xA ?_
 refine wn [6] ?_
 refine WC.ret (wR (h) ?_)
 exact ⟨by rw [hT, hi]; rfl, rfl⟩
end Go.Proofs.YtdhmplmpbcnojaaGreatDoor
end
/- TpH -/
section
namespace Go.Proofs.YtdhmplmpbcnojaaGreatDoor
open Go.Eng Go.Pc Go.Tg Go
open Go.Xp hiding B nameT
open Go.Ty (Ty Vr eqT tyV cellT zeroT PrOk VOk prL encV encV_len encI encI_len)
open Go.Lx (encB encB_len)
set_option maxRecDepth 100000
set_option maxRecDepth 100000 in
theorem EL189 : EL Tryz.prog 189 154 1 8 := ⟨_, _, rfl, rfl, rfl, rfl, rfl, rfl, by decide⟩
def fnV (p : FuncId × List Value) : Value := .func (.func p.1) #[] p.2.toArray
def encFn (p : FuncId × List Value) : List Value := [fnV p]
theorem encFn_len (p : FuncId × List Value) : (encFn p).length = 1 := rfl
def firstX : List Int → Int
 | [] => 0
 | e :: r => if e ≠ 0 then e else firstX r
theorem first_ct {m : View} {h : List Res} (a : Option Addr) (c : Nat) (fs : List (FuncId × List Value)) (es : List Int) (hln : fs.length = es.length) (hr : Rd m h a fs.length c 1 (fl encFn fs))
   (hq : ∀ (i : Nat) p e, fs[i]? = some p → es[i]? = some e → CT Tryz.prog p.1 ([] ++ [] ++ p.2) h m (Pure1 h (.int .i64 e))) : CT Tryz.prog 90 [.slice a fs.length c] h m (Pure1 h (.int .i64 (firstX es))) := by
 have hmx := hr.mx
 have hle := hr.le
 refine CT.body Tryz.call90 Tryz.func90 rfl Tryz.ntmps90 Lb rfl ?_
 refine gD ?_; intros
 refine xC ?_
 refine wn [0] ?_
 refine gD ?_; intros
 refine xM ?_
 refine xG (PO.lenSl u189 Et) ?_
 refine xK ?_
 refine wn [6, 7, 8] ?_
 refine gE ?_; intros
 refine WC.loopI [6, 7] rfl (fun μ F' h' => ∃ i : Nat, (i ≤ fs.length ∧ firstX es = firstX (es.drop i)) ∧ fs.length - i = μ ∧ F' = [(8, .int .i64 i)] ∧ h = h') (fs.length - 0) [(8, .int .i64 0)] (h0 := h) ?_ Sb ⟨0, ⟨by omega, rfl⟩, rfl, rfl, rfl⟩ ?_
 exact Su
 rintro _ _ _ ⟨i, ⟨hk, hJ⟩, rfl, rfl, rfl⟩
 refine WC.frm rfl ?_
 refine gD ?_; intros
 refine bD ?_
 refine wn [6, 7, 8, 9] ?_
 refine gE ?_; intros
 refine wc (fun c9 => ?_) fun c9 => ?_
 replace c9 := dT c9
 obtain ⟨p, hp⟩ := get_some (l := fs) (k := i) (by omega)
 obtain ⟨e, he⟩ := get_some (l := es) (k := i) (by omega)
 rw [drop_at he] at hJ
 refine WC.skip (kp [6, 7, 8] ?_)
 refine gD ?_; intros
 refine xG (PO.idx EL189.und EL189.size EL189.posz (Ev.tmp rfl) (Ev.tmp rfl) Rr rfl (by omega)) ?_
 refine xG (PO.loadF1 u154 rfl encFn_len Rr (Ev.tmp rfl) (by assumption) rfl) ?_
 refine xA ?_
 refine wn [4, 6, 7, 8] ?_
 refine gD ?_; intros
 refine xM ?_
 refine WL.callP (Ev.tmp rfl) Evs.nil (hq i p e hp he) Lb ?_
 refine xA ?_
 refine wn [5, 6, 7, 8] ?_
 refine gD ?_; intros
 refine xM ?_
 refine bB ?_
 refine wn [5, 6, 7, 8, 15] ?_
 refine gE ?_; intros
 refine wc (fun c15 => ?_) fun c15 => ?_
 replace c15 := t_ne c15
 have hJ : firstX es = e := by rw [hJ]; unfold firstX; rw [if_pos c15]
 refine gD ?_; intros
 refine xM ?_
 refine xA ?_
 refine wn [2] ?_
 refine WC.ret (wR (h) ?_)
 exact ⟨by rw [hJ], rfl⟩
 replace c15 := f_ne c15
 have hJ : firstX es = firstX (es.drop (i + 1)) := by rw [hJ, c15]; rfl
 refine WC.skip (kp [6, 7, 8] ?_)
 refine gD ?_; intros
 refine bI ?_
 refine xM ?_
 refine WL.nil (loopBackI (fs.length - (i + 1)) [(8, .int .i64 (i + 1))] (h'' := h) (by omega) ?_ Su Sb ⟨i + 1, ⟨by omega, hJ⟩, rfl, rfl, rfl⟩)
 exact Su
 replace c9 := dF c9
 rw [List.drop_eq_nil_of_le (by omega)] at hJ
 refine WC.exit (kp [] ?_)
 refine gD ?_; intros
 refine xC ?_
 refine wn [2] ?_
 refine WC.ret (wR (h) ?_)
 exact ⟨by rw [hJ]; rfl, rfl⟩
theorem match_ct {m : View} {h : List Res} (q : FuncId) (fst : List Value) (f : Ex → Int → Int) (ka : Option Addr) (kn kc : Nat) (ks : List Int) (la : Option Addr) (ln lc : Nat) (l : List Ex) (hk : Rd m h ka kn kc 1 (fl encI ks)) (hl : Rd m h la ln lc 6 (fl exE l))
   (hq : ∀ x ∈ l, ∀ kd h', h.Sublist h' → CT Tryz.prog q (fst ++ [exV x, tyV (tyK kd)] ++ []) h' m (Pure1 h' (.int .i64 (f x kd)))) :
   CT Tryz.prog 84 [.slice ka kn kc, .slice la ln lc, .func (.func q) fst.toArray #[]] h m (Pure1 h (.int .i64 (matchX f ks l))) := by
 have e1 := hk.lenF encI_len (by decide)
 have e2 := hl.lenF exE_len (by decide)
 subst e1 e2
 have hmx := hl.mx
 have hle := hl.le
 have kmx := hk.mx
 have kle := hk.le
 refine CT.body Tryz.call84 Tryz.func84 rfl Tryz.ntmps84 Lb rfl ?_
 refine gD ?_; intros
 refine xC ?_
 refine wn [0, 1, 2] ?_
 refine gD ?_; intros
 refine xM ?_
 refine xG (PO.lenSl u25 Et) ?_
 refine xK ?_
 refine wn [0, 1, 2, 10, 11, 12] ?_
 refine gE ?_; intros
 refine WC.loopI [0, 1, 2, 10, 11] rfl (fun μ F' h' => ∃ i : Nat, ((i ≤ l.length ∧ i ≤ ks.length) ∧ matchX f ks l = matchX f (ks.drop i) (l.drop i)) ∧ l.length - i = μ ∧ F' = [(12, .int .i64 i)] ∧ h = h') (l.length - 0) [(12, .int .i64 0)] (h0 := h) ?_ Sb ⟨0, ⟨⟨by omega, by omega⟩, rfl⟩, rfl, rfl, rfl⟩ ?_
 exact Su
 rintro _ _ _ ⟨i, ⟨⟨hk1, hk2⟩, hJ⟩, rfl, rfl, rfl⟩
 refine WC.frm rfl ?_
 refine gD ?_; intros
 refine bD ?_
 refine wn [0, 1, 2, 10, 11, 12, 13] ?_
 refine gE ?_; intros
 refine wc (fun c13 => ?_) fun c13 => ?_
 replace c13 := dT c13
 obtain ⟨x, hx⟩ := get_some (l := l) (k := i) (by omega)
 have hxm := List.mem_of_getElem? hx
 rw [drop_at hx] at hJ
 refine WC.skip (kp [0, 1, 2, 10, 11, 12] ?_)
 refine gD ?_; intros
 refine xM ?_
 refine xG (PO.idx EL25.und EL25.size EL25.posz (Ev.tmp rfl) (Ev.tmp rfl) Rr rfl (by omega)) ?_
 refine xG (PO.loadFA u27 rfl rfl exE_len Rr (Ev.tmp rfl) (by assumption) rfl rfl (Nat.succ_pos _)) ?_
 refine xW fun b8 => ?_
 refine xA ?_
 refine xS ?_
 refine wn [0, 1, 2, 7, 8, 10, 11, 12] ?_
 refine gD ?_; intros
 refine xM ?_
 refine xM ?_
 refine xG (PO.lenSl u100 Et) ?_
 refine bD ?_
 refine wn [0, 1, 2, 7, 8, 10, 11, 12, 20] ?_
 refine gE ?_; intros
 refine wc (fun c20 => ?_) fun c20 => ?_
 replace c20 := dT c20
 rw [List.drop_eq_nil_of_le (by omega)] at hJ
 refine gD ?_; intros
 refine xC ?_
 refine wn [6] ?_
 refine WC.ret (wR (h) ?_)
 exact ⟨by rw [hJ]; rfl, rfl⟩
 replace c20 := dF c20
 obtain ⟨kd, hkd⟩ := get_some (l := ks) (k := i) (by omega)
 rw [drop_at hkd] at hJ
 refine WC.skip (kp [0, 1, 2, 7, 8, 10, 11, 12] ?_)
 refine gE ?_; intros
 refine dS [6] (.op 0 (.op 1 (.op 2 (.op 3 (.op 4 (.op 5 (.op 6 .nil))))))) [7, 8] mixed ?_
 refine yG rfl (PO.move Et) ?_
 refine yG rfl (pA u27) ?_
 refine yG rfl (PO.move Et) ?_
 refine yG rfl (PO.move Et) ?_
 refine yG rfl (PO.idx EL100.und EL100.size EL100.posz (Ev.tmp rfl) (Ev.tmp rfl) Rr rfl (by omega)) ?_
 refine yG rfl (PO.loadF1 u24 rfl encI_len Rr (Ev.tmp rfl) (by assumption) rfl) ?_
 refine yf rfl (E1 Et) (fun fr => tof_ct _ _ _) ?_
 refine SR.nil rfl rfl ?_
 refine WL.callP (Ev.tmp rfl) (E2 (Ev.tmp rfl) (Ev.tmp rfl)) (hq x hxm kd _ Sb) Lb ?_
 refine xA ?_
 refine wn [0, 1, 2, 9, 10, 11, 12] ?_
 refine gD ?_; intros
 refine xM ?_
 refine bB ?_
 refine wn [0, 1, 2, 9, 10, 11, 12, 30] ?_
 refine gE ?_; intros
 refine wc (fun c30 => ?_) fun c30 => ?_
 replace c30 := t_ne c30
 have hJ : matchX f ks l = f x kd := by rw [hJ]; unfold matchX; rw [if_pos c30]
 refine gD ?_; intros
 refine xM ?_
 refine xA ?_
 refine wn [6] ?_
 refine WC.ret (wR (h) ?_)
 exact ⟨by rw [hJ], rfl⟩
 replace c30 := f_ne c30
 have hJ : matchX f ks l = matchX f (ks.drop (i + 1)) (l.drop (i + 1)) := by
   rw [hJ]
   show (if f x kd ≠ 0 then f x kd else matchX f (ks.drop (i + 1)) (l.drop (i + 1))) = _
   rw [if_neg (by simpa using c30)]
 refine WC.skip (kp [0, 1, 2, 10, 11, 12] ?_)
 refine gD ?_; intros
 refine bI ?_
 refine xM ?_
 refine WL.nil (loopBackI (l.length - (i + 1)) [(12, .int .i64 (i + 1))] (h'' := h) (by omega) ?_ Su Sb ⟨i + 1, ⟨⟨by omega, by omega⟩, hJ⟩, rfl, rfl, rfl⟩)
 exact Su
 replace c13 := dF c13
 rw [show l.drop i = [] from List.drop_eq_nil_of_le (by omega)] at hJ
 refine WC.exit (kp [0, 1] ?_)
 refine gD ?_; intros
 refine xM ?_
 refine xG (PO.lenSl u25 Et) ?_
 refine xM ?_
 refine xG (PO.lenSl u100 Et) ?_
 refine bD ?_
 refine wn [37] ?_
 refine gE ?_; intros
 refine wc (fun c37 => ?_) fun c37 => ?_
 replace c37 := dT c37
 obtain ⟨kd, hkd⟩ := get_some (l := ks) (k := i) (by omega)
 rw [drop_at hkd] at hJ
 refine gD ?_; intros
 refine xC ?_
 refine wn [6] ?_
 refine WC.ret (wR (h) ?_)
 exact ⟨by rw [hJ]; rfl, rfl⟩
 replace c37 := dF c37
 rw [List.drop_eq_nil_of_le (by omega)] at hJ
 refine WC.skip (kp [] ?_)
 refine gD ?_; intros
 refine xC ?_
 refine wn [6] ?_
 refine WC.ret (wR (h) ?_)
 exact ⟨by rw [hJ]; rfl, rfl⟩
def findV (cs : Bool) (tag : B) : List Vr → Option Vr
 | [] => none
 | v :: r => if cs && (v.tag == tag) then some v else findV cs tag r
theorem findV_cons (cs : Bool) (tag : B) (v : Vr) (r : List Vr) : findV cs tag (v :: r) = if cs && (v.tag == tag) then some v else findV cs tag r := rfl
theorem findV_mem {cs : Bool} {tag : B} : ∀ {l : List Vr} {v : Vr}, findV cs tag l = some v → v ∈ l
 | x :: r, v, h => by
   unfold findV at h
   split at h
   · cases h; exact List.Mem.head _
   · exact List.Mem.tail _ (findV_mem h)
theorem variantX_find (cs : Bool) (tag : B) : ∀ l : List Vr, variantX (cs, prS l) tag = match findV cs tag l with | some v => .ok v.items | none => .error 130
 | [] => by cases cs <;> rfl
 | v :: r => by
   have ih := variantX_find cs tag r
   unfold findV
   cases cs with
   | false =>
     rw [Bool.false_and, if_neg (by decide), ← ih]
     rfl
   | true =>
     rw [Bool.true_and]
     unfold variantX at ih ⊢
     rw [show prS (v :: r) = (v.tag, v.items) :: prS r from rfl]
     simp only [if_true, List.find?_cons] at ih ⊢
     cases hv : v.tag == tag with
     | true => rfl
     | false => simpa using ih
def itA (r : Option Vr) : Option Addr := match r with | some v => v.a | none => none
def itN (r : Option Vr) : Nat := match r with | some v => v.n | none => 0
def itC (r : Option Vr) : Nat := match r with | some v => v.c | none => 0
def itL (r : Option Vr) : List Int := match r with | some v => v.items | none => []
def itE (r : Option Vr) : Int := match r with | some _ => 0 | none => 130
def varV (r : Option Vr) : Value := .tuple #[.slice (itA r) (itN r) (itC r), .int .i64 (itE r)]
theorem variantX_it (cs : Bool) (tag : B) (l : List Vr) : variantX (cs, prS l) tag = if itE (findV cs tag l) = 0 then .ok (itL (findV cs tag l)) else .error (itE (findV cs tag l)) := by
 rw [variantX_find]
 cases findV cs tag l <;> rfl
theorem it_rd {m : View} {h : List Res} {a : Option Addr} {k c : Nat} {l : List Vr} (hp : PrOk m h a k c l) (cs : Bool) (tag : B) : Rd m h (itA (findV cs tag l)) (itN (findV cs tag l)) (itC (findV cs tag l)) 1 (fl encI (itL (findV cs tag l))) := by
 cases hv : findV cs tag l with
 | none => exact Rd.nilF encI 1 m h
 | some v => exact (hp.ok v (findV_mem hv)).rd
theorem variant_ct {m : View} {h : List Res} (cs : Bool) (a : Option Addr) (c : Nat) (l : List Vr) (tag : B) (hp : PrOk m h a l.length c l) :
   CT Tryz.prog 88 [Go.Ty.prV cs a l.length c, str tag] h m (Pure1 h (varV (findV cs tag l))) := by
 obtain ⟨hs, hv, ht⟩ := hp
 have hmx := hs.mx
 have hle := hs.le
 refine CT.body Tryz.call88 Tryz.func88 rfl Tryz.ntmps88 Lb rfl ?_
 refine gD ?_; intros
 refine xX fun b2 => ?_
 refine xC ?_
 refine xC ?_
 refine wn [1, 2] ?_
 refine gD ?_; intros
 refine xF u51 ?_
 refine xG (pL u49) ?_
 refine xG (PO.lenSl u49 Et) ?_
 refine xK ?_
 refine wn [1, 2, 9, 10, 11] ?_
 refine gE ?_; intros
 refine WC.loopI [1, 2, 9, 10] rfl (fun μ F' h' => ∃ i : Nat, (i ≤ l.length ∧ findV cs tag l = findV cs tag (l.drop i)) ∧ l.length - i = μ ∧ F' = [(11, .int .i64 i)] ∧ .pt b2 (.cells (prL cs a l.length c).toArray 51 (0, 0)) :: h = h') (l.length - 0) [(11, .int .i64 0)] (h0 := .pt b2 (.cells (prL cs a l.length c).toArray 51 (0, 0)) :: h) ?_ Sb ⟨0, ⟨by omega, rfl⟩, rfl, rfl, rfl⟩ ?_
 exact Su
 rintro _ _ _ ⟨i, ⟨hk, hJ⟩, rfl, rfl, rfl⟩
 refine WC.frm rfl ?_
 refine gD ?_; intros
 refine bD ?_
 refine wn [1, 2, 9, 10, 11, 12] ?_
 refine gE ?_; intros
 refine wc (fun c12 => ?_) fun c12 => ?_
 replace c12 := dT c12
 obtain ⟨v, hx⟩ := get_some (l := l) (k := i) (by omega)
 rw [drop_at hx, findV_cons] at hJ
 refine WC.skip (kp [1, 2, 9, 10, 11] ?_)
 refine gD ?_; intros
 refine xG (PO.idx EL49.und EL49.size EL49.posz (Ev.tmp rfl) (Ev.tmp rfl) Rr rfl (by omega)) ?_
 refine xG (PO.loadFA u102 rfl rfl encV_len Rr (Ev.tmp rfl) (by assumption) rfl rfl (Nat.succ_pos _)) ?_
 refine xW fun b7 => ?_
 refine xS ?_
 refine wn [1, 2, 7, 9, 10, 11] ?_
 refine gG ?_; intros; rename_i ops hG
 refine xF u51 ?_
 refine xG (pL u4) ?_
 refine xM ?_
 refine zG (fun _ => pF u102) ?_
 refine zG (fun hc => PO.load1 u9 rfl (Eg hc) Me rfl) ?_
 refine zM ?_
 refine zG (fun hc => PO.eqlS (Eg hc) (Eg hc)) ?_
 refine xP ?_
 refine wn [1, 2, 7, 9, 10, 11, 22] ?_
 try clear hG ops
 refine gE ?_; intros
 refine wc (fun c22 => ?_) fun c22 => ?_
 have d22 : (cs && (v.tag == tag)) = true := c22
 rw [if_pos d22] at hJ
 refine gD ?_; intros
 refine xF u102 ?_
 refine xG (pL u100) ?_
 refine xA ?_
 refine xC ?_
 refine wn [4, 5] ?_
 refine WC.ret (end2 (h' := h) (.inl rfl) rfl (RV.tmp rfl) (RV.tmp rfl) (View.le.refl m) Sb ?_)
 exact ⟨by rw [hJ]; rfl, rfl⟩
 have d22 : ¬ (cs && (v.tag == tag)) = true := by rw [show (cs && (v.tag == tag)) = false from c22]; decide
 rw [if_neg d22] at hJ
 refine WC.skip (kp [1, 2, 9, 10, 11] ?_)
 refine gD ?_; intros
 refine bI ?_
 refine xM ?_
 refine WL.nil (loopBackI (l.length - (i + 1)) [(11, .int .i64 (i + 1))] (h'' := .pt b2 (.cells (prL cs a l.length c).toArray 51 (0, 0)) :: h) (by omega) ?_ Su Sb ⟨i + 1, ⟨by omega, hJ⟩, rfl, rfl, rfl⟩)
 exact Su
 replace c12 := dF c12
 rw [List.drop_eq_nil_of_le (by omega)] at hJ
 refine WC.exit (kp [] ?_)
 refine gD ?_; intros
 refine xC ?_
 refine xC ?_
 refine wn [4, 5] ?_
 refine WC.ret (end2 (h' := h) (.inl rfl) rfl (RV.tmp rfl) (RV.tmp rfl) (View.le.refl m) Sb ?_)
 exact ⟨by rw [hJ]; rfl, rfl⟩
def PzS (m : View) (hb : List Res) (r : Except Int Pz) (hs : List Res) (v : Value) : Prop := ∃ (cs : Bool) (a : Option Addr) (c : Nat) (l : List Vr),
 v = .tuple #[Go.Ty.prV cs a l.length c, .int .i64 (errT r)] ∧ PrOk m (hb ++ hs) a l.length c l ∧ ∀ p, r = .ok p → p = (cs, prS l)
def PzR (m : View) (hb h : List Res) (r : Except Int Pz) (v : Value) (h' : List Res) : Prop := ∃ hs, h' = h ++ hs ∧ PzS m hb r hs v
theorem prNil (m : View) (h : List Res) : PrOk m h none 0 0 [] := ⟨Rd.nilF encV 2 m h, fun _ hv => (by cases hv), fun _ hv => (by cases hv)⟩
theorem pr_perm {m : View} {h h' : List Res} {a : Option Addr} {k c : Nat} {l : List Vr} (q : PrOk m h a k c l) (p : h.Perm h') : PrOk m h' a k c l :=
 ⟨q.rd.permH p, fun v hv => ⟨(q.ok v hv).rd.permH p⟩, q.tag⟩
set_option maxHeartbeats 1000000 in
theorem protocol_ct {m : View} {hb h : List Res} {s : List En} {a : Option Addr} {k c : Nat} (hg : Glob m) (hs : ScR m hb a k c s) (hh : hb.Sublist h) (t : Ty) (n : Nat) (hn : n ≤ s.length) :
   CT Tryz.prog 137 [.slice a k c, hdV ⟨t, n⟩] h m (fun v _ h' => PzR m hb h (protoX (shL s) ⟨t, n⟩) v h') := by
 refine CT.swap ?_
 have hl := hs.rd.lenF enE_len (by decide)
 have hmx := hs.rd.mx
 have hle := hs.rd.le
 subst hl
 have hbd := findE_lt (shL s) t.proto n
 have hs0 := hs
 replace hs := hs.mono hh
 refine CT.body Tryz.call137 Tryz.func137 rfl Tryz.ntmps137 Lb rfl ?_
 refine gD ?_; intros
 refine xX fun b3 => ?_
 refine xW fun b4 => ?_
 refine xC ?_
 refine wn [0, 3, 4] ?_
 refine gD ?_; intros
 refine xF u76 ?_
 refine xF u30 ?_
 refine xG (pL u9) ?_
 refine xG (PO.eqlS Et Ev.const) ?_
 refine wn [0, 3, 4, 10] ?_
 refine gE ?_; intros
 refine wc (fun c10 => ?_) fun c10 => ?_
 have ht : t.proto = [] := by simpa using c10
 have hP : protoX (shL s) ⟨t, n⟩ = .ok (false, [([], [t.item])]) := by unfold protoX; rw [if_pos ht]
 refine gD ?_; intros
 refine xF u76 ?_
 refine xF u30 ?_
 refine xG (pL u24) ?_
 refine xY EL100 (EvP.cons Et EvP.nil) fun b14 => ?_
 refine xG (PO.build u102 rfl rfl rfl (EvP.cons Et EvP.nil) rfl) ?_
 refine xY EL49 (EvP.cons Et EvP.nil) fun b16 => ?_
 refine xG (PO.build u51 rfl rfl rfl (EvP.cons Et EvP.nil) rfl) ?_
 refine xS ?_
 refine xC ?_
 refine wn [4, 5] ?_
 refine WC.ret (end2 (h' := .pt b16 (.cells (encV ⟨[], some ⟨b14, 0, none⟩, 1, 1, [t.item]⟩).toArray 102 (0, 0)) :: .pt b14 (.cells [.int .u8 t.item].toArray 24 (0, 0)) :: h) (.inl rfl) rfl (RV.cellA u51 rfl rfl rfl Me rfl) (RV.tmp rfl) (View.le.refl m) Sb ?_)
 refine ⟨[_, _], rfl, false, some ⟨b16, 0, none⟩, 1, [⟨[], some ⟨b14, 0, none⟩, 1, 1, [t.item]⟩], by rw [hP]; rfl, ⟨Rd.ofPt rfl Lb (List.mem_append_right _ Me), fun v hv => ?_, fun v hv => ?_⟩, fun p hp => by rw [hP] at hp; cases hp; rfl⟩
 · cases List.mem_singleton.1 hv
   exact ⟨Rd.ofPt rfl Lb (List.mem_append_right _ Me)⟩
 · cases List.mem_singleton.1 hv
   exact Nat.zero_le _
 have ht : ¬ t.proto = [] := by simpa using c10
 have hP : protoX (shL s) ⟨t, n⟩ = if findE (shL s) t.proto n < 0 then .error 120 else match (shL s)[(findE (shL s) t.proto n).toNat]? with | some x => if x.k ≠ 4 ∨ x.ok = false then .error 130 else .ok (x.cs, x.vs) | none => .error 130 := by unfold protoX; rw [if_neg ht]; rfl
 refine WC.skip (kp [0, 3, 4] ?_)
 refine gD ?_; intros
 refine xM ?_
 refine xF u76 ?_
 refine xG (pL u3) ?_
 refine xF u76 ?_
 refine xF u30 ?_
 refine xG (pL u9) ?_
 refine xf (E3 Et Et Et) (findR_ct (hs.mono Sb) t.proto n hn) ?_
 refine xA ?_
 refine wn [0, 4, 6] ?_
 refine gD ?_; intros
 refine xM ?_
 refine bB ?_
 refine xA ?_
 refine wn [0, 4, 6, 25] ?_
 refine gE ?_; intros
 refine wc (fun c25 => ?_) fun c25 => ?_
 replace c25 := dT c25
 rw [if_pos c25] at hP
 refine gD ?_; intros
 refine xG (PO.build u51 rfl rfl rfl EvP.nil rfl) ?_
 refine xS ?_
 refine xC ?_
 refine wn [4, 5] ?_
 refine WC.ret (end2 (h' := h) (.inl rfl) rfl (RV.cellA u51 rfl rfl rfl Me rfl) (RV.tmp rfl) (View.le.refl m) Sb ?_)
 exact ⟨[], rfl, false, none, 0, [], by rw [hP]; rfl, prNil _ _, fun p hp => by rw [hP] at hp; cases hp⟩
 replace c25 := dF c25
 rw [if_neg c25] at hP
 obtain ⟨q, hq⟩ : ∃ q : Nat, findE (shL s) t.proto n = q := ⟨(findE (shL s) t.proto n).toNat, by omega⟩
 obtain ⟨x, hx⟩ := get_some (l := s) (k := q) (by omega)
 have hxm := List.mem_of_getElem? hx
 have hpx := hs.pr x hxm
 rw [hq, Int.toNat_natCast, shL_get hx] at hP
 replace hP : protoX (shL s) ⟨t, n⟩ = if x.sp.k ≠ 4 ∨ Go.Ty.mayPr x.sp.cs x.sp.vs.l = false then .error 130 else .ok (x.sp.cs, prS x.sp.vs.l) := hP
 have hrd : Rd m (.pt b4 (.cells (prL false none 0 0).toArray 51 (0, 0)) :: .pt b3 (.cells (hdE ⟨t, n⟩).toArray 76 (0, 0)) :: h) a s.length c 17 (fl enE s) := hs.rd.mono (View.le.refl _) Sb
 rw [hq]
 refine gD ?_; intros
 refine xM ?_
 refine xM ?_
 refine xG (PO.idx EL79.und EL79.size EL79.posz (Ev.tmp rfl) (Ev.tmp rfl) Rr rfl (by omega)) ?_
 refine xG (PO.fieldF u104 rfl (Nat.ne_of_beq_eq_false rfl) enE_len (Nat.succ_pos _) Rr (by assumption) (Ev.tmp rfl)) ?_
 refine xG (PO.fieldF u54 rfl (Nat.ne_of_beq_eq_false rfl) enE_len (Nat.succ_pos _) Rr (by assumption) (Ev.tmp rfl)) ?_
 refine xG (PO.loadFf u47 rfl enE_len Rr (Ev.tmp rfl) (by assumption) rfl) ?_
 refine bB ?_
 refine xA ?_
 refine wn [0, 4, 6, 29] ?_
 (repeat refine WC.seqK fun K hK => ?_)
 refine WC.cutK (by assumption) [0, 4, 6] rfl (fun F' h' => ∃ bb : Bool, (bb = true ↔ (x.sp.k ≠ 4 ∨ Go.Ty.mayPr x.sp.cs x.sp.vs.l = false)) ∧ F' = [(29, .bool bb)] ∧ .pt b4 (.cells (prL false none 0 0).toArray 51 (0, 0)) :: .pt b3 (.cells (hdE ⟨t, n⟩).toArray 76 (0, 0)) :: h = h') ?_ ?_
 refine gE ?_; intros
 refine wc (fun c29 => ?_) fun c29 => ?_
 have ca : (x.sp.k != 4) = true := c29
 refine WC.skip (meetI [(29, .bool ((x.sp.k != 4)))] (h'' := .pt b4 (.cells (prL false none 0 0).toArray 51 (0, 0)) :: .pt b3 (.cells (hdE ⟨t, n⟩).toArray 76 (0, 0)) :: h) ?_ Su Sb ⟨(x.sp.k != 4), ⟨fun _ => .inl (by simpa using ca), fun _ => ca⟩, rfl, rfl⟩)
 exact Su
 have ca : (x.sp.k != 4) = false := c29
 refine gD ?_; intros
 refine xM ?_
 refine xM ?_
 refine xG (PO.idx EL79.und EL79.size EL79.posz (Ev.tmp rfl) (Ev.tmp rfl) Rr rfl (by omega)) ?_
 refine xG (PO.fieldF u104 rfl (Nat.ne_of_beq_eq_false rfl) enE_len (Nat.succ_pos _) Rr (by assumption) (Ev.tmp rfl)) ?_
 refine xG (PO.fieldF u54 rfl (Nat.ne_of_beq_eq_false rfl) enE_len (Nat.succ_pos _) Rr (by assumption) (Ev.tmp rfl)) ?_
 refine xG (PO.loadFfA u51 rfl rfl enE_len Rr (Ev.tmp rfl) (by assumption) rfl rfl (Nat.succ_pos _)) ?_
 refine xf (E1 Et) (Ty9.mayProto_ct x.sp.cs x.sp.vs.a x.sp.vs.l.length x.sp.vs.c x.sp.vs.l _ _ hg (hpx.mono (View.le.refl _) Sb)) ?_
 refine xG (PO.not Et) ?_
 refine xA ?_
 refine WL.nil (meetI [(29, .bool ((!Go.Ty.mayPr x.sp.cs x.sp.vs.l)))] (h'' := .pt b4 (.cells (prL false none 0 0).toArray 51 (0, 0)) :: .pt b3 (.cells (hdE ⟨t, n⟩).toArray 76 (0, 0)) :: h) ?_ Su Sb ⟨(!Go.Ty.mayPr x.sp.cs x.sp.vs.l), ⟨fun hk => .inr (by simpa using hk), fun hk => hk.elim (fun h1 => absurd (by simpa using ca) h1) (fun h1 => by rw [h1]; rfl)⟩, rfl, rfl⟩)
 exact Su
 rintro _ _ ⟨bb, hbb, rfl, rfl⟩
 refine WC.frm rfl ?_
 refine gE ?_; intros
 refine wc (fun c29 => ?_) fun c29 => ?_
 rw [if_pos (hbb.1 c29)] at hP
 refine gD ?_; intros
 refine xG (PO.build u51 rfl rfl rfl EvP.nil rfl) ?_
 refine xS ?_
 refine xC ?_
 refine wn [4, 5] ?_
 refine WC.ret (end2 (h' := h) (.inl rfl) rfl (RV.cellA u51 rfl rfl rfl Me rfl) (RV.tmp rfl) (View.le.refl m) Sb ?_)
 exact ⟨[], rfl, false, none, 0, [], by rw [hP]; rfl, prNil _ _, fun p hp => by rw [hP] at hp; cases hp⟩
 rw [if_neg (fun h1 => by rw [hbb.2 h1] at c29; cases c29)] at hP
 refine WC.skip (kp [0, 4, 6] ?_)
 refine gD ?_; intros
 refine xM ?_
 refine xM ?_
 refine xG (PO.idx EL79.und EL79.size EL79.posz (Ev.tmp rfl) (Ev.tmp rfl) Rr rfl (by omega)) ?_
 refine xG (PO.fieldF u104 rfl (Nat.ne_of_beq_eq_false rfl) enE_len (Nat.succ_pos _) Rr (by assumption) (Ev.tmp rfl)) ?_
 refine xG (PO.fieldF u54 rfl (Nat.ne_of_beq_eq_false rfl) enE_len (Nat.succ_pos _) Rr (by assumption) (Ev.tmp rfl)) ?_
 refine xG (PO.loadFfA u51 rfl rfl enE_len Rr (Ev.tmp rfl) (by assumption) rfl rfl (Nat.succ_pos _)) ?_
 refine xS ?_
 refine xC ?_
 refine wn [4, 5] ?_
 refine WC.ret (end2 (h' := h) (.inl rfl) rfl (RV.cellA u51 rfl rfl rfl Me rfl) (RV.tmp rfl) (View.le.refl m) Sb ?_)
 exact ⟨[], rfl, x.sp.cs, x.sp.vs.a, x.sp.vs.c, x.sp.vs.l, by rw [hP]; rfl, (hs0.pr x hxm).mono (View.le.refl _) (List.sublist_append_left _ _), fun p hp => by rw [hP] at hp; cases hp; rfl⟩
end Go.Proofs.YtdhmplmpbcnojaaGreatDoor
end
/- TpI -/
section
namespace Go.Proofs.YtdhmplmpbcnojaaGreatDoor
open Go.Eng Go.Pc Go.Tg Go
open Go.Xp hiding B nameT
open Go.Ty (Ty Vr eqT tyV cellT zeroT PrOk VOk prL encV encV_len encI encI_len)
open Go.Lx (encB encB_len)
set_option maxRecDepth 100000
theorem ScR.arOk {m : View} {h : List Res} {a : Option Addr} {k c : Nat} {s : List En} (q : ScR m h a k c s) : ArOk (shL s) := by
 intro i x hx
 unfold shL at hx
 rw [List.getElem?_map] at hx
 cases hy : s[i]? with
 | none => rw [hy] at hx; cases hx
 | some y =>
   rw [hy] at hx
   cases hx
   exact q.ar i y hy
set_option maxHeartbeats 1000000 in
theorem channel_ct {m : View} {hb h : List Res} {s : List En} {a : Option Addr} {k c : Nat} (hg : Glob m) (hs0 : ScR m hb a k c s) (hh : hb.Sublist h) (e : Ex) (kind : Int) (hx : XOk m h e) :
   CT Tryz.prog 87 [.slice a k c, exV e, .int .u8 kind] h m (fun v _ h' => PzR m hb h (chanX (shL s) e kind) v h') := by
 have hs := hs0.mono hh
 have hl := hs.rd.lenF enE_len (by decide)
 subst hl
 refine CT.body Tryz.call87 Tryz.func87 rfl Tryz.ntmps87 Lb rfl ?_
 refine gD ?_; intros
 refine xX fun b4 => ?_
 refine xW fun b6 => ?_
 refine xC ?_
 refine wn [0, 2, 4, 6] ?_
 refine gD ?_; intros
 refine xM ?_
 refine xG (pA u27) ?_
 refine xg (E2 Et Et) (typeOfR_ct (hs.mono Sb) e (hx.mono Sb)) ?_
 rintro _ _ ⟨hd, rfl, hhd, rfl⟩
 refine xM ?_
 refine xE ?_
 refine xE ?_
 refine xW fun b8 => ?_
 refine xS ?_
 refine xA ?_
 refine wn [0, 2, 6, 8, 9] ?_
 refine gD ?_; intros
 refine xM ?_
 refine bB ?_
 refine xA ?_
 refine wn [0, 2, 6, 8, 9, 16] ?_
 refine gE ?_; intros
 refine wc (fun c16 => ?_) fun c16 => ?_
 replace c16 := t_ne c16
 obtain ⟨w, hw⟩ : ∃ w, typX (shL s) e = .error w := by
   cases hw : typX (shL s) e with
   | error w => exact ⟨w, rfl⟩
   | ok q => rw [hw] at c16; exact absurd rfl c16
 have hP : chanX (shL s) e kind = .error w := by unfold chanX; rw [hw]
 refine gD ?_; intros
 refine xG (PO.build u51 rfl rfl rfl EvP.nil rfl) ?_
 refine xM ?_
 refine xS ?_
 refine xA ?_
 refine wn [6, 7] ?_
 refine WC.ret (end2 (h' := h) (.inl rfl) rfl (RV.cellA u51 rfl rfl rfl Me rfl) (RV.tmp rfl) (View.le.refl m) Sb ?_)
 exact ⟨[], (List.append_nil _).symm, false, none, 0, [], by rw [hP, hw]; rfl, prNil _ _, fun p hp => by rw [hP] at hp; cases hp⟩
 replace c16 := f_ne c16
 have hE := okE (typX_err s e) c16 hhd
 have hP : chanX (shL s) e kind = if kind = 5 ∧ eqT hd.t (tyK kind) then .ok (false, []) else if kind = 5 ∨ hd.t.kind ≠ kind ∨ hd.t.dim ≠ 0 then .error 130 else protoX (shL s) hd := by unfold chanX; rw [hE]
 have har := typX_ar hs.arOk e hd hE
 rw [shL_len] at har
 obtain ⟨nn, hnn⟩ : ∃ nn : Nat, hd.ar = nn := ⟨hd.ar.toNat, by omega⟩
 obtain ⟨ht, hda⟩ := hd
 replace hnn : hda = (nn : Int) := hnn
 replace har : 0 ≤ hda ∧ hda ≤ (s.length : Int) := har
 subst hnn
 refine gE ?_; intros
 refine dS [6] (.op 0 (.op 1 (.op 2 (.op 3 (.op 4 (.op 5 (.op 6 .nil))))))) [7, 8, 9] mixed ?_
 refine yG rfl (PO.move Et) ?_
 refine yG rfl (PO.bin Et Ev.const rfl) ?_
 refine yG rfl (PO.move Et) ?_
 refine SR.poG rfl rfl (GU.t rfl rfl) (fun hc => PO.fieldAddr u76 rfl (Nat.ne_of_beq_eq_false rfl) Et) Lb ?_
 refine SR.poG rfl rfl (GU.t rfl rfl) (fun hc => PO.loadA u30 rfl rfl (Eg hc) Me rfl) Lb ?_
 refine SR.poG rfl rfl (GU.t rfl rfl) (fun hc => PO.move Et) Lb ?_
 refine SR.callG rfl rfl (GU.t rfl rfl) (fun hc => ⟨Ev.func, (E1 (Eg hc)), fun fr => tof_ct _ _ _⟩) Lb ?_
 refine SR.nil rfl rfl ?_
 refine WL.poG (GU.t rfl rfl) (fun hc => PO.eqlA u30 (by kernel_rfl) (by kernel_rfl) (Eg hc) (Eg hc) rfl) Lb ?_
 refine xP ?_
 refine xA ?_
 refine wn [0, 2, 6, 8, 21] ?_
 try clear hG ops
 refine gE ?_; intros
 refine wc (fun c21 => ?_) fun c21 => ?_
 have d21 : kind = 5 ∧ eqT ht (tyK kind) = true := by
   have : ((kind == 5) && eqT ht (tyK kind)) = true := c21
   simpa using this
 rw [if_pos d21] at hP
 refine gD ?_; intros
 refine xG (PO.build u51 rfl rfl rfl EvP.nil rfl) ?_
 refine xS ?_
 refine xC ?_
 refine wn [6, 7] ?_
 refine WC.ret (end2 (h' := h) (.inl rfl) rfl (RV.cellA u51 rfl rfl rfl Me rfl) (RV.tmp rfl) (View.le.refl m) Sb ?_)
 exact ⟨[], (List.append_nil _).symm, false, none, 0, [], by rw [hP]; rfl, prNil _ _, fun p hp => by rw [hP] at hp; cases hp; rfl⟩
 have d21 : ¬ (kind = 5 ∧ eqT ht (tyK kind) = true) := by
   have : ((kind == 5) && eqT ht (tyK kind)) = false := c21
   intro q
   rw [q.2] at this
   simp [q.1] at this
 rw [if_neg d21] at hP
 refine gD ?_; intros
 refine xM ?_
 refine bB ?_
 refine xA ?_
 refine wn [0, 2, 6, 8, 32] ?_
 (repeat refine WC.seqK fun K hK => ?_)
 refine WC.cutK (by assumption) [0, 6, 8] rfl (fun F' h' => ∃ bb : Bool, (bb = true ↔ (kind = 5 ∨ ht.kind ≠ kind ∨ ht.dim ≠ 0)) ∧ F' = [(32, .bool bb)] ∧ .pt b8 (.cells (hdE ⟨ht, nn⟩).toArray 76 (0, 0)) :: .pt b6 (.cells (prL false none 0 0).toArray 51 (0, 0)) :: .pt b4 (.cells (exE e).toArray 27 (0, 0)) :: h = h') ?_ ?_
 refine gE ?_; intros
 refine wc (fun c32 => ?_) fun c32 => ?_
 have ca : (kind == 5) = true := c32
 refine WC.skip (meetI [(32, .bool ((kind == 5)))] (h'' := .pt b8 (.cells (hdE ⟨ht, nn⟩).toArray 76 (0, 0)) :: .pt b6 (.cells (prL false none 0 0).toArray 51 (0, 0)) :: .pt b4 (.cells (exE e).toArray 27 (0, 0)) :: h) ?_ Su Sb ⟨(kind == 5), ⟨fun _ => .inl (by simpa using ca), fun _ => ca⟩, rfl, rfl⟩)
 exact Su
 have ca : (kind == 5) = false := c32
 refine gD ?_; intros
 refine xF u76 ?_
 refine xF u30 ?_
 refine xG (pL u24) ?_
 refine xM ?_
 refine bD ?_
 refine xA ?_
 refine wn [0, 6, 8, 32] ?_
 refine gE ?_; intros
 refine wc (fun c32 => ?_) fun c32 => ?_
 have cb : (ht.kind != kind) = true := c32
 refine WC.skip (meetI [(32, .bool ((ht.kind != kind)))] (h'' := .pt b8 (.cells (hdE ⟨ht, nn⟩).toArray 76 (0, 0)) :: .pt b6 (.cells (prL false none 0 0).toArray 51 (0, 0)) :: .pt b4 (.cells (exE e).toArray 27 (0, 0)) :: h) ?_ Su Sb ⟨(ht.kind != kind), ⟨fun _ => .inr (.inl (by simpa using cb)), fun _ => cb⟩, rfl, rfl⟩)
 exact Su
 have cb : (ht.kind != kind) = false := c32
 refine gD ?_; intros
 refine xF u76 ?_
 refine xF u30 ?_
 refine xG (pL u3) ?_
 refine bB ?_
 refine xA ?_
 refine WL.nil (meetI [(32, .bool ((ht.dim != 0)))] (h'' := .pt b8 (.cells (hdE ⟨ht, nn⟩).toArray 76 (0, 0)) :: .pt b6 (.cells (prL false none 0 0).toArray 51 (0, 0)) :: .pt b4 (.cells (exE e).toArray 27 (0, 0)) :: h) ?_ Su Sb ⟨(ht.dim != 0), ⟨fun hk => .inr (.inr (by simpa using hk)), fun hk => hk.elim (fun h1 => absurd h1 (by simpa using ca)) (fun h1 => h1.elim (fun h2 => absurd (by simpa using cb) h2) (fun h2 => by simpa using h2))⟩, rfl, rfl⟩)
 exact Su
 rintro _ _ ⟨bb, hb, rfl, rfl⟩
 refine WC.frm rfl ?_
 refine gE ?_; intros
 refine wc (fun c32 => ?_) fun c32 => ?_
 rw [if_pos (hb.1 c32)] at hP
 refine gD ?_; intros
 refine xG (PO.build u51 rfl rfl rfl EvP.nil rfl) ?_
 refine xS ?_
 refine xC ?_
 refine wn [6, 7] ?_
 refine WC.ret (end2 (h' := h) (.inl rfl) rfl (RV.cellA u51 rfl rfl rfl Me rfl) (RV.tmp rfl) (View.le.refl m) Sb ?_)
 exact ⟨[], (List.append_nil _).symm, false, none, 0, [], by rw [hP]; rfl, prNil _ _, fun p hp => by rw [hP] at hp; cases hp⟩
 rw [if_neg (fun q => by rw [hb.2 q] at c32; cases c32)] at hP
 refine WC.skip (kp [0, 6, 8] ?_)
 refine gD ?_; intros
 refine xM ?_
 refine xG (pA u76) ?_
 refine xg (E2 Et Et) (protocol_ct hg hs0 (hh.trans Sb) ht nn (by omega)) ?_
 rintro _ _ ⟨hs2, rfl, cs, a2, c2, l2, rfl, hpr, hpl⟩
 refine xE ?_
 refine xE ?_
 refine xS ?_
 refine xA ?_
 refine wn [6, 7] ?_
 refine WC.ret (end2 (h' := h ++ hs2) (.inl rfl) rfl (RV.cellA u51 rfl rfl rfl Me rfl) (RV.tmp rfl) (View.le.refl m) Sb ?_)
 exact ⟨hs2, rfl, cs, a2, c2, l2, by rw [hP]; rfl, hpr, fun p hp => hpl p (by rw [← hP]; exact hp)⟩
theorem err_of {α : Type} {r : Except Int α} (h : errT r ≠ 0) : ∃ w, r = .error w := by
 cases r with
 | error w => exact ⟨w, rfl⟩
 | ok q => exact absurd rfl h
theorem chan_ok (s : List En) {e : Ex} {kind : Int} : ∀ w, chanX (shL s) e kind = .error w → w ≠ 0 := by
 intro w hw
 unfold chanX at hw
 split at hw
 · rename_i x hx
   cases hw
   exact typX_err s e _ hx
 · split at hw
   · cases hw
   · split at hw
     · cases hw; decide
     · unfold protoX at hw
       split at hw
       · cases hw
       · split at hw
         · cases hw; decide
         · split at hw
           · split at hw
             · cases hw; decide
             · cases hw
           · cases hw; decide
theorem ok_of {α : Type} {r : Except Int α} (hr : ∀ w, r = .error w → w ≠ 0) (h : errT r = 0) : ∃ p, r = .ok p := by
 cases r with
 | error w => exact absurd h (hr w rfl)
 | ok q => exact ⟨q, rfl⟩
structure LXk (m : View) (h : List Res) (l : Sli Ex) : Prop where
 rd : Rd m h l.a l.l.length l.c 6 (fl exE l.l)
 ok : ∀ x ∈ l.l, XOk m h x
theorem LXk.mono {m : View} {h h' : List Res} {l : Sli Ex} (q : LXk m h l) (r : h.Sublist h') : LXk m h' l := ⟨q.rd.mono (View.le.refl m) r, fun x hx => (q.ok x hx).mono r⟩
theorem recv_ct {m : View} {h : List Res} {s : List En} {a : Option Addr} {k c : Nat} (hg : Glob m) (hs : ScR m h a k c s) (e : Ex) (hx : XOk m h e) (to : Sli Ex) (ho : LXk m h to) :
   CT Tryz.prog 86 [.slice a k c, exV e, to.v] h m (Pure1 h (.int .i64 (recvX (shL s) e to.l))) := by
 have hR : recvX (shL s) e to.l = match chanX (shL s) e 4 with | .error w => w | .ok p => if p.1 then 130 else matchX (setX (shL s)) (itemsX p) to.l := rfl
 obtain ⟨ta, tc, tl⟩ := to
 have hto := ho.rd
 refine CT.body Tryz.call86 Tryz.func86 rfl Tryz.ntmps86 Lb rfl ?_
 refine gD ?_; intros
 refine xX fun b4 => ?_
 refine xC ?_
 refine wn [0, 2, 4] ?_
 refine gD ?_; intros
 refine xM ?_
 refine xG (pA u27) ?_
 refine xg (E3 Et Et Ev.const) (channel_ct hg hs Sb e 4 (hx.mono Sb)) ?_
 rintro _ _ ⟨hs2, rfl, cs, a2, c2, l2, rfl, hpr, hpl⟩
 refine xM ?_
 refine xE ?_
 refine xE ?_
 refine xW fun b7 => ?_
 refine xS ?_
 refine xA ?_
 refine wn [0, 2, 7, 8] ?_
 refine gD ?_; intros
 refine xM ?_
 refine bB ?_
 refine xA ?_
 refine wn [0, 2, 7, 8, 15] ?_
 refine gE ?_; intros
 refine wc (fun c15 => ?_) fun c15 => ?_
 replace c15 := t_ne c15
 obtain ⟨w, hw⟩ := err_of c15
 rw [hw] at hR
 refine gD ?_; intros
 refine xM ?_
 refine xA ?_
 refine wn [6] ?_
 refine WC.ret (wR (h) ?_)
 exact ⟨by rw [hR, hw]; rfl, rfl⟩
 replace c15 := f_ne c15
 obtain ⟨p, hp⟩ := ok_of (chan_ok s) c15
 have hpe := hpl p hp
 subst hpe
 rw [hp] at hR
 dsimp only at hR
 refine gD ?_; intros
 refine xF u51 ?_
 refine xG (pL u4) ?_
 refine xA ?_
 refine wn [0, 2, 7, 19] ?_
 refine gE ?_; intros
 refine wc (fun c19 => ?_) fun c19 => ?_
 rw [c19, if_pos rfl] at hR
 refine gD ?_; intros
 refine xC ?_
 refine wn [6] ?_
 refine WC.ret (wR (h) ?_)
 exact ⟨by rw [hR], rfl⟩
 have hne := chanX_ne hp c19
 rw [c19, if_neg (by decide)] at hR
 have hln : 0 < l2.length := by
   cases l2 with
   | nil => exact absurd rfl hne
   | cons y r => exact Nat.succ_pos _
 obtain ⟨v, hv⟩ := get_some hln
 have hi : itemsX (false, prS l2) = v.items := by
   cases l2 with
   | nil => cases hv
   | cons y r => cases hv; rfl
 have hvr := (hpr.ok v (List.mem_of_getElem? hv)).rd
 have hrd := hpr.rd
 rw [hi] at hR
 refine WC.skip (kp [0, 2, 7] ?_)
 refine gD ?_; intros
 refine xF u51 ?_
 refine xG (pL u49) ?_
 refine xG (PO.idx EL49.und EL49.size EL49.posz (Ev.tmp rfl) Ev.const Rr rfl (q := 0) (by omega)) ?_
 refine xG (PO.fieldF u102 rfl (Nat.ne_of_beq_eq_false rfl) encV_len (Nat.succ_pos _) Rr (by assumption) (Ev.tmp rfl)) ?_
 refine xG (PO.loadFf u100 rfl encV_len Rr (Ev.tmp rfl) (by assumption) rfl) ?_
 refine xM ?_
 refine xM ?_
 refine xG (PO.makeFunc (E1 Et) Evs.nil) ?_
 refine xf (E3 Et Et Et) (match_ct 85 [.slice a k c] (setX (shL s)) _ _ _ v.items _ _ _ tl (hvr.mono (View.le.refl _) Sb) (hto.mono (View.le.refl _) Sb) (fun x hxm kd h2 hh2 => takes_ct (hs.mono (List.Sublist.trans Sb hh2)) x (tyK kd) ((ho.ok x hxm).mono (List.Sublist.trans Sb hh2)))) ?_
 refine xA ?_
 refine wn [6] ?_
 refine WC.ret (wR (h) ?_)
 exact ⟨by rw [hR], rfl⟩
theorem after_ct {m : View} {h : List Res} {s : List En} {a : Option Addr} {k c : Nat} (hg : Glob m) (hs : ScR m h a k c s) (e x : Ex) (he : XOk m h e) (hx : XOk m h x) :
   CT Tryz.prog 89 [.slice a k c, exV e, exV x] h m (Pure1 h (.int .i64 (afterX (shL s) e x))) := by
 have hR : afterX (shL s) e x = match chanX (shL s) e 5 with | .error w => w | .ok _ => isX (shL s) x (tyK 1) := rfl
 refine CT.body Tryz.call89 Tryz.func89 rfl Tryz.ntmps89 Lb rfl ?_
 refine gD ?_; intros
 refine xX fun b4 => ?_
 refine xX fun b5 => ?_
 refine xC ?_
 refine wn [0, 4, 5] ?_
 refine gD ?_; intros
 refine xM ?_
 refine xG (pA u27) ?_
 refine xg (E3 Et Et Ev.const) (channel_ct hg hs Sb e 5 (he.mono Sb)) ?_
 rintro _ _ ⟨hs2, rfl, cs, a2, c2, l2, rfl, _, _⟩
 refine xM ?_
 refine xE ?_
 refine xE ?_
 refine xW fun b7 => ?_
 refine xS ?_
 refine xA ?_
 refine wn [0, 5, 8] ?_
 refine gD ?_; intros
 refine xM ?_
 refine bB ?_
 refine wn [0, 5, 8, 16] ?_
 refine gE ?_; intros
 refine wc (fun c16 => ?_) fun c16 => ?_
 replace c16 := t_ne c16
 obtain ⟨w, hw⟩ := err_of c16
 rw [hw] at hR
 refine gD ?_; intros
 refine xM ?_
 refine xA ?_
 refine wn [6] ?_
 refine WC.ret (wR (h) ?_)
 exact ⟨by rw [hR, hw]; rfl, rfl⟩
 replace c16 := f_ne c16
 obtain ⟨p, hp⟩ := ok_of (chan_ok s) c16
 rw [hp] at hR
 dsimp only at hR
 refine WC.skip (kp [0, 5] ?_)
 refine gE ?_; intros
 refine dS [2] (.op 0 (.op 1 (.op 2 .nil))) [3, 4] mixed ?_
 refine yG rfl (PO.move Et) ?_
 refine yG rfl (pA u27) ?_
 refine yf rfl (E1 Ev.const) (fun fr => tof_ct _ _ _) ?_
 refine SR.nil rfl rfl ?_
 refine xf (E3 Et Et Et) (isR_ct (hs.mono Sb) x (tyK 1) (hx.mono Sb)) ?_
 refine xA ?_
 refine wn [6] ?_
 refine WC.ret (wR (h) ?_)
 exact ⟨by rw [hR], rfl⟩
end Go.Proofs.YtdhmplmpbcnojaaGreatDoor
end
/- TpJ -/
section
namespace Go.Proofs.YtdhmplmpbcnojaaGreatDoor
open Go.Eng Go.Pc Go.Tg Go
open Go.Xp hiding B nameT
open Go.Ty (Ty Vr eqT tyV cellT zeroT PrOk VOk prL encV encV_len encI encI_len)
open Go.Lx (encB encB_len)
set_option maxRecDepth 100000
section
variable {m : View} {h : List Res} {s : List En} {a : Option Addr} {k c : Nat}
theorem findI_ct (hs : ScR m h a k c s) (nm : B) (i : Int) (hi : 0 ≤ i ∧ i ≤ s.length) : CT Tryz.prog 67 [.slice a k c, .int .i64 i, str nm] h m (Pure1 h (.int .i64 (findE (shL s) nm i.toNat))) := by
 obtain ⟨n, rfl⟩ : ∃ n : Nat, i = n := ⟨i.toNat, by omega⟩
 exact findR_ct hs nm n (by omega)
end
theorem takesM {m : View} {h : List Res} {s : List En} {a : Option Addr} {k c : Nat} (hs : ScR m h a k c s) {l : Sli Ex} (hl : LXk m h l) : ∀ x ∈ l.l, ∀ kd h', h.Sublist h' → CT Tryz.prog 85 ([.slice a k c] ++ [exV x, tyV (tyK kd)] ++ []) h' m (Pure1 h' (.int .i64 (setX (shL s) x kd))) :=
 fun x hx kd _ hh => takes_ct (hs.mono hh) x (tyK kd) ((hl.ok x hx).mono hh)
theorem isM {m : View} {h : List Res} {s : List En} {a : Option Addr} {k c : Nat} (hs : ScR m h a k c s) {l : Sli Ex} (hl : LXk m h l) : ∀ x ∈ l.l, ∀ kd h', h.Sublist h' → CT Tryz.prog 41 ([.slice a k c] ++ [exV x, tyV (tyK kd)] ++ []) h' m (Pure1 h' (.int .i64 (giveX (shL s) x kd))) :=
 fun x hx kd _ hh => isR_ct (hs.mono hh) x (tyK kd) ((hl.ok x hx).mono hh)
theorem input_ct {m : View} {h : List Res} {s : List En} {a : Option Addr} {k c : Nat} (hg : Glob m) (hs : ScR m h a k c s) (p : Pr) (hx : XOk m h p.ch) (ho : LXk m h p.tg) :
   CT Tryz.prog 56 [.slice a k c, prV p] h m (Pure1 h (.int .i64 (inX (shL s) p.ch p.tg.l))) := by
 have hR : inX (shL s) p.ch p.tg.l = match typX (shL s) p.ch with | .error w => w | .ok h => if eqT h.t (tyK 5) then matchX (setX (shL s)) [1] p.tg.l else recvX (shL s) p.ch p.tg.l := rfl
 have hto := ho.rd
 refine CT.body Tryz.call56 Tryz.func56 rfl Tryz.ntmps56 Lb rfl ?_
 refine gD ?_; intros
 refine xX fun b3 => ?_
 refine xC ?_
 refine wn [0, 3] ?_
 refine gD ?_; intros
 refine xM ?_
 refine xF u56 ?_
 refine xG (pA u27) ?_
 refine xg (E2 Et Et) (typeOfR_ct (hs.mono Sb) p.ch (hx.mono Sb)) ?_
 rintro _ _ ⟨hd, rfl, hhd, rfl⟩
 refine xM ?_
 refine xE ?_
 refine xE ?_
 refine xW fun b5 => ?_
 refine xS ?_
 refine xA ?_
 refine wn [0, 3, 5, 6] ?_
 refine gD ?_; intros
 refine xM ?_
 refine bB ?_
 refine xA ?_
 refine wn [0, 3, 5, 6, 14] ?_
 refine gE ?_; intros
 refine wc (fun c14 => ?_) fun c14 => ?_
 replace c14 := t_ne c14
 obtain ⟨w, hw⟩ := err_of c14
 rw [hw] at hR
 refine gD ?_; intros
 refine xM ?_
 refine xA ?_
 refine wn [4] ?_
 refine WC.ret (wR (h) ?_)
 exact ⟨by rw [hR, hw]; rfl, rfl⟩
 replace c14 := f_ne c14
 have hE := okE (typX_err s p.ch) c14 hhd
 rw [hE] at hR
 dsimp only at hR
 refine gE ?_; intros
 refine dS [2] (.op 0 (.op 1 (.op 2 .nil))) [3, 4] mixed ?_
 refine yG rfl (pF u76) ?_
 refine yG rfl (pA u30) ?_
 refine yf rfl (E1 Ev.const) (fun fr => tof_ct _ _ _) ?_
 refine SR.nil rfl rfl ?_
 refine xG (PO.eqlA u30 (by kernel_rfl) (by kernel_rfl) Et Et rfl) ?_
 refine xA ?_
 refine wn [0, 3, 18] ?_
 refine gE ?_; intros
 refine wc (fun c18 => ?_) fun c18 => ?_
 have d18 : eqT hd.t (tyK 5) = true := c18
 rw [if_pos d18] at hR
 refine gD ?_; intros
 refine xY EL100 (EvP.cons Ev.const EvP.nil) fun b23 => ?_
 refine xF u56 ?_
 refine xG (pL u25) ?_
 refine xM ?_
 refine xG (PO.makeFunc (E1 Et) Evs.nil) ?_
 refine xf (E3 Et Et Et) (match_ct 85 [.slice a k c] (setX (shL s)) _ _ _ [1] _ _ _ p.tg.l (Rd.ofPt rfl Lb Me) (hto.mono (View.le.refl _) Sb) (takesM (hs.mono Sb) (ho.mono Sb))) ?_
 refine xA ?_
 refine wn [4] ?_
 refine WC.ret (wR (h) ?_)
 exact ⟨by rw [hR], rfl⟩
 have d18 : eqT hd.t (tyK 5) = false := c18
 rw [if_neg (by rw [d18]; decide)] at hR
 refine WC.skip (kp [0, 3] ?_)
 refine gD ?_; intros
 refine xM ?_
 refine xF u56 ?_
 refine xG (pA u27) ?_
 refine xF u56 ?_
 refine xG (pL u25) ?_
 refine xf (E3 Et Et Et) (recv_ct hg (hs.mono Sb) p.ch (hx.mono Sb) p.tg (ho.mono Sb)) ?_
 refine xA ?_
 refine wn [4] ?_
 refine WC.ret (wR (h) ?_)
 exact ⟨by rw [hR], rfl⟩
theorem output_ct {m : View} {h : List Res} {s : List En} {a : Option Addr} {k c : Nat} (hg : Glob m) (hs : ScR m h a k c s) (p : Pr) (hx : XOk m h p.ch) (ho : LXk m h p.ex) (hn : 0 < p.ex.l.length) :
   CT Tryz.prog 57 [.slice a k c, prV p] h m (Pure1 h (.int .i64 (outX (shL s) p.ch p.ex.l))) := by
 obtain ⟨e0, he0⟩ := get_some hn
 have hl0 : p.ex.l = e0 :: p.ex.l.drop 1 := drop_at (k := 0) he0
 have hR : outX (shL s) p.ch p.ex.l = match chanX (shL s) p.ch 4 with | .error w => w | .ok q => if q.1 = false then matchX (giveX (shL s)) (itemsX q) p.ex.l else if e0.k ≠ 4 then 130 else match variantX q e0.s with | .error w => w | .ok ks => matchX (giveX (shL s)) ks (p.ex.l.drop 1) := by
   unfold outX
   rw [hl0]
   rfl
 have hto := ho.rd
 have hmx := hto.mx
 have hle := hto.le
 refine CT.body Tryz.call57 Tryz.func57 rfl Tryz.ntmps57 Lb rfl ?_
 refine gD ?_; intros
 refine xX fun b3 => ?_
 refine xC ?_
 refine wn [0, 3] ?_
 refine gD ?_; intros
 refine xM ?_
 refine xF u56 ?_
 refine xG (pA u27) ?_
 refine xg (E3 Et Et Ev.const) (channel_ct hg hs Sb p.ch 4 (hx.mono Sb)) ?_
 rintro _ _ ⟨hs2, rfl, cs, a2, c2, l2, rfl, hpr, hpl⟩
 refine xM ?_
 refine xE ?_
 refine xE ?_
 refine xW fun b5 => ?_
 refine xS ?_
 refine xA ?_
 refine wn [0, 3, 5, 6] ?_
 refine gD ?_; intros
 refine xM ?_
 refine bB ?_
 refine xA ?_
 refine wn [0, 3, 5, 6, 15] ?_
 refine gE ?_; intros
 refine wc (fun c15 => ?_) fun c15 => ?_
 replace c15 := t_ne c15
 obtain ⟨w, hw⟩ := err_of c15
 rw [hw] at hR
 refine gD ?_; intros
 refine xM ?_
 refine xA ?_
 refine wn [4] ?_
 refine WC.ret (wR (h) ?_)
 exact ⟨by rw [hR, hw]; rfl, rfl⟩
 replace c15 := f_ne c15
 obtain ⟨q, hp⟩ := ok_of (chan_ok s) c15
 have hpe := hpl q hp
 subst hpe
 rw [hp] at hR
 dsimp only at hR
 have hrd := hpr.rd
 refine gD ?_; intros
 refine xF u51 ?_
 refine xG (pL u4) ?_
 refine xG (PO.not Et) ?_
 refine xA ?_
 refine wn [0, 3, 5, 19] ?_
 refine gE ?_; intros
 refine wc (fun c19 => ?_) fun c19 => ?_
 have d19 : cs = false := by simpa using c19
 have hne := chanX_ne hp d19
 rw [if_pos d19] at hR
 have hln : 0 < l2.length := by
   cases l2 with
   | nil => exact absurd rfl hne
   | cons y r => exact Nat.succ_pos _
 obtain ⟨v, hv⟩ := get_some hln
 have hi : itemsX (cs, prS l2) = v.items := by
   cases l2 with
   | nil => cases hv
   | cons y r => cases hv; rfl
 have hvr := (hpr.ok v (List.mem_of_getElem? hv)).rd
 rw [hi] at hR
 refine gE ?_; intros
 refine dS [] (.op 0 (.op 1 (.op 2 (.op 3 (.op 4 (.op 5 (.op 6 (.op 7 (.op 8 .nil))))))))) [9, 10] mixed ?_
 refine yG rfl (pF u51) ?_
 refine yG rfl (pL u49) ?_
 refine yG rfl (PO.idx EL49.und EL49.size EL49.posz (Ev.tmp rfl) Ev.const Rr rfl (q := 0) (by omega)) ?_
 refine yG rfl (PO.fieldF u102 rfl (Nat.ne_of_beq_eq_false rfl) encV_len (Nat.succ_pos _) Rr (by assumption) (Ev.tmp rfl)) ?_
 refine yG rfl (PO.loadFf u100 rfl encV_len Rr (Ev.tmp rfl) (by assumption) rfl) ?_
 refine yG rfl (pF u56) ?_
 refine yG rfl (pL u25) ?_
 refine yG rfl (PO.move Et) ?_
 refine yG rfl (PO.makeFunc (E1 Et) Evs.nil) ?_
 refine SR.nil rfl rfl ?_
 refine xf (E3 Et Et Et) (match_ct 41 [.slice a k c] (giveX (shL s)) _ _ _ v.items _ _ _ p.ex.l (hvr.mono (View.le.refl _) Sb) (hto.mono (View.le.refl _) Sb) (isM (hs.mono Sb) (ho.mono Sb))) ?_
 refine xA ?_
 refine wn [4] ?_
 refine WC.ret (wR (h) ?_)
 exact ⟨by rw [hR], rfl⟩
 have d19 : ¬ cs = false := by simpa using c19
 rw [if_neg d19] at hR
 refine gD ?_; intros
 refine xF u56 ?_
 refine xG (pL u25) ?_
 refine xG (PO.idx EL25.und EL25.size EL25.posz (Ev.tmp rfl) Ev.const Rr rfl (q := 0) (by omega)) ?_
 refine xG (PO.fieldF u27 rfl (Nat.ne_of_beq_eq_false rfl) exE_len (Nat.succ_pos _) Rr (by assumption) (Ev.tmp rfl)) ?_
 refine xG (PO.loadFf u22 rfl exE_len Rr (Ev.tmp rfl) (by assumption) rfl) ?_
 refine bB ?_
 refine xA ?_
 refine wn [0, 3, 5, 33] ?_
 refine gE ?_; intros
 refine wc (fun c33 => ?_) fun c33 => ?_
 replace c33 := t_ne c33
 rw [if_pos c33] at hR
 refine gD ?_; intros
 refine xC ?_
 refine wn [4] ?_
 refine WC.ret (wR (h) ?_)
 exact ⟨by rw [hR], rfl⟩
 replace c33 := f_ne c33
 rw [if_neg (by simpa using c33), variantX_it] at hR
 have hit := it_rd hpr cs e0.s
 refine WC.skip (kp [0, 3, 5] ?_)
 refine gE ?_; intros
 refine WC.drawS [6] (.op 0 (.op 1 (.op 2 (.op 3 (.op 4 (.op 5 (.op 6 (.op 7 (.op 8 (.op 9 .nil)))))))))) [10, 11] _ [] mixed (fun _ _ _ _ _ h => h) [9] (by kernel_rfl) ?_
 refine yG rfl (pA u51) ?_
 refine yG rfl (pF u56) ?_
 refine yG rfl (pL u25) ?_
 refine yG rfl (PO.idx EL25.und EL25.size EL25.posz (Ev.tmp rfl) Ev.const Rr rfl (q := 0) (by omega)) ?_
 refine yG rfl (PO.fieldF u27 rfl (Nat.ne_of_beq_eq_false rfl) exE_len (Nat.succ_pos _) Rr (by assumption) (Ev.tmp rfl)) ?_
 refine yG rfl (PO.loadFf u9 rfl exE_len Rr (Ev.tmp rfl) (by assumption) rfl) ?_
 refine yf rfl (E2 Et Et) (fun fr => variant_ct cs a2 c2 l2 e0.s (hpr.mono (View.le.refl _) Sb)) ?_
 refine yG rfl (PO.move Et) ?_
 refine yG rfl (PO.extract Et rfl) ?_
 refine yG rfl (PO.extract Et rfl) ?_
 refine SR.nil rfl rfl ?_
 refine xA ?_
 refine xA ?_
 refine wn [0, 3, 6, 7] ?_
 refine gD ?_; intros
 refine xM ?_
 refine bB ?_
 refine wn [0, 3, 6, 7, 51] ?_
 refine gE ?_; intros
 refine wc (fun c51 => ?_) fun c51 => ?_
 replace c51 := t_ne c51
 rw [if_neg (by simpa using c51)] at hR
 refine gD ?_; intros
 refine xM ?_
 refine xA ?_
 refine wn [4] ?_
 refine WC.ret (wR (h) ?_)
 exact ⟨by rw [hR]; rfl, rfl⟩
 replace c51 := f_ne c51
 rw [if_pos c51] at hR
 dsimp only at hR
 have hlk : LXk m h ⟨sl1 p.ex.a 1 p.ex.c 6, p.ex.c - 1, p.ex.l.drop 1⟩ := ⟨by have := Rd.dropF exE_len (by decide) hto (i := 1) (by omega); simpa using this, fun x hx => ho.ok x (List.mem_of_mem_drop hx)⟩
 have hlr := hlk.rd
 refine WC.skip (kp [0, 3, 7] ?_)
 refine gD ?_; intros
 refine xM ?_
 refine xF u56 ?_
 refine xG (pL u25) ?_
 refine xG (PO.sliceL EL25.und EL25.size Et Ev.const (l := 1) rfl (by omega)) ?_
 refine xM ?_
 refine xG (PO.makeFunc (E1 Et) Evs.nil) ?_
 refine xf (E3 Et Et Et) (match_ct 41 [.slice a k c] (giveX (shL s)) _ _ _ (itL (findV cs e0.s l2)) _ _ _ (p.ex.l.drop 1) (hit.mono (View.le.refl _) Sb) (Rd.dropF exE_len (by decide) (hto.mono (View.le.refl _) Sb) (i := 1) (by omega)) (isM (hs.mono Sb) (hlk.mono Sb))) ?_
 refine xA ?_
 refine wn [4] ?_
 refine WC.ret (wR (h) ?_)
 exact ⟨by rw [hR], rfl⟩
theorem wait_ct {m : View} {h : List Res} {s : List En} {a : Option Addr} {k c : Nat} (hg : Glob m) (hs : ScR m h a k c s) (p : Pr) (hx : XOk m h p.ch) (ho : LXk m h p.ex) (hn : 0 < p.ex.l.length) :
   CT Tryz.prog 58 [.slice a k c, prV p] h m (Pure1 h (.int .i64 (afterX (shL s) p.ch (hdX p.ex.l)))) := by
 obtain ⟨e0, he0⟩ := get_some hn
 have hl0 : hdX p.ex.l = e0 := by
   unfold hdX
   cases hq : p.ex.l with
   | nil => rw [hq] at he0; cases he0
   | cons y r => rw [hq] at he0; cases he0; rfl
 have hto := ho.rd
 refine CT.body Tryz.call58 Tryz.func58 rfl Tryz.ntmps58 Lb rfl ?_
 refine gD ?_; intros
 refine xX fun b3 => ?_
 refine xC ?_
 refine wn [0, 3] ?_
 refine gE ?_; intros
 refine dS [] (.op 0 (.op 1 (.op 2 (.op 3 (.op 4 (.op 5 (.op 6 .nil))))))) [7, 8] mixed ?_
 refine yG rfl (PO.move Et) ?_
 refine yG rfl (pF u56) ?_
 refine yG rfl (pA u27) ?_
 refine yG rfl (pF u56) ?_
 refine yG rfl (pL u25) ?_
 refine yG rfl (PO.idx EL25.und EL25.size EL25.posz (Ev.tmp rfl) Ev.const Rr rfl (q := 0) (by omega)) ?_
 refine yG rfl (PO.loadFA u27 rfl rfl exE_len Rr (Ev.tmp rfl) (by assumption) rfl rfl (Nat.succ_pos _)) ?_
 refine SR.nil rfl rfl ?_
 refine xf (E3 Et Et Et) (after_ct hg (hs.mono Sb) p.ch e0 (hx.mono Sb) ((ho.ok e0 (List.mem_of_getElem? he0)).mono Sb)) ?_
 refine xA ?_
 refine wn [4] ?_
 refine WC.ret (wR (h) ?_)
 exact ⟨by rw [hl0], rfl⟩
theorem assign_ct {m : View} {h : List Res} {s : List En} {a : Option Addr} {k c : Nat} (hs : ScR m h a k c s) (p : Pr) (ht : LXk m h p.tg) (ho : LXk m h p.ex) :
   CT Tryz.prog 55 [.slice a k c, prV p] h m (Pure1 h (.int .i64 (asgX (shL s) p.tg.l p.ex.l))) := by
 have r1 := ht.rd
 have r2 := ho.rd
 have m1 := r1.mx
 have m2 := r2.mx
 have k1 := r1.le
 have k2 := r2.le
 refine CT.body Tryz.call55 Tryz.func55 rfl Tryz.ntmps55 Lb rfl ?_
 refine gD ?_; intros
 refine xX fun b3 => ?_
 refine xC ?_
 refine wn [0, 3] ?_
 refine gD ?_; intros
 refine xF u56 ?_
 refine xG (pL u25) ?_
 refine xG (PO.lenSl u25 Et) ?_
 refine xF u56 ?_
 refine xG (pL u25) ?_
 refine xG (PO.lenSl u25 Et) ?_
 refine xG (PO.min Et Et) ?_
 refine xK ?_
 refine wn [0, 3, 14, 15] ?_
 refine gE ?_; intros
 refine WC.loopI [0, 3, 14] rfl (fun μ F' h' => ∃ i : Nat, ((i ≤ p.tg.l.length ∧ i ≤ p.ex.l.length) ∧ asgX (shL s) p.tg.l p.ex.l = asgX (shL s) (p.tg.l.drop i) (p.ex.l.drop i)) ∧ p.tg.l.length - i = μ ∧ F' = [(15, .int .i64 i)] ∧ .pt b3 (.cells (prE p).toArray 56 (0, 0)) :: h = h') (p.tg.l.length - 0) [(15, .int .i64 0)] (h0 := .pt b3 (.cells (prE p).toArray 56 (0, 0)) :: h) ?_ Sb ⟨0, ⟨⟨by omega, by omega⟩, rfl⟩, rfl, rfl, rfl⟩ ?_
 exact Su
 rintro _ _ _ ⟨i, ⟨⟨hk1, hk2⟩, hJ⟩, rfl, rfl, rfl⟩
 refine WC.frm rfl ?_
 refine gD ?_; intros
 refine bD ?_
 refine wn [0, 3, 14, 15, 16] ?_
 refine gE ?_; intros
 refine wc (fun c16 => ?_) fun c16 => ?_
 replace c16 := dT c16
 have hlt1 : i < p.tg.l.length := by omega
 have hlt2 : i < p.ex.l.length := by omega
 obtain ⟨x, hx⟩ := get_some hlt1
 obtain ⟨y, hy⟩ := get_some hlt2
 have hxm := List.mem_of_getElem? hx
 have hym := List.mem_of_getElem? hy
 rw [drop_at hx, drop_at hy] at hJ
 replace hJ : asgX (shL s) p.tg.l p.ex.l = match tgtX (shL s) x with | .error w => w | .ok t => if isX (shL s) y t ≠ 0 then isX (shL s) y t else asgX (shL s) (p.tg.l.drop (i + 1)) (p.ex.l.drop (i + 1)) := hJ
 have h0 := tgtX_err s x
 generalize hr : tgtX (shL s) x = r at hJ h0
 refine WC.skip (kp [0, 3, 14, 15] ?_)
 refine gD ?_; intros
 refine xM ?_
 refine xA ?_
 refine wn [0, 3, 5, 14, 15] ?_
 refine gD ?_; intros
 refine xM ?_
 refine xF u56 ?_
 refine xG (pL u25) ?_
 refine xM ?_
 refine xG (PO.idx EL25.und EL25.size EL25.posz (Ev.tmp rfl) (Ev.tmp rfl) Rr rfl (by omega)) ?_
 refine xG (PO.loadFA u27 rfl rfl exE_len Rr (Ev.tmp rfl) (by assumption) rfl rfl (Nat.succ_pos _)) ?_
 refine xf (E2 Et Et) (hr ▸ target_ct (hs.mono Sb) x ((ht.ok x hxm).mono Sb)) ?_
 refine xM ?_
 refine xE ?_
 refine xE ?_
 refine xW fun b6 => ?_
 refine xS ?_
 refine xA ?_
 refine wn [0, 3, 5, 6, 7, 14, 15] ?_
 refine gD ?_; intros
 refine xM ?_
 refine bB ?_
 refine wn [0, 3, 5, 6, 7, 14, 15, 29] ?_
 refine gE ?_; intros
 refine wc (fun c29 => ?_) fun c29 => ?_
 replace c29 := t_ne c29
 obtain ⟨w, hw⟩ := err_of c29
 rw [hw] at hJ
 refine gD ?_; intros
 refine xM ?_
 refine xA ?_
 refine wn [4] ?_
 refine WC.ret (wR (h) ?_)
 exact ⟨by rw [hJ, hw]; rfl, rfl⟩
 replace c29 := f_ne c29
 obtain ⟨t, hq⟩ := ok_of h0 c29
 rw [hq] at hJ ⊢
 dsimp only at hJ
 refine WC.skip (kp [0, 3, 5, 6, 14, 15] ?_)
 refine gE ?_; intros
 refine dS [] (.op 0 (.op 1 (.op 2 (.op 3 (.op 4 (.op 5 (.op 6 .nil))))))) [7, 8] mixed ?_
 refine yG rfl (PO.move Et) ?_
 refine yG rfl (pF u56) ?_
 refine yG rfl (pL u25) ?_
 refine yG rfl (PO.move Et) ?_
 refine yG rfl (PO.idx EL25.und EL25.size EL25.posz (Ev.tmp rfl) (Ev.tmp rfl) Rr rfl (by omega)) ?_
 refine yG rfl (PO.loadFA u27 rfl rfl exE_len Rr (Ev.tmp rfl) (by assumption) rfl rfl (Nat.succ_pos _)) ?_
 refine yG rfl (pA u30) ?_
 refine SR.nil rfl rfl ?_
 refine xf (E3 Et Et Et) (isR_ct (hs.mono Sb) y t ((ho.ok y hym).mono Sb)) ?_
 refine xA ?_
 refine wn [0, 3, 7, 14, 15] ?_
 refine gD ?_; intros
 refine xM ?_
 refine bB ?_
 refine wn [0, 3, 7, 14, 15, 40] ?_
 refine gE ?_; intros
 refine wc (fun c40 => ?_) fun c40 => ?_
 replace c40 := t_ne c40
 rw [if_pos c40] at hJ
 refine gD ?_; intros
 refine xM ?_
 refine xA ?_
 refine wn [4] ?_
 refine WC.ret (wR (h) ?_)
 exact ⟨by rw [hJ], rfl⟩
 replace c40 := f_ne c40
 rw [if_neg (by simpa using c40)] at hJ
 refine WC.skip (kp [0, 3, 14, 15] ?_)
 refine gD ?_; intros
 refine bI ?_
 refine xM ?_
 refine WL.nil (loopBackI (p.tg.l.length - (i + 1)) [(15, .int .i64 (i + 1))] (h'' := .pt b3 (.cells (prE p).toArray 56 (0, 0)) :: h) (by omega) ?_ Su Sb ⟨i + 1, ⟨⟨by omega, by omega⟩, hJ⟩, rfl, rfl, rfl⟩)
 exact Su
 replace c16 := dF c16
 have hor : p.ex.l.length ≤ i ∨ p.tg.l.length ≤ i := by split at c16 <;> omega
 refine WC.exit (kp [3] ?_)
 refine gD ?_; intros
 refine xF u56 ?_
 refine xG (pL u25) ?_
 refine xG (PO.lenSl u25 Et) ?_
 refine xF u56 ?_
 refine xG (pL u25) ?_
 refine xG (PO.lenSl u25 Et) ?_
 refine bD ?_
 refine wn [49] ?_
 refine gE ?_; intros
 refine wc (fun c49 => ?_) fun c49 => ?_
 replace c49 := t_ne c49
 have hJ : asgX (shL s) p.tg.l p.ex.l = 130 := by
   rw [hJ]
   rcases Nat.lt_or_ge i p.tg.l.length with h1 | h1
   · obtain ⟨x, hx⟩ := get_some h1
     rw [drop_at hx, show p.ex.l.drop i = [] from List.drop_eq_nil_of_le (by omega)]
     rfl
   · have h2 : i < p.ex.l.length := by omega
     obtain ⟨y, hy⟩ := get_some h2
     rw [drop_at hy, show p.tg.l.drop i = [] from List.drop_eq_nil_of_le (by omega)]
     rfl
 refine gD ?_; intros
 refine xC ?_
 refine wn [4] ?_
 refine WC.ret (wR (h) ?_)
 exact ⟨by rw [hJ], rfl⟩
 replace c49 := f_ne c49
 rw [show p.ex.l.drop i = [] from List.drop_eq_nil_of_le (by omega), show p.tg.l.drop i = [] from List.drop_eq_nil_of_le (by omega)] at hJ
 refine WC.skip (kp [] ?_)
 refine gD ?_; intros
 refine xC ?_
 refine wn [4] ?_
 refine WC.ret (wR (h) ?_)
 exact ⟨by rw [hJ]; rfl, rfl⟩
theorem actual_ct {m : View} {h : List Res} {s : List En} {a : Option Addr} {k c : Nat} (hs : ScR m h a k c s) (f : Fo) (place : Nat) (hp : place ≤ s.length) (e : Ex) (hx : XOk m h e) :
   CT Tryz.prog 96 [.slice a k c, foV f, .int .i64 place, exV e] h m (Pure1 h (.int .i64 (actX (shL s) place f e))) := by
 refine CT.body Tryz.call96 Tryz.func96 rfl Tryz.ntmps96 Lb rfl ?_
 refine gD ?_; intros
 refine xX fun b5 => ?_
 refine xX fun b7 => ?_
 refine xC ?_
 refine wn [0, 2, 5, 7] ?_
 refine gD ?_; intros
 refine xF u60 ?_
 refine xG (pL u4) ?_
 refine xA ?_
 refine wn [0, 2, 5, 7, 11] ?_
 refine gE ?_; intros
 refine wc (fun c11 => ?_) fun c11 => ?_
 have hR : actX (shL s) place f e = isX (shL s) e f.ty := by unfold actX; rw [if_pos c11]
 refine gD ?_; intros
 refine xM ?_
 refine xG (pA u27) ?_
 refine xF u60 ?_
 refine xG (pA u30) ?_
 refine xf (E3 Et Et Et) (isR_ct (hs.mono Sb) e f.ty (hx.mono Sb)) ?_
 refine xA ?_
 refine wn [8] ?_
 refine WC.ret (wR (h) ?_)
 exact ⟨by rw [hR], rfl⟩
 have hv : ¬ f.val = true := by rw [c11]; decide
 refine gD ?_; intros
 refine xF u60 ?_
 refine xG (pA u30) ?_
 refine xf (E1 Et) (tsim_ct _ _ _) ?_
 refine xA ?_
 refine wn [0, 2, 5, 7, 19] ?_
 refine gE ?_; intros
 refine wc (fun c19 => ?_) fun c19 => ?_
 have hR : actX (shL s) place f e = takesX (shL s) e f.ty := by unfold actX; rw [if_neg hv, if_pos c19]
 refine gD ?_; intros
 refine xM ?_
 refine xG (pA u27) ?_
 refine xF u60 ?_
 refine xG (pA u30) ?_
 refine xf (E3 Et Et Et) (takes_ct (hs.mono Sb) e f.ty (hx.mono Sb)) ?_
 refine xA ?_
 refine wn [8] ?_
 refine WC.ret (wR (h) ?_)
 exact ⟨by rw [hR], rfl⟩
 have hR : actX (shL s) place f e = match typX (shL s) e with | .error w => w | .ok h => if eqT h.t f.ty = false ∨ (h.t.proto ≠ [] ∧ findE (shL s) h.t.proto h.ar.toNat ≠ findE (shL s) f.ty.proto place) then 130 else 0 := by unfold actX; rw [if_neg hv, if_neg (by rw [c19]; decide)]; rfl
 refine WC.skip (kp [0, 2, 5, 7] ?_)
 refine gD ?_; intros
 refine xM ?_
 refine xG (pA u27) ?_
 refine xg (E2 Et Et) (typeOfR_ct (hs.mono Sb) e (hx.mono Sb)) ?_
 rintro _ _ ⟨hd, rfl, hhd, rfl⟩
 refine xM ?_
 refine xE ?_
 refine xE ?_
 refine xW fun b9 => ?_
 refine xS ?_
 refine xA ?_
 refine wn [0, 2, 5, 9, 10] ?_
 refine gE ?_; intros
 have hbd : errT (typX (shL s) e) = 0 → 0 ≤ hd.ar ∧ hd.ar ≤ s.length := fun h0 => by
   have := typX_ar hs.arOk e hd (okE (typX_err s e) h0 hhd)
   rw [shL_len] at this
   exact this
 refine dS [20] (.op 0 (.op 1 (.op 2 (.op 3 (.op 4 (.op 5 (.op 6 (.op 7 (.op 8 (.op 9 (.op 10 (.op 11 (.op 12 (.op 13 (.op 14 (.op 15 (.op 16 (.op 17 (.op 18 (.op 19 (.op 21 (.op 22 (.op 23 (.op 24 (.op 25 (.op 20 .nil)))))))))))))))))))))))))) [26, 27, 28, 29, 30] mixed ?_
 refine yG rfl (PO.move Et) ?_
 refine yG rfl (PO.bin Et Ev.const rfl) ?_
 refine yG rfl (PO.move Et) ?_
 refine SR.poG rfl rfl (GU.t rfl rfl) (fun hc => PO.fieldAddr u76 rfl (Nat.ne_of_beq_eq_false rfl) Et) Lb ?_
 refine SR.poG rfl rfl (GU.t rfl rfl) (fun hc => PO.loadA u30 rfl rfl (Eg hc) Me rfl) Lb ?_
 refine SR.poG rfl rfl (GU.t rfl rfl) (fun hc => PO.fieldAddr u60 rfl (Nat.ne_of_beq_eq_false rfl) Et) Lb ?_
 refine SR.poG rfl rfl (GU.t rfl rfl) (fun hc => PO.loadA u30 rfl rfl (Eg hc) Me rfl) Lb ?_
 refine SR.poG rfl rfl (GU.t rfl rfl) (fun hc => PO.neqA u30 (by kernel_rfl) (by kernel_rfl) (Eg hc) (Eg hc) rfl) Lb ?_
 refine SR.poG rfl rfl (GU.t rfl rfl) (fun hc => PO.move (Eg hc)) Lb ?_
 refine SR.poG rfl rfl (GU.nf rfl rfl) (fun hc => PO.fieldAddr u76 rfl (Nat.ne_of_beq_eq_false rfl) Et) Lb ?_
 refine SR.poG rfl rfl (GU.nf rfl rfl) (fun hc => PO.fieldAddr u30 rfl (Nat.ne_of_beq_eq_false rfl) (Eg hc)) Lb ?_
 refine SR.poG rfl rfl (GU.nf rfl rfl) (fun hc => PO.load1 u9 rfl (Eg hc) Me rfl) Lb ?_
 refine SR.poG rfl rfl (GU.nf rfl rfl) (fun hc => PO.neqS (Eg hc) Ev.const) Lb ?_
 refine SR.poG rfl rfl (GU.nf rfl rfl) (fun hc => PO.move (Eg hc)) Lb ?_
 refine SR.poG rfl rfl (GU.nt rfl rfl) (fun hc => PO.move Et) Lb ?_
 refine SR.poG rfl rfl (GU.nt rfl rfl) (fun hc => PO.fieldAddr u76 rfl (Nat.ne_of_beq_eq_false rfl) Et) Lb ?_
 refine SR.poG rfl rfl (GU.nt rfl rfl) (fun hc => PO.load1 u3 rfl (Eg hc) Me rfl) Lb ?_
 refine SR.poG rfl rfl (GU.nt rfl rfl) (fun hc => PO.fieldAddr u76 rfl (Nat.ne_of_beq_eq_false rfl) Et) Lb ?_
 refine SR.poG rfl rfl (GU.nt rfl rfl) (fun hc => PO.fieldAddr u30 rfl (Nat.ne_of_beq_eq_false rfl) (Eg hc)) Lb ?_
 refine SR.poG rfl rfl (GU.nt rfl rfl) (fun hc => PO.load1 u9 rfl (Eg hc) Me rfl) Lb ?_
 refine SR.poG rfl rfl (GU.nt rfl rfl) (fun hc => PO.move Et) Lb ?_
 refine SR.poG rfl rfl (GU.nt rfl rfl) (fun hc => PO.move Et) Lb ?_
 refine SR.poG rfl rfl (GU.nt rfl rfl) (fun hc => PO.fieldAddr u60 rfl (Nat.ne_of_beq_eq_false rfl) Et) Lb ?_
 refine SR.poG rfl rfl (GU.nt rfl rfl) (fun hc => PO.fieldAddr u30 rfl (Nat.ne_of_beq_eq_false rfl) (Eg hc)) Lb ?_
 refine SR.poG rfl rfl (GU.nt rfl rfl) (fun hc => PO.load1 u9 rfl (Eg hc) Me rfl) Lb ?_
 refine SR.callG rfl rfl (GU.nt rfl rfl) (fun hc => ⟨Ev.func, (E3 (Eg hc) (Eg hc) (Eg hc)), fun fr => findI_ct (hs.mono Sb) hd.t.proto hd.ar (hbd (by simp at hc; exact hc.1.1))⟩) Lb ?_
 refine SR.nil rfl rfl ?_
 refine WL.callG (GU.nt rfl rfl) (fun hc => ⟨Ev.func, (E3 (Eg hc) (Eg hc) (Eg hc)), findR_ct (hs.mono Sb) f.ty.proto place hp⟩) Lb ?_
 refine WL.poG (GU.nt rfl rfl) (fun hc => PO.bin (Eg hc) (Eg hc) rfl) Lb ?_
 refine WL.poG (GU.nf rfl rfl) (fun hc => PO.pickAndN hc rfl rfl) Lb ?_
 refine zG (fun hc => PO.pickOrN hc rfl rfl) ?_
 refine xP ?_
 refine wn [10, 64] ?_
 try clear hG ops
 refine gE ?_; intros
 refine wc (fun c64 => ?_) fun c64 => ?_
 have d64 : ((errT (typX (shL s) e) == 0) && ((!(eqT hd.t f.ty)) || ((hd.t.proto != []) && (findE (shL s) hd.t.proto hd.ar.toNat != findE (shL s) f.ty.proto place)))) = true := c64
 have hR : actX (shL s) place f e = 130 := by
   simp only [Bool.and_eq_true, beq_iff_eq] at d64
   rw [hR, okE (typX_err s e) d64.1 hhd]
   dsimp only
   rw [if_pos]
   have h2 := d64.2
   simpa using h2
 refine gD ?_; intros
 refine xC ?_
 refine wn [8] ?_
 refine WC.ret (wR (h) ?_)
 exact ⟨by rw [hR], rfl⟩
 have d64 : ((errT (typX (shL s) e) == 0) && ((!(eqT hd.t f.ty)) || ((hd.t.proto != []) && (findE (shL s) hd.t.proto hd.ar.toNat != findE (shL s) f.ty.proto place)))) = false := c64
 have hR : actX (shL s) place f e = errT (typX (shL s) e) := by
   by_cases h0 : errT (typX (shL s) e) = 0
   · have hE := okE (typX_err s e) h0 hhd
     rw [h0] at d64 ⊢
     rw [hR, hE]
     dsimp only
     rw [if_neg]
     intro q
     have h3 : ((!(eqT hd.t f.ty)) || ((hd.t.proto != []) && (findE (shL s) hd.t.proto hd.ar.toNat != findE (shL s) f.ty.proto place))) = true := by simpa using q
     rw [h3] at d64
     cases d64
   · obtain ⟨w, hw⟩ := err_of h0
     rw [hR, hw]
     rfl
 refine WC.skip (kp [10] ?_)
 refine gD ?_; intros
 refine xM ?_
 refine xA ?_
 refine wn [8] ?_
 refine WC.ret (wR (h) ?_)
 exact ⟨by rw [hR]; rfl, rfl⟩
set_option maxHeartbeats 1000000 in
theorem call_ct {m : View} {h : List Res} {s : List En} {a : Option Addr} {k c : Nat} (hs : ScR m h a k c s) (p : Pr) (ho : LXk m h p.ex) :
   CT Tryz.prog 63 [.slice a k c, prV p] h m (Pure1 h (.int .i64 (callX (shL s) p.name p.ex.l))) := by
 have hl := hs.rd.lenF enE_len (by decide)
 have hmx := hs.rd.mx
 have hle := hs.rd.le
 subst hl
 have r2 := ho.rd
 have m2 := r2.mx
 have k2 := r2.le
 have hbd := findE_lt (shL s) p.name s.length
 have hR : callX (shL s) p.name p.ex.l = if findE (shL s) p.name s.length < 0 then 120 else match (shL s)[(findE (shL s) p.name s.length).toNat]? with | some x => if x.k ≠ 5 ∨ x.fs.length ≠ p.ex.l.length then 130 else actsX (shL s) (findE (shL s) p.name s.length).toNat x.fs p.ex.l | none => 130 := by unfold callX; rw [shL_len]; rfl
 refine CT.body Tryz.call63 Tryz.func63 rfl Tryz.ntmps63 Lb rfl ?_
 refine gD ?_; intros
 refine xX fun b3 => ?_
 refine xC ?_
 refine wn [0, 3] ?_
 refine gD ?_; intros
 refine xM ?_
 refine xM ?_
 refine xG (PO.lenSl u79 Et) ?_
 refine xF u56 ?_
 refine xG (pL u9) ?_
 refine xf (E3 Et Et Et) (findR_ct (hs.mono Sb) p.name s.length (Nat.le_refl _)) ?_
 refine xA ?_
 refine wn [0, 3, 5] ?_
 refine gD ?_; intros
 refine xM ?_
 refine bB ?_
 refine xA ?_
 refine wn [0, 3, 5, 15] ?_
 refine gE ?_; intros
 refine wc (fun c15 => ?_) fun c15 => ?_
 replace c15 := dT c15
 rw [if_pos c15] at hR
 refine gD ?_; intros
 refine xC ?_
 refine wn [4] ?_
 refine WC.ret (wR (h) ?_)
 exact ⟨by rw [hR], rfl⟩
 replace c15 := dF c15
 rw [if_neg c15] at hR
 obtain ⟨q, hq⟩ : ∃ q : Nat, findE (shL s) p.name s.length = q := ⟨(findE (shL s) p.name s.length).toNat, by omega⟩
 obtain ⟨x, hx⟩ := get_some (l := s) (k := q) (by omega)
 have hxm := List.mem_of_getElem? hx
 have hfr := hs.fr x hxm
 have fmx := hfr.mx
 have fle := hfr.le
 rw [hq, Int.toNat_natCast, shL_get hx] at hR
 replace hR : callX (shL s) p.name p.ex.l = if x.sp.k ≠ 5 ∨ x.sp.fs.l.length ≠ p.ex.l.length then 130 else actsX (shL s) q x.sp.fs.l p.ex.l := hR
 have hrd := hs.rd
 rw [hq]
 refine gD ?_; intros
 refine xM ?_
 refine xM ?_
 refine xG (PO.idx EL79.und EL79.size EL79.posz (Ev.tmp rfl) (Ev.tmp rfl) Rr rfl (by omega)) ?_
 refine xG (PO.fieldF u104 rfl (Nat.ne_of_beq_eq_false rfl) enE_len (Nat.succ_pos _) Rr (by assumption) (Ev.tmp rfl)) ?_
 refine xG (PO.fieldF u54 rfl (Nat.ne_of_beq_eq_false rfl) enE_len (Nat.succ_pos _) Rr (by assumption) (Ev.tmp rfl)) ?_
 refine xG (PO.loadFf u47 rfl enE_len Rr (Ev.tmp rfl) (by assumption) rfl) ?_
 refine bB ?_
 refine xA ?_
 refine wn [0, 3, 5, 18] ?_
 (repeat refine WC.seqK fun K hK => ?_)
 refine WC.cutK (by assumption) [0, 3, 5] rfl (fun F' h' => ∃ bb : Bool, (bb = true ↔ (x.sp.k ≠ 5 ∨ x.sp.fs.l.length ≠ p.ex.l.length)) ∧ F' = [(18, .bool bb)] ∧ .pt b3 (.cells (prE p).toArray 56 (0, 0)) :: h = h') ?_ ?_
 refine gE ?_; intros
 refine wc (fun c18 => ?_) fun c18 => ?_
 have ca : (x.sp.k != 5) = true := c18
 refine WC.skip (meetI [(18, .bool ((x.sp.k != 5)))] (h'' := .pt b3 (.cells (prE p).toArray 56 (0, 0)) :: h) ?_ Su Sb ⟨(x.sp.k != 5), ⟨fun _ => .inl (by simpa using ca), fun _ => ca⟩, rfl, rfl⟩)
 exact Su
 have ca : (x.sp.k != 5) = false := c18
 have hM : ((x.sp.fs.l.length : Int) != p.ex.l.length) = true ↔ (x.sp.k ≠ 5 ∨ x.sp.fs.l.length ≠ p.ex.l.length) := by
   have hk5 : x.sp.k = 5 := by simpa using ca
   constructor
   · intro hk
     refine .inr fun he => ?_
     rw [he] at hk
     simp at hk
   · rintro (h1 | h1)
     · exact absurd hk5 h1
     · simp only [bne_iff_ne, ne_eq]
       omega
 refine gE ?_; intros
 refine dS [] (.op 0 (.op 1 (.op 2 (.op 3 (.op 4 (.op 5 (.op 6 (.op 7 (.op 8 (.op 9 .nil)))))))))) [10, 11] mixed ?_
 refine yG rfl (PO.move Et) ?_
 refine yG rfl (PO.move Et) ?_
 refine yG rfl (PO.idx EL79.und EL79.size EL79.posz (Ev.tmp rfl) (Ev.tmp rfl) Rr rfl (by omega)) ?_
 refine yG rfl (PO.fieldF u104 rfl (Nat.ne_of_beq_eq_false rfl) enE_len (Nat.succ_pos _) Rr (by assumption) (Ev.tmp rfl)) ?_
 refine yG rfl (PO.fieldF u54 rfl (Nat.ne_of_beq_eq_false rfl) enE_len (Nat.succ_pos _) Rr (by assumption) (Ev.tmp rfl)) ?_
 refine yG rfl (PO.loadFf u52 rfl enE_len Rr (Ev.tmp rfl) (by assumption) rfl) ?_
 refine yG rfl (PO.lenSl u52 Et) ?_
 refine yG rfl (pF u56) ?_
 refine yG rfl (pL u25) ?_
 refine yG rfl (PO.lenSl u25 Et) ?_
 refine SR.nil rfl rfl ?_
 refine bD ?_
 refine xA ?_
 refine WL.nil (meetI [(18, .bool (((x.sp.fs.l.length : Int) != p.ex.l.length)))] (h'' := .pt b3 (.cells (prE p).toArray 56 (0, 0)) :: h) ?_ Su Sb ⟨((x.sp.fs.l.length : Int) != p.ex.l.length), hM, rfl, rfl⟩)
 exact Su
 rintro _ _ ⟨bb, hbb, rfl, rfl⟩
 refine WC.frm rfl ?_
 refine gE ?_; intros
 refine wc (fun c18 => ?_) fun c18 => ?_
 rw [if_pos (hbb.1 c18)] at hR
 refine gD ?_; intros
 refine xC ?_
 refine wn [4] ?_
 refine WC.ret (wR (h) ?_)
 exact ⟨by rw [hR], rfl⟩
 have hno : ¬ (x.sp.k ≠ 5 ∨ x.sp.fs.l.length ≠ p.ex.l.length) := fun h1 => by rw [hbb.2 h1] at c18; cases c18
 rw [if_neg hno] at hR
 have hle2 : x.sp.fs.l.length = p.ex.l.length := by
   by_cases hz : x.sp.fs.l.length = p.ex.l.length
   · exact hz
   · exact absurd (.inr hz) hno
 refine WC.skip (kp [0, 3, 5] ?_)
 refine gD ?_; intros
 refine xM ?_
 refine xM ?_
 refine xG (PO.idx EL79.und EL79.size EL79.posz (Ev.tmp rfl) (Ev.tmp rfl) Rr rfl (by omega)) ?_
 refine xG (PO.fieldF u104 rfl (Nat.ne_of_beq_eq_false rfl) enE_len (Nat.succ_pos _) Rr (by assumption) (Ev.tmp rfl)) ?_
 refine xG (PO.fieldF u54 rfl (Nat.ne_of_beq_eq_false rfl) enE_len (Nat.succ_pos _) Rr (by assumption) (Ev.tmp rfl)) ?_
 refine xG (PO.loadFf u52 rfl enE_len Rr (Ev.tmp rfl) (by assumption) rfl) ?_
 refine xG (PO.lenSl u52 Et) ?_
 refine xK ?_
 refine wn [0, 3, 5, 42, 43, 44] ?_
 refine gE ?_; intros
 refine WC.loopI [0, 3, 5, 42, 43] rfl (fun μ F' h' => ∃ i : Nat, (i ≤ x.sp.fs.l.length ∧ callX (shL s) p.name p.ex.l = actsX (shL s) q (x.sp.fs.l.drop i) (p.ex.l.drop i)) ∧ x.sp.fs.l.length - i = μ ∧ F' = [(44, .int .i64 i)] ∧ .pt b3 (.cells (prE p).toArray 56 (0, 0)) :: h = h') (x.sp.fs.l.length - 0) [(44, .int .i64 0)] (h0 := .pt b3 (.cells (prE p).toArray 56 (0, 0)) :: h) ?_ Sb ⟨0, ⟨by omega, hR⟩, rfl, rfl, rfl⟩ ?_
 exact Su
 rintro _ _ _ ⟨i, ⟨hk1, hJ⟩, rfl, rfl, rfl⟩
 refine WC.frm rfl ?_
 refine gD ?_; intros
 refine bD ?_
 refine wn [0, 3, 5, 42, 43, 44, 45] ?_
 refine gE ?_; intros
 refine wc (fun c45 => ?_) fun c45 => ?_
 replace c45 := dT c45
 obtain ⟨f, hf⟩ := get_some (l := x.sp.fs.l) (k := i) (by omega)
 obtain ⟨y, hy⟩ := get_some (l := p.ex.l) (k := i) (by omega)
 have hym := List.mem_of_getElem? hy
 rw [drop_at hf, drop_at hy] at hJ
 replace hJ : callX (shL s) p.name p.ex.l = if actX (shL s) q f y ≠ 0 then actX (shL s) q f y else actsX (shL s) q (x.sp.fs.l.drop (i + 1)) (p.ex.l.drop (i + 1)) := hJ
 refine WC.skip (kp [0, 3, 5, 42, 43, 44] ?_)
 refine gD ?_; intros
 refine xM ?_
 refine xG (PO.idx EL52.und EL52.size EL52.posz (Ev.tmp rfl) (Ev.tmp rfl) Rr rfl (by omega)) ?_
 refine xG (PO.loadFA u60 rfl rfl foE_len Rr (Ev.tmp rfl) (by assumption) rfl rfl (Nat.succ_pos _)) ?_
 refine xW fun b7 => ?_
 refine xA ?_
 refine xS ?_
 refine wn [0, 3, 5, 6, 7, 42, 43, 44] ?_
 refine gE ?_; intros
 refine dS [] (.op 0 (.op 1 (.op 2 (.op 3 (.op 4 (.op 5 (.op 6 (.op 7 .nil)))))))) [8, 9] mixed ?_
 refine yG rfl (PO.move Et) ?_
 refine yG rfl (pA u60) ?_
 refine yG rfl (PO.move Et) ?_
 refine yG rfl (pF u56) ?_
 refine yG rfl (pL u25) ?_
 refine yG rfl (PO.move Et) ?_
 refine yG rfl (PO.idx EL25.und EL25.size EL25.posz (Ev.tmp rfl) (Ev.tmp rfl) Rr rfl (by omega)) ?_
 refine yG rfl (PO.loadFA u27 rfl rfl exE_len Rr (Ev.tmp rfl) (by assumption) rfl rfl (Nat.succ_pos _)) ?_
 refine SR.nil rfl rfl ?_
 refine xf (E4 Et Et Et Et) (actual_ct (hs.mono Sb) f q (by omega) y ((ho.ok y hym).mono Sb)) ?_
 refine xA ?_
 refine wn [0, 3, 5, 8, 42, 43, 44] ?_
 refine gD ?_; intros
 refine xM ?_
 refine bB ?_
 refine wn [0, 3, 5, 8, 42, 43, 44, 59] ?_
 refine gE ?_; intros
 refine wc (fun c59 => ?_) fun c59 => ?_
 replace c59 := t_ne c59
 rw [if_pos c59] at hJ
 refine gD ?_; intros
 refine xM ?_
 refine xA ?_
 refine wn [4] ?_
 refine WC.ret (wR (h) ?_)
 exact ⟨by rw [hJ], rfl⟩
 replace c59 := f_ne c59
 rw [if_neg (by simpa using c59)] at hJ
 refine WC.skip (kp [0, 3, 5, 42, 43, 44] ?_)
 refine gD ?_; intros
 refine bI ?_
 refine xM ?_
 refine WL.nil (loopBackI (x.sp.fs.l.length - (i + 1)) [(44, .int .i64 (i + 1))] (h'' := .pt b3 (.cells (prE p).toArray 56 (0, 0)) :: h) (by omega) ?_ Su Sb ⟨i + 1, ⟨by omega, hJ⟩, rfl, rfl, rfl⟩)
 exact Su
 replace c45 := dF c45
 rw [show x.sp.fs.l.drop i = [] from List.drop_eq_nil_of_le (by omega)] at hJ
 refine WC.exit (kp [] ?_)
 refine gD ?_; intros
 refine xC ?_
 refine wn [4] ?_
 refine WC.ret (wR (h) ?_)
 exact ⟨by rw [hJ]; rfl, rfl⟩
end Go.Proofs.YtdhmplmpbcnojaaGreatDoor
end
/- TpK -/
section
namespace Go.Proofs.YtdhmplmpbcnojaaGreatDoor
open Go.Eng Go.Pc Go.Tg Go
open Go.Xp hiding B nameT
open Go.Ty (Ty Vr eqT tyV cellT zeroT PrOk VOk prL encV encV_len encI encI_len)
open Go.Lx (encB encB_len)
set_option maxRecDepth 100000
theorem ScR.snoc {m : View} {h h' : List Res} {a a' : Option Addr} {k c k' c' : Nat} {s : List En} {sp : Sp} {ar : Nat} (hs : ScR m h a k c s) (hh : h.Sublist h') (hr : Rd m h' a' k' c' 17 (fl enE (s ++ [⟨sp, ar⟩])))
   (hnm : Rd m h' sp.names.a sp.names.l.length sp.names.c 1 (fl encB sp.names.l)) (hfr : Rd m h' sp.fs.a sp.fs.l.length sp.fs.c 6 (fl foE sp.fs.l)) (hpr : PrOk m h' sp.vs.a sp.vs.l.length sp.vs.c sp.vs.l) (har : ar ≤ s.length) : ScR m h' a' k' c' (s ++ [⟨sp, ar⟩]) := by
 have hm := hs.mono hh
 refine ⟨hr, fun x hx => ?_, fun x hx => ?_, fun x hx => ?_, fun i x hx => ?_⟩
 · rcases List.mem_append.1 hx with h1 | h1
   · exact hm.nm x h1
   · cases List.mem_singleton.1 h1; exact hnm
 · rcases List.mem_append.1 hx with h1 | h1
   · exact hm.fr x h1
   · cases List.mem_singleton.1 h1; exact hfr
 · rcases List.mem_append.1 hx with h1 | h1
   · exact hm.pr x h1
   · cases List.mem_singleton.1 h1; exact hpr
 · rcases Nat.lt_or_ge i s.length with h1 | h1
   · rw [List.getElem?_append_left h1] at hx
     exact hs.ar i x hx
   · have h2 : i = s.length := by
       have := (List.getElem?_eq_some_iff.1 hx).1
       simp at this
       omega
     subst h2
     rw [List.getElem?_append_right (Nat.le_refl _), Nat.sub_self] at hx
     cases hx
     show 0 ≤ (ar : Int) ∧ (ar : Int) ≤ (s.length : Int)
     omega
theorem open_ct {m : View} {h : List Res} {s : List En} {a : Option Addr} {k c : Nat} (hs : ScR m h a k c s) (sp : Sp) (ar : Nat) (hn : s.length ≤ 1000000) :
   CT Tryz.prog 100 [.slice a k c, spV sp, .int .i64 ar] h m (fun v _ h' => OwnF enE 104 17 h (s ++ [⟨sp, ar⟩]) v h') := by
 have hl := hs.rd.lenF enE_len (by decide)
 have hmx := hs.rd.mx
 have hle := hs.rd.le
 subst hl
 have hb0 := hs.rd.sub0 s.length (Nat.le_refl _) hle
 refine CT.body Tryz.call100 Tryz.func100 rfl Tryz.ntmps100 Lb rfl ?_
 refine gD ?_; intros
 refine xX fun b4 => ?_
 refine WL.addNil 104 17 ?_
 refine xC ?_
 refine wn [0, 2, 4] ?_
 refine gE ?_; intros
 refine dS [9] (.op 0 (.op 1 (.op 2 (.op 3 (.op 4 (.op 5 (.op 6 (.op 7 (.op 8 (.op 9 .nil)))))))))) [10, 11] mixed ?_
 refine yG rfl (PO.move Et) ?_
 refine yG rfl (PO.move Et) ?_
 refine yG rfl (PO.lenSl u79 Et) ?_
 refine yG rfl (PO.move Et) ?_
 refine yG rfl (PO.lenSl u79 Et) ?_
 refine yG rfl (PO.sliceHM EL79.und EL79.size Et Et Et rfl rfl (by omega) (by omega)) ?_
 refine yG rfl (pA u54) ?_
 refine yG rfl (PO.move Et) ?_
 refine yG rfl (PO.build u104 rfl rfl rfl (EvP.cons Et (EvP.cons Et EvP.nil)) rfl) ?_
 refine SR.buildSlice rfl rfl EL79 rfl (EvP.cons Et EvP.nil) rfl rfl (by decide) rfl Lb fun b16 => ?_
 refine SR.nil rfl rfl ?_
 refine WL.appendR EL79 (Ev.tmp rfl) (Ev.tmp rfl) Rr Rr (by omega) rfl (fl_snoc (enc := enE) _ ((⟨sp, ar⟩ : En))) (by omega) (by omega) Lb fun a17 c17 => ?_
 refine xA ?_
 refine wn [6] ?_
 refine WC.ret (wR (.row (.slice (some ⟨a17, 0, none⟩) (s.length + 1) c17) 104 17 (s.length + 1) (fl enE (s ++ [⟨sp, ar⟩])) :: h) ?_)
 exact ⟨some ⟨a17, 0, none⟩, c17, s.length + 1, by simp, rfl, rfl⟩
theorem envS_snoc : ∀ (l : List Sp) (x : Sp) (i : Nat), envS (l ++ [x]) i = envS l i ++ [⟨x, ((i + l.length : Nat) : Int)⟩]
 | [], x, i => rfl
 | y :: r, x, i => by
   show (⟨y, (i : Int)⟩ : En) :: envS (r ++ [x]) (i + 1) = ⟨y, (i : Int)⟩ :: envS r (i + 1) ++ [_]
   rw [envS_snoc r x (i + 1), List.length_cons, show i + 1 + r.length = i + (r.length + 1) by omega]
   rfl
theorem envS_len : ∀ (l : List Sp) (i : Nat), (envS l i).length = l.length
 | [], _ => rfl
 | _ :: r, i => by
   show (envS r (i + 1)).length + 1 = r.length + 1
   rw [envS_len r]
theorem environment_ct {m : View} {h : List Res} (l : List Sp) (a : Option Addr) (k c : Nat) (hr : Rd m h a k c 16 (fl spE l)) (hn : l.length ≤ 1000000) :
   CT Tryz.prog 25 [.slice a k c] h m (fun v _ h' => OwnF enE 104 17 h (envS l 0) v h') := by
 have hl := hr.lenF spE_len (by decide)
 have hmx := hr.mx
 have hle := hr.le
 subst hl
 refine CT.body Tryz.call25 Tryz.func25 rfl Tryz.ntmps25 Lb rfl ?_
 refine gD ?_; intros
 refine xC ?_
 refine wn [0] ?_
 refine gD ?_; intros
 refine WL.addNil 104 17 ?_
 refine xC ?_
 refine wn [0, 3] ?_
 refine gD ?_; intros
 refine xM ?_
 refine xG (PO.lenSl u28 Et) ?_
 refine xK ?_
 refine wn [3, 6, 7, 8] ?_
 refine gE ?_; intros
 refine WC.loopI [6, 7] rfl (fun μ F' h' => ∃ i : Nat, ∃ ea : Option Addr, ∃ ec : Nat, (i ≤ l.length) ∧ l.length - i = μ ∧ F' = [(3, .slice ea i ec), (8, .int .i64 i)] ∧ .row (.slice ea i ec) 104 17 i (fl enE (envS (l.take i) 0)) :: h = h') (l.length - 0) [(3, .slice none 0 0), (8, .int .i64 0)] (h0 := .row (.slice none 0 0) 104 17 0 (fl enE (envS (l.take 0) 0)) :: h) ?_ Sb ⟨0, none, 0, by omega, rfl, rfl, rfl⟩ ?_
 exact Su
 rintro _ _ _ ⟨i, ea, ec, hk, rfl, rfl, rfl⟩
 refine WC.frm rfl ?_
 refine gD ?_; intros
 refine bD ?_
 refine wn [3, 6, 7, 8, 9] ?_
 refine gE ?_; intros
 refine wc (fun c9 => ?_) fun c9 => ?_
 replace c9 := dT c9
 obtain ⟨x, hx⟩ := get_some (l := l) (k := i) (by omega)
 have he : envS (l.take (i + 1)) 0 = envS (l.take i) 0 ++ [⟨x, (i : Int)⟩] := by
   rw [take_at hx, envS_snoc, List.length_take, Nat.min_eq_left (by omega), Nat.zero_add]
 refine WC.skip (kp [3, 6, 7, 8] ?_)
 refine gD ?_; intros
 refine xM ?_
 refine xG (PO.idx EL28.und EL28.size EL28.posz (Ev.tmp rfl) (Ev.tmp rfl) Rr rfl (by omega)) ?_
 refine xG (PO.loadFA u54 rfl rfl spE_len Rr (Ev.tmp rfl) (by assumption) rfl rfl (Nat.succ_pos _)) ?_
 refine xW fun b5 => ?_
 refine xA ?_
 refine xS ?_
 refine wn [3, 4, 5, 6, 7, 8] ?_
 refine gD ?_; intros
 refine xM ?_
 refine xG (pA u54) ?_
 refine xM ?_
 refine xG (PO.build u104 rfl rfl rfl (EvP.cons Et (EvP.cons Et EvP.nil)) rfl) ?_
 refine xY EL79 (EvP.cons Et EvP.nil) fun b17 => ?_
 refine xD EL79 (Ev.tmp rfl) (Ev.tmp rfl) rfl (fl_snoc (enc := enE) _ ((⟨x, (i : Int)⟩ : En))) fun a18 c18 => ?_
 rw [← he]
 refine xA ?_
 refine wn [3, 6, 7, 8] ?_
 refine gD ?_; intros
 refine bI ?_
 refine xM ?_
 refine WL.nil (loopBackI (l.length - (i + 1)) [(3, .slice a18 (i + 1) c18), (8, .int .i64 (i + 1))] (h'' := .row (.slice a18 (i + 1) c18) 104 17 (i + 1) (fl enE (envS (l.take (i + 1)) 0)) :: h) (by omega) ?_ Su Sb ⟨i + 1, a18, c18, by omega, rfl, rfl, rfl⟩)
 exact Su
 replace c9 := dF c9
 obtain rfl : i = l.length := by omega
 rw [List.take_length]
 refine WC.exit (kp [3] ?_)
 refine gD ?_; intros
 refine xM ?_
 refine xA ?_
 refine wn [2] ?_
 refine WC.ret (wR (.row (.slice ea l.length ec) 104 17 l.length (fl enE (envS l 0)) :: h) ?_)
 exact ⟨ea, ec, l.length, (envS_len l 0).symm, rfl, rfl⟩
theorem ScR.permH {m : View} {h h' : List Res} {a : Option Addr} {k c : Nat} {s : List En} (q : ScR m h a k c s) (p : h.Perm h') : ScR m h' a k c s :=
 ⟨q.rd.permH p, fun x hx => (q.nm x hx).permH p, fun x hx => (q.fr x hx).permH p, fun x hx => pr_perm (q.pr x hx) p, q.ar⟩
section
variable {m : View} {h : List Res} {s : List En} {a : Option Addr} {k c : Nat}
theorem inside1_ct (hs : ScR m h a k c s) (b2 b3 : Nat) (r : Rp) (hb2 : Res.pt b2 (.cells [.slice a k c].toArray 79 (0, 0)) ∈ h) (hb3 : Res.pt b3 (.cells (rpE r).toArray 43 (0, 0)) ∈ h) (hx : XOk m h r.base) :
   CT Tryz.prog 135 [.pointer (some ⟨b2, 0, none⟩), .pointer (some ⟨b3, 0, none⟩)] h m (Pure1 h (.int .i64 (isX (shL s) r.base (tyK 1)))) := by
 refine CT.body Tryz.call135 Tryz.func135 rfl Tryz.ntmps135 Lb rfl ?_
 refine gD ?_; intros
 refine xC ?_
 refine wn [0, 1] ?_
 refine gE ?_; intros
 refine dS [3] (.op 0 (.op 1 (.op 2 (.op 3 .nil)))) [4, 5] mixed ?_
 refine yG rfl (PO.load1 u79 rfl Et hb2 rfl) ?_
 refine yG rfl (pF u43) ?_
 refine yG rfl (PO.loadA u27 rfl rfl Et hb3 rfl) ?_
 refine yf rfl (E1 Ev.const) (fun fr => tof_ct _ _ _) ?_
 refine SR.nil rfl rfl ?_
 refine xf (E3 Et Et Et) (isR_ct (hs.mono Sb) r.base (tyK 1) (hx.mono Sb)) ?_
 refine xA ?_
 refine wn [2] ?_
 refine WC.ret (wR (h) ?_)
 exact ⟨rfl, rfl⟩
theorem inside2_ct (hs : ScR m h a k c s) (b2 b3 : Nat) (r : Rp) (hb2 : Res.pt b2 (.cells [.slice a k c].toArray 79 (0, 0)) ∈ h) (hb3 : Res.pt b3 (.cells (rpE r).toArray 43 (0, 0)) ∈ h) (hx : XOk m h r.count) :
   CT Tryz.prog 136 [.pointer (some ⟨b2, 0, none⟩), .pointer (some ⟨b3, 0, none⟩)] h m (Pure1 h (.int .i64 (isX (shL s) r.count (tyK 1)))) := by
 refine CT.body Tryz.call136 Tryz.func136 rfl Tryz.ntmps136 Lb rfl ?_
 refine gD ?_; intros
 refine xC ?_
 refine wn [0, 1] ?_
 refine gE ?_; intros
 refine dS [3] (.op 0 (.op 1 (.op 2 (.op 3 .nil)))) [4, 5] mixed ?_
 refine yG rfl (PO.load1 u79 rfl Et hb2 rfl) ?_
 refine yG rfl (pF u43) ?_
 refine yG rfl (PO.loadA u27 rfl rfl Et hb3 rfl) ?_
 refine yf rfl (E1 Ev.const) (fun fr => tof_ct _ _ _) ?_
 refine SR.nil rfl rfl ?_
 refine xf (E3 Et Et Et) (isR_ct (hs.mono Sb) r.count (tyK 1) (hx.mono Sb)) ?_
 refine xA ?_
 refine wn [2] ?_
 refine WC.ret (wR (h) ?_)
 exact ⟨rfl, rfl⟩
end
theorem first2_ct {m : View} {h : List Res} (b : Nat) (q1 q2 : FuncId) (u1 u2 : List Value) (e1 e2 : Int) (hb : Res.pt b (.cells [fnV (q1, u1), fnV (q2, u2)].toArray 154 (0, 0)) ∈ h) (c1 : CT Tryz.prog q1 u1 h m (Pure1 h (.int .i64 e1))) (c2 : CT Tryz.prog q2 u2 h m (Pure1 h (.int .i64 e2))) :
   CT Tryz.prog 90 [.slice (some ⟨b, 0, none⟩) 2 2] h m (Pure1 h (.int .i64 (if e1 ≠ 0 then e1 else e2))) := by
 refine (first_ct (some ⟨b, 0, none⟩) 2 [(q1, u1), (q2, u2)] [e1, e2] rfl (Rd.ofPt rfl Lb hb) (fun i p e hp he => ?_)).val (congrArg (Value.int .i64) ?_)
 · match i, hp, he with
   | 0, hp, he => cases hp; cases he; exact c1
   | 1, hp, he => cases hp; cases he; exact c2
 · show (if e1 ≠ 0 then e1 else if e2 ≠ 0 then e2 else 0) = _
   have e : (if e2 ≠ 0 then e2 else 0) = e2 := by split <;> omega
   rw [e]
theorem first3_ct {m : View} {h : List Res} (b : Nat) (q1 q2 q3 : FuncId) (u1 u2 u3 : List Value) (e1 e2 e3 : Int) (hb : Res.pt b (.cells [fnV (q1, u1), fnV (q2, u2), fnV (q3, u3)].toArray 154 (0, 0)) ∈ h) (c1 : CT Tryz.prog q1 u1 h m (Pure1 h (.int .i64 e1))) (c2 : CT Tryz.prog q2 u2 h m (Pure1 h (.int .i64 e2))) (c3 : CT Tryz.prog q3 u3 h m (Pure1 h (.int .i64 e3))) :
   CT Tryz.prog 90 [.slice (some ⟨b, 0, none⟩) 3 3] h m (Pure1 h (.int .i64 (if e1 ≠ 0 then e1 else if e2 ≠ 0 then e2 else e3))) := by
 refine (first_ct (some ⟨b, 0, none⟩) 3 [(q1, u1), (q2, u2), (q3, u3)] [e1, e2, e3] rfl (Rd.ofPt rfl Lb hb) (fun i p e hp he => ?_)).val (congrArg (Value.int .i64) ?_)
 · match i, hp, he with
   | 0, hp, he => cases hp; cases he; exact c1
   | 1, hp, he => cases hp; cases he; exact c2
   | 2, hp, he => cases hp; cases he; exact c3
 · show (if e1 ≠ 0 then e1 else if e2 ≠ 0 then e2 else if e3 ≠ 0 then e3 else 0) = _
   have e : (if e3 ≠ 0 then e3 else 0) = e3 := by split <;> omega
   rw [e]
def inSp (b : Nat) (k : Int) (ty : Ty) (nm : B) : Sp := .mk k ty ⟨some ⟨b, 0, none⟩, 1, [nm]⟩ zeroE false nilS nilS none 0 []
def inEn (b : Nat) (k : Int) (ty : Ty) (nm : B) (ar : Nat) : En := ⟨inSp b k ty nm, ar⟩
def InS (m : View) (h : List Res) (S : List Ent) (n : Nat) (e : Int) (nh : List Res) (v : Value) : Prop := ∃ (a : Option Addr) (k c : Nat) (s : List En), v = .tuple #[.slice a k c, .int .i64 e] ∧ ScR m (h ++ nh) a k c s ∧ shL s = S ∧ s.length ≤ n
theorem inside_ct {m : View} {h : List Res} {s : List En} {a : Option Addr} {k c : Nat} (hs : ScR m h a k c s) (r : Rp) (hx : r.name ≠ [] → XOk m h r.base ∧ XOk m h r.count) (hn : s.length ≤ 1000000) :
   CT Tryz.prog 82 [.slice a k c, rpV r] h m (fun v _ h' => ∃ nh, h' = h ++ nh ∧ InS m h (repS (shL s) r) (s.length + 1) (repX (shL s) r) nh v) := by
 refine CT.swap ?_
 have hl := hs.rd.lenF enE_len (by decide)
 subst hl
 refine CT.body Tryz.call82 Tryz.func82 rfl Tryz.ntmps82 Lb rfl ?_
 refine gD ?_; intros
 refine xX fun b2 => ?_
 refine xX fun b3 => ?_
 refine xC ?_
 refine xC ?_
 refine wn [2, 3] ?_
 refine gD ?_; intros
 refine xF u43 ?_
 refine xG (pL u9) ?_
 refine xG (PO.eqlS Et Ev.const) ?_
 refine wn [2, 3, 9] ?_
 refine gE ?_; intros
 refine wc (fun c9 => ?_) fun c9 => ?_
 have hnm : r.name = [] := by simpa using c9
 refine gD ?_; intros
 refine xG (pL u79) ?_
 refine xA ?_
 refine xC ?_
 refine wn [4, 5] ?_
 refine WC.ret (end2 (h' := h) (.inl rfl) rfl (RV.tmp rfl) (RV.tmp rfl) (View.le.refl m) Sb ?_)
 exact ⟨[], rfl, a, s.length, c, s, by unfold repX; rw [if_pos hnm], hs.mono (List.sublist_append_left _ _), by unfold repS; rw [if_pos hnm], Nat.le_succ _⟩
 have hnm : r.name ≠ [] := by simpa using c9
 obtain ⟨hx1, hx2⟩ := hx hnm
 refine WC.skip (kp [2, 3] ?_)
 refine gD ?_; intros
 refine xG (PO.makeFunc Evs.nil (E2 Et Et)) ?_
 refine xG (PO.makeFunc Evs.nil (E2 Et Et)) ?_
 refine xY EL189 (EvP.cons Et (EvP.cons Et EvP.nil)) fun b13 => ?_
 refine xf (E1 Et) (first2_ct b13 135 136 [.pointer (some ⟨b2, 0, none⟩), .pointer (some ⟨b3, 0, none⟩)] [.pointer (some ⟨b2, 0, none⟩), .pointer (some ⟨b3, 0, none⟩)] (isX (shL s) r.base (tyK 1)) (isX (shL s) r.count (tyK 1)) Me (inside1_ct (hs.mono Sb) _ _ r Me Me (hx1.mono Sb)) (inside2_ct (hs.mono Sb) _ _ r Me Me (hx2.mono Sb))) ?_
 refine xA ?_
 refine wn [2, 3, 6] ?_
 refine gE ?_; intros
 refine WC.drawS [1, 4, 8] (.op 0 (.op 2 (.op 3 (.op 6 (.op 7 (.op 9 (.alt (.op 1 (.op 4 (.op 5 (.op 8 .nil)))) (.op 4 (.op 1 (.op 5 (.op 8 .nil))))))))))) [10, 11] _ [] mixed (fun _ _ _ _ _ h => h) [9] (by kernel_rfl) ?_
 refine yG rfl (pL u79) ?_
 refine yG rfl (pF u43) ?_
 refine yG rfl (pL u9) ?_
 refine yG rfl (pL u79) ?_
 refine yG rfl (PO.lenSl u79 Et) ?_
 refine yG rfl (PO.move Et) ?_
 refine SR.alt ?_ ?_
 refine yf rfl (E1 Ev.const) (fun fr => tof_ct _ _ _) ?_
 refine SR.buildSlice rfl rfl EL48 rfl (EvP.cons Et EvP.nil) rfl rfl (by decide) rfl Lb fun b19 => ?_
 refine yG rfl (PO.build u54 rfl rfl rfl (EvP.cons Ev.const (EvP.cons Et (EvP.cons Et EvP.nil))) rfl) ?_
 refine SR.callF rfl rfl Ev.func (E3 Et Et Et) (fun fr => open_ct (hs.mono Sb) (inSp b19 2 (tyK 1) r.name) s.length hn) Lb fun a23 c23 => ?_
 refine SR.nil rfl rfl ?_
 refine WL.knowRow (a := a23) Me fun hk1 hk2 hk3 => ?_
 refine xA ?_
 refine xA ?_
 refine wn [4, 5] ?_
 refine WC.ret (end2 (h' := .row (.slice a23 (s ++ [inEn b19 2 (tyK 1) r.name s.length]).length c23) 104 17 (s ++ [inEn b19 2 (tyK 1) r.name s.length]).length (fl enE (s ++ [inEn b19 2 (tyK 1) r.name s.length])) :: .pt b19 (.cells [str r.name].toArray 9 (0, 0)) :: h) (.inl rfl) rfl (RV.tmp rfl) (RV.tmp rfl) (View.le.refl m) Sb ?_)
 refine ⟨[_, _], rfl, a23, _, c23, s ++ [inEn b19 2 (tyK 1) r.name s.length], by unfold repX; rw [if_neg hnm], ?_, ?_, by simp⟩
 · refine ScR.permH (h := [_, _] ++ h) (ScR.snoc (sp := inSp b19 2 (tyK 1) r.name) (ar := s.length) hs Sb (Rd.ofRow hk3 hk1 hk2 Me) (Rd.ofPt rfl Lb Me) (Rd.nilF foE 6 _ _) (prNil _ _) (Nat.le_refl _)) List.perm_append_comm
 · unfold repS shL
   rw [if_neg hnm, List.map_append, List.length_map]
   rfl
 refine SR.buildSlice rfl rfl EL48 rfl (EvP.cons Et EvP.nil) rfl rfl (by decide) rfl Lb fun b19 => ?_
 refine yf rfl (E1 Ev.const) (fun fr => tof_ct _ _ _) ?_
 refine yG rfl (PO.build u54 rfl rfl rfl (EvP.cons Ev.const (EvP.cons Et (EvP.cons Et EvP.nil))) rfl) ?_
 refine SR.callF rfl rfl Ev.func (E3 Et Et Et) (fun fr => open_ct (hs.mono Sb) (inSp b19 2 (tyK 1) r.name) s.length hn) Lb fun a23 c23 => ?_
 refine SR.nil rfl rfl ?_
 refine WL.knowRow (a := a23) Me fun hk1 hk2 hk3 => ?_
 refine xA ?_
 refine xA ?_
 refine wn [4, 5] ?_
 refine WC.ret (end2 (h' := .row (.slice a23 (s ++ [inEn b19 2 (tyK 1) r.name s.length]).length c23) 104 17 (s ++ [inEn b19 2 (tyK 1) r.name s.length]).length (fl enE (s ++ [inEn b19 2 (tyK 1) r.name s.length])) :: .pt b19 (.cells [str r.name].toArray 9 (0, 0)) :: h) (.inl rfl) rfl (RV.tmp rfl) (RV.tmp rfl) (View.le.refl m) Sb ?_)
 refine ⟨[_, _], rfl, a23, _, c23, s ++ [inEn b19 2 (tyK 1) r.name s.length], by unfold repX; rw [if_neg hnm], ?_, ?_, by simp⟩
 · refine ScR.permH (h := [_, _] ++ h) (ScR.snoc (sp := inSp b19 2 (tyK 1) r.name) (ar := s.length) hs Sb (Rd.ofRow hk3 hk1 hk2 Me) (Rd.ofPt rfl Lb Me) (Rd.nilF foE 6 _ _) (prNil _ _) (Nat.le_refl _)) List.perm_append_comm
 · unfold repS shL
   rw [if_neg hnm, List.map_append, List.length_map]
   rfl
end Go.Proofs.YtdhmplmpbcnojaaGreatDoor
end
/- TpL -/
section
namespace Go.Proofs.YtdhmplmpbcnojaaGreatDoor
open Go.Eng Go.Pc Go.Tg Go
open Go.Xp hiding B nameT
open Go.Ty (Ty Vr eqT tyV cellT zeroT PrOk VOk prL encV encV_len encI encI_len)
open Go.Lx (encB encB_len)
set_option maxRecDepth 100000
theorem xok {m : View} {h : List Res} {e : Ex} (q : EOk m h e) (hm : mayE e = true) : XOk m h e := ⟨q.t, q.w, (may_good hm).1⟩
theorem lxk {m : View} {h : List Res} {l : Sli Ex} (q : LOk m h l) (hm : ∀ x ∈ l.l, mayE x = true) : LXk m h l := ⟨q.rd, fun x hx => xok (q.ok x hx) (hm x hx)⟩
theorem rep_x {m : View} {h : List Res} {r : Rp} (hb : EOk m h r.base) (hc : EOk m h r.count) (h1 : repP r = true) : r.name ≠ [] → XOk m h r.base ∧ XOk m h r.count := by
 intro hn
 unfold repP at h1
 rw [if_neg (by simpa using hn)] at h1
 simp only [Bool.and_eq_true] at h1
 exact ⟨xok hb h1.1.2, xok hc h1.2⟩
def ProcC (m : View) (p : Pr) : Prop := ∀ (h : List Res) (s : List En) (a : Option Addr) (k c : Nat), ScR m h a k c s → POk m h p → s.length + 16 * cntP p ≤ 1000000 → CT Tryz.prog 35 [.slice a k c, prV p] h m (Pure1 h (.int .i64 (chkP p (shL s))))
theorem block_ct {m : View} {h : List Res} {s : List En} {a : Option Addr} {k c : Nat} (hs : ScR m h a k c s) (p : Pr) (hP : POk m h p) (hV : Pl p) (hn : s.length + 16 * cntP p ≤ 1000000) (ih : ∀ x, In x p → ProcC m x) :
   CT Tryz.prog 54 [.slice a k c, prV p] h m (Pure1 h (.int .i64 (if repX (shL s) p.rep ≠ 0 then repX (shL s) p.rep else chkL p.ll (repS (shL s) p.rep)))) := by
 obtain ⟨G, hG⟩ : ∃ G, G = if repX (shL s) p.rep ≠ 0 then repX (shL s) p.rep else chkL p.ll (repS (shL s) p.rep) := ⟨_, rfl⟩
 rw [← hG]
 have hO := hP.own
 have hrl := hO.l
 have lmx := hrl.mx
 have lle := hrl.le
 refine CT.body Tryz.call54 Tryz.func54 rfl Tryz.ntmps54 Lb rfl ?_
 refine gD ?_; intros
 refine xX fun b3 => ?_
 refine xC ?_
 refine wn [0, 3] ?_
 refine gD ?_; intros
 refine xM ?_
 refine xF u56 ?_
 refine xG (pA u43) ?_
 refine xg (E2 Et Et) (inside_ct (hs.mono Sb) p.rep (rep_x (hO.rb.mono Sb) (hO.rc.mono Sb) hV.rep) (by omega)) ?_
 rintro _ _ ⟨nh, rfl, ia, ik, ic, is, rfl, his, hiS, hil⟩
 refine xM ?_
 refine xE ?_
 refine xE ?_
 refine xA ?_
 refine xA ?_
 refine wn [3, 5, 6] ?_
 refine gD ?_; intros
 refine xF u56 ?_
 refine xG (pL u45) ?_
 refine xG (PO.lenSl u45 Et) ?_
 refine xK ?_
 refine wn [5, 6, 17, 18, 19] ?_
 refine gE ?_; intros
 refine WC.loopI [5, 17, 18] rfl (fun μ F' h' => ∃ i : Nat, ∃ er : Int, (i ≤ p.ll.length ∧ G = (if er ≠ 0 then er else chkL (p.ll.drop i) (shL is))) ∧ p.ll.length - i = μ ∧ F' = [(6, .int .i64 er), (19, .int .i64 i)] ∧ (.pt b3 (.cells (prE p).toArray 56 (0, 0)) :: h) ++ nh = h') (p.ll.length - 0) [(6, .int .i64 (repX (shL s) p.rep)), (19, .int .i64 0)] (h0 := (.pt b3 (.cells (prE p).toArray 56 (0, 0)) :: h) ++ nh) ?_ Sb ⟨0, repX (shL s) p.rep, ⟨by omega, by rw [hiS]; exact hG⟩, rfl, rfl, rfl⟩ ?_
 exact Su
 rintro _ _ _ ⟨i, er, ⟨hk, hJ⟩, rfl, rfl, rfl⟩
 refine WC.frm rfl ?_
 refine gD ?_; intros
 refine bD ?_
 refine wn [5, 6, 17, 18, 19, 20] ?_
 refine gE ?_; intros
 refine wc (fun c20 => ?_) fun c20 => ?_
 replace c20 := dT c20
 obtain ⟨x, hx⟩ := get_some (l := p.ll) (k := i) (by omega)
 have hxm := List.mem_of_getElem? hx
 rw [drop_at hx] at hJ
 have hxi : In x p := In.l hxm
 have hlt := hxi.lt
 refine WC.skip (kp [5, 6, 17, 18, 19] ?_)
 refine gD ?_; intros
 refine xG (PO.idx EL45.und EL45.size EL45.posz (Ev.tmp rfl) (Ev.tmp rfl) Rr rfl (by omega)) ?_
 refine xG (PO.loadFA u56 rfl rfl prE_len Rr (Ev.tmp rfl) (by assumption) rfl rfl (Nat.succ_pos _)) ?_
 refine xW fun b8 => ?_
 refine xS ?_
 refine wn [5, 6, 8, 17, 18, 19] ?_
 refine gD ?_; intros
 refine xM ?_
 refine bB ?_
 refine wn [5, 6, 8, 17, 18, 19, 24] ?_
 refine gE ?_; intros
 refine wc (fun c24 => ?_) fun c24 => ?_
 replace c24 := t_ne c24
 rw [if_pos c24] at hJ
 refine gD ?_; intros
 refine xM ?_
 refine xA ?_
 refine wn [4] ?_
 refine WC.ret (wR (h) ?_)
 exact ⟨by rw [hJ], rfl⟩
 replace c24 := f_ne c24
 rw [if_neg (by simpa using c24)] at hJ
 replace hJ : G = if chkP x (shL is) ≠ 0 then chkP x (shL is) else chkL (p.ll.drop (i + 1)) (shL is) := hJ
 refine WC.skip (kp [5, 8, 17, 18, 19] ?_)
 refine gD ?_; intros
 refine xM ?_
 refine xG (pA u56) ?_
 refine xf (E2 Et Et) (ih x hxi _ is ia ik ic (his.mono Sb) ((hP.sub hxi).mono Sb) (by omega)) ?_
 refine xA ?_
 refine wn [5, 6, 17, 18, 19] ?_
 refine gD ?_; intros
 refine bI ?_
 refine xM ?_
 refine WL.nil (loopBackI (p.ll.length - (i + 1)) [(6, .int .i64 (chkP x (shL is))), (19, .int .i64 (i + 1))] (h'' := (.pt b3 (.cells (prE p).toArray 56 (0, 0)) :: h) ++ nh) (by omega) ?_ Su Sb ⟨i + 1, chkP x (shL is), ⟨by omega, hJ⟩, rfl, rfl, rfl⟩)
 exact Su
 replace c20 := dF c20
 rw [show p.ll.drop i = [] from List.drop_eq_nil_of_le (by omega)] at hJ
 have hJ : G = er := by rw [hJ]; show (if er ≠ 0 then er else 0) = er; split <;> omega
 refine WC.exit (kp [6] ?_)
 refine gD ?_; intros
 refine xM ?_
 refine xA ?_
 refine wn [4] ?_
 refine WC.ret (wR (h) ?_)
 exact ⟨by rw [hJ], rfl⟩
section
variable {m : View} {h : List Res} {s : List En} {a : Option Addr} {k c : Nat}
theorem guard1_ct (hs : ScR m h a k c s) (bg b2 : Nat) (g : Gu) (hb2 : Res.pt b2 (.cells [.slice a k c].toArray 79 (0, 0)) ∈ h) (hbg : Res.pt bg (.cells (guE g).toArray 70 (0, 0)) ∈ h) (hx : g.cond.k ≠ 0 → XOk m h g.cond) :
   CT Tryz.prog 138 [.pointer (some ⟨bg, 0, none⟩), .pointer (some ⟨b2, 0, none⟩)] h m (Pure1 h (.int .i64 (if g.cond.k = 0 then 0 else isX (shL s) g.cond (tyK 3)))) := by
 refine CT.body Tryz.call138 Tryz.func138 rfl Tryz.ntmps138 Lb rfl ?_
 refine gD ?_; intros
 refine xC ?_
 refine wn [0, 1] ?_
 refine gD ?_; intros
 refine xF u70 ?_
 refine xF u27 ?_
 refine xG (PO.load1 u22 rfl Et hbg rfl) ?_
 refine bB ?_
 refine wn [0, 1, 6] ?_
 refine gE ?_; intros
 refine wc (fun c6 => ?_) fun c6 => ?_
 replace c6 := t_eq c6
 refine gD ?_; intros
 refine xC ?_
 refine wn [2] ?_
 refine WC.ret (wR (h) ?_)
 exact ⟨by rw [if_pos c6], rfl⟩
 replace c6 := f_eq c6
 have hx := hx c6
 refine WC.skip (kp [0, 1] ?_)
 refine gE ?_; intros
 refine dS [3] (.op 0 (.op 1 (.op 2 (.op 3 .nil)))) [4, 5] mixed ?_
 refine yG rfl (PO.load1 u79 rfl Et hb2 rfl) ?_
 refine yG rfl (pF u70) ?_
 refine yG rfl (PO.loadA u27 rfl rfl Et hbg rfl) ?_
 refine yf rfl (E1 Ev.const) (fun fr => tof_ct _ _ _) ?_
 refine SR.nil rfl rfl ?_
 refine xf (E3 Et Et Et) (isR_ct (hs.mono Sb) g.cond (tyK 3) (hx.mono Sb)) ?_
 refine xA ?_
 refine wn [2] ?_
 refine WC.ret (wR (h) ?_)
 exact ⟨by rw [if_neg c6], rfl⟩
theorem guard2_ct (hg : Glob m) (hs : ScR m h a k c s) (bg b2 : Nat) (g : Gu) (hb2 : Res.pt b2 (.cells [.slice a k c].toArray 79 (0, 0)) ∈ h) (hbg : Res.pt bg (.cells (guE g).toArray 70 (0, 0)) ∈ h) (hc : g.k = 3 ∨ g.k = 4 → XOk m h g.ch) (ht : g.k = 4 → XOk m h g.time) (ho : LXk m h g.tg) :
   CT Tryz.prog 139 [.pointer (some ⟨bg, 0, none⟩), .pointer (some ⟨b2, 0, none⟩)] h m (Pure1 h (.int .i64 (if g.k = 3 then recvX (shL s) g.ch g.tg.l else if g.k = 4 then afterX (shL s) g.ch g.time else 0))) := by
 refine CT.body Tryz.call139 Tryz.func139 rfl Tryz.ntmps139 Lb rfl ?_
 refine gD ?_; intros
 refine xC ?_
 refine wn [0, 1] ?_
 refine gD ?_; intros
 refine xF u70 ?_
 refine xG (PO.load1 u68 rfl Et hbg rfl) ?_
 refine wn [0, 1, 4] ?_
 refine gD ?_; intros
 refine bB ?_
 refine xA ?_
 refine wn [0, 1, 4, 5] ?_
 refine gE ?_; intros
 refine wc (fun c5 => ?_) fun c5 => ?_
 replace c5 := t_eq c5
 have hc := hc (.inl c5)
 refine gD ?_; intros
 refine xG (PO.load1 u79 rfl Et hb2 rfl) ?_
 refine xF u70 ?_
 refine xG (PO.loadA u27 rfl rfl Et hbg rfl) ?_
 refine xF u70 ?_
 refine xG (PO.load1 u25 rfl Et hbg rfl) ?_
 refine xf (E3 Et Et Et) (recv_ct hg hs g.ch hc g.tg ho) ?_
 refine xA ?_
 refine wn [2] ?_
 refine WC.ret (wR (h) ?_)
 exact ⟨by rw [if_pos c5], rfl⟩
 replace c5 := f_eq c5
 refine gD ?_; intros
 refine bB ?_
 refine xA ?_
 refine wn [0, 1, 13] ?_
 refine gE ?_; intros
 refine wc (fun c13 => ?_) fun c13 => ?_
 replace c13 := t_eq c13
 have hc := hc (.inr c13)
 have ht := ht c13
 refine gD ?_; intros
 refine xG (PO.load1 u79 rfl Et hb2 rfl) ?_
 refine xF u70 ?_
 refine xG (PO.loadA u27 rfl rfl Et hbg rfl) ?_
 refine xF u70 ?_
 refine xG (PO.loadA u27 rfl rfl Et hbg rfl) ?_
 refine xf (E3 Et Et Et) (after_ct hg hs g.ch g.time hc ht) ?_
 refine xA ?_
 refine wn [2] ?_
 refine WC.ret (wR (h) ?_)
 exact ⟨by rw [if_neg c5, if_pos c13], rfl⟩
 replace c13 := f_eq c13
 refine WC.skip (kp [] ?_)
 refine gD ?_; intros
 refine xC ?_
 refine wn [2] ?_
 refine WC.ret (wR (h) ?_)
 exact ⟨by rw [if_neg c5, if_neg c13], rfl⟩
theorem guard3_ct (hs : ScR m h a k c s) (bg b2 : Nat) (g : Gu) (hb2 : Res.pt b2 (.cells [.slice a k c].toArray 79 (0, 0)) ∈ h) (hbg : Res.pt bg (.cells (guE g).toArray 70 (0, 0)) ∈ h) (x : Pr) (hx : g.bl[0]? = some x) (hr : Rd m h g.ba g.bl.length g.bc 42 (fl prE g.bl)) (ih : ProcC m x) (hP : POk m h x) (hn : s.length + 16 * cntP x ≤ 1000000) :
   CT Tryz.prog 140 [.pointer (some ⟨b2, 0, none⟩), .pointer (some ⟨bg, 0, none⟩)] h m (Pure1 h (.int .i64 (chkP x (shL s)))) := by
 have hlt : 0 < g.bl.length := (List.getElem?_eq_some_iff.1 hx).1
 refine CT.body Tryz.call140 Tryz.func140 rfl Tryz.ntmps140 Lb rfl ?_
 refine gD ?_; intros
 refine xC ?_
 refine wn [0, 1] ?_
 refine gE ?_; intros
 refine dS [] (.op 0 (.op 1 (.op 2 (.op 3 (.op 4 .nil))))) [5, 6] mixed ?_
 refine yG rfl (PO.load1 u79 rfl Et hb2 rfl) ?_
 refine yG rfl (pF u70) ?_
 refine yG rfl (PO.load1 u45 rfl Et hbg rfl) ?_
 refine yG rfl (PO.idx EL45.und EL45.size EL45.posz (Ev.tmp rfl) Ev.const Rr rfl (q := 0) (by omega)) ?_
 refine yG rfl (PO.loadFA u56 rfl rfl prE_len Rr (Ev.tmp rfl) (by assumption) rfl rfl (Nat.succ_pos _)) ?_
 refine SR.nil rfl rfl ?_
 refine xf (E2 Et Et) (ih _ s a k c (hs.mono Sb) (hP.mono Sb) hn) ?_
 refine xA ?_
 refine wn [2] ?_
 refine WC.ret (wR (h) ?_)
 exact ⟨rfl, rfl⟩
end
theorem chkH_at {l : List Pr} {x : Pr} (h : l[0]? = some x) (S : List Ent) : chkH l S = chkP x S := by
 cases l with
 | nil => cases h
 | cons y r => cases h; rfl
theorem guard_ct {m : View} {h : List Res} {s : List En} {a : Option Addr} {k c : Nat} (hg : Glob m) (hs : ScR m h a k c s) (g : Gu) (hO : GOk m h g) (hV : GuV g) (hk : 1 ≤ g.k ∧ g.k ≤ 4) (hP : ∀ x ∈ g.bl, POk m h x) (ih : ∀ x ∈ g.bl, ProcC m x) (hn : ∀ x ∈ g.bl, s.length + 16 * cntP x ≤ 1000000) :
   CT Tryz.prog 93 [.slice a k c, guV g] h m (Pure1 h (.int .i64 (chkG1 g (shL s)))) := by
 obtain ⟨x, hx⟩ := get_some (l := g.bl) (k := 0) (by have := hV.body; omega)
 have hxm := List.mem_of_getElem? hx
 have hR : chkG1 g (shL s) = if (if g.cond.k = 0 then 0 else isX (shL s) g.cond (tyK 3)) ≠ 0 then (if g.cond.k = 0 then 0 else isX (shL s) g.cond (tyK 3)) else if (if g.k = 3 then recvX (shL s) g.ch g.tg.l else if g.k = 4 then afterX (shL s) g.ch g.time else 0) ≠ 0 then (if g.k = 3 then recvX (shL s) g.ch g.tg.l else if g.k = 4 then afterX (shL s) g.ch g.time else 0) else chkP x (shL s) := by
   rw [← chkH_at hx]
   cases g
   rfl
 have hcx : g.cond.k ≠ 0 → XOk m h g.cond := fun h0 => by
   rcases hV.cond hk.1 hk.2 with h1 | h1
   · exact xok hO.cond h1
   · exact absurd (none_kind h1) h0
 have htg : LXk m h g.tg := lxk hO.tg fun x hx => elem_may (hV.tg x hx)
 refine CT.body Tryz.call93 Tryz.func93 rfl Tryz.ntmps93 Lb rfl ?_
 refine gD ?_; intros
 refine xX fun b2 => ?_
 refine xX fun b3 => ?_
 refine xC ?_
 refine wn [2, 3] ?_
 refine gD ?_; intros
 refine xG (PO.makeFunc Evs.nil (E2 Et Et)) ?_
 refine xG (PO.makeFunc Evs.nil (E2 Et Et)) ?_
 refine xG (PO.makeFunc Evs.nil (E2 Et Et)) ?_
 refine xY EL189 (EvP.cons Et (EvP.cons Et (EvP.cons Et EvP.nil))) fun b8 => ?_
 refine xf (E1 Et) (first3_ct b8 138 139 140 [.pointer (some ⟨b3, 0, none⟩), .pointer (some ⟨b2, 0, none⟩)] [.pointer (some ⟨b3, 0, none⟩), .pointer (some ⟨b2, 0, none⟩)] [.pointer (some ⟨b2, 0, none⟩), .pointer (some ⟨b3, 0, none⟩)] _ _ _ Me (guard1_ct (hs.mono Sb) _ _ g Me Me (fun h0 => (hcx h0).mono Sb)) (guard2_ct hg (hs.mono Sb) _ _ g Me Me (fun h0 => (xok hO.ch (elem_may (hV.ch h0))).mono Sb) (fun h0 => (xok hO.time (hV.time h0)).mono Sb) (htg.mono Sb)) (guard3_ct (hs.mono Sb) _ _ g Me Me x hx (hO.b.mono (View.le.refl _) Sb) (ih x hxm) ((hP x hxm).mono Sb) (hn x hxm))) ?_
 refine xA ?_
 refine wn [4] ?_
 refine WC.ret (wR (h) ?_)
 exact ⟨by rw [hR], rfl⟩
theorem choice_ct {m : View} {h : List Res} {s : List En} {a : Option Addr} {k c : Nat} (hg : Glob m) (hs : ScR m h a k c s) (p : Pr) (hP : POk m h p) (hV : Pl p) (hkk : 1 ≤ (fieldsP p.k).1.lo ∧ (fieldsP p.k).1.hi ≤ 4) (hn : s.length + 16 * cntP p ≤ 1000000) (ih : ∀ x, In x p → ProcC m x) :
   CT Tryz.prog 60 [.slice a k c, prV p] h m (Pure1 h (.int .i64 (if repX (shL s) p.rep ≠ 0 then repX (shL s) p.rep else chkG p.gl (repS (shL s) p.rep)))) := by
 obtain ⟨G, hG⟩ : ∃ G, G = if repX (shL s) p.rep ≠ 0 then repX (shL s) p.rep else chkG p.gl (repS (shL s) p.rep) := ⟨_, rfl⟩
 rw [← hG]
 have hO := hP.own
 have hrl := hO.g
 have lmx := hrl.mx
 have lle := hrl.le
 refine CT.body Tryz.call60 Tryz.func60 rfl Tryz.ntmps60 Lb rfl ?_
 refine gD ?_; intros
 refine xX fun b3 => ?_
 refine xC ?_
 refine wn [0, 3] ?_
 refine gD ?_; intros
 refine xM ?_
 refine xF u56 ?_
 refine xG (pA u43) ?_
 refine xg (E2 Et Et) (inside_ct (hs.mono Sb) p.rep (rep_x (hO.rb.mono Sb) (hO.rc.mono Sb) hV.rep) (by omega)) ?_
 rintro _ _ ⟨nh, rfl, ia, ik, ic, is, rfl, his, hiS, hil⟩
 refine xM ?_
 refine xE ?_
 refine xE ?_
 refine xA ?_
 refine xA ?_
 refine wn [3, 5, 6] ?_
 refine gD ?_; intros
 refine xF u56 ?_
 refine xG (pL u44) ?_
 refine xG (PO.lenSl u44 Et) ?_
 refine xK ?_
 refine wn [5, 6, 17, 18, 19] ?_
 refine gE ?_; intros
 refine WC.loopI [5, 17, 18] rfl (fun μ F' h' => ∃ i : Nat, ∃ er : Int, (i ≤ p.gl.length ∧ G = (if er ≠ 0 then er else chkG (p.gl.drop i) (shL is))) ∧ p.gl.length - i = μ ∧ F' = [(6, .int .i64 er), (19, .int .i64 i)] ∧ (.pt b3 (.cells (prE p).toArray 56 (0, 0)) :: h) ++ nh = h') (p.gl.length - 0) [(6, .int .i64 (repX (shL s) p.rep)), (19, .int .i64 0)] (h0 := (.pt b3 (.cells (prE p).toArray 56 (0, 0)) :: h) ++ nh) ?_ Sb ⟨0, repX (shL s) p.rep, ⟨by omega, by rw [hiS]; exact hG⟩, rfl, rfl, rfl⟩ ?_
 exact Su
 rintro _ _ _ ⟨i, er, ⟨hk, hJ⟩, rfl, rfl, rfl⟩
 refine WC.frm rfl ?_
 refine gD ?_; intros
 refine bD ?_
 refine wn [5, 6, 17, 18, 19, 20] ?_
 refine gE ?_; intros
 refine wc (fun c20 => ?_) fun c20 => ?_
 replace c20 := dT c20
 obtain ⟨x, hx⟩ := get_some (l := p.gl) (k := i) (by omega)
 have hxm := List.mem_of_getElem? hx
 rw [drop_at hx] at hJ
 obtain ⟨hgp, hgl, hgh⟩ := hV.gs x hxm
 have hgv := gu_spec hgp
 refine WC.skip (kp [5, 6, 17, 18, 19] ?_)
 refine gD ?_; intros
 refine xG (PO.idx EL44.und EL44.size EL44.posz (Ev.tmp rfl) (Ev.tmp rfl) Rr rfl (by omega)) ?_
 refine xG (PO.loadFA u70 rfl rfl guE_len Rr (Ev.tmp rfl) (by assumption) rfl rfl (Nat.succ_pos _)) ?_
 refine xW fun b8 => ?_
 refine xS ?_
 refine wn [5, 6, 8, 17, 18, 19] ?_
 refine gD ?_; intros
 refine xM ?_
 refine bB ?_
 refine wn [5, 6, 8, 17, 18, 19, 24] ?_
 refine gE ?_; intros
 refine wc (fun c24 => ?_) fun c24 => ?_
 replace c24 := t_ne c24
 rw [if_pos c24] at hJ
 refine gD ?_; intros
 refine xM ?_
 refine xA ?_
 refine wn [4] ?_
 refine WC.ret (wR (h) ?_)
 exact ⟨by rw [hJ], rfl⟩
 replace c24 := f_ne c24
 rw [if_neg (by simpa using c24)] at hJ
 replace hJ : G = if chkG1 x (shL is) ≠ 0 then chkG1 x (shL is) else chkG (p.gl.drop (i + 1)) (shL is) := hJ
 refine WC.skip (kp [5, 8, 17, 18, 19] ?_)
 refine gD ?_; intros
 refine xM ?_
 refine xG (pA u70) ?_
 refine xf (E2 Et Et) (guard_ct hg (his.mono Sb) x ((hO.gs x hxm).mono Sb) hgv ⟨by omega, by omega⟩ (fun y hy => (hP.sub (In.g hxm hy)).mono Sb) (fun y hy => ih y (In.g hxm hy)) (fun y hy => by have := (In.g hxm hy).lt; omega)) ?_
 refine xA ?_
 refine wn [5, 6, 17, 18, 19] ?_
 refine gD ?_; intros
 refine bI ?_
 refine xM ?_
 refine WL.nil (loopBackI (p.gl.length - (i + 1)) [(6, .int .i64 (chkG1 x (shL is))), (19, .int .i64 (i + 1))] (h'' := (.pt b3 (.cells (prE p).toArray 56 (0, 0)) :: h) ++ nh) (by omega) ?_ Su Sb ⟨i + 1, chkG1 x (shL is), ⟨by omega, hJ⟩, rfl, rfl, rfl⟩)
 exact Su
 replace c20 := dF c20
 rw [show p.gl.drop i = [] from List.drop_eq_nil_of_le (by omega)] at hJ
 have hJ : G = er := by rw [hJ]; show (if er ≠ 0 then er else 0) = er; split <;> omega
 refine WC.exit (kp [6] ?_)
 refine gD ?_; intros
 refine xM ?_
 refine xA ?_
 refine wn [4] ?_
 refine WC.ret (wR (h) ?_)
 exact ⟨by rw [hJ], rfl⟩
end Go.Proofs.YtdhmplmpbcnojaaGreatDoor
end

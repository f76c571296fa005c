/- LwA LwB LwC Door ArgE ArgP LParts LwT LwD LTargets -/
import Derived.Test.YtdhmplmpbcnojaaGreatDoorLPartsZ5
import Derived.SevenTiedAt
import Derived.Test.YtdhmplmpbcnojaaGreatDoorCards
import Derived.Test.YtdhmplmpbcnojaaGreatDoorTie
import Derived.ChangeMaps5
import Derived.KernelRfl
/- LwA -/
section
namespace Go.Proofs.YtdhmplmpbcnojaaGreatDoor
open Go.Eng Go.Pc Go.Tg Go
open Go.Xp hiding B nameT zeroT
open Go.Ty (Ty Vr eqT tyV cellT PrOk VOk prL encV encV_len encI encI_len zeroT)
open Go.Lx (encB encB_len)
set_option maxRecDepth 100000
theorem appO_any : ∀ l r : List Res, appO l r = some (l ++ r)
  | [], _ => rfl
  | x :: l, r => by unfold appO; rw [appO_any l r]; rfl
theorem subR (fr l r t : List Res) : r.Sublist (fr ++ ((l ++ r) ++ t)) := ((List.sublist_append_right l r).trans (List.sublist_append_left _ t)).trans (List.sublist_append_right fr _)
def Law : Value → View → List Res → Prop := fun v _ _ => v = .bool true
theorem nameX_ct (s : B) (h : List Res) (m : View) : CT Tryz.prog 19 [str s] h m (Pure1 h (exV (nmX s))) := by
  refine CT.body Tryz.call19 Tryz.func19 rfl Tryz.ntmps19 (leB rfl) rfl ?_
  repeat first | refine sk fun K hK => ?_ | refine bk ?_ | refine rn fun _ => ?_
  refine xW fun b2 => ?_
  refine wn [0, 2] ?_
  repeat first | refine sk fun K hK => ?_ | refine bk ?_ | refine rn fun _ => ?_
  refine xM ?_
  refine xG (PO.build Tryz.underlying27 rfl rfl rfl (EvP.cons Ev.const (EvP.cons Et EvP.nil)) rfl) ?_
  refine xS ?_
  refine wn [2] ?_
  refine WC.ret (end1 (h' := h) (.inl rfl) rfl (RV.cellA Tryz.underlying27 rfl rfl rfl (by (repeat (first | exact mem0 _ | apply memT | apply List.mem_append_right))) rfl) (View.le.refl m) Sb ?_)
  exact ⟨rfl, rfl⟩
theorem numX_ct (n : Int) (h : List Res) (m : View) : CT Tryz.prog 14 [.int .i32 n] h m (Pure1 h (exV (nuX n))) := by
  refine CT.body Tryz.call14 Tryz.func14 rfl Tryz.ntmps14 (leB rfl) rfl ?_
  repeat first | refine sk fun K hK => ?_ | refine bk ?_ | refine rn fun _ => ?_
  refine xW fun b2 => ?_
  refine wn [0, 2] ?_
  repeat first | refine sk fun K hK => ?_ | refine bk ?_ | refine rn fun _ => ?_
  refine xM ?_
  refine xG (PO.build Tryz.underlying27 rfl rfl rfl (EvP.cons Ev.const (EvP.cons Et EvP.nil)) rfl) ?_
  refine xS ?_
  refine wn [2] ?_
  refine WC.ret (end1 (h' := h) (.inl rfl) rfl (RV.cellA Tryz.underlying27 rfl rfl rfl (by (repeat (first | exact mem0 _ | apply memT | apply List.mem_append_right))) rfl) (View.le.refl m) Sb ?_)
  exact ⟨rfl, rfl⟩
abbrev twoR (x y : Ex) (b : Nat) : Res := .pt b (.cells (exE x ++ exE y).toArray 27 (0, 0))
abbrev oneR (x : Ex) (b : Nat) : Res := .pt b (.cells (exE x).toArray 27 (0, 0))
theorem two_ct (o : Int) (x y : Ex) (h : List Res) (m : View) : CT Tryz.prog 18 [.int .u8 o, exV x, exV y] h m (fun v _ h' => ∃ b, v = exV (twoX o x y b) ∧ h' = twoR x y b :: h) := by
  refine CT.body Tryz.call18 Tryz.func18 rfl Tryz.ntmps18 (leB rfl) rfl ?_
  repeat first | refine sk fun K hK => ?_ | refine bk ?_ | refine rn fun _ => ?_
  refine xX fun b4 => ?_
  refine xX fun b5 => ?_
  refine xW fun b6 => ?_
  refine wn [0, 4, 5, 6] ?_
  repeat first | refine sk fun K hK => ?_ | refine bk ?_ | refine rn fun _ => ?_
  refine xM ?_
  refine xG (PO.loadA Tryz.underlying27 rfl rfl Et (by (repeat (first | exact mem0 _ | apply memT | apply List.mem_append_right))) rfl) ?_
  refine xG (PO.loadA Tryz.underlying27 rfl rfl Et (by (repeat (first | exact mem0 _ | apply memT | apply List.mem_append_right))) rfl) ?_
  refine xY EL25 (EvP.cons Et (EvP.cons Et EvP.nil)) fun b10 => ?_
  refine xG (PO.build Tryz.underlying27 rfl rfl rfl (EvP.cons Ev.const (EvP.cons Et (EvP.cons Et EvP.nil))) rfl) ?_
  refine xS ?_
  refine wn [6] ?_
  refine WC.ret (end1 (h' := twoR x y b10 :: h) (.inl rfl) rfl (RV.cellA Tryz.underlying27 rfl rfl rfl (by (repeat (first | exact mem0 _ | apply memT | apply List.mem_append_right))) rfl) (View.le.refl m) Sb ?_)
  exact ⟨b10, rfl, rfl⟩
theorem two_t (l t : List Res) (o : Int) (x y : Ex) (m : View) : CX Tryz.prog 18 [.int .u8 o, exV x, exV y] (l ++ t) m (fun v _ h' => ∃ hp', h' = hp' ++ t ∧ ∃ b, v = exV (twoX o x y b) ∧ hp' = twoR x y b :: l) (fun _ _ => False) :=
  (CX.ofCT (X := fun _ _ => False) (two_ct o x y (l ++ t) m)).mono (fun _ _ _ ⟨b, e1, e2⟩ => ⟨twoR x y b :: l, e2, b, e1, rfl⟩) (fun _ _ h => h)
abbrev nmR (s : B) (b : Nat) : Res := .pt b (.cells (fl encB [s]).toArray 9 (0, 0))
theorem decl_ct (s : B) (t : Ty) (h : List Res) (m : View) : CT Tryz.prog 21 [str s, tyV t] h m (fun v _ h' => ∃ b, v = spV (dclS s t b) ∧ h' = nmR s b :: h) := by
  refine CT.body Tryz.call21 Tryz.func21 rfl Tryz.ntmps21 (leB rfl) rfl ?_
  repeat first | refine sk fun K hK => ?_ | refine bk ?_ | refine rn fun _ => ?_
  refine xX fun b3 => ?_
  refine xW fun b4 => ?_
  refine wn [0, 3, 4] ?_
  repeat first | refine sk fun K hK => ?_ | refine bk ?_ | refine rn fun _ => ?_
  refine xG (PO.loadA Tryz.underlying30 rfl rfl Et (by (repeat (first | exact mem0 _ | apply memT | apply List.mem_append_right))) rfl) ?_
  refine xM ?_
  refine xY EL48 (EvP.cons Et EvP.nil) fun b7 => ?_
  refine xG (PO.build Tryz.underlying54 rfl rfl rfl (EvP.cons Ev.const (EvP.cons Et (EvP.cons Et EvP.nil))) rfl) ?_
  refine xS ?_
  refine wn [4] ?_
  refine WC.ret (end1 (h' := nmR s b7 :: h) (.inl rfl) rfl (RV.cellA Tryz.underlying54 rfl rfl rfl (by (repeat (first | exact mem0 _ | apply memT | apply List.mem_append_right))) rfl) (View.le.refl m) Sb ?_)
  exact ⟨b7, rfl, rfl⟩
/-- An environment whose shape is that of the examples. -/
structure EnvOk (m : View) (r : List Res) (a : Option Addr) (c : Nat) (L : List Sp) : Prop where
  rd : Rd m r a 6 c 16 (fl spE L)
  ok : VOkE m r L
  env : envX L = someE
  len : L.length ≤ 900000
theorem EnvOk.mono {m : View} {r r' : List Res} {a : Option Addr} {c : Nat} {L : List Sp} (q : EnvOk m r a c L) (s : r.Sublist r') : EnvOk m r' a c L := ⟨q.rd.mono (View.le.refl m) s, q.ok.mono s, q.env, q.len⟩
def someR (b2 b4 b6 b10 b11 b12 b14 b18 b19 : Nat) : List Res :=
  [.pt b19 (.cells (fl spE (someL b2 b4 b6 b10 b11 b12 b14 b18)).toArray 54 (0, 0)), nmR [99] b18, .pt b14 (.cells (fl encV [vpr b12]).toArray 102 (0, 0)), .pt b12 (.cells (fl encI [1, 3]).toArray 24 (0, 0)), nmR [112] b11, nmR [116] b10, nmR [107] b6, nmR [118] b4, nmR [120] b2]
theorem some_ok (m : View) (b2 b4 b6 b10 b11 b12 b14 b18 b19 : Nat) : EnvOk m (someR b2 b4 b6 b10 b11 b12 b14 b18 b19) (some ⟨b19, 0, none⟩) 6 (someL b2 b4 b6 b10 b11 b12 b14 b18) where
  rd := Rd.ofPt rfl (by show 6 ≤ _; decide) (List.Mem.head _)
  env := some_env _ _ _ _ _ _ _ _
  len := by show 6 ≤ 900000; decide
  ok := by
    have nm : ∀ (s : B) (b : Nat), nmR s b ∈ someR b2 b4 b6 b10 b11 b12 b14 b18 b19 → Rd m (someR b2 b4 b6 b10 b11 b12 b14 b18 b19) (some ⟨b, 0, none⟩) 1 1 1 (fl encB [s]) := fun s b hb => Rd.ofPt rfl (by decide) hb
    have nv : PrOk m (someR b2 b4 b6 b10 b11 b12 b14 b18 b19) none 0 0 [] := ⟨Rd.nilF encV 2 m _, fun _ hx => (List.not_mem_nil hx).elim, fun _ hx => (List.not_mem_nil hx).elim⟩
    refine ⟨fun x hx => ?_, fun x hx => ?_, fun x hx => ?_⟩
    · unfold someL at hx
      simp only [List.mem_cons, List.not_mem_nil, or_false] at hx
      rcases hx with rfl | rfl | rfl | rfl | rfl | rfl <;> exact nm _ _ (by unfold someR; simp)
    · unfold someL at hx
      simp only [List.mem_cons, List.not_mem_nil, or_false] at hx
      rcases hx with rfl | rfl | rfl | rfl | rfl | rfl <;> exact Rd.nilF foE 6 m _
    · unfold someL at hx
      simp only [List.mem_cons, List.not_mem_nil, or_false] at hx
      rcases hx with rfl | rfl | rfl | rfl | rfl | rfl
      · exact nv
      · exact nv
      · exact nv
      · exact nv
      · have h1 : Rd m (someR b2 b4 b6 b10 b11 b12 b14 b18 b19) (some ⟨b14, 0, none⟩) 1 1 2 (fl encV [vpr b12]) := Rd.ofPt rfl (by decide) (show (.pt b14 (.cells (fl encV [vpr b12]).toArray 102 (0, 0)) : Res) ∈ someR b2 b4 b6 b10 b11 b12 b14 b18 b19 from (by unfold someR; simp))
        have h2 : Rd m (someR b2 b4 b6 b10 b11 b12 b14 b18 b19) (some ⟨b12, 0, none⟩) 2 2 1 (fl encI [1, 3]) := Rd.ofPt rfl (by decide) (show (.pt b12 (.cells (fl encI [1, 3]).toArray 24 (0, 0)) : Res) ∈ someR b2 b4 b6 b10 b11 b12 b14 b18 b19 from (by unfold someR; simp))
        refine ⟨h1, fun v hv => ?_, fun v hv => ?_⟩
        · replace hv : v ∈ [vpr b12] := hv
          rw [List.mem_singleton] at hv
          subst hv
          exact ⟨h2⟩
        · replace hv : v ∈ [vpr b12] := hv
          rw [List.mem_singleton] at hv
          subst hv
          exact Nat.zero_le _
      · exact nv
def Some1 (m : View) (h : List Res) (v : Value) (h' : List Res) : Prop := ∃ (a : Option Addr) (c : Nat) (L : List Sp) (r : List Res), v = .slice a 6 c ∧ h' = r ++ h ∧ EnvOk m r a c L
theorem some_ct (h : List Res) (m : View) : CT Tryz.prog 22 [] h m (fun v _ h' => Some1 m h v h') := by
  refine CT.body Tryz.call22 Tryz.func22 rfl Tryz.ntmps22 (leB rfl) rfl ?_
  repeat first | refine sk fun K hK => ?_ | refine bk ?_ | refine rn fun _ => ?_
  refine xC ?_
  refine wn [] ?_
  repeat first | refine sk fun K hK => ?_ | refine bk ?_ | refine rn fun _ => ?_
  refine xG (PO.build Tryz.underlying30 rfl rfl rfl (EvP.cons Ev.const EvP.nil) rfl) ?_
  refine xg (E2 Ev.const Et) (decl_ct [120] (tyK 1) _ _) ?_
  rintro _ _ ⟨b2, rfl, rfl⟩
  refine xG (PO.build Tryz.underlying30 rfl rfl rfl (EvP.cons Ev.const (EvP.cons Ev.const EvP.nil)) rfl) ?_
  refine xg (E2 Ev.const Et) (decl_ct [118] ⟨1, 4, 0, []⟩ _ _) ?_
  rintro _ _ ⟨b4, rfl, rfl⟩
  refine xG (PO.build Tryz.underlying30 rfl rfl rfl (EvP.cons Ev.const EvP.nil) rfl) ?_
  refine xY EL48 (EvP.cons Ev.const EvP.nil) fun b6 => ?_
  refine xG (PO.build Tryz.underlying27 rfl rfl rfl (EvP.cons Ev.const (EvP.cons Ev.const EvP.nil)) rfl) ?_
  refine xG (PO.build Tryz.underlying54 rfl rfl rfl (EvP.cons Ev.const (EvP.cons Et (EvP.cons Et (EvP.cons Et EvP.nil)))) rfl) ?_
  refine xG (PO.build Tryz.underlying30 rfl rfl rfl (EvP.cons Ev.const EvP.nil) rfl) ?_
  refine xg (E2 Ev.const Et) (decl_ct [116] (tyK 5) _ _) ?_
  rintro _ _ ⟨b10, rfl, rfl⟩
  refine xY EL48 (EvP.cons Ev.const EvP.nil) fun b11 => ?_
  refine xY EL100 (EvP.cons Ev.const (EvP.cons Ev.const EvP.nil)) fun b12 => ?_
  refine xG (PO.build Tryz.underlying102 rfl rfl rfl (EvP.cons Et EvP.nil) rfl) ?_
  refine xY EL49 (EvP.cons Et EvP.nil) fun b14 => ?_
  refine xG (PO.build Tryz.underlying51 rfl rfl rfl (EvP.cons Et EvP.nil) rfl) ?_
  refine xG (PO.build Tryz.underlying54 rfl rfl rfl (EvP.cons Ev.const (EvP.cons Et (EvP.cons Et EvP.nil))) rfl) ?_
  refine xG (PO.build Tryz.underlying30 rfl rfl rfl (EvP.cons Ev.const (EvP.cons Ev.const EvP.nil)) rfl) ?_
  refine xg (E2 Ev.const Et) (decl_ct [99] ⟨4, 0, 0, [112]⟩ _ _) ?_
  rintro _ _ ⟨b18, rfl, rfl⟩
  refine xY EL28 (EvP.cons Et (EvP.cons Et (EvP.cons Et (EvP.cons Et (EvP.cons Et (EvP.cons Et EvP.nil)))))) fun b19 => ?_
  refine xA ?_
  refine wn [0] ?_
  refine WC.ret (wR (someR b2 b4 b6 b10 b11 b12 b14 b18 b19 ++ h) ?_)
  exact ⟨_, _, _, _, rfl, rfl, some_ok m b2 b4 b6 b10 b11 b12 b14 b18 b19⟩
theorem some_t (l t : List Res) (m : View) : CX Tryz.prog 22 [] (l ++ t) m (fun v _ h' => ∃ hp', h' = hp' ++ t ∧ ∃ (a : Option Addr) (c : Nat) (L : List Sp) (r : List Res), v = .slice a 6 c ∧ hp' = l ++ r ∧ EnvOk m r a c L) (fun _ _ => False) :=
  CX.ofCT (X := fun _ _ => False) ((some_ct (l ++ t) m).conv fun v m2 h2 w2 _ st hR => by
    obtain ⟨a, c, L, r, e1, rfl, e3⟩ := hR
    exact ⟨m2, (l ++ r) ++ t, View.le.refl _, st.perm ((perm_mid r l t).trans (by rw [List.append_assoc])), l ++ r, rfl, a, c, L, r, e1, rfl, e3⟩)
/-- An expression that lies in memory, and its shape. -/
structure Lies (m : View) (h : List Res) (e x : Ex) : Prop where
  t : TOk m h e
  w : Wf e
  s : strip e = x
theorem Lies.mono {m : View} {h h' : List Res} {e x : Ex} (q : Lies m h e x) (s : h.Sublist h') : Lies m h' e x := ⟨q.t.mono s, q.w, q.s⟩
theorem lies_leaf {m : View} {h : List Res} {k o t n : Int} {s : B} (hk : 0 ≤ k ∧ k ≤ 255) (ho : 0 ≤ o ∧ o ≤ 255) (ht : 0 ≤ t ∧ t ≤ 255) (hn : -2147483648 ≤ n ∧ n ≤ 2147483647) (hs : s.length ≤ 140737488355328) : Lies m h (sx k o t n s []) (sx k o t n s []) :=
  ⟨.mk (Rd.nilF exE 6 m h) (fun _ hx => (List.not_mem_nil hx).elim), .mk hk ho ht hn hs fun _ hx => (List.not_mem_nil hx).elim, rfl⟩
theorem lies_one {m : View} {h : List Res} {e x : Ex} (q : Lies m h e x) (b : Nat) {k o t n : Int} {s : B} (hb : oneR e b ∈ h) (hk : 0 ≤ k ∧ k ≤ 255) (ho : 0 ≤ o ∧ o ≤ 255) (ht : 0 ≤ t ∧ t ≤ 255) (hn : -2147483648 ≤ n ∧ n ≤ 2147483647) (hs : s.length ≤ 140737488355328) :
    Lies m h (.mk k o t n s (some ⟨b, 0, none⟩) 1 [e]) (sx k o t n s [x]) :=
  ⟨.mk (Rd.ofPt rfl (by show 1 ≤ _; decide) hb) (fun y hy => by rw [List.mem_singleton] at hy; subst hy; exact q.t), .mk hk ho ht hn hs fun y hy => by rw [List.mem_singleton] at hy; subst hy; exact q.w, by rw [← q.s]; rfl⟩
theorem lies_two {m : View} {h : List Res} {e f x y : Ex} (q : Lies m h e x) (r : Lies m h f y) (b : Nat) {o : Int} (hb : twoR e f b ∈ h) (ho : 0 ≤ o ∧ o ≤ 255) :
    Lies m h (twoX o e f b) (sx 7 o 0 0 [] [x, y]) :=
  ⟨.mk (Rd.ofPt rfl (by show 2 ≤ _; decide) hb) (fun z hz => by
    rcases List.mem_cons.1 hz with rfl | hz
    · exact q.t
    · rw [List.mem_singleton] at hz
      subst hz
      exact r.t), .mk (by decide) ho (by decide) (by decide) (by decide) fun z hz => (by
    rcases List.mem_cons.1 hz with rfl | hz
    · exact q.w
    · rw [List.mem_singleton] at hz
      subst hz
      exact r.w), by rw [← q.s, ← r.s]; rfl⟩
theorem hasX_ct {m : View} {h : List Res} (hg : Glob m) {e x : Ex} (q : Lies m h e x) (t : Ty) (w : Int) (hx : ofX someE x = (t, w)) : CT Tryz.prog 20 [exV e, tyV t, .int .i64 w] h m (Pure1 h (.bool true)) := by
  have ho : ofX someE e = (t, w) := by rw [← ofX_strip, q.s, hx]
  refine CT.body Tryz.call20 Tryz.func20 rfl Tryz.ntmps20 (leB rfl) rfl ?_
  repeat first | refine sk fun K hK => ?_ | refine bk ?_ | refine rn fun _ => ?_
  refine xX fun b3 => ?_
  refine xX fun b4 => ?_
  refine xC ?_
  refine wn [2, 3, 4] ?_
  repeat first | refine sk fun K hK => ?_ | refine bk ?_
  refine WC.drawL [1, 2] (.op 0 (.op 1 (.op 2 (.op 3 (.op 4 (.op 5 .nil)))))) [7, 8] [(6, 7)] _ [] mixed (fun _ _ _ _ _ h => h) [5] (by kernel_rfl) (Fls.cons rfl rfl rfl (leB rfl) rfl Fls.nil) rfl ?_
  refine yG rfl (PO.loadA Tryz.underlying27 rfl rfl Et (by (repeat (first | exact mem0 _ | apply memT | apply List.mem_append_right))) rfl) ?_
  refine SR.callX rfl rfl Ev.func Evs.nil (fun fr => some_t [] _ _) (leB rfl) (fun fr v hv hx => ?_) fun v11 h11 hr11 => ?_
  · exact hx.elim
  obtain ⟨a11, c11, L, r, rfl, rfl, hE⟩ := hr11
  refine yf rfl (E2 Et Et) (fun fr => of_ct hg e (q.t.mono Sb) q.w L a11 6 c11 (hE.rd.mono (View.le.refl m) (subR fr [] h11 _)) (hE.ok.mono (subR fr [] h11 _)) hE.len) ?_
  refine yG rfl (PO.move Et) ?_
  refine yG rfl (PO.extract Et rfl) ?_
  refine yG rfl (PO.extract Et rfl) ?_
  refine SR.nilF rfl (appO_any _ _) fun b7 => ?_
  refine xS ?_
  refine xA ?_
  refine wn [2, 4, 7, 8] ?_
  repeat first | refine sk fun K hK => ?_ | refine bk ?_ | refine rg fun ops hG => ?_
  refine xG (PO.loadA Tryz.underlying30 rfl rfl Et (by (repeat (first | exact mem0 _ | apply memT | apply List.mem_append_right))) rfl) ?_
  refine xG (PO.loadA Tryz.underlying30 rfl rfl Et (by (repeat (first | exact mem0 _ | apply memT | apply List.mem_append_right))) rfl) ?_
  refine xG (PO.eqlA Tryz.underlying30 (by kernel_rfl) (by kernel_rfl) Et Et rfl) ?_
  refine xM ?_
  refine zM ?_
  refine zM ?_
  refine zG (fun hc => PO.bin (Eg hc) (Eg hc) rfl) ?_
  refine xP ?_
  refine xA ?_
  refine wn [6] ?_
  try clear hG ops
  refine WC.ret (wR (h) ?_)
  exact ⟨by show Value.bool (eqT (ofX (envX L) e).1 t && ((ofX (envX L) e).2 == w)) = Value.bool true; rw [hE.env, ho]; simp [(Go.Ty.eqT_iff t t).2 rfl], rfl⟩
theorem sends_ct (s : B) (a : Option Addr) (k c : Nat) (l : List Ex) (hk : l.length = k) (h : List Res) (m : View) : CT Tryz.prog 29 [str s, .slice a k c] h m (Pure1 h (prV (flatP 5 [] (nmX s) nilS ⟨a, c, l⟩))) := by
  subst hk
  refine CT.body Tryz.call29 Tryz.func29 rfl Tryz.ntmps29 (leB rfl) rfl ?_
  repeat first | refine sk fun K hK => ?_ | refine bk ?_ | refine rn fun _ => ?_
  refine xW fun b4 => ?_
  refine wn [0, 1, 4] ?_
  repeat first | refine sk fun K hK => ?_ | refine bk ?_ | refine rn fun _ => ?_
  refine xM ?_
  refine xf (E1 Et) (nameX_ct _ _ _) ?_
  refine xM ?_
  refine xG (PO.build Tryz.underlying56 rfl rfl rfl (EvP.cons Ev.const (EvP.cons Et (EvP.cons Et EvP.nil))) rfl) ?_
  refine xS ?_
  refine wn [4] ?_
  refine WC.ret (end1 (h' := h) (.inl rfl) rfl (RV.cellA Tryz.underlying56 rfl rfl rfl (by (repeat (first | exact mem0 _ | apply memT | apply List.mem_append_right))) rfl) (View.le.refl m) Sb ?_)
  exact ⟨rfl, rfl⟩
theorem lok_nil (m : View) (h : List Res) : LOk m h nilS := ⟨Rd.nilF exE 6 m h, fun _ hx => (List.not_mem_nil hx).elim⟩
theorem eok_zero (m : View) (h : List Res) : EOk m h zeroE := ⟨.mk (Rd.nilF exE 6 m h) (fun _ hx => (List.not_mem_nil hx).elim), .mk (by decide) (by decide) (by decide) (by decide) (by decide) fun _ hx => (List.not_mem_nil hx).elim⟩
theorem sok_zero (m : View) (h : List Res) : SOk m h zeroS := ⟨by decide, ⟨by decide, by decide, by decide, by decide⟩, Rd.nilF encB 1 m h, fun _ hx => (List.not_mem_nil hx).elim, eok_zero m h, ⟨Rd.nilF encV 2 m h, fun _ hx => (List.not_mem_nil hx).elim, fun _ hx => (List.not_mem_nil hx).elim⟩, fun _ hx => (List.not_mem_nil hx).elim, Rd.nilF foE 6 m h, fun _ hx => (List.not_mem_nil hx).elim, Rd.nilF prE 42 m h⟩
theorem pok_flat {m : View} {h : List Res} {k : Int} {nm : B} {ch : Ex} {tg ex : Sli Ex} (hk : 0 ≤ k ∧ k ≤ 255) (hn : nm.length ≤ Big) (hc : EOk m h ch) (ht : LOk m h tg) (he : LOk m h ex) : POk m h (flatP k nm ch tg ex) :=
  .mk ⟨hk, hn, hc, ht, he, Nat.zero_le _, eok_zero m h, eok_zero m h, Rd.nilF guE 23 m h, fun _ hx => (List.not_mem_nil hx).elim, Rd.nilF prE 42 m h, Rd.nilF encN 1 m h, fun _ hx => (List.not_mem_nil hx).elim, sok_zero m h⟩
    fun x hx => by cases hx with
      | l q => exact (List.not_mem_nil q).elim
      | s q => exact (List.not_mem_nil q).elim
      | g q _ => exact (List.not_mem_nil q).elim
theorem Lies.e {m : View} {h : List Res} {e x : Ex} (q : Lies m h e x) : EOk m h e := ⟨q.t, q.w⟩
theorem lok_one {m : View} {h : List Res} {e : Ex} (q : EOk m h e) (b : Nat) (hb : oneR e b ∈ h) : LOk m h (oneS b e) := ⟨Rd.ofPt rfl (by show 1 ≤ _; decide) hb, fun y hy => by have hy : y ∈ [e] := hy; rw [List.mem_singleton] at hy; subst hy; exact q⟩
theorem lok_two {m : View} {h : List Res} {e f : Ex} (q : EOk m h e) (r : EOk m h f) (b : Nat) (hb : twoR e f b ∈ h) : LOk m h (twoS b e f) := ⟨Rd.ofPt rfl (by show 2 ≤ _; decide) hb, fun z hz => by
    rcases List.mem_cons.1 (show z ∈ [e, f] from hz) with rfl | hz
    · exact q
    · rw [List.mem_singleton] at hz
      subst hz
      exact r⟩
theorem chk_ct {m : View} {h : List Res} (hg : Glob m) {p : Pr} (hP : POk m h p) {a : Option Addr} {c : Nat} {L : List Sp} (hE : EnvOk m h a c L) (w : Int) (hw : checkE p = w) : CT Tryz.prog 16 [prV p, .slice a 6 c] h m (Pure1 h (.int .i64 w)) := by
  have := check_ct hg p hP L a 6 c hE.rd hE.ok hE.len
  rw [hE.env] at this
  rwa [show checkX (mayP p) someE p = w from hw] at this
theorem lies_nm {m : View} {h : List Res} {s : B} (hs : s.length ≤ 100) : Lies m h (nmX s) (nmX s) := lies_leaf (by decide) (by decide) (by decide) (by decide) (by omega)
theorem lies_nu {m : View} {h : List Res} {n : Int} (hn : 0 ≤ n ∧ n ≤ 100) : Lies m h (nuX n) (nuX n) := lies_leaf (by decide) (by decide) (by decide) (by omega) (by decide)
theorem worksX_ct {m : View} (hg : Glob m) (h : List Res) : CT Tryz.prog 10 [] h m (Pure1 h (.bool true)) := by
  refine CT.body Tryz.call10 Tryz.func10 rfl Tryz.ntmps10 (leB rfl) rfl ?_
  repeat first | refine sk fun K hK => ?_ | refine bk ?_ | refine rn fun _ => ?_
  refine xC ?_
  refine wn [] ?_
  repeat first | refine sk fun K hK => ?_ | refine bk ?_ | refine rn fun _ => ?_
  refine xf (E1 Ev.const) (nameX_ct _ _ _) ?_
  refine xY EL25 (EvP.cons Et EvP.nil) fun b6 => ?_
  refine xG (PO.build Tryz.underlying27 rfl rfl rfl (EvP.cons Ev.const (EvP.cons Ev.const (EvP.cons Et EvP.nil))) rfl) ?_
  refine xW fun b1 => ?_
  refine xS ?_
  refine wn [1] ?_
  repeat first | refine sk fun K hK => ?_ | refine bk ?_
  refine WC.drawS [0, 2, 4, 6, 7, 8, 10, 13] (.op 1 (.op 3 (.op 0 (.op 2 (.op 4 (.op 5 (.op 9 (.op 6 (.op 7 (.op 8 (.op 10 (.op 11 (.op 12 (.op 14 (.op 13 .nil))))))))))))))) [15, 16, 17] _ [] mixed (fun _ _ _ _ _ h => h) [] (by kernel_rfl) ?_
  refine yG rfl (PO.loadA Tryz.underlying27 rfl rfl Et (by (repeat (first | exact mem0 _ | apply memT | apply List.mem_append_right))) rfl) ?_
  refine yG rfl (PO.build Tryz.underlying30 rfl rfl rfl (EvP.cons Ev.const EvP.nil) rfl) ?_
  refine yf rfl (E1 Ev.const) (fun fr => nameX_ct _ _ _) ?_
  refine SR.callX rfl rfl Ev.func (Evs.cons Ev.const (Evs.cons Et (Evs.cons Et Evs.nil))) (fun fr => two_t [] _ 1 (nmX [120]) (.mk 5 0 0 0 [118] (some ⟨b6, 0, none⟩) 1 [nmX [120]]) _) (leB rfl) (fun fr v hv hx => ?_) fun v10 h10 hr10 => ?_
  · exact hx.elim
  obtain ⟨b10, rfl, rfl⟩ := hr10
  refine yf rfl (E3 Et Et Ev.const) (fun fr => hasX_ct hg (lies_two (lies_nm (by decide)) (lies_one (lies_nm (by decide)) b6 (by (repeat (first | exact mem0 _ | apply memT | apply List.mem_append_right))) (by decide) (by decide) (by decide) (by decide) (by decide)) b10 (by (repeat (first | exact mem0 _ | apply memT | apply List.mem_append_right))) (by decide)) (tyK 1) 0 ex1) ?_
  refine yG rfl (PO.move Et) ?_
  refine yU rfl (PO.build Tryz.underlying30 rfl rfl rfl EvP.nil rfl) ?_
  refine SR.callU rfl rfl (GU.t rfl rfl) rfl Ev.func (Evs.cons Ev.const Evs.nil) (fun fr => nameX_ct _ _ _) (leB rfl) ?_
  refine SR.callU rfl rfl (GU.t rfl rfl) rfl Ev.func (Evs.cons Ev.const Evs.nil) (fun fr => nameX_ct _ _ _) (leB rfl) ?_
  refine SR.callXU rfl rfl (GU.t rfl rfl) rfl Ev.func (Evs.cons Ev.const (Evs.cons Et (Evs.cons Et Evs.nil))) (fun fr => two_t [_] _ 1 (nmX [120]) (nmX [107]) _) (leB rfl) (fun fr v hv hx => ?_) fun v16 h16 hr16 => ?_
  · exact hx.elim
  obtain ⟨b16, rfl, rfl⟩ := hr16
  refine SR.callU rfl rfl (GU.t rfl rfl) rfl Ev.func (Evs.cons Et (Evs.cons Et (Evs.cons Ev.const Evs.nil))) (fun fr => hasX_ct hg (lies_two (lies_nm (by decide)) (lies_nm (by decide)) b16 (by (repeat (first | exact mem0 _ | apply memT | apply List.mem_append_right))) (by decide)) zeroT 130 ex2) (leB rfl) ?_
  refine yG rfl (PO.pickAnd rfl rfl) ?_
  refine yG rfl (PO.move Et) ?_
  refine yU rfl (PO.build Tryz.underlying30 rfl rfl rfl EvP.nil rfl) ?_
  refine SR.callU rfl rfl (GU.t rfl rfl) rfl Ev.func (Evs.cons Ev.const Evs.nil) (fun fr => nameX_ct _ _ _) (leB rfl) ?_
  refine SR.nil rfl (appO_any _ _) ?_
  refine zU ?_
  refine xf (E3 Et Et Ev.const) (hasX_ct hg (lies_nm (by decide)) zeroT 120 ex3) ?_
  refine xP ?_
  refine xA ?_
  refine wn [2] ?_
  try clear hG ops
  repeat first | refine sk fun K hK => ?_ | refine bk ?_ | refine rn fun _ => ?_
  refine xf (E1 Ev.const) (nameX_ct _ _ _) ?_
  refine xf (E1 Ev.const) (numX_ct _ _ _) ?_
  refine xg (E3 Ev.const Et Et) (two_ct _ _ _ _ _) ?_
  rintro _ _ ⟨b27, rfl, rfl⟩
  refine xW fun b3 => ?_
  refine xS ?_
  refine wn [2, 3] ?_
  repeat first | refine sk fun K hK => ?_ | refine bk ?_ | refine rn fun _ => ?_
  refine xf (E1 Ev.const) (nameX_ct _ _ _) ?_
  refine xY EL25 (EvP.cons Et EvP.nil) fun b29 => ?_
  refine xf (E1 Ev.const) (nameX_ct _ _ _) ?_
  refine xY EL25 (EvP.cons Et EvP.nil) fun b31 => ?_
  refine xG (PO.build Tryz.underlying56 rfl rfl rfl (EvP.cons Ev.const (EvP.cons Et (EvP.cons Et EvP.nil))) rfl) ?_
  refine xW fun b4 => ?_
  refine xS ?_
  refine wn [2, 3, 4] ?_
  repeat first | refine sk fun K hK => ?_ | refine bk ?_
  refine WC.drawS [2, 4, 5, 6, 7, 11, 12, 13, 14, 15, 20] (.op 0 (.op 1 (.op 3 (.op 2 (.op 4 (.op 5 (.op 6 (.op 7 (.op 8 (.op 9 (.op 10 (.op 11 (.op 12 (.op 13 (.op 14 (.op 15 (.op 16 (.op 17 (.op 18 (.op 19 (.op 20 .nil))))))))))))))))))))) [21, 22, 23, 24] _ [] mixed (fun _ _ _ _ _ h => h) [] (by kernel_rfl) ?_
  refine yG rfl (PO.move Et) ?_
  refine yG rfl (PO.move Et) ?_
  refine yU rfl (PO.loadA Tryz.underlying27 rfl rfl Et (by (repeat (first | exact mem0 _ | apply memT | apply List.mem_append_right))) rfl) ?_
  refine SR.callU rfl rfl (GU.t rfl rfl) rfl Ev.func (Evs.cons Ev.const Evs.nil) (fun fr => nameX_ct _ _ _) (leB rfl) ?_
  refine SR.buildSliceU rfl rfl (GU.t rfl rfl) rfl EL25 rfl (EvP.cons Et (EvP.cons Et EvP.nil)) rfl rfl (by decide) rfl (leB rfl) fun b37 => ?_
  refine SR.callU rfl rfl (GU.t rfl rfl) rfl Ev.func (Evs.cons Ev.const (Evs.cons Et Evs.nil)) (fun fr => sends_ct [99] _ _ _ [nmX [120], twoX 14 (nmX [120]) (nuX 1) b27] rfl _ _) (leB rfl) ?_
  refine SR.callXU rfl rfl (GU.t rfl rfl) rfl Ev.func Evs.nil (fun fr => some_t [_] _ _) (leB rfl) (fun fr v hv hx => ?_) fun v39 h39 hr39 => ?_
  · exact hx.elim
  obtain ⟨a39, c39, L39, r39, rfl, rfl, hE39⟩ := hr39
  refine SR.callU rfl rfl (GU.t rfl rfl) rfl Ev.func (Evs.cons Et (Evs.cons Et Evs.nil)) (fun fr => chk_ct hg (pok_flat (by decide) (by decide) (lies_nm (by decide)).e (lok_nil _ _) (lok_two (lies_nm (by decide)).e (lies_two (lies_nm (by decide)) (lies_nu (by decide)) b27 (by (repeat (first | exact mem0 _ | apply memT | apply List.mem_append_right))) (by decide)).e b37 (by (repeat (first | exact mem0 _ | apply memT | apply List.mem_append_right))))) (hE39.mono (subR fr _ r39 _)) 0 (ck1 _ _)) (leB rfl) ?_
  refine yU rfl (PO.bin Et Ev.const rfl) ?_
  refine yG rfl (PO.pickAnd rfl rfl) ?_
  refine yG rfl (PO.move Et) ?_
  refine SR.callU rfl rfl (GU.t rfl rfl) rfl Ev.func (Evs.cons Ev.const Evs.nil) (fun fr => nameX_ct _ _ _) (leB rfl) ?_
  refine SR.buildSliceU rfl rfl (GU.t rfl rfl) rfl EL25 rfl (EvP.cons Et EvP.nil) rfl rfl (by decide) rfl (leB rfl) fun b45 => ?_
  refine SR.callU rfl rfl (GU.t rfl rfl) rfl Ev.func (Evs.cons Ev.const (Evs.cons Et Evs.nil)) (fun fr => sends_ct [99] _ _ _ [nmX [120]] rfl _ _) (leB rfl) ?_
  refine SR.callXU rfl rfl (GU.t rfl rfl) rfl Ev.func Evs.nil (fun fr => some_t _ _ _) (leB rfl) (fun fr v hv hx => ?_) fun v47 h47 hr47 => ?_
  · exact hx.elim
  obtain ⟨a47, c47, L47, r47, rfl, rfl, hE47⟩ := hr47
  refine SR.callU rfl rfl (GU.t rfl rfl) rfl Ev.func (Evs.cons Et (Evs.cons Et Evs.nil)) (fun fr => chk_ct hg (pok_flat (by decide) (by decide) (lies_nm (by decide)).e (lok_nil _ _) (lok_one (lies_nm (by decide)).e b45 (by (repeat (first | exact mem0 _ | apply memT | apply List.mem_append_right))))) (hE47.mono (subR fr _ r47 _)) 130 (ck2 _)) (leB rfl) ?_
  refine yU rfl (PO.bin Et Ev.const rfl) ?_
  refine yG rfl (PO.pickAnd rfl rfl) ?_
  refine yG rfl (PO.move Et) ?_
  refine yU rfl (PO.loadA Tryz.underlying56 rfl rfl Et (by (repeat (first | exact mem0 _ | apply memT | apply List.mem_append_right))) rfl) ?_
  refine SR.callXU rfl rfl (GU.t rfl rfl) rfl Ev.func Evs.nil (fun fr => some_t _ _ _) (leB rfl) (fun fr v hv hx => ?_) fun v53 h53 hr53 => ?_
  · exact hx.elim
  obtain ⟨a53, c53, L53, r53, rfl, rfl, hE53⟩ := hr53
  refine SR.nil rfl (appO_any _ _) ?_
  refine zU ?_
  refine xf (E2 Et Et) (chk_ct hg (pok_flat (by decide) (by decide) (eok_zero _ _) (lok_one (lies_nm (by decide)).e b29 (by (repeat (first | exact mem0 _ | apply memT | apply List.mem_append_right)))) (lok_one (lies_nm (by decide)).e b31 (by (repeat (first | exact mem0 _ | apply memT | apply List.mem_append_right))))) (hE53.mono ((List.sublist_append_right _ r53).trans (List.sublist_append_left _ _))) 130 (ck3 _ _)) ?_
  refine zU ?_
  refine xG (PO.bin Et Ev.const rfl) ?_
  refine xP ?_
  refine xA ?_
  refine wn [0] ?_
  try clear hG ops
  refine WC.ret (wR (h) ?_)
  exact ⟨rfl, rfl⟩
end Go.Proofs.YtdhmplmpbcnojaaGreatDoor
end
/- LwB -/
section
namespace Go.Proofs.YtdhmplmpbcnojaaGreatDoor
open Go.Eng Go.Pc Go.Tg Go
open Go.Xp hiding B nameT zeroT
open Go.Ty (Ty Vr eqT tyV cellT PrOk VOk prL encV encV_len encI encI_len zeroT)
open Go.Lx (encB encB_len)
set_option maxRecDepth 100000
/-- The environment, cut. -/
theorem env_cut {m : View} {h : List Res} {a : Option Addr} {k c : Nat} {l : List Sp} (hr : Rd m h a k c 16 (fl spE l)) (hv : VOkE m h l) :
    ∃ ls a2, ls.length = min 30 l.length ∧ a2 = sl1 a 0 c 16 ∧ Rd m h a2 ls.length c 16 (fl spE ls) ∧ VOkE m h ls ∧ ls.length ≤ 30 := by
  have hl := hr.lenF spE_len (by decide)
  subst hl
  obtain ⟨ls, hls⟩ : ∃ ls, ls = l.take 30 := ⟨_, rfl⟩
  have hn : ls.length = min 30 l.length := by rw [hls, List.length_take]
  refine ⟨ls, _, hn, rfl, ?_, ?_, by omega⟩
  · have := hr.takeF spE_len (j := min 30 l.length) (by omega)
    rwa [← hn, show l.take ls.length = ls by rw [hn, hls, ← List.take_eq_take_min]] at this
  · have hm : ∀ x ∈ ls, x ∈ l := fun x hx => List.mem_of_mem_take (hls ▸ hx)
    exact ⟨fun x hx => hv.nm x (hm x hx), fun x hx => hv.fr x (hm x hx), fun x hx => hv.pr x (hm x hx)⟩
end Go.Proofs.YtdhmplmpbcnojaaGreatDoor
end
/- LwC -/
section
namespace Go.Proofs.YtdhmplmpbcnojaaGreatDoor
open Go.Eng Go.Pc Go.Tg Go
open Go.Xp hiding B nameT zeroT
open Go.Ty (Ty Vr eqT tyV cellT PrOk VOk prL encV encV_len encI encI_len zeroT)
open Go.Lx (encB encB_len)
set_option maxRecDepth 100000
theorem simple_ct (t : Ty) (h : List Res) (m : View) : CT Tryz.prog 11 [tyV t] h m (Pure1 h (.bool (simT t))) := by
  refine CT.body Tryz.call11 Tryz.func11 rfl Tryz.ntmps11 (leB rfl) rfl ?_
  repeat first | refine sk fun K hK => ?_ | refine bk ?_ | refine rn fun _ => ?_
  refine xX fun b1 => ?_
  refine xC ?_
  refine wn [1] ?_
  repeat first | refine sk fun K hK => ?_ | refine bk ?_ | refine rg fun ops hG => ?_
  refine xG (PO.loadA Tryz.underlying30 rfl rfl Et (by (repeat (first | exact mem0 _ | apply memT | apply List.mem_append_right))) rfl) ?_
  refine xF Tryz.underlying30 ?_
  refine xG (PO.load1 Tryz.underlying24 rfl Et (by (repeat (first | exact mem0 _ | apply memT | apply List.mem_append_right))) rfl) ?_
  refine xG (PO.build Tryz.underlying30 rfl rfl rfl (EvP.cons Et EvP.nil) rfl) ?_
  refine xG (PO.eqlA Tryz.underlying30 (by kernel_rfl) (by kernel_rfl) Et Et rfl) ?_
  refine xM ?_
  refine zG (fun _ => pF Tryz.underlying30) ?_
  refine WL.poG (GU.t (hG _ _ rfl) rfl) (fun hc => PO.load1 Tryz.underlying24 rfl (Eg hc) (by (repeat (first | exact mem0 _ | apply memT | apply List.mem_append_right))) rfl) (leB rfl) ?_
  refine zG (fun hc => PO.bin (Eg hc) Ev.const rfl) ?_
  refine xP ?_
  refine xM ?_
  refine zG (fun _ => pF Tryz.underlying30) ?_
  refine WL.poG (GU.t (hG _ _ rfl) rfl) (fun hc => PO.load1 Tryz.underlying24 rfl (Eg hc) (by (repeat (first | exact mem0 _ | apply memT | apply List.mem_append_right))) rfl) (leB rfl) ?_
  refine zG (fun hc => PO.bin (Eg hc) Ev.const rfl) ?_
  refine xP ?_
  refine xA ?_
  refine wn [2] ?_
  try clear hG ops
  refine WC.ret (wR (h) ?_)
  exact ⟨rfl, rfl⟩
/-- Whether an expression and its parts have simple types. -/
def okX (S : List Ent) (e : Ex) : Bool := ((ofX S e).2 == 0) && simT (ofX S e).1
mutual
def partsX (S : List Ent) : Ex → Bool
  | .mk k o t n s a c l => okX S (.mk k o t n s a c l) && partsL S l
def partsL (S : List Ent) : List Ex → Bool
  | [] => true
  | x :: r => partsX S x && partsL S r
end
theorem partsX_eq (S : List Ent) (e : Ex) : partsX S e = (okX S e && partsL S e.l) := by cases e; rfl
theorem partsL_at (S : List Ent) {l : List Ex} {i : Nat} {x : Ex} (hx : l[i]? = some x) : partsL S (l.drop i) = (partsX S x && partsL S (l.drop (i + 1))) := by
  have hi := (List.getElem?_eq_some_iff.1 hx).1
  rw [List.drop_eq_getElem_cons hi, (List.getElem?_eq_some_iff.1 hx).2]
  rfl
theorem okX_of {S : List Ent} {e : Ex} (h : okX S e = true) : mayE e = true ∧ ∃ hd, typX S e = .ok hd ∧ simT hd.t = true ∧ ofX S e = (hd.t, 0) := by
  unfold okX ofX at h
  simp only [Bool.and_eq_true, beq_iff_eq] at h
  by_cases hm : mayE e = true
  · rw [if_pos hm] at h
    cases ht : typX S e with
    | error w => rw [ht] at h; exact absurd (show simT zeroT = true from h.2) (by decide)
    | ok hd => rw [ht] at h; exact ⟨hm, hd, rfl, h.2, by unfold ofX; rw [if_pos hm, ht]⟩
  · rw [if_neg hm] at h
    exact absurd (show (2 : Int) = 0 from h.1) (by decide)
theorem okX_to {S : List Ent} {e : Ex} (hm : mayE e = true) {hd : Hd} (ht : typX S e = .ok hd) (hs : simT hd.t = true) : okX S e = true := by
  unfold okX ofX
  rw [if_pos hm, ht]
  simp [hs]
theorem parts_ok (s : List En) (e : Ex) : okX (shL s) e = true → partsX (shL s) e = true := by
  refine Ex.ind (p := fun e => okX (shL s) e = true → partsX (shL s) e = true) (fun e ih h => ?_) e
  obtain ⟨hm, hd, ht, -, -⟩ := okX_of h
  rw [partsX_eq, h, Bool.true_and]
  have hp := part_sim (fun e w => typX_err s e w) hm ht
  have key : ∀ l : List Ex, (∀ x ∈ l, x ∈ e.l) → partsL (shL s) l = true := by
    intro l
    induction l with
    | nil => intro _; rfl
    | cons x r ihr =>
      intro hx
      have hxm := hx x (List.Mem.head _)
      obtain ⟨a, h1, h2⟩ := hp x hxm
      show (partsX (shL s) x && partsL (shL s) r) = true
      rw [ih x hxm (okX_to (may_part hm hxm) h1 h2), ihr fun y hy => hx y (List.Mem.tail _ hy)]
      rfl
  exact key e.l fun _ h => h
theorem partsE_ct {m : View} (hg : Glob m) (ls : List Sp) (a2 : Option Addr) (c : Nat) (hn : ls.length ≤ 900000) (e : Ex) : ∀ h, TOk m h e → Wf e → Rd m h a2 ls.length c 16 (fl spE ls) → VOkE m h ls →
    CT Tryz.prog 13 [exV e, .slice a2 ls.length c] h m (Pure1 h (.bool (partsX (envX ls) e))) := by
  refine Ex.ind (p := fun e => ∀ h, TOk m h e → Wf e → Rd m h a2 ls.length c 16 (fl spE ls) → VOkE m h ls → CT Tryz.prog 13 [exV e, .slice a2 ls.length c] h m (Pure1 h (.bool (partsX (envX ls) e)))) (fun e ih h hT hW hr hv => ?_) e
  have hre := hT.rd
  have hmx := hre.mx
  have hkx := hre.le
  have hP := partsX_eq (envX ls) e
  refine CT.body Tryz.call13 Tryz.func13 rfl Tryz.ntmps13 (leB rfl) rfl ?_
  repeat first | refine sk fun K hK => ?_ | refine bk ?_ | refine rn fun _ => ?_
  refine xX fun b2 => ?_
  refine xC ?_
  refine wn [1, 2] ?_
  repeat first | refine sk fun K hK => ?_ | refine bk ?_ | refine rn fun _ => ?_
  refine xG (PO.loadA Tryz.underlying27 rfl rfl Et (by (repeat (first | exact mem0 _ | apply memT | apply List.mem_append_right))) rfl) ?_
  refine xM ?_
  refine xf (E2 Et Et) (of_ct hg e (hT.mono Sb) hW ls a2 ls.length c (hr.mono (View.le.refl m) Sb) (hv.mono Sb) hn) ?_
  refine xM ?_
  refine xE ?_
  refine xE ?_
  refine xW fun b5 => ?_
  refine xS ?_
  refine xA ?_
  refine wn [1, 2, 5, 6] ?_
  repeat first | refine sk fun K hK => ?_ | refine bk ?_ | refine rg fun ops hG => ?_
  refine xM ?_
  refine xG (PO.bin Et Ev.const rfl) ?_
  refine xM ?_
  refine WL.poG (GU.f (hG _ _ rfl) rfl) (fun hc => PO.loadA Tryz.underlying30 rfl rfl Et (by (repeat (first | exact mem0 _ | apply memT | apply List.mem_append_right))) rfl) (leB rfl) ?_
  refine WL.callG (GU.f (hG _ _ rfl) rfl) (fun hc => ⟨Ev.func, (Evs.cons (Eg hc) Evs.nil), simple_ct _ _ _⟩) (leB rfl) ?_
  refine zG (fun hc => PO.not (Eg hc)) ?_
  refine xQ ?_
  refine wn [1, 2, 21] ?_
  try clear hG ops
  repeat first | refine sk fun K hK => ?_ | refine bk ?_
  refine wc (fun c21 => ?_) fun c21 => ?_
  have d21 : okX (envX ls) e = false := by
    have d : ((!((ofX (envX ls) e).2 == 0)) || !(simT (ofX (envX ls) e).1)) = true := c21
    unfold okX
    revert d
    cases ((ofX (envX ls) e).2 == 0) <;> simp
  repeat first | refine sk fun K hK => ?_ | refine bk ?_ | refine rn fun _ => ?_
  refine xC ?_
  refine wn [4] ?_
  refine WC.ret (wR (h) ?_)
  exact ⟨by rw [hP, d21]; rfl, rfl⟩
  have d21 : okX (envX ls) e = true := by
    have d : ((!((ofX (envX ls) e).2 == 0)) || !(simT (ofX (envX ls) e).1)) = false := c21
    unfold okX
    revert d
    cases ((ofX (envX ls) e).2 == 0) <;> simp
  rw [d21, Bool.true_and] at hP
  refine WC.skip (kp [1, 2] ?_)
  repeat first | refine sk fun K hK => ?_ | refine bk ?_ | refine rn fun _ => ?_
  refine xF Tryz.underlying27 ?_
  refine xG (PO.load1 Tryz.underlying25 rfl Et (by (repeat (first | exact mem0 _ | apply memT | apply List.mem_append_right))) rfl) ?_
  refine xG (PO.lenSl Tryz.underlying25 Et) ?_
  refine xK ?_
  refine wn [1, 23, 24, 25] ?_
  repeat first | refine sk fun K hK => ?_ | refine bk ?_
  refine WC.loopI [1, 23, 24] rfl (fun μ F' h' => ∃ i : Nat, (i ≤ e.l.length ∧ partsX (envX ls) e = partsL (envX ls) (e.l.drop i)) ∧ e.l.length - i = μ ∧ F' = [(25, .int .i64 i)] ∧ .pt b5 (.cells (cellT (ofX (envX ls) e).1).toArray 30 (0, 0)) :: .pt b2 (.cells (exE e).toArray 27 (0, 0)) :: h = h') (e.l.length - 0) [(25, .int .i64 0)] (h0 := .pt b5 (.cells (cellT (ofX (envX ls) e).1).toArray 30 (0, 0)) :: .pt b2 (.cells (exE e).toArray 27 (0, 0)) :: h) ?_ Sb ⟨0, ⟨by omega, hP⟩, rfl, rfl, rfl⟩ ?_
  (repeat (first | exact Sub.nil | refine Sub.cons rfl ?_ | refine Sub.consE rfl (by simp; done) ?_))
  rintro _ _ _ ⟨i, ⟨hi, hq⟩, rfl, rfl, rfl⟩
  refine WC.frm rfl ?_
  repeat first | refine sk fun K hK => ?_ | refine bk ?_ | refine rn fun _ => ?_
  refine xG (PO.bin Et Et rfl) ?_
  refine wn [1, 23, 24, 25, 26] ?_
  repeat first | refine sk fun K hK => ?_ | refine bk ?_
  refine wc (fun c26 => ?_) fun c26 => ?_
  replace c26 := of_decide_eq_true c26
  obtain ⟨x, hx⟩ := get_some (l := e.l) (k := i) (by omega)
  have hxm := List.mem_of_getElem? hx
  rw [partsL_at _ hx] at hq
  refine WC.skip (kp [1, 23, 24, 25] ?_)
  repeat first | refine sk fun K hK => ?_ | refine bk ?_ | refine rn fun _ => ?_
  refine xG (PO.idx EL25.und EL25.size EL25.posz Et Et (by first | assumption | exact Rd.ofSl (by assumption) | exact Rd.ofPt rfl (by decide) (by (repeat (first | exact mem0 _ | apply memT | apply List.mem_append_right))) | exact Rd.mono (by assumption) (View.le.refl _) Sb | exact Rd.inRow (by (repeat (first | exact mem0 _ | apply memT | apply List.mem_append_right))) (by assumption) (by assumption) (by assumption)) rfl (by omega)) ?_
  refine xG (PO.loadFA Tryz.underlying27 rfl rfl exE_len (by first | assumption | exact Rd.ofSl (by assumption) | exact Rd.ofPt rfl (by decide) (by (repeat (first | exact mem0 _ | apply memT | apply List.mem_append_right))) | exact Rd.mono (by assumption) (View.le.refl _) Sb | exact Rd.inRow (by (repeat (first | exact mem0 _ | apply memT | apply List.mem_append_right))) (by assumption) (by assumption) (by assumption)) Et (by assumption) rfl rfl (Nat.succ_pos _)) ?_
  refine xW fun b8 => ?_
  refine xS ?_
  refine wn [1, 8, 23, 24, 25] ?_
  repeat first | refine sk fun K hK => ?_ | refine bk ?_ | refine rn fun _ => ?_
  refine xG (PO.loadA Tryz.underlying27 rfl rfl Et (by (repeat (first | exact mem0 _ | apply memT | apply List.mem_append_right))) rfl) ?_
  refine xM ?_
  refine xf (E2 Et Et) (ih x hxm _ ((hT.part hxm).mono Sb) (hW.part hxm) (hr.mono (View.le.refl m) Sb) (hv.mono Sb)) ?_
  refine xG (PO.not Et) ?_
  refine wn [1, 23, 24, 25, 32] ?_
  repeat first | refine sk fun K hK => ?_ | refine bk ?_
  refine wc (fun c32 => ?_) fun c32 => ?_
  have d32 : partsX (envX ls) x = false := by simpa using c32
  rw [d32] at hq
  repeat first | refine sk fun K hK => ?_ | refine bk ?_ | refine rn fun _ => ?_
  refine xC ?_
  refine wn [4] ?_
  refine WC.ret (wR (h) ?_)
  exact ⟨by rw [hq]; rfl, rfl⟩
  have d32 : partsX (envX ls) x = true := by simpa using c32
  rw [d32, Bool.true_and] at hq
  refine WC.skip (kp [1, 23, 24, 25] ?_)
  repeat first | refine sk fun K hK => ?_ | refine bk ?_ | refine rn fun _ => ?_
  refine xG (PO.addI Et Ev.const (by omega)) ?_
  refine xM ?_
  refine WL.nil (loopBackI (e.l.length - (i + 1)) [(25, .int .i64 (i + 1))] (h'' := .pt b5 (.cells (cellT (ofX (envX ls) e).1).toArray 30 (0, 0)) :: .pt b2 (.cells (exE e).toArray 27 (0, 0)) :: h) (by omega) ?_ (by (repeat (first | exact Sub.nil | refine Sub.cons rfl ?_ | refine Sub.consE rfl (by simp; done) ?_))) Sb ⟨i + 1, ⟨by omega, hq⟩, rfl, rfl, rfl⟩)
  (repeat (first | exact Sub.nil | refine Sub.cons rfl ?_ | refine Sub.consE rfl (by simp; done) ?_))
  replace c26 := of_decide_eq_false c26
  rw [List.drop_eq_nil_of_le (by omega)] at hq
  refine WC.exit (kp [] ?_)
  repeat first | refine sk fun K hK => ?_ | refine bk ?_ | refine rn fun _ => ?_
  refine xC ?_
  refine wn [4] ?_
  refine WC.ret (wR (h) ?_)
  exact ⟨by rw [hq]; rfl, rfl⟩
theorem put_set (l : List Ex) (i : Nat) (hi : i < l.length) (y : Ex) : (fl exE l).take (i * 6) ++ exE y ++ (fl exE l).drop (i * 6 + (exE y).length) = fl exE (l.set i y) := by
  have h1 : l = l.take i ++ l[i] :: l.drop (i + 1) := by
    have h2 : l.drop i = l[i] :: l.drop (i + 1) := List.drop_eq_getElem_cons hi
    rw [← h2, List.take_append_drop]
  have hl : (l.take i).length = i := by rw [List.length_take]; omega
  have e0 : fl exE l = fl exE (l.take i) ++ (exE l[i] ++ fl exE (l.drop (i + 1))) := by
    conv => lhs; rw [h1]
    rw [fl_app]
    rfl
  have e1 : (fl exE (l.take i)).length = i * 6 := by rw [fl_len exE_len, hl]
  have e2 : (exE l[i]).length = 6 := rfl
  have e3 : (exE y).length = 6 := rfl
  rw [List.set_eq_take_append_cons_drop, if_pos hi, fl_app, show fl exE (y :: l.drop (i + 1)) = exE y ++ fl exE (l.drop (i + 1)) from rfl, e0, e3]
  rw [List.take_append, e1, Nat.sub_self, List.take_of_length_le (by omega), List.take_zero, List.append_nil, List.drop_append, e1, List.drop_of_length_le (by omega), List.nil_append,
    show i * 6 + 6 - i * 6 = 6 by omega, List.drop_append, e2, List.drop_of_length_le (by omega), List.nil_append, Nat.sub_self, List.drop_zero, List.append_assoc]
/-- What is put in a part's place. -/
structure Leaf (y : Ex) : Prop where
  l : y.l = []
  w : Wf y
  t : ∀ (m : View) (h : List Res), TOk m h y
  p : (partsP y).2 = true ∧ y.l = [] ∧ (partsP y).1 = 0
abbrev byX (n : Int) : Ex := sx 2 0 0 n [] []
abbrev boX (n : Int) : Ex := sx 3 0 0 n [] []
theorem exE_one (y : Ex) : ∀ u ∈ exE y, u.oneCell' = true := by
  intro u hu
  unfold exE at hu
  simp only [List.mem_cons, List.not_mem_nil, or_false] at hu
  rcases hu with rfl | rfl | rfl | rfl | rfl | rfl <;> rfl
theorem leaf_nu : Leaf (nuX 7) := ⟨rfl, .mk (by decide) (by decide) (by decide) (by decide) (by decide) fun _ hx => (List.not_mem_nil hx).elim, fun m h => .mk (Rd.nilF exE 6 m h) (fun _ hx => (List.not_mem_nil hx).elim), by decide⟩
theorem leaf_by : Leaf (byX 7) := ⟨rfl, .mk (by decide) (by decide) (by decide) (by decide) (by decide) fun _ hx => (List.not_mem_nil hx).elim, fun m h => .mk (Rd.nilF exE 6 m h) (fun _ hx => (List.not_mem_nil hx).elim), by decide⟩
theorem leaf_bo : Leaf (boX 1) := ⟨rfl, .mk (by decide) (by decide) (by decide) (by decide) (by decide) fun _ hx => (List.not_mem_nil hx).elim, fun m h => .mk (Rd.nilF exE 6 m h) (fun _ hx => (List.not_mem_nil hx).elim), by decide⟩
theorem parts_law {m : View} (hg : Glob m) (e : Ex) (a : Option Addr) (k c : Nat) (l : List Sp) (h : List Res) (hT : TOk m h e) (hW : Wf e) (hr : Rd m h a k c 16 (fl spE l)) (hv : VOkE m h l) : CT Tryz.prog 4 [exV e, .slice a k c] h m Law := by
  have hl := hr.lenF spE_len (by decide)
  subst hl
  have hmx := hr.mx
  have hle := hr.le
  have hre := hT.rd
  have hmx2 := hre.mx
  have hkx2 := hre.le
  obtain ⟨ls, a2, hn, ha2, hr2, hv2, h30⟩ := env_cut (m := m) hr hv
  refine CT.body Tryz.call4 Tryz.func4 rfl Tryz.ntmps4 (leB rfl) rfl ?_
  repeat first | refine sk fun K hK => ?_ | refine bk ?_ | refine rn fun _ => ?_
  refine xX fun b2 => ?_
  refine xC ?_
  refine wn [1, 2] ?_
  repeat first | refine sk fun K hK => ?_ | refine bk ?_ | refine rn fun _ => ?_
  refine xM ?_
  refine xM ?_
  refine xG (PO.lenSl Tryz.underlying28 Et) ?_
  refine xG (PO.min Et Ev.const) ?_
  refine xG (PO.sliceH EL28.und EL28.size Et Et (u := ls.length) (by split <;> omega) (by omega)) ?_
  rw [← ha2]
  refine xA ?_
  refine wn [1, 2] ?_
  repeat first | refine sk fun K hK => ?_ | refine bk ?_ | refine rn fun _ => ?_
  refine xG (PO.loadA Tryz.underlying27 rfl rfl Et (by (repeat (first | exact mem0 _ | apply memT | apply List.mem_append_right))) rfl) ?_
  refine xM ?_
  refine xf (E2 Et Et) (of_ct hg e (hT.mono Sb) hW ls a2 ls.length c (hr2.mono (View.le.refl m) Sb) (hv2.mono Sb) (by omega)) ?_
  refine xM ?_
  refine xE ?_
  refine xE ?_
  refine xW fun b5 => ?_
  refine xS ?_
  refine xA ?_
  refine wn [1, 2, 5, 6] ?_
  repeat first | refine sk fun K hK => ?_ | refine bk ?_ | refine rg fun ops hG => ?_
  refine xM ?_
  refine xG (PO.bin Et Ev.const rfl) ?_
  refine xM ?_
  refine WL.poG (GU.f (hG _ _ rfl) rfl) (fun hc => PO.loadA Tryz.underlying30 rfl rfl Et (by (repeat (first | exact mem0 _ | apply memT | apply List.mem_append_right))) rfl) (leB rfl) ?_
  refine WL.callG (GU.f (hG _ _ rfl) rfl) (fun hc => ⟨Ev.func, (Evs.cons (Eg hc) Evs.nil), simple_ct _ _ _⟩) (leB rfl) ?_
  refine zG (fun hc => PO.not (Eg hc)) ?_
  refine xQ ?_
  refine wn [1, 2, 5, 6, 30] ?_
  try clear hG ops
  repeat first | refine sk fun K hK => ?_ | refine bk ?_
  refine wc (fun c30 => ?_) fun c30 => ?_
  repeat first | refine sk fun K hK => ?_ | refine bk ?_ | refine rg fun ops hG => ?_
  refine xM ?_
  refine xG (PO.bin Et Ev.const rfl) ?_
  refine xM ?_
  refine WL.poG (GU.f (hG _ _ rfl) rfl) (fun hc => PO.loadA Tryz.underlying27 rfl rfl Et (by (repeat (first | exact mem0 _ | apply memT | apply List.mem_append_right))) rfl) (leB rfl) ?_
  refine WL.callG (GU.f (hG _ _ rfl) rfl) (fun hc => ⟨Ev.func, (Evs.cons (Eg hc) Evs.nil), mayR_ct e _ (hT.mono Sb) hW⟩) (leB rfl) ?_
  refine xQ ?_
  refine WL.val (v' := .bool true) ?_ ?_
  · have : ((ofX (envX ls) e).2 != 0 || mayE e) = true := by
      unfold ofX
      cases hm : mayE e with
      | true => exact Bool.or_true _
      | false => rfl
    exact congrArg Value.bool (by simpa using this)
  refine xM ?_
  refine WL.callG (GU.t (hG _ _ rfl) rfl) (fun hc => ⟨Ev.func, Evs.nil, worksX_ct hg _⟩) (leB rfl) ?_
  refine xP ?_
  refine xA ?_
  refine wn [4] ?_
  try clear hG ops
  refine WC.ret (wR (h) ?_)
  rfl
  have d30 : okX (envX ls) e = true := by
    have d : ((!((ofX (envX ls) e).2 == 0)) || !(simT (ofX (envX ls) e).1)) = false := c30
    unfold okX
    revert d
    cases ((ofX (envX ls) e).2 == 0) <;> simp
  obtain ⟨hm, hd, ht, hs, ho⟩ := okX_of d30
  have hsz : e.l.length ≤ 256 := by
    have h1 := (may_good hm).2
    have h2 := cnt_len e.l
    rw [cntE_eq] at h1
    omega
  refine WC.skip (kp [1, 2, 5] ?_)
  repeat first | refine sk fun K hK => ?_ | refine bk ?_ | refine rn fun _ => ?_
  refine xG (PO.loadA Tryz.underlying27 rfl rfl Et (by (repeat (first | exact mem0 _ | apply memT | apply List.mem_append_right))) rfl) ?_
  refine xM ?_
  refine xf (E2 Et Et) (partsE_ct hg ls a2 c (by omega) e _ (hT.mono Sb) hW (hr2.mono (View.le.refl m) Sb) (hv2.mono Sb)) ?_
  refine xG (PO.not Et) ?_
  refine wn [1, 2, 5, 43] ?_
  repeat first | refine sk fun K hK => ?_ | refine bk ?_
  refine wc (fun c43 => ?_) fun c43 => ?_
  have : partsX (envX ls) e = true := parts_ok _ e d30
  have d : (!(partsX (envX ls) e)) = true := c43
  rw [this] at d
  cases d
  refine WC.skip (kp [1, 2, 5] ?_)
  repeat first | refine sk fun K hK => ?_ | refine bk ?_ | refine rn fun _ => ?_
  refine xF Tryz.underlying27 ?_
  refine xG (PO.load1 Tryz.underlying25 rfl Et (by (repeat (first | exact mem0 _ | apply memT | apply List.mem_append_right))) rfl) ?_
  refine xG (PO.lenSl Tryz.underlying25 Et) ?_
  refine xK ?_
  refine wn [1, 2, 5, 46, 47] ?_
  repeat first | refine sk fun K hK => ?_ | refine bk ?_
  refine WC.loopI [1, 2, 5, 46] rfl (fun μ F' h' => ∃ i : Nat, (i ≤ e.l.length) ∧ e.l.length - i = μ ∧ F' = [(47, .int .i64 i)] ∧ .pt b5 (.cells (cellT (ofX (envX ls) e).1).toArray 30 (0, 0)) :: .pt b2 (.cells (exE e).toArray 27 (0, 0)) :: h = h') (e.l.length - 0) [(47, .int .i64 0)] (h0 := .pt b5 (.cells (cellT (ofX (envX ls) e).1).toArray 30 (0, 0)) :: .pt b2 (.cells (exE e).toArray 27 (0, 0)) :: h) ?_ Sb ⟨0, by omega, rfl, rfl, rfl⟩ ?_
  (repeat (first | exact Sub.nil | refine Sub.cons rfl ?_ | refine Sub.consE rfl (by simp; done) ?_))
  rintro _ _ _ ⟨i, hi, rfl, rfl, rfl⟩
  refine WC.frm rfl ?_
  repeat first | refine sk fun K hK => ?_ | refine bk ?_ | refine rn fun _ => ?_
  refine xG (PO.bin Et Et rfl) ?_
  refine wn [1, 2, 5, 46, 47, 48] ?_
  repeat first | refine sk fun K hK => ?_ | refine bk ?_
  refine wc (fun c48 => ?_) fun c48 => ?_
  replace c48 := of_decide_eq_true c48
  obtain ⟨x, hx⟩ := get_some (l := e.l) (k := i) (by omega)
  have hxm := List.mem_of_getElem? hx
  obtain ⟨q, hq1, hq2⟩ := part_sim (fun e w => typX_err _ e w) hm ht x hxm
  have hox : ofX (envX ls) x = (q.t, 0) := by unfold ofX; rw [if_pos (may_part hm hxm), show typX (envX ls) x = .ok q from hq1]
  refine WC.skip (kp [1, 2, 5, 46, 47] ?_)
  repeat first | refine sk fun K hK => ?_ | refine bk ?_ | refine rn fun _ => ?_
  refine xM ?_
  refine xA ?_
  refine wn [1, 2, 5, 7, 46, 47] ?_
  repeat first | refine sk fun K hK => ?_ | refine bk ?_ | refine rn fun _ => ?_
  refine xF Tryz.underlying27 ?_
  refine xG (PO.load1 Tryz.underlying25 rfl Et (by (repeat (first | exact mem0 _ | apply memT | apply List.mem_append_right))) rfl) ?_
  refine xM ?_
  refine xG (PO.idx EL25.und EL25.size EL25.posz Et Et (by first | assumption | exact Rd.ofSl (by assumption) | exact Rd.ofPt rfl (by decide) (by (repeat (first | exact mem0 _ | apply memT | apply List.mem_append_right))) | exact Rd.mono (by assumption) (View.le.refl _) Sb | exact Rd.inRow (by (repeat (first | exact mem0 _ | apply memT | apply List.mem_append_right))) (by assumption) (by assumption) (by assumption)) rfl (by omega)) ?_
  refine xG (PO.loadFA Tryz.underlying27 rfl rfl exE_len (by first | assumption | exact Rd.ofSl (by assumption) | exact Rd.ofPt rfl (by decide) (by (repeat (first | exact mem0 _ | apply memT | apply List.mem_append_right))) | exact Rd.mono (by assumption) (View.le.refl _) Sb | exact Rd.inRow (by (repeat (first | exact mem0 _ | apply memT | apply List.mem_append_right))) (by assumption) (by assumption) (by assumption)) Et (by assumption) rfl rfl (Nat.succ_pos _)) ?_
  refine xM ?_
  refine xf (E2 Et Et) (of_ct hg x ((hT.part hxm).mono Sb) (hW.part hxm) ls a2 ls.length c (hr2.mono (View.le.refl m) Sb) (hv2.mono Sb) (by omega)) ?_
  refine xM ?_
  refine xE ?_
  refine xE ?_
  refine xW fun b8 => ?_
  refine xS ?_
  refine xA ?_
  refine wn [1, 2, 5, 7, 8, 46, 47] ?_
  repeat first | refine sk fun K hK => ?_ | refine bk ?_ | refine rn fun _ => ?_
  refine xG (PO.loadA Tryz.underlying27 rfl rfl Et (by (repeat (first | exact mem0 _ | apply memT | apply List.mem_append_right))) rfl) ?_
  refine xW fun b10 => ?_
  refine xS ?_
  refine wn [1, 2, 5, 7, 8, 10, 46, 47] ?_
  repeat first | refine sk fun K hK => ?_ | refine bk ?_ | refine rn fun _ => ?_
  refine WL.buildSlice0 EL25 (leB rfl) fun b61 => ?_
  refine xF Tryz.underlying27 ?_
  refine xG (PO.load1 Tryz.underlying25 rfl Et (by (repeat (first | exact mem0 _ | apply memT | apply List.mem_append_right))) rfl) ?_
  refine WL.appendE EL25 Et Et (by first | assumption | exact Rd.ofSl (by assumption) | exact Rd.ofPt rfl (by decide) (by (repeat (first | exact mem0 _ | apply memT | apply List.mem_append_right))) | exact Rd.mono (by assumption) (View.le.refl _) Sb | exact Rd.inRow (by (repeat (first | exact mem0 _ | apply memT | apply List.mem_append_right))) (by assumption) (by assumption) (by assumption)) On (Nat.zero_add _) (List.nil_append _) (by omega) (by omega) (fun v' => Up) (leB rfl) fun a64 c64 => ?_
  refine WL.knowRow (a := a64) (by (repeat (first | exact mem0 _ | apply memT | apply List.mem_append_right))) fun p64 q64 r64 => ?_
  have hlen : (fl exE e.l).length = e.l.length * 6 := fl_len exE_len e.l
  obtain ⟨kk, hkk, hqt⟩ := (sim_iff q.t).1 hq2
  refine xF Tryz.underlying27 ?_
  refine xS ?_
  refine wn [1, 2, 5, 7, 8, 10, 46, 47] ?_
  repeat first | refine sk fun K hK => ?_ | refine bk ?_ | refine rn fun _ => ?_
  refine xF Tryz.underlying30 ?_
  refine xG (PO.load1 Tryz.underlying24 rfl Et (by (repeat (first | exact mem0 _ | apply memT | apply List.mem_append_right))) rfl) ?_
  refine wn [1, 2, 5, 7, 10, 46, 47, 67] ?_
  (repeat refine WC.seqK fun K hK => ?_)
  refine WC.cutK (by assumption) [1, 2, 5, 10, 46, 47] rfl (fun F' h' => ∃ y : Ex, (Leaf y ∧ Like (typX (envX ls) x) (typX (envX ls) y)) ∧ F' = [] ∧ .row (.slice a64 e.l.length c64) 27 6 e.l.length (fl exE (e.l.set i y)) :: .pt b10 (.cells (exE (.mk e.k e.o e.t e.n e.s a64 c64 e.l)).toArray 27 (0, 0)) :: .pt b5 (.cells (cellT (ofX (envX ls) e).1).toArray 30 (0, 0)) :: .pt b2 (.cells (exE e).toArray 27 (0, 0)) :: h = h') ?_ ?_
  repeat first | refine sk fun K hK => ?_ | refine bk ?_ | refine rn fun _ => ?_
  refine xG (PO.bin Et Ev.const rfl) ?_
  refine xA ?_
  refine wn [1, 2, 5, 7, 10, 46, 47, 67, 73] ?_
  repeat first | refine sk fun K hK => ?_ | refine bk ?_
  refine wc (fun c73 => ?_) fun c73 => ?_
  replace c73 := t_eq c73
  have hk1 : q.t.kind = 1 := by rw [hox] at c73; exact c73
  repeat first | refine sk fun K hK => ?_ | refine bk ?_
  refine WC.drawS [3] (.op 0 (.op 1 (.op 2 (.op 3 .nil)))) [4, 5] _ [] mixed (fun _ _ _ _ _ h => h) [] (by kernel_rfl) ?_
  refine yG rfl (pF Tryz.underlying27) ?_
  refine yG rfl (PO.load1 Tryz.underlying25 rfl Et (by (repeat (first | exact mem0 _ | apply memT | apply List.mem_append_right))) rfl) ?_
  refine yG rfl (PO.move Et) ?_
  refine yf rfl (E1 Ev.const) (fun fr => numX_ct _ _ _) ?_
  refine SR.nil rfl rfl ?_
  refine xG (PO.idx EL25.und EL25.size EL25.posz Et Et (by first | assumption | exact Rd.ofSl (by assumption) | exact Rd.ofPt rfl (by decide) (by (repeat (first | exact mem0 _ | apply memT | apply List.mem_append_right))) | exact Rd.mono (by assumption) (View.le.refl _) Sb | exact Rd.inRow (by (repeat (first | exact mem0 _ | apply memT | apply List.mem_append_right))) (by assumption) (by assumption) (by assumption)) rfl (by omega)) ?_
  refine WL.storeRW (o := i * 6) (xs := fl exE e.l) (vs := exE (nuX 7)) (a := a64) (l := e.l.length) (cap := c64) (sz := 6) (e := 27) rfl Et Et rfl (exE_one _) (by decide) (by rw [hlen, exE_len]; omega) Up ?_
  rw [put_set e.l i (by omega) (nuX 7)]
  refine WL.nil (meetI [] (h'' := .row (.slice a64 e.l.length c64) 27 6 e.l.length (fl exE (e.l.set i (nuX 7))) :: .pt b10 (.cells (exE (.mk e.k e.o e.t e.n e.s a64 c64 e.l)).toArray 27 (0, 0)) :: .pt b5 (.cells (cellT (ofX (envX ls) e).1).toArray 30 (0, 0)) :: .pt b2 (.cells (exE e).toArray 27 (0, 0)) :: h) ?_ (by (repeat (first | exact Sub.nil | refine Sub.cons rfl ?_ | refine Sub.consE rfl (by simp; done) ?_))) Sb ⟨nuX 7, ⟨leaf_nu, .inr ⟨q, simpleH 1, hq1, rfl, by rw [hqt] at hk1 ⊢; rw [show kk = 1 from hk1]; rfl⟩⟩, rfl, rfl⟩)
  (repeat (first | exact Sub.nil | refine Sub.cons rfl ?_ | refine Sub.consE rfl (by simp; done) ?_))
  replace c73 := f_eq c73
  have hk1 : q.t.kind ≠ 1 := by rw [hox] at c73; exact c73
  repeat first | refine sk fun K hK => ?_ | refine bk ?_ | refine rn fun _ => ?_
  refine xG (PO.bin Et Ev.const rfl) ?_
  refine xA ?_
  refine wn [1, 2, 5, 7, 10, 46, 47, 80] ?_
  repeat first | refine sk fun K hK => ?_ | refine bk ?_
  refine wc (fun c80 => ?_) fun c80 => ?_
  replace c80 := t_eq c80
  have hk2 : q.t.kind = 2 := by rw [hox] at c80; exact c80
  repeat first | refine sk fun K hK => ?_ | refine bk ?_ | refine rn fun _ => ?_
  refine xF Tryz.underlying27 ?_
  refine xG (PO.load1 Tryz.underlying25 rfl Et (by (repeat (first | exact mem0 _ | apply memT | apply List.mem_append_right))) rfl) ?_
  refine xM ?_
  refine xG (PO.build Tryz.underlying27 rfl rfl rfl (EvP.cons Ev.const (EvP.cons Ev.const EvP.nil)) rfl) ?_
  refine xG (PO.idx EL25.und EL25.size EL25.posz Et Et (by first | assumption | exact Rd.ofSl (by assumption) | exact Rd.ofPt rfl (by decide) (by (repeat (first | exact mem0 _ | apply memT | apply List.mem_append_right))) | exact Rd.mono (by assumption) (View.le.refl _) Sb | exact Rd.inRow (by (repeat (first | exact mem0 _ | apply memT | apply List.mem_append_right))) (by assumption) (by assumption) (by assumption)) rfl (by omega)) ?_
  refine WL.storeRW (o := i * 6) (xs := fl exE e.l) (vs := exE (byX 7)) (a := a64) (l := e.l.length) (cap := c64) (sz := 6) (e := 27) rfl Et Et rfl (exE_one _) (by decide) (by rw [hlen, exE_len]; omega) Up ?_
  rw [put_set e.l i (by omega) (byX 7)]
  refine WL.nil (meetI [] (h'' := .row (.slice a64 e.l.length c64) 27 6 e.l.length (fl exE (e.l.set i (byX 7))) :: .pt b10 (.cells (exE (.mk e.k e.o e.t e.n e.s a64 c64 e.l)).toArray 27 (0, 0)) :: .pt b5 (.cells (cellT (ofX (envX ls) e).1).toArray 30 (0, 0)) :: .pt b2 (.cells (exE e).toArray 27 (0, 0)) :: h) ?_ (by (repeat (first | exact Sub.nil | refine Sub.cons rfl ?_ | refine Sub.consE rfl (by simp; done) ?_))) Sb ⟨byX 7, ⟨leaf_by, .inr ⟨q, simpleH 2, hq1, rfl, by rw [hqt] at hk2 ⊢; rw [show kk = 2 from hk2]; rfl⟩⟩, rfl, rfl⟩)
  (repeat (first | exact Sub.nil | refine Sub.cons rfl ?_ | refine Sub.consE rfl (by simp; done) ?_))
  replace c80 := f_eq c80
  have hk2 : q.t.kind ≠ 2 := by rw [hox] at c80; exact c80
  repeat first | refine sk fun K hK => ?_ | refine bk ?_ | refine rn fun _ => ?_
  refine xF Tryz.underlying27 ?_
  refine xG (PO.load1 Tryz.underlying25 rfl Et (by (repeat (first | exact mem0 _ | apply memT | apply List.mem_append_right))) rfl) ?_
  refine xM ?_
  refine xG (PO.build Tryz.underlying27 rfl rfl rfl (EvP.cons Ev.const (EvP.cons Ev.const EvP.nil)) rfl) ?_
  refine xG (PO.idx EL25.und EL25.size EL25.posz Et Et (by first | assumption | exact Rd.ofSl (by assumption) | exact Rd.ofPt rfl (by decide) (by (repeat (first | exact mem0 _ | apply memT | apply List.mem_append_right))) | exact Rd.mono (by assumption) (View.le.refl _) Sb | exact Rd.inRow (by (repeat (first | exact mem0 _ | apply memT | apply List.mem_append_right))) (by assumption) (by assumption) (by assumption)) rfl (by omega)) ?_
  refine WL.storeRW (o := i * 6) (xs := fl exE e.l) (vs := exE (boX 1)) (a := a64) (l := e.l.length) (cap := c64) (sz := 6) (e := 27) rfl Et Et rfl (exE_one _) (by decide) (by rw [hlen, exE_len]; omega) Up ?_
  rw [put_set e.l i (by omega) (boX 1)]
  refine WL.nil (meetI [] (h'' := .row (.slice a64 e.l.length c64) 27 6 e.l.length (fl exE (e.l.set i (boX 1))) :: .pt b10 (.cells (exE (.mk e.k e.o e.t e.n e.s a64 c64 e.l)).toArray 27 (0, 0)) :: .pt b5 (.cells (cellT (ofX (envX ls) e).1).toArray 30 (0, 0)) :: .pt b2 (.cells (exE e).toArray 27 (0, 0)) :: h) ?_ (by (repeat (first | exact Sub.nil | refine Sub.cons rfl ?_ | refine Sub.consE rfl (by simp; done) ?_))) Sb ⟨boX 1, ⟨leaf_bo, .inr ⟨q, simpleH 3, hq1, rfl, by have h1 : kk ≠ 1 := (fun z => hk1 (by rw [hqt]; exact z)); have h2 : kk ≠ 2 := (fun z => hk2 (by rw [hqt]; exact z)); rw [hqt, show kk = 3 by omega]; rfl⟩⟩, rfl, rfl⟩)
  (repeat (first | exact Sub.nil | refine Sub.cons rfl ?_ | refine Sub.consE rfl (by simp; done) ?_))
  rintro _ _ ⟨y, ⟨hy, hlk⟩, rfl, rfl⟩
  refine WC.frm rfl ?_
  repeat first | refine sk fun K hK => ?_ | refine bk ?_ | refine rn fun _ => ?_
  obtain ⟨w, hw⟩ : ∃ w, w = Ex.mk e.k e.o e.t e.n e.s a64 c64 (e.l.set i y) := ⟨_, rfl⟩
  have hwl : w.l = e.l.set i y := by rw [hw]; rfl
  have hwn : w.l.length = e.l.length := by rw [hwl]; exact List.length_set
  have hwe : exE (.mk e.k e.o e.t e.n e.s a64 c64 e.l) = exE w := by
    rw [hw]
    show [_, _, _, _, _, Value.slice a64 e.l.length c64] = [_, _, _, _, _, Value.slice a64 (e.l.set i y).length c64]
    rw [List.length_set]
    rfl
  rw [hwe, ← hwl]
  refine WL.knowRow (a := a64) (by (repeat (first | exact mem0 _ | apply memT | apply List.mem_append_right))) fun p9 q9 r9 => ?_
  have hwm : mayE w = true := may_set hm hx hy.p w ⟨by rw [hw]; rfl, hwl⟩
  have hwt : typX (envX ls) w = typX (envX ls) e := typX_set hx hlk w ⟨by rw [hw]; rfl, by rw [hw]; rfl, by rw [hw]; rfl, by rw [hw]; rfl, hwl⟩
  have hwo : ofX (envX ls) w = ofX (envX ls) e := by unfold ofX; rw [hwm, hm, hwt]
  have hwW : Wf w := by
    obtain ⟨⟨hk, hoo, htt⟩, hnn, hss⟩ := hW.spec
    rw [hw]
    exact .mk hk hoo htt hnn hss fun z hz => by
      rcases List.mem_or_eq_of_mem_set hz with hz | rfl
      · exact hW.part hz
      · exact hy.w
  have hwT : ∀ h', Rd m h' a64 e.l.length c64 6 (fl exE w.l) → TOk m h' e → TOk m h' w := fun h' r t => by
    rw [← hwn] at r
    rw [hw] at r ⊢
    exact .mk r fun z hz => by
      rcases List.mem_or_eq_of_mem_set hz with hz | rfl
      · exact t.part hz
      · exact hy.t m h'
  refine xG (PO.loadA Tryz.underlying27 rfl rfl Et (by (repeat (first | exact mem0 _ | apply memT | apply List.mem_append_right))) rfl) ?_
  refine xM ?_
  refine xf (E2 Et Et) (hwo ▸ of_ct hg w (hwT _ (Rd.inRow (by (repeat (first | exact mem0 _ | apply memT | apply List.mem_append_right))) r9 p9 q9) (hT.mono Sb)) hwW ls a2 ls.length c (hr2.mono (View.le.refl m) Sb) (hv2.mono Sb) (by omega)) ?_
  refine xM ?_
  refine xE ?_
  refine xE ?_
  refine xW fun b11 => ?_
  refine xS ?_
  refine xA ?_
  refine wn [1, 2, 5, 11, 12, 46, 47] ?_
  repeat first | refine sk fun K hK => ?_ | refine bk ?_ | refine rg fun ops hG => ?_
  refine xM ?_
  refine xG (PO.bin Et Ev.const rfl) ?_
  refine xM ?_
  refine WL.poG (GU.f (hG _ _ rfl) rfl) (fun hc => PO.loadA Tryz.underlying30 rfl rfl Et (by (repeat (first | exact mem0 _ | apply memT | apply List.mem_append_right))) rfl) (leB rfl) ?_
  refine WL.poG (GU.f (hG _ _ rfl) rfl) (fun hc => PO.loadA Tryz.underlying30 rfl rfl Et (by (repeat (first | exact mem0 _ | apply memT | apply List.mem_append_right))) rfl) (leB rfl) ?_
  refine WL.poG (GU.f (hG _ _ rfl) rfl) (fun hc => PO.neqA Tryz.underlying30 (by kernel_rfl) (by kernel_rfl) (Eg hc) (Eg hc) rfl) (leB rfl) ?_
  refine xQ ?_
  refine wn [1, 2, 5, 46, 47, 99] ?_
  try clear hG ops
  repeat first | refine sk fun K hK => ?_ | refine bk ?_
  refine wc (fun c99 => ?_) fun c99 => ?_
  rw [ho] at c99
  have d : (((0 : Int) != 0) || !(eqT hd.t hd.t)) = true := c99
  rw [(Go.Ty.eqT_iff _ _).2 rfl] at d
  cases d
  refine WC.skip (kp [1, 2, 5, 46, 47] ?_)
  repeat first | refine sk fun K hK => ?_ | refine bk ?_ | refine rn fun _ => ?_
  refine xG (PO.addI Et Ev.const (by omega)) ?_
  refine xM ?_
  refine WL.nil (loopBackI (e.l.length - (i + 1)) [(47, .int .i64 (i + 1))] (h'' := .pt b5 (.cells (cellT (ofX (envX ls) e).1).toArray 30 (0, 0)) :: .pt b2 (.cells (exE e).toArray 27 (0, 0)) :: h) (by omega) ?_ (by (repeat (first | exact Sub.nil | refine Sub.cons rfl ?_ | refine Sub.consE rfl (by simp; done) ?_))) Sb ⟨i + 1, by omega, rfl, rfl, rfl⟩)
  (repeat (first | exact Sub.nil | refine Sub.cons rfl ?_ | refine Sub.consE rfl (by simp; done) ?_))
  replace c48 := of_decide_eq_false c48
  refine WC.exit (kp [] ?_)
  repeat first | refine sk fun K hK => ?_ | refine bk ?_ | refine rn fun _ => ?_
  refine xf E0 (worksX_ct hg _) ?_
  refine xA ?_
  refine wn [4] ?_
  refine WC.ret (wR (h) ?_)
  rfl
end Go.Proofs.YtdhmplmpbcnojaaGreatDoor
end
/- Door -/
section
namespace Go.Proofs.YtdhmplmpbcnojaaGreatDoor
open Go Go.Eng Go.RowKit Go.ChangeShapes Go.WideShapes Go.ChangeAt Go.Joins
set_option maxRecDepth 100000
theorem Tryz.own : ownKnob Tryz.prog.godebug = none := by kernel_rfl
theorem Tryz.laidOut : laidOutB Tryz.prog = true := by kernel_rfl
theorem cellsPm : Tryz.prog.cellsOf 240 = 3 := by kernel_rfl
abbrev laidL : List (String × DataW Unit) := [("transputer/types.primitive", Rows.laid_transputer_types_primitive), ("transputer/syntax.one", Rows.laid_transputer_syntax_one), ("transputer/syntax.some", Rows.laid_transputer_syntax_some), ("transputer/syntax.all", Rows.laid_transputer_syntax_all)]
theorem prim_at {W : World} {fuel : Nat} {ys : List Value} {kd sz : Int} {wd : List UInt8} {p : List MemPlace}
    (h : DataW.trod (fun _ => ()) Tryz.prog W 0 (fun _ => true) false fuel 240 ys = some (.agg [.lit (.int .u8 kd), .lit (.string wd), .lit (.int .i64 sz)], p)) :
    ys[0]? = some (.int .u8 kd) ∧ ys[1]? = some (str wd) ∧ ys[2]? = some (.int .i64 sz) := by
  obtain ⟨f, hf⟩ := data_struct Tryz.underlying240 h
  obtain ⟨_, h0⟩ := hf 0 _ _ rfl rfl
  obtain ⟨_, h1⟩ := hf 1 _ _ rfl rfl
  obtain ⟨_, h2⟩ := hf 2 _ _ rfl rfl
  exact ⟨Eng.cell_of_cut (data_int Tryz.underlying24 h0), Eng.cell_of_cut (data_str Tryz.underlying9 h1), Eng.cell_of_cut (data_int Tryz.underlying3 h2)⟩
theorem cut_at {cs ys : List Value} {i j : Nat} {v : Value} (e : (cs.drop (i * 3)).take 3 = ys) (h : ys[j]? = some v) : cs[i * 3 + j]? = some v := by
  subst e
  rw [List.getElem?_take] at h
  split at h
  · rwa [List.getElem?_drop] at h
  · cases h
theorem span_at {W : World} {fuel : Nat} {ys : List Value} {a b : Int} {p : List MemPlace} (h : DataW.trod (fun _ => ()) Tryz.prog W 0 (fun _ => true) false fuel 176 ys = some (.agg [.lit (.int .i64 a), .lit (.int .i64 b)], p)) :
    ∀ (j : Nat) (v : Value), ([.int .i64 a, .int .i64 b] : List Value)[j]? = some v → ys[j]? = some v := by
  obtain ⟨f, hf⟩ := data_struct Tryz.underlying176 h
  obtain ⟨_, h0⟩ := hf 0 _ _ rfl rfl
  obtain ⟨_, h1⟩ := hf 1 _ _ rfl rfl
  have e0 := Eng.cell_of_cut (data_int Tryz.underlying3 h0)
  have e1 := Eng.cell_of_cut (data_int Tryz.underlying3 h1)
  intro j v hj
  match j, hj with
  | 0, hj => cases hj; exact e0
  | 1, hj => cases hj; exact e1
theorem glob_of {W : World} (h : laidMet Tryz.prog laidL W) (hsh : W.ShapedOpen Tryz.prog) : Glob (viewOf W) := by
  obtain ⟨_, ⟨g0, t0, cs0, f0, p0, q0, hg0, ht0, hv0, hd0, ⟨g1, t1, cs1, f1, p1, q1, hg1, ht1, hv1, hd1, ⟨g2, t2, cs2, f2, p2, q2, hg2, ht2, hv2, hd2, ⟨g3, t3, cs3, f3, p3, q3, hg3, ht3, hv3, hd3, _, _⟩, _⟩, _⟩, _⟩, _⟩ := h
  obtain rfl := Option.some.inj ((show Tryz.prog.globalNamed "transputer/types.primitive" = some 4 by kernel_rfl).symm.trans hg0)
  obtain rfl := Option.some.inj ((show Tryz.prog.globalNamed "transputer/syntax.one" = some 1 by kernel_rfl).symm.trans hg1)
  obtain rfl := Option.some.inj ((show Tryz.prog.globalNamed "transputer/syntax.some" = some 2 by kernel_rfl).symm.trans hg2)
  obtain rfl := Option.some.inj ((show Tryz.prog.globalNamed "transputer/syntax.all" = some 0 by kernel_rfl).symm.trans hg3)
  obtain rfl := Option.some.inj ((show (Tryz.prog.globals[4]?).map (·.type) = some 241 by kernel_rfl).symm.trans ht0)
  obtain rfl := Option.some.inj ((show (Tryz.prog.globals[1]?).map (·.type) = some 176 by kernel_rfl).symm.trans ht1)
  obtain rfl := Option.some.inj ((show (Tryz.prog.globals[2]?).map (·.type) = some 176 by kernel_rfl).symm.trans ht2)
  obtain rfl := Option.some.inj ((show (Tryz.prog.globals[0]?).map (·.type) = some 176 by kernel_rfl).symm.trans ht3)
  refine ⟨(Tryz.laysM144.s1_3 W hsh).imp fun _ e => start_cell e, fun j v hj => start_cell ?_, fun j v hj => start_cell ?_, fun j v hj => start_cell ?_, fun j v hj => start_cell ?_⟩
  · obtain ⟨f, hf⟩ := data_array Tryz.underlying241 hd0
    obtain ⟨_, h0⟩ := hf 0 _ (by decide) rfl
    obtain ⟨_, h1⟩ := hf 1 _ (by decide) rfl
    obtain ⟨_, h2⟩ := hf 2 _ (by decide) rfl
    rw [cellsPm] at h0 h1 h2
    have a0 := prim_at h0
    have a1 := prim_at h1
    have a2 := prim_at h2
    rw [World.var?_cell hg0 hv0 j, ← Array.getElem?_toList]
    match j, hj with
    | 0, hj => cases hj; exact cut_at (i := 0) rfl a0.1
    | 1, hj => cases hj; exact cut_at (i := 0) rfl a0.2.1
    | 2, hj => cases hj; exact cut_at (i := 0) rfl a0.2.2
    | 3, hj => cases hj; exact cut_at (i := 1) rfl a1.1
    | 4, hj => cases hj; exact cut_at (i := 1) rfl a1.2.1
    | 5, hj => cases hj; exact cut_at (i := 1) rfl a1.2.2
    | 6, hj => cases hj; exact cut_at (i := 2) rfl a2.1
    | 7, hj => cases hj; exact cut_at (i := 2) rfl a2.2.1
    | 8, hj => cases hj; exact cut_at (i := 2) rfl a2.2.2
  · rw [World.var?_cell hg1 hv1 j, ← Array.getElem?_toList]
    exact span_at hd1 j v hj
  · rw [World.var?_cell hg2 hv2 j, ← Array.getElem?_toList]
    exact span_at hd2 j v hj
  · rw [World.var?_cell hg3 hv3 j, ← Array.getElem?_toList]
    exact span_at hd3 j v hj
noncomputable def setC (g : Nat) (l : List Value) (hp : Array Obj) : Array Obj := hp.modify g fun
      | .cells _ t fz => .cells l.toArray t fz
      | o => o
noncomputable def laidWorld (os : Os) : World :=
  { World.holding Tryz.prog os ⟨#[], #[], []⟩ with heap := setC 4 primC (setC 1 oneC (setC 2 someC (setC 0 allC (World.holding Tryz.prog os ⟨#[], #[], []⟩).heap))) }
theorem laidWorld_met (os : Os) (args : Array Value) : laidMet Tryz.prog laidL ((laidWorld os).forCall (fun _ _ => 0) ⟨#[], args, []⟩).memory :=
  laidMet_of_run' 8 (by kernel_rfl) (by kernel_rfl)
end Go.Proofs.YtdhmplmpbcnojaaGreatDoor
end
/- ArgE -/
section
namespace Go.Proofs.YtdhmplmpbcnojaaGreatDoor
open Go Go.Eng Go.Ty Go.Xp Go.RowKit Go.ChangeShapes Go.WideShapes Go.ChangeAt Go.Joins
set_option maxRecDepth 100000
variable {H : Type} {enc : TypeId × Value → H} {W : World}
theorem cellsExpr : Tryz.prog.cellsOf 27 = 6 := by kernel_rfl
theorem ex_read : ∀ (fuel : Nat) {cs : List Value} {x : DataW H × List MemPlace}, RdT enc Tryz.prog W true fuel 27 cs x → (∀ q ∈ x.1.weights Tryz.prog 27, q ≤ reachBytes) → ∃ e : Ex, cs = exE e ∧ TOk (viewOf W) [] e ∧ Wf e := by
  intro fuel
  induction fuel using Nat.strongRecOn with
  | _ fuel ih =>
  intro cs x hr hw
  obtain ⟨hl, f, hfu, hf⟩ := rd_structW Tryz.underlying27 hr
  rw [cellsExpr] at hl
  match cs, hl with
  | [c0, c1, c2, c3, c4, c5], _ =>
    obtain ⟨_, _, h0, _⟩ := hf _ (.head _)
    obtain ⟨_, _, h1, _⟩ := hf _ (.tail _ (.head _))
    obtain ⟨_, _, h2, _⟩ := hf _ (.tail _ (.tail _ (.head _)))
    obtain ⟨_, _, h3, _⟩ := hf _ (.tail _ (.tail _ (.tail _ (.head _))))
    obtain ⟨_, _, h4, k4⟩ := hf _ (.tail _ (.tail _ (.tail _ (.tail _ (.head _)))))
    obtain ⟨d5, p5, h5, k5⟩ := hf _ (.tail _ (.tail _ (.tail _ (.tail _ (.tail _ (.head _))))))
    obtain ⟨n0, e0, w0⟩ := rd_int Tryz.underlying22 h0
    obtain ⟨n1, e1, w1⟩ := rd_int Tryz.underlying23 h1
    obtain ⟨n2, e2, w2⟩ := rd_int Tryz.underlying24 h2
    obtain ⟨n3, e3, w3⟩ := rd_int Tryz.underlying21 h3
    obtain ⟨n4, e4, w4⟩ := rd_strW Tryz.underlying9 h4
    obtain ⟨a, n, c, l, e5, hll, hs, hp⟩ := slice_argF (Pr := fun e : Ex => TOk (viewOf W) [] e ∧ Wf e) (enc' := exE) Tryz.underlying25 cellsExpr (by decide) exE_len (fun g ys y hg hy hk => by
      obtain ⟨e, he1, he2⟩ := ih g (by omega) hy fun q hq => hw q (k5 q (hk q hq))
      exact ⟨e, he1, he2⟩) h5
    obtain rfl : c0 = .int .u8 n0 := List.head_eq_of_cons_eq e0
    obtain rfl : c1 = .int .u8 n1 := List.head_eq_of_cons_eq e1
    obtain rfl : c2 = .int .u8 n2 := List.head_eq_of_cons_eq e2
    obtain rfl : c3 = .int .i32 n3 := List.head_eq_of_cons_eq e3
    obtain rfl : c4 = str n4 := List.head_eq_of_cons_eq e4
    obtain rfl : c5 = .slice a n c := List.head_eq_of_cons_eq e5
    subst hll
    have u0 : 0 ≤ n0 ∧ n0 ≤ 255 := by simpa [Lit.wf, show IntKind.u8.min = 0 from rfl, show IntKind.u8.max = 255 from rfl] using w0
    have u1 : 0 ≤ n1 ∧ n1 ≤ 255 := by simpa [Lit.wf, show IntKind.u8.min = 0 from rfl, show IntKind.u8.max = 255 from rfl] using w1
    have u2 : 0 ≤ n2 ∧ n2 ≤ 255 := by simpa [Lit.wf, show IntKind.u8.min = 0 from rfl, show IntKind.u8.max = 255 from rfl] using w2
    have u3 : -2147483648 ≤ n3 ∧ n3 ≤ 2147483647 := by simp [Lit.wf] at w3; exact w3
    exact ⟨.mk n0 n1 n2 n3 n4 a c l, rfl, .mk (Rd.ofSl hs) fun y hy => (hp y hy).1, .mk u0 u1 u2 u3 (Nat.le_trans (hw _ (k4 _ w4)) (by decide)) fun y hy => (hp y hy).2⟩
theorem ex_arg {r : Reach} {base : Nat} {v : Value} {d : DataW H} {p : List MemPlace} (hv : Value.okWide Tryz.prog W r base 27 v) (h : DataW.Trod enc Tryz.prog W 0 (fun _ => true) true 27 v d p) (hw : ∀ q ∈ d.weights Tryz.prog 27, q ≤ reachBytes) :
    ∃ e : Ex, v = exV e ∧ TOk (viewOf W) [] e ∧ Wf e := by
  obtain ⟨cs, rfl, _⟩ := okWide_struct Tryz.underlying27 hv
  obtain ⟨fuel, hf⟩ := h
  obtain ⟨e, he, ht⟩ := ex_read fuel (x := (d, p)) hf hw
  refine ⟨e, ?_, ht⟩
  unfold exV
  rw [← show cs.toList = exE e from he]
end Go.Proofs.YtdhmplmpbcnojaaGreatDoor
end
/- ArgP -/
section
namespace Go.Proofs.YtdhmplmpbcnojaaGreatDoor
open Go.Xp hiding B
open Go Go.Eng Go.Ty Go.Pc Go.RowKit Go.ChangeShapes Go.WideShapes Go.ChangeAt Go.Joins
open Go.Lx (encB encB_len)
set_option maxRecDepth 100000
variable {H : Type} {enc : TypeId × Value → H} {W : World}
abbrev Wt (x : DataW H × List MemPlace) (t : TypeId) : Prop := ∀ q ∈ x.1.weights Tryz.prog t, q ≤ reachBytes
theorem cut_chain (cs : List Value) (i n : Nat) : cs.drop i = (cs.drop i).take n ++ cs.drop (i + n) := by
  rw [← List.drop_drop, List.take_append_drop]
theorem cellsStr : Tryz.prog.cellsOf 9 = 1 := by kernel_rfl
theorem cellsInt : Tryz.prog.cellsOf 3 = 1 := by kernel_rfl
theorem cellsTy : Tryz.prog.cellsOf 30 = 4 := by kernel_rfl
theorem cellsVr : Tryz.prog.cellsOf 102 = 2 := by kernel_rfl
theorem cellsTk : Tryz.prog.cellsOf 24 = 1 := by kernel_rfl
theorem cellsPo : Tryz.prog.cellsOf 51 = 2 := by kernel_rfl
theorem cellsFo : Tryz.prog.cellsOf 60 = 6 := by kernel_rfl
theorem cellsRp : Tryz.prog.cellsOf 43 = 13 := by kernel_rfl
theorem cellsSp : Tryz.prog.cellsOf 54 = 16 := by kernel_rfl
theorem cellsGu : Tryz.prog.cellsOf 70 = 23 := by kernel_rfl
theorem cellsPr : Tryz.prog.cellsOf 56 = 42 := by kernel_rfl
theorem u8_wf {n : Int} (w : (Lit.int .u8 n).wf = true) : 0 ≤ n ∧ n ≤ 255 := by simpa [Lit.wf, show IntKind.u8.min = 0 from rfl, show IntKind.u8.max = 255 from rfl] using w
theorem i64_wf {n : Int} (w : (Lit.int .i64 n).wf = true) : -9223372036854775808 ≤ n ∧ n ≤ 9223372036854775807 := by
  simp [Lit.wf] at w
  exact w
theorem ty_readW {fuel : Nat} {cs : List Value} {x : DataW H × List MemPlace} (hr : RdT enc Tryz.prog W true fuel 30 cs x) (hw : Wt x 30) : ∃ t : Ty, cs = cellT t ∧ TyW t := by
  obtain ⟨hl, f, _, hf⟩ := rd_structW Tryz.underlying30 hr
  rw [cellsTy] at hl
  match cs, hl with
  | [c0, c1, c2, c3], _ =>
    obtain ⟨_, _, h0, _⟩ := hf _ (.head _)
    obtain ⟨_, _, h1, _⟩ := hf _ (.tail _ (.head _))
    obtain ⟨_, _, h2, _⟩ := hf _ (.tail _ (.tail _ (.head _)))
    obtain ⟨_, _, h3, k3⟩ := hf _ (.tail _ (.tail _ (.tail _ (.head _))))
    obtain ⟨n0, e0, w0⟩ := rd_int Tryz.underlying24 h0
    obtain ⟨n1, e1, w1⟩ := rd_int Tryz.underlying3 h1
    obtain ⟨n2, e2, w2⟩ := rd_int Tryz.underlying24 h2
    obtain ⟨n3, e3, w3⟩ := rd_strW Tryz.underlying9 h3
    obtain rfl : c0 = .int .u8 n0 := List.head_eq_of_cons_eq e0
    obtain rfl : c1 = .int .i64 n1 := List.head_eq_of_cons_eq e1
    obtain rfl : c2 = .int .u8 n2 := List.head_eq_of_cons_eq e2
    obtain rfl : c3 = str n3 := List.head_eq_of_cons_eq e3
    exact ⟨⟨n0, n1, n2, n3⟩, rfl, u8_wf w0, u8_wf w2, i64_wf w1, Nat.le_trans (hw _ (k3 _ w3)) (by decide)⟩
theorem str_readW {fuel : Nat} {cs : List Value} {x : DataW H × List MemPlace} (hr : RdT enc Tryz.prog W true fuel 9 cs x) (hw : Wt x 9) : ∃ s : List UInt8, cs = encB s ∧ s.length ≤ Big := by
  obtain ⟨s, e, w⟩ := rd_strW Tryz.underlying9 hr
  exact ⟨s, e, Nat.le_trans (hw _ w) (by decide)⟩
theorem fo_read {fuel : Nat} {cs : List Value} {x : DataW H × List MemPlace} (hr : RdT enc Tryz.prog W true fuel 60 cs x) (hw : Wt x 60) : ∃ f : Fo, cs = foE f ∧ FoW f := by
  obtain ⟨hl, f, _, hf⟩ := rd_structW Tryz.underlying60 hr
  rw [cellsFo] at hl
  obtain ⟨_, _, h0, _⟩ := hf _ (.head _)
  obtain ⟨_, _, h1, k1⟩ := hf _ (.tail _ (.head _))
  obtain ⟨_, _, h2, k2⟩ := hf _ (.tail _ (.tail _ (.head _)))
  obtain ⟨b, e0⟩ := rd_bool Tryz.underlying4 h0
  obtain ⟨t, e1, w1⟩ := ty_readW h1 fun q hq => hw q (k1 q hq)
  obtain ⟨s, e2, w2⟩ := str_readW h2 fun q hq => hw q (k2 q hq)
  refine ⟨⟨b, t, s⟩, ?_, w1, w2⟩
  have h : cs.drop 6 = [] := List.drop_eq_nil_of_le (by omega)
  rw [show cs = cs.drop 0 from rfl, cut_chain cs 0 1, show (cs.drop 0).take 1 = _ from e0, cut_chain cs 1 4, show (cs.drop (0 + 1)).take 4 = _ from e1, cut_chain cs 5 1, show (cs.drop (1 + 4)).take 1 = _ from e2, h]
  rfl
theorem ex_readE {fuel : Nat} {cs : List Value} {x : DataW H × List MemPlace} (hr : RdT enc Tryz.prog W true fuel 27 cs x) (hw : Wt x 27) : ∃ e : Ex, cs = exE e ∧ EOk (viewOf W) [] e := by
  obtain ⟨e, h1, h2, h3⟩ := ex_read fuel hr hw
  exact ⟨e, h1, h2, h3⟩
theorem exs_read {fuel : Nat} {cs : List Value} {x : DataW H × List MemPlace} (hr : RdT enc Tryz.prog W true fuel 25 cs x) (hw : Wt x 25) : ∃ s : Sli Ex, cs = [.slice s.a s.l.length s.c] ∧ LOk (viewOf W) [] s := by
  obtain ⟨a, n, c, l, e, hl, hs, hp⟩ := slice_argF (Pr := fun e : Ex => EOk (viewOf W) [] e) (enc' := exE) Tryz.underlying25 cellsExpr (by decide) exE_len (fun g ys y _ hy hk => ex_readE hy fun q hq => hw q (hk q hq)) hr
  subst hl
  exact ⟨⟨a, c, l⟩, e, Rd.ofSl hs, hp⟩
theorem strs_read {fuel : Nat} {cs : List Value} {x : DataW H × List MemPlace} (hr : RdT enc Tryz.prog W true fuel 48 cs x) (hw : Wt x 48) : ∃ s : Sli B, cs = [.slice s.a s.l.length s.c] ∧ Rd (viewOf W) [] s.a s.l.length s.c 1 (fl encB s.l) ∧ ∀ x ∈ s.l, x.length ≤ Big := by
  obtain ⟨a, n, c, l, e, hl, hs, hp⟩ := slice_argF (Pr := fun x : B => x.length ≤ Big) (enc' := encB) Tryz.underlying48 cellsStr (by decide) encB_len (fun g ys y _ hy hk => str_readW hy fun q hq => hw q (hk q hq)) hr
  subst hl
  exact ⟨⟨a, c, l⟩, e, Rd.ofSl hs, hp⟩
theorem ints_read {fuel : Nat} {cs : List Value} {x : DataW H × List MemPlace} (hr : RdT enc Tryz.prog W true fuel 46 cs x) : ∃ s : Sli Int, cs = [.slice s.a s.l.length s.c] ∧ Rd (viewOf W) [] s.a s.l.length s.c 1 (fl encN s.l) ∧ ∀ x ∈ s.l, -9223372036854775808 ≤ x ∧ x ≤ 9223372036854775807 := by
  obtain ⟨a, n, c, l, e, hl, hs, hp⟩ := slice_argF (Pr := fun x : Int => -9223372036854775808 ≤ x ∧ x ≤ 9223372036854775807) (enc' := encN) Tryz.underlying46 cellsInt (by decide) encN_len (fun g ys y _ hy _ => by
    obtain ⟨n, e, w⟩ := rd_int Tryz.underlying3 hy
    exact ⟨n, e, i64_wf w⟩) hr
  subst hl
  exact ⟨⟨a, c, l⟩, e, Rd.ofSl hs, hp⟩
theorem fos_read {fuel : Nat} {cs : List Value} {x : DataW H × List MemPlace} (hr : RdT enc Tryz.prog W true fuel 52 cs x) (hw : Wt x 52) : ∃ s : Sli Fo, cs = [.slice s.a s.l.length s.c] ∧ Rd (viewOf W) [] s.a s.l.length s.c 6 (fl foE s.l) ∧ ∀ x ∈ s.l, FoW x := by
  obtain ⟨a, n, c, l, e, hl, hs, hp⟩ := slice_argF (Pr := fun x : Fo => FoW x) (enc' := foE) Tryz.underlying52 cellsFo (by decide) foE_len (fun g ys y _ hy hk => fo_read hy fun q hq => hw q (hk q hq)) hr
  subst hl
  exact ⟨⟨a, c, l⟩, e, Rd.ofSl hs, hp⟩
theorem rp_read {fuel : Nat} {cs : List Value} {x : DataW H × List MemPlace} (hr : RdT enc Tryz.prog W true fuel 43 cs x) (hw : Wt x 43) : ∃ r : Rp, cs = rpE r ∧ r.name.length ≤ Big ∧ EOk (viewOf W) [] r.base ∧ EOk (viewOf W) [] r.count := by
  obtain ⟨hl, f, _, hf⟩ := rd_structW Tryz.underlying43 hr
  rw [cellsRp] at hl
  obtain ⟨_, _, h0, k0⟩ := hf _ (.head _)
  obtain ⟨_, _, h1, k1⟩ := hf _ (.tail _ (.head _))
  obtain ⟨_, _, h2, k2⟩ := hf _ (.tail _ (.tail _ (.head _)))
  obtain ⟨s, e0, w0⟩ := str_readW h0 fun q hq => hw q (k0 q hq)
  obtain ⟨b, e1, w1⟩ := ex_readE h1 fun q hq => hw q (k1 q hq)
  obtain ⟨c, e2, w2⟩ := ex_readE h2 fun q hq => hw q (k2 q hq)
  refine ⟨⟨s, b, c⟩, ?_, w0, w1, w2⟩
  have h : cs.drop 13 = [] := List.drop_eq_nil_of_le (by omega)
  rw [show cs = cs.drop 0 from rfl, cut_chain cs 0 1, show (cs.drop 0).take 1 = _ from e0, cut_chain cs 1 6, show (cs.drop (0 + 1)).take 6 = _ from e1, cut_chain cs 7 6, show (cs.drop (1 + 6)).take 6 = _ from e2, h]
  rfl
theorem vr_readW {fuel : Nat} {cs : List Value} {x : DataW H × List MemPlace} (hr : RdT enc Tryz.prog W true fuel 102 cs x) (hw : Wt x 102) : ∃ v : Vr, cs = encV v ∧ (VOk (viewOf W) [] v ∧ v.tag.length ≤ 9223372036854775807) ∧ v.items.length = v.n := by
  obtain ⟨hl, f, _, hf⟩ := rd_structW Tryz.underlying102 hr
  rw [cellsVr] at hl
  match cs, hl with
  | [c0, c1], _ =>
    obtain ⟨_, _, h0, k0⟩ := hf _ (.head _)
    obtain ⟨_, _, h1, k1⟩ := hf _ (.tail _ (.head _))
    obtain ⟨n0, e0, w0⟩ := str_readW h0 fun q hq => hw q (k0 q hq)
    obtain ⟨a, n, c, l, e1, hll, hs, _⟩ := slice_argF (Pr := fun _ : Int => True) (enc' := encI) Tryz.underlying100 cellsTk (by decide) encI_len (fun g ys y _ hy _ => by
      obtain ⟨n, e, _⟩ := rd_int Tryz.underlying24 hy
      exact ⟨n, e, trivial⟩) h1
    obtain rfl : c0 = str n0 := List.head_eq_of_cons_eq e0
    obtain rfl : c1 = .slice a n c := List.head_eq_of_cons_eq e1
    exact ⟨⟨n0, a, n, c, l⟩, rfl, ⟨⟨Rd.ofSl hs⟩, Nat.le_trans w0 (by decide)⟩, hll⟩
theorem po_read {fuel : Nat} {cs : List Value} {x : DataW H × List MemPlace} (hr : RdT enc Tryz.prog W true fuel 51 cs x) (hw : Wt x 51) : ∃ (b : Bool) (s : Sli Vr), cs = [.bool b, .slice s.a s.l.length s.c] ∧ PrOk (viewOf W) [] s.a s.l.length s.c s.l ∧ ∀ x ∈ s.l, x.items.length = x.n := by
  obtain ⟨hl, f, _, hf⟩ := rd_structW Tryz.underlying51 hr
  rw [cellsPo] at hl
  match cs, hl with
  | [c0, c1], _ =>
    obtain ⟨_, _, h0, _⟩ := hf _ (.head _)
    obtain ⟨_, _, h1, k1⟩ := hf _ (.tail _ (.head _))
    obtain ⟨b, e0⟩ := rd_bool Tryz.underlying4 h0
    obtain ⟨a, n, c, l, e1, hll, hs, hp⟩ := slice_argF (Pr := fun v : Vr => (VOk (viewOf W) [] v ∧ v.tag.length ≤ 9223372036854775807) ∧ v.items.length = v.n) (enc' := encV) Tryz.underlying49 cellsVr (by decide) encV_len (fun g ys y _ hy hk => vr_readW hy fun q hq => hw q (k1 q (hk q hq))) h1
    obtain rfl : c0 = .bool b := List.head_eq_of_cons_eq e0
    obtain rfl : c1 = .slice a n c := List.head_eq_of_cons_eq e1
    subst hll
    exact ⟨b, ⟨a, c, l⟩, rfl, ⟨Rd.ofSl hs, fun v hv => (hp v hv).1.1, fun v hv => (hp v hv).1.2⟩, fun v hv => (hp v hv).2⟩
/-- A list of processes in memory. -/
abbrev PsR (fuel : Nat) : Prop := ∀ g, g < fuel → ∀ {cs : List Value} {x : DataW H × List MemPlace}, RdT enc Tryz.prog W true g 56 cs x → Wt x 56 → ∃ p : Pr, cs = prE p ∧ POk (viewOf W) [] p
theorem prs_read {fuel : Nat} (ih : PsR (enc := enc) (W := W) fuel) {cs : List Value} {x : DataW H × List MemPlace} (hr : RdT enc Tryz.prog W true fuel 45 cs x) (hw : Wt x 45) :
    ∃ a c l, cs = [.slice a l.length c] ∧ Rd (viewOf W) [] a l.length c 42 (fl prE l) ∧ ∀ p ∈ l, POk (viewOf W) [] p := by
  obtain ⟨a, n, c, l, e, hl, hs, hp⟩ := slice_argF (Pr := fun p : Pr => POk (viewOf W) [] p) (enc' := prE) Tryz.underlying45 cellsPr (by decide) prE_len (fun g ys y hg hy hk => ih g hg hy fun q hq => hw q (hk q hq)) hr
  subst hl
  exact ⟨a, c, l, e, Rd.ofSl hs, hp⟩
theorem PsR.less {f g : Nat} (ih : PsR (enc := enc) (W := W) f) (h : g ≤ f) : PsR (enc := enc) (W := W) g := fun k hk => ih k (Nat.lt_of_lt_of_le hk h)
theorem sp_read {fuel : Nat} (ih : PsR (enc := enc) (W := W) fuel) {cs : List Value} {x : DataW H × List MemPlace} (hr : RdT enc Tryz.prog W true fuel 54 cs x) (hw : Wt x 54) :
    ∃ s : Sp, cs = spE s ∧ SOk (viewOf W) [] s ∧ ∀ p ∈ s.bl, POk (viewOf W) [] p := by
  obtain ⟨hl, f, hfu, hf⟩ := rd_structW Tryz.underlying54 hr
  rw [cellsSp] at hl
  obtain ⟨_, _, h0, _⟩ := hf _ (.head _)
  obtain ⟨_, _, h1, k1⟩ := hf _ (.tail _ (.head _))
  obtain ⟨_, _, h2, k2⟩ := hf _ (.tail _ (.tail _ (.head _)))
  obtain ⟨_, _, h3, k3⟩ := hf _ (.tail _ (.tail _ (.tail _ (.head _))))
  obtain ⟨_, _, h4, k4⟩ := hf _ (.tail _ (.tail _ (.tail _ (.tail _ (.head _)))))
  obtain ⟨_, _, h5, k5⟩ := hf _ (.tail _ (.tail _ (.tail _ (.tail _ (.tail _ (.head _))))))
  obtain ⟨_, _, h6, k6⟩ := hf _ (.tail _ (.tail _ (.tail _ (.tail _ (.tail _ (.tail _ (.head _)))))))
  obtain ⟨n0, e0, w0⟩ := rd_int Tryz.underlying47 h0
  obtain ⟨t1, e1, w1⟩ := ty_readW h1 fun q hq => hw q (k1 q hq)
  obtain ⟨s2, e2, r2, w2⟩ := strs_read h2 fun q hq => hw q (k2 q hq)
  obtain ⟨x3, e3, w3⟩ := ex_readE h3 fun q hq => hw q (k3 q hq)
  obtain ⟨b4, s4, e4, r4, w4⟩ := po_read h4 fun q hq => hw q (k4 q hq)
  obtain ⟨s5, e5, r5, w5⟩ := fos_read h5 fun q hq => hw q (k5 q hq)
  obtain ⟨a6, c6, l6, e6, r6, w6⟩ := prs_read (ih.less (by omega)) h6 fun q hq => hw q (k6 q hq)
  refine ⟨.mk n0 t1 s2 x3 b4 s4 s5 a6 c6 l6, ?_, ⟨u8_wf w0, w1, r2, w2, w3, r4, w4, r5, w5, r6⟩, w6⟩
  have h : cs.drop 16 = [] := List.drop_eq_nil_of_le (by omega)
  rw [show cs = cs.drop 0 from rfl, cut_chain cs 0 1, show (cs.drop 0).take 1 = _ from e0, cut_chain cs 1 4, show (cs.drop (0 + 1)).take 4 = _ from e1, cut_chain cs 5 1, show (cs.drop (1 + 4)).take 1 = _ from e2,
    cut_chain cs 6 6, show (cs.drop (5 + 1)).take 6 = _ from e3, cut_chain cs 12 2, show (cs.drop (6 + 6)).take 2 = _ from e4, cut_chain cs 14 1, show (cs.drop (12 + 2)).take 1 = _ from e5, cut_chain cs 15 1, show (cs.drop (14 + 1)).take 1 = _ from e6, h]
  rfl
theorem gu_read {fuel : Nat} (ih : PsR (enc := enc) (W := W) fuel) {cs : List Value} {x : DataW H × List MemPlace} (hr : RdT enc Tryz.prog W true fuel 70 cs x) (hw : Wt x 70) :
    ∃ g : Gu, cs = guE g ∧ GOk (viewOf W) [] g ∧ ∀ p ∈ g.bl, POk (viewOf W) [] p := by
  obtain ⟨hl, f, hfu, hf⟩ := rd_structW Tryz.underlying70 hr
  rw [cellsGu] at hl
  obtain ⟨_, _, h0, _⟩ := hf _ (.head _)
  obtain ⟨_, _, h1, k1⟩ := hf _ (.tail _ (.head _))
  obtain ⟨_, _, h2, k2⟩ := hf _ (.tail _ (.tail _ (.head _)))
  obtain ⟨_, _, h3, k3⟩ := hf _ (.tail _ (.tail _ (.tail _ (.head _))))
  obtain ⟨_, _, h4, k4⟩ := hf _ (.tail _ (.tail _ (.tail _ (.tail _ (.head _)))))
  obtain ⟨_, _, h5, k5⟩ := hf _ (.tail _ (.tail _ (.tail _ (.tail _ (.tail _ (.head _))))))
  obtain ⟨_, _, h6, k6⟩ := hf _ (.tail _ (.tail _ (.tail _ (.tail _ (.tail _ (.tail _ (.head _)))))))
  obtain ⟨_, _, h7, k7⟩ := hf _ (.tail _ (.tail _ (.tail _ (.tail _ (.tail _ (.tail _ (.tail _ (.head _))))))))
  obtain ⟨n0, e0, w0⟩ := rd_int Tryz.underlying68 h0
  obtain ⟨s1, e1, w1⟩ := str_readW h1 fun q hq => hw q (k1 q hq)
  obtain ⟨x2, e2, w2⟩ := ex_readE h2 fun q hq => hw q (k2 q hq)
  obtain ⟨x3, e3, w3⟩ := ex_readE h3 fun q hq => hw q (k3 q hq)
  obtain ⟨s4, e4, w4⟩ := exs_read h4 fun q hq => hw q (k4 q hq)
  obtain ⟨s5, e5, w5⟩ := exs_read h5 fun q hq => hw q (k5 q hq)
  obtain ⟨x6, e6, w6⟩ := ex_readE h6 fun q hq => hw q (k6 q hq)
  obtain ⟨a7, c7, l7, e7, r7, w7⟩ := prs_read (ih.less (by omega)) h7 fun q hq => hw q (k7 q hq)
  refine ⟨.mk n0 s1 x2 x3 s4 s5 x6 a7 c7 l7, ?_, ⟨u8_wf w0, w1, w2, w3, w4, w5, w6, r7⟩, w7⟩
  have h : cs.drop 23 = [] := List.drop_eq_nil_of_le (by omega)
  rw [show cs = cs.drop 0 from rfl, cut_chain cs 0 1, show (cs.drop 0).take 1 = _ from e0, cut_chain cs 1 1, show (cs.drop (0 + 1)).take 1 = _ from e1, cut_chain cs 2 6, show (cs.drop (1 + 1)).take 6 = _ from e2,
    cut_chain cs 8 6, show (cs.drop (2 + 6)).take 6 = _ from e3, cut_chain cs 14 1, show (cs.drop (8 + 6)).take 1 = _ from e4, cut_chain cs 15 1, show (cs.drop (14 + 1)).take 1 = _ from e5, cut_chain cs 16 6, show (cs.drop (15 + 1)).take 6 = _ from e6, cut_chain cs 22 1, show (cs.drop (16 + 6)).take 1 = _ from e7, h]
  rfl
theorem gus_read {fuel : Nat} (ih : PsR (enc := enc) (W := W) fuel) {cs : List Value} {x : DataW H × List MemPlace} (hr : RdT enc Tryz.prog W true fuel 44 cs x) (hw : Wt x 44) :
    ∃ a c l, cs = [.slice a l.length c] ∧ Rd (viewOf W) [] a l.length c 23 (fl guE l) ∧ ∀ g ∈ l, GOk (viewOf W) [] g ∧ ∀ p ∈ g.bl, POk (viewOf W) [] p := by
  obtain ⟨a, n, c, l, e, hl, hs, hp⟩ := slice_argF (Pr := fun g : Gu => GOk (viewOf W) [] g ∧ ∀ p ∈ g.bl, POk (viewOf W) [] p) (enc' := guE) Tryz.underlying44 cellsGu (by decide) guE_len (fun g ys y hg hy hk => gu_read (ih.less (by omega)) hy fun q hq => hw q (hk q hq)) hr
  subst hl
  exact ⟨a, c, l, e, Rd.ofSl hs, hp⟩
theorem pr_read : ∀ (fuel : Nat) {cs : List Value} {x : DataW H × List MemPlace}, RdT enc Tryz.prog W true fuel 56 cs x → Wt x 56 → ∃ p : Pr, cs = prE p ∧ POk (viewOf W) [] p := by
  intro fuel
  induction fuel using Nat.strongRecOn with
  | _ fuel ih =>
  intro cs x hr hw
  replace ih : PsR (enc := enc) (W := W) fuel := fun g hg => ih g hg
  obtain ⟨hl, f, hfu, hf⟩ := rd_structW Tryz.underlying56 hr
  rw [cellsPr] at hl
  obtain ⟨_, _, h0, _⟩ := hf _ (.head _)
  obtain ⟨_, _, h1, k1⟩ := hf _ (.tail _ (.head _))
  obtain ⟨_, _, h2, k2⟩ := hf _ (.tail _ (.tail _ (.head _)))
  obtain ⟨_, _, h3, k3⟩ := hf _ (.tail _ (.tail _ (.tail _ (.head _))))
  obtain ⟨_, _, h4, k4⟩ := hf _ (.tail _ (.tail _ (.tail _ (.tail _ (.head _)))))
  obtain ⟨_, _, h5, k5⟩ := hf _ (.tail _ (.tail _ (.tail _ (.tail _ (.tail _ (.head _))))))
  obtain ⟨_, _, h6, k6⟩ := hf _ (.tail _ (.tail _ (.tail _ (.tail _ (.tail _ (.tail _ (.head _)))))))
  obtain ⟨_, _, h7, k7⟩ := hf _ (.tail _ (.tail _ (.tail _ (.tail _ (.tail _ (.tail _ (.tail _ (.head _))))))))
  obtain ⟨_, _, h8, _⟩ := hf _ (.tail _ (.tail _ (.tail _ (.tail _ (.tail _ (.tail _ (.tail _ (.tail _ (.head _)))))))))
  obtain ⟨_, _, h9, k9⟩ := hf _ (.tail _ (.tail _ (.tail _ (.tail _ (.tail _ (.tail _ (.tail _ (.tail _ (.tail _ (.head _))))))))))
  obtain ⟨n0, e0, w0⟩ := rd_int Tryz.underlying41 h0
  obtain ⟨s1, e1, w1⟩ := str_readW h1 fun q hq => hw q (k1 q hq)
  obtain ⟨x2, e2, w2⟩ := ex_readE h2 fun q hq => hw q (k2 q hq)
  obtain ⟨s3, e3, w3⟩ := exs_read h3 fun q hq => hw q (k3 q hq)
  obtain ⟨s4, e4, w4⟩ := exs_read h4 fun q hq => hw q (k4 q hq)
  obtain ⟨r5, e5, w5, wb5, wc5⟩ := rp_read h5 fun q hq => hw q (k5 q hq)
  obtain ⟨a6, c6, l6, e6, r6, w6⟩ := gus_read (ih.less (by omega)) h6 fun q hq => hw q (k6 q hq)
  obtain ⟨a7, c7, l7, e7, r7, w7⟩ := prs_read (ih.less (by omega)) h7 fun q hq => hw q (k7 q hq)
  obtain ⟨s8, e8, r8, w8⟩ := ints_read h8
  obtain ⟨s9, e9, r9, w9⟩ := sp_read (ih.less (by omega)) h9 fun q hq => hw q (k9 q hq)
  refine ⟨.mk n0 s1 x2 s3 s4 r5 a6 c6 l6 a7 c7 l7 s8 s9, ?_, .mk ⟨u8_wf w0, w1, w2, w3, w4, w5, wb5, wc5, r6, fun g hg => (w6 g hg).1, r7, r8, w8, r9⟩ fun y hy => ?_⟩
  · have h : cs.drop 42 = [] := List.drop_eq_nil_of_le (by omega)
    rw [show cs = cs.drop 0 from rfl, cut_chain cs 0 1, show (cs.drop 0).take 1 = _ from e0, cut_chain cs 1 1, show (cs.drop (0 + 1)).take 1 = _ from e1, cut_chain cs 2 6, show (cs.drop (1 + 1)).take 6 = _ from e2,
      cut_chain cs 8 1, show (cs.drop (2 + 6)).take 1 = _ from e3, cut_chain cs 9 1, show (cs.drop (8 + 1)).take 1 = _ from e4, cut_chain cs 10 13, show (cs.drop (9 + 1)).take 13 = _ from e5, cut_chain cs 23 1, show (cs.drop (10 + 13)).take 1 = _ from e6,
      cut_chain cs 24 1, show (cs.drop (23 + 1)).take 1 = _ from e7, cut_chain cs 25 1, show (cs.drop (24 + 1)).take 1 = _ from e8, cut_chain cs 26 16, show (cs.drop (25 + 1)).take 16 = _ from e9, h]
    rfl
  · cases hy with
    | l h => exact w7 y h
    | s h => exact w9 y h
    | g hg h => exact (w6 _ hg).2 y h
theorem prs_all (fuel : Nat) : PsR (enc := enc) (W := W) fuel := fun g _ => pr_read g
theorem sps_arg {v : Value} {d : DataW H} {p : List MemPlace} {r : Reach} {base : Nat} (hv : Value.okWide Tryz.prog W r base 28 v) (h : DataW.Trod enc Tryz.prog W 0 (fun _ => true) true 28 v d p) (hw : ∀ q ∈ d.weights Tryz.prog 28, q ≤ reachBytes) :
    ∃ a k c l, v = .slice a k c ∧ Rd (viewOf W) [] a k c 16 (fl spE l) ∧ ∀ s ∈ l, SOk (viewOf W) [] s := by
  obtain ⟨a, k, c, rfl⟩ := okWide_slice Tryz.underlying28 hv
  obtain ⟨fuel, hf⟩ := h
  obtain ⟨a', k', c', l, e, hl, hs, hp⟩ := slice_argF (x := (d, p)) (Pr := fun s : Sp => SOk (viewOf W) [] s) (enc' := spE) Tryz.underlying28 cellsSp (by decide) spE_len (fun g ys y _ hy hk => by
    obtain ⟨s, h1, h2, _⟩ := sp_read (prs_all g) hy fun q hq => hw q (hk q hq)
    exact ⟨s, h1, h2⟩) hf
  have e := List.head_eq_of_cons_eq (show [Value.slice a k c] = [.slice a' k' c'] from e)
  cases e
  exact ⟨a, k, c, l, rfl, Rd.ofSl hs, hp⟩
end Go.Proofs.YtdhmplmpbcnojaaGreatDoor
end
/- LParts -/
section
namespace Go.Proofs.YtdhmplmpbcnojaaGreatDoor
open Go Go.Eng Go.RowKit Go.ChangeShapes Go.WideShapes Go.ChangeAt Go.Joins

set_option maxRecDepth 100000 in
theorem typingParts_lifted (os : Os) (started : os.Started) (H : Type) (enc : TypeId × Value → H) :
    ReturnsInHanded {} Tryz.checked os 4 .any (fun w args => (Rows.typingPartsSpec.pre enc Tryz.prog Tryz.f4 [] false w args ∧ laidMet Tryz.prog laidL w) ∧ sizedMet enc Tryz.prog Tryz.f4 (OpenSpec.ofChange Rows.typingPartsSpec) false w args)
      (Rows.typingPartsSpec.post enc Tryz.prog Tryz.f4 false true false false) := by
  refine returnsInHanded_laid (C := Tryz.checked) Tryz.own started (by kernel_rfl) Tryz.func4
    (ChangeSpec.witness_at (enc := enc) (C := Tryz.checked) (os := os) (X := fun w _ => laidMet Tryz.prog laidL w) false (laidWorld os) #[.agg #[.int .u8 0, .int .u8 0, .int .u8 0, .int .i32 0, .string ⟨#[]⟩, .slice none 0 0], .slice none 0 0] 8 rfl (by kernel_rfl) (by kernel_rfl) (by kernel_rfl) (by kernel_rfl) (by kernel_rfl) (laidWorld_met os _)) ?_
  intro W base args ds gs before hval hW hsz hL hsh
  have hg := glob_of hL hsh
  refine law_post (C := Tryz.checked) Tryz.laidOut (by kernel_rfl) rfl rfl Tryz.underlying4 (fun ds hd => ?_) hW ?_
  · match ds, hd with
    | [d0, d1], _ => rfl
  · obtain ⟨p, q, hA, hV, rfl, -, -⟩ := hW
    obtain ⟨rfl, rfl⟩ := trodVars_none (show DataW.TrodVars enc Tryz.prog W (fun _ => true) [] gs q from hV)
    rw [show Tryz.checked.prog = Tryz.prog from rfl, Tryz.params4] at hA hsz
    obtain ⟨v0, v1, d0, d1, p0, p1, rfl, rfl, rfl, h0, h1⟩ := trodAll_two hA
    obtain ⟨e0, rfl, hT0, hW0⟩ := ex_arg (hval 0 27 v0 rfl rfl) h0 (fun q hq => by simpa using List.all_eq_true.1 hsz q (DataW.weights_mem_each (j := 0) (t := 27) rfl rfl q hq))
    obtain ⟨a, k, c, l, rfl, hr, hS⟩ := sps_arg (hval 1 28 v1 rfl rfl) h1 (fun q hq => by simpa using List.all_eq_true.1 hsz q (DataW.weights_mem_each (j := 1) (t := 28) rfl rfl q hq))
    have hv : VOkE (viewOf W) [] l := ⟨fun x hx => (hS x hx).nr, fun x hx => (hS x hx).fr, fun x hx => (hS x hx).v⟩
    exact parts_law hg e0 a k c l _ hT0 hW0 hr hv

theorem typingParts_holds : Rows.TypingPartsSaid :=
  OpenClaim.holds_of_wide 4 Tryz.f4 rfl rfl rfl rfl rfl rfl rfl ⟨rfl, rfl, rfl, rfl, rfl⟩ rfl rfl rfl rfl rfl (by kernel_rfl) Tryz.func4 (by kernel_rfl)
    (of_decide_eq_true (by kernel_rfl)) (by unfold Func.isWrapper; rw [if_neg (by decide +kernel)]; exact ⟨rfl, rfl⟩)
    (fun os started H enc _ => typingParts_lifted os started H enc)

theorem typingParts_card : Rows.TypingPartsCardSaid :=
  Claim7.holds_tied_plain_at .later [] [.data, .data, .data, .data] true (true, "bc84e5f55452caa94bec5d9f10acfbe12ea07e9c19f3114bcca25cfb5a91555f") false
    typingParts_holds (fun _ h => by cases h) (by kernel_rfl) (fun _ h => by cases h) typingParts_row_tie rfl ⟨rfl, rfl⟩ (by kernel_rfl) rfl
    (fun f fn hf hfn => by
      obtain rfl : f = 4 := Option.some.inj ((show Tryz.prog.funcNamed "transputer/transputerlaw13.TypingParts" = some 4 by kernel_rfl).symm.trans hf) |>.symm
      obtain rfl : fn = Tryz.f4 := (Option.some.inj (Tryz.func4.symm.trans hfn)).symm
      exact ⟨by kernel_rfl, fun j t ht => by
        rw [Tryz.params4] at ht
        match j, ht with
        | 0, ht => cases ht; exact (show Tryz.prog.wantsStandIn 27 = false by kernel_rfl)
        | 1, ht => cases ht; exact (show Tryz.prog.wantsStandIn 28 = false by kernel_rfl)
        | j + 2, ht => simp at ht⟩)
    (by kernel_rfl)
end Go.Proofs.YtdhmplmpbcnojaaGreatDoor
end
/- LwT -/
section
namespace Go.Proofs.YtdhmplmpbcnojaaGreatDoor
open Go.Eng Go.Pc Go.Tg Go
open Go.Xp hiding B nameT zeroT
open Go.Ty (Ty Vr eqT zeroT)
set_option maxRecDepth 100000
def kindS (nm : B) (prev : Int) (s : Sp) : Int := if s.names.l.contains nm then s.k else prev
/-- The kind of the last specification of a name. -/
def kindL (nm : B) (l : List Sp) : Int := l.foldl (kindS nm) 0
theorem kindL_take (nm : B) {l : List Sp} {i : Nat} {s : Sp} (h : l[i]? = some s) : kindL nm (l.take (i + 1)) = kindS nm (kindL nm (l.take i)) s := by
  unfold kindL
  rw [take_at h, List.foldl_append]
  rfl
theorem envS_at : ∀ (l : List Sp) (i q : Nat), (envS l i)[q]? = (l[q]?).map fun x => (⟨x, ((i + q : Nat) : Int)⟩ : En)
  | [], _, q => by simp [envS]
  | x :: r, i, 0 => rfl
  | x :: r, i, q + 1 => by
    show (envS r (i + 1))[q]? = (r[q]?).map _
    rw [envS_at r (i + 1) q, show i + 1 + q = i + (q + 1) by omega]
theorem envX_at (l : List Sp) (q : Nat) : (envX l)[q]? = (l[q]?).map fun x => shS x ((q : Nat) : Int) := by
  unfold envX shL
  rw [List.getElem?_map, envS_at, Option.map_map, Nat.zero_add]
  rfl
theorem kind_find (l : List Sp) (nm : B) : ∀ n, n ≤ l.length → kindL nm (l.take n) = if findE (envX l) nm n < 0 then 0 else (((envX l)[(findE (envX l) nm n).toNat]?).map Ent.k).getD 0
  | 0, _ => rfl
  | n + 1, hn => by
    obtain ⟨s, hs⟩ := get_some (l := l) (k := n) (by omega)
    have he : (envX l)[n]? = some (shS s ((n : Nat) : Int)) := by rw [envX_at, hs]; rfl
    rw [kindL_take nm hs, kind_find l nm n (by omega)]
    unfold kindS
    by_cases hc : s.names.l.contains nm = true
    · have hf : findE (envX l) nm (n + 1) = (n : Int) := by
        unfold findE
        rw [he]
        exact if_pos hc
      rw [if_pos hc, hf, if_neg (by omega), Int.toNat_natCast, he]
      rfl
    · have hf : findE (envX l) nm (n + 1) = findE (envX l) nm n := by
        conv => lhs; unfold findE
        rw [he]
        exact if_neg hc
      rw [if_neg hc, hf]
theorem kind_name {l : List Sp} {nm : B} {hd : Hd} (h : nameE (envX l) nm = .ok hd) : kindX (envX l) nm = kindL nm l ∧ (kindL nm l = 1 ∨ kindL nm l = 2 ∨ kindL nm l = 3) := by
  have hk := kind_find l nm l.length (Nat.le_refl _)
  have hl : (envX l).length = l.length := by
    unfold envX shL
    rw [List.length_map]
    have : ∀ (l : List Sp) (i : Nat), (envS l i).length = l.length := by
      intro l
      induction l with
      | nil => intro _; rfl
      | cons x r ih => intro i; show (envS r (i + 1)).length + 1 = r.length + 1; rw [ih]
    exact this l 0
  rw [List.take_length] at hk
  unfold nameE at h
  rw [hl] at h
  unfold kindX
  rw [hl]
  by_cases hf : findE (envX l) nm l.length < 0
  · rw [if_pos hf] at h
    cases h
  · rw [if_neg hf] at h hk
    cases hx : (envX l)[(findE (envX l) nm l.length).toNat]? with
    | none => rw [hx] at h; cases h
    | some x =>
      rw [hx] at h hk
      have hk : kindL nm l = x.k := hk
      rw [hk]
      refine ⟨rfl, ?_⟩
      simp only at h
      split at h
      · assumption
      · cases h
theorem name_of {S : List Ent} {e : Ex} (he : e.k = 4 ∨ e.k = 5) {hd : Hd} (h : typX S e = .ok hd) : ∃ q, nameE S e.s = .ok q := by
  unfold typX at h
  rw [typF_eq] at h
  unfold tyF at h
  rcases he with h4 | h5
  · rw [if_neg (by omega), if_neg (by omega), if_neg (by omega), if_pos h4] at h
    exact ⟨hd, h⟩
  · rw [if_neg (by omega), if_neg (by omega), if_neg (by omega), if_neg (by omega), if_neg (by omega), if_pos h5] at h
    cases hn : nameE S e.s with
    | ok q => exact ⟨q, rfl⟩
    | error w => rw [hn] at h; cases h
theorem mayP_asg {t e : Ex} {b c : Nat} (ht : elemE t = true) (he : mayE e = true) : mayP (flatP 3 [] zeroE (oneS b t) (oneS c e)) = true := by
  have e1 : each [t] 1 8 elemE = true := by simp [each, span, ht]
  have e2 : each [e] 1 8 mayE = true := by simp [each, span, he]
  have h1 : plainP (flatP 3 [] zeroE (oneS b t) (oneS c e)) = ((((((true && true) && true) && true) && each [t] 1 8 elemE) && each [e] 1 8 mayE) && true && true) := by
    kernel_rfl
  have h2 : mayP (flatP 3 [] zeroE (oneS b t) (oneS c e)) = (if ((decide ((2048 : Int) - 1 < 0) || decide ((0 : Int) > 32)) || !plainP (flatP 3 [] zeroE (oneS b t) (oneS c e))) || (((3 : Int) == 11) && !true) then (false, (2048 : Int) - 1) else (true, (2048 : Int) - 1)).1 := by
    kernel_rfl
  rw [h2, h1, e1, e2]
  rfl
theorem targets_plain {l : List Sp} {t e : Ex} {b c : Nat} (hk : t.k = 4 ∨ t.k = 5) (ht : mayE t = true) (he : mayE e = true) :
    (checkX (mayP (flatP 3 [] zeroE (oneS b t) (oneS c e))) (envX l) (flatP 3 [] zeroE (oneS b t) (oneS c e)) == 0)
      = (((((ofX (envX l) t).2 == 0) && ((ofX (envX l) e).2 == 0)) && eqT (ofX (envX l) t).1 (ofX (envX l) e).1) && simT (ofX (envX l) t).1 && ((kindL t.s l == 1) || (kindL t.s l == 3))) := by
  have hel : elemE t = true := by
    unfold elemE
    rw [ht]
    rcases hk with h | h <;> rw [h] <;> rfl
  rw [mayP_asg hel he]
  have e0 : ∀ e w, typX (envX l) e = .error w → w ≠ 0 := fun e w => typX_err _ e w
  have ec : checkX true (envX l) (flatP 3 [] zeroE (oneS b t) (oneS c e)) = asgX (envX l) [t] [e] := rfl
  rw [ec]
  unfold asgX tgtX ofX
  rw [ht, he, if_pos rfl, if_pos rfl]
  cases hT : typX (envX l) t with
  | error w =>
    have hw : (w == 0) = false := by have := e0 t w hT; simpa using this
    simp [hw]
  | ok hd =>
    obtain ⟨q, hq⟩ := name_of hk hT
    obtain ⟨h1, h2⟩ := kind_name hq
    simp only [h1]
    by_cases hs : simT hd.t = true
    · by_cases h3 : kindL t.s l = 2
      · rw [if_pos (.inr (.inr h3))]
        simp [h3]
      · have h4 : kindL t.s l = 1 ∨ kindL t.s l = 3 := by omega
        rw [if_neg (by rintro (⟨a, b⟩ | a | a); exact hk.elim a b; exact absurd (hs.symm.trans a) (by decide); exact h3 a)]
        cases hE : typX (envX l) e with
        | error w =>
          have hw : (w == 0) = false := by have := e0 e w hE; simpa using this
          have hn : ¬ w = 0 := e0 e w hE
          simp [isX, isT, hE, hw, hn]
        | ok g =>
          have h5 : ((kindL t.s l == 1) || (kindL t.s l == 3)) = true := by rcases h4 with h | h <;> rw [h] <;> rfl
          simp only [isX, isT, hE, hs, h5]
          by_cases hq : g.t = hd.t
          · simp [hq, (Go.Ty.eqT_iff _ _).2 rfl, asgX]
          · have h6 : eqT g.t hd.t = false := by
              cases hz : eqT g.t hd.t with
              | false => rfl
              | true => exact absurd ((Go.Ty.eqT_iff _ _).1 hz) hq
            have h7 : eqT hd.t g.t = false := by
              cases hz : eqT hd.t g.t with
              | false => rfl
              | true => exact absurd ((Go.Ty.eqT_iff _ _).1 hz).symm hq
            simp [h6, h7]
    · rw [if_pos (.inr (.inl (by simpa using hs)))]
      simp [hs]
end Go.Proofs.YtdhmplmpbcnojaaGreatDoor
end
/- LwD -/
section
namespace Go.Proofs.YtdhmplmpbcnojaaGreatDoor
open Go.Eng Go.Pc Go.Tg Go
open Go.Xp hiding B nameT zeroT
open Go.Ty (Ty Vr eqT tyV cellT PrOk VOk prL encV encV_len encI encI_len zeroT)
open Go.Lx (encB encB_len)
set_option maxRecDepth 100000
theorem targets_law {m : View} (hg : Glob m) (t e : Ex) (a : Option Addr) (k c : Nat) (l : List Sp) (h : List Res) (hT0 : TOk m h t) (hW0 : Wf t) (hT : TOk m h e) (hW : Wf e) (hr : Rd m h a k c 16 (fl spE l)) (hv : VOkE m h l) : CT Tryz.prog 6 [exV t, exV e, .slice a k c] h m Law := by
  have hl := hr.lenF spE_len (by decide)
  subst hl
  have hmx := hr.mx
  have hle := hr.le
  obtain ⟨ls, a2, hn, ha2, hr2, hv2, h30⟩ := env_cut (m := m) hr hv
  refine CT.body Tryz.call6 Tryz.func6 rfl Tryz.ntmps6 (leB rfl) rfl ?_
  repeat first | refine sk fun K hK => ?_ | refine bk ?_ | refine rn fun _ => ?_
  refine xX fun b3 => ?_
  refine xX fun b4 => ?_
  refine xC ?_
  refine wn [2, 3, 4] ?_
  repeat first | refine sk fun K hK => ?_ | refine bk ?_ | refine rn fun _ => ?_
  refine xM ?_
  refine xM ?_
  refine xG (PO.lenSl Tryz.underlying28 Et) ?_
  refine xG (PO.min Et Ev.const) ?_
  refine xG (PO.sliceH EL28.und EL28.size Et Et (u := ls.length) (by split <;> omega) (by omega)) ?_
  rw [← ha2]
  refine xA ?_
  refine wn [2, 3, 4] ?_
  repeat first | refine sk fun K hK => ?_ | refine bk ?_ | refine rg fun ops hG => ?_
  refine xF Tryz.underlying27 ?_
  refine xG (PO.load1 Tryz.underlying22 rfl Et (by (repeat (first | exact mem0 _ | apply memT | apply List.mem_append_right))) rfl) ?_
  refine xG (PO.bin Et Ev.const rfl) ?_
  refine xM ?_
  refine zG (fun _ => pF Tryz.underlying27) ?_
  refine WL.poG (GU.t (hG _ _ rfl) rfl) (fun hc => PO.load1 Tryz.underlying22 rfl (Eg hc) (by (repeat (first | exact mem0 _ | apply memT | apply List.mem_append_right))) rfl) (leB rfl) ?_
  refine zG (fun hc => PO.bin (Eg hc) Ev.const rfl) ?_
  refine xP ?_
  refine xM ?_
  refine WL.poG (GU.f (hG _ _ rfl) rfl) (fun hc => PO.loadA Tryz.underlying27 rfl rfl Et (by (repeat (first | exact mem0 _ | apply memT | apply List.mem_append_right))) rfl) (leB rfl) ?_
  refine WL.callG (GU.f (hG _ _ rfl) rfl) (fun hc => ⟨Ev.func, (Evs.cons (Eg hc) Evs.nil), may_ct hg t _ (hT0.mono Sb) hW0⟩) (leB rfl) ?_
  refine zG (fun hc => PO.not (Eg hc)) ?_
  refine xQ ?_
  refine xM ?_
  refine WL.poG (GU.f (hG _ _ rfl) rfl) (fun hc => PO.loadA Tryz.underlying27 rfl rfl Et (by (repeat (first | exact mem0 _ | apply memT | apply List.mem_append_right))) rfl) (leB rfl) ?_
  refine WL.callG (GU.f (hG _ _ rfl) rfl) (fun hc => ⟨Ev.func, (Evs.cons (Eg hc) Evs.nil), may_ct hg e _ (hT.mono Sb) hW⟩) (leB rfl) ?_
  refine zG (fun hc => PO.not (Eg hc)) ?_
  refine xQ ?_
  refine wn [2, 3, 4, 40] ?_
  try clear hG ops
  repeat first | refine sk fun K hK => ?_ | refine bk ?_
  refine wc (fun c40 => ?_) fun c40 => ?_
  repeat first | refine sk fun K hK => ?_ | refine bk ?_ | refine rn fun _ => ?_
  refine xf E0 (worksX_ct hg _) ?_
  refine xA ?_
  refine wn [6] ?_
  refine WC.ret (wR (h) ?_)
  rfl
  have d40 : ((((t.k != 4) && (t.k != 5)) || !(mayE t)) || !(mayE e)) = false := by simpa using c40
  have hk : t.k = 4 ∨ t.k = 5 := by
    revert d40
    simp
    omega
  have hmt : mayE t = true := by
    revert d40
    cases mayE t <;> simp
  have hme : mayE e = true := by
    revert d40
    cases mayE e <;> simp
  refine WC.skip (kp [2, 3, 4] ?_)
  repeat first | refine sk fun K hK => ?_ | refine bk ?_ | refine rn fun _ => ?_
  refine xC ?_
  refine wn [2, 3, 4, 7] ?_
  repeat first | refine sk fun K hK => ?_ | refine bk ?_ | refine rn fun _ => ?_
  refine xM ?_
  refine xG (PO.lenSl Tryz.underlying28 Et) ?_
  refine xK ?_
  refine wn [2, 3, 4, 7, 42, 43, 44] ?_
  repeat first | refine sk fun K hK => ?_ | refine bk ?_
  refine WC.loopI [2, 3, 4, 42, 43] rfl (fun μ F' h' => ∃ i : Nat, (i ≤ ls.length) ∧ ls.length - i = μ ∧ F' = [(7, .int .u8 (kindL t.s (ls.take i))), (44, .int .i64 i)] ∧ .pt b4 (.cells (exE e).toArray 27 (0, 0)) :: .pt b3 (.cells (exE t).toArray 27 (0, 0)) :: h = h') (ls.length - 0) [(7, .int .u8 (kindL t.s (ls.take 0))), (44, .int .i64 0)] (h0 := .pt b4 (.cells (exE e).toArray 27 (0, 0)) :: .pt b3 (.cells (exE t).toArray 27 (0, 0)) :: h) ?_ Sb ⟨0, by omega, rfl, rfl, rfl⟩ ?_
  (repeat (first | exact Sub.nil | refine Sub.cons rfl ?_ | refine Sub.consE rfl (by simp; done) ?_))
  rintro _ _ _ ⟨i, hi, rfl, rfl, rfl⟩
  refine WC.frm rfl ?_
  repeat first | refine sk fun K hK => ?_ | refine bk ?_ | refine rn fun _ => ?_
  refine xG (PO.bin Et Et rfl) ?_
  refine wn [2, 3, 4, 7, 42, 43, 44, 45] ?_
  repeat first | refine sk fun K hK => ?_ | refine bk ?_
  refine wc (fun c45 => ?_) fun c45 => ?_
  replace c45 := of_decide_eq_true c45
  obtain ⟨s, hs⟩ := get_some (l := ls) (k := i) (by omega)
  have hsm := List.mem_of_getElem? hs
  have hnr := hv2.nm s hsm
  have hnm := hnr.mx
  have hnl := hnr.le
  have htk := kindL_take t.s hs
  refine WC.skip (kp [2, 3, 4, 7, 42, 43, 44] ?_)
  repeat first | refine sk fun K hK => ?_ | refine bk ?_ | refine rn fun _ => ?_
  refine xG (PO.idx EL28.und EL28.size EL28.posz Et Et (by first | assumption | exact Rd.ofSl (by assumption) | exact Rd.ofPt rfl (by decide) (by (repeat (first | exact mem0 _ | apply memT | apply List.mem_append_right))) | exact Rd.mono (by assumption) (View.le.refl _) Sb | exact Rd.inRow (by (repeat (first | exact mem0 _ | apply memT | apply List.mem_append_right))) (by assumption) (by assumption) (by assumption)) rfl (by omega)) ?_
  refine xG (PO.loadFA Tryz.underlying54 rfl rfl spE_len (by first | assumption | exact Rd.ofSl (by assumption) | exact Rd.ofPt rfl (by decide) (by (repeat (first | exact mem0 _ | apply memT | apply List.mem_append_right))) | exact Rd.mono (by assumption) (View.le.refl _) Sb | exact Rd.inRow (by (repeat (first | exact mem0 _ | apply memT | apply List.mem_append_right))) (by assumption) (by assumption) (by assumption)) Et (by assumption) rfl rfl (Nat.succ_pos _)) ?_
  refine xW fun b9 => ?_
  refine xS ?_
  refine wn [2, 3, 4, 7, 9, 42, 43, 44] ?_
  repeat first | refine sk fun K hK => ?_ | refine bk ?_ | refine rn fun _ => ?_
  refine xF Tryz.underlying54 ?_
  refine xG (PO.load1 Tryz.underlying48 rfl Et (by (repeat (first | exact mem0 _ | apply memT | apply List.mem_append_right))) rfl) ?_
  refine xG (PO.lenSl Tryz.underlying48 Et) ?_
  refine xK ?_
  refine wn [2, 3, 4, 7, 9, 42, 43, 44, 49, 50, 51] ?_
  repeat first | refine sk fun K hK => ?_ | refine bk ?_
  refine WC.loopI [2, 3, 4, 9, 42, 43, 44, 49, 50] rfl (fun μ F' h' => ∃ j : Nat, (j ≤ s.names.l.length) ∧ s.names.l.length - j = μ ∧ F' = [(7, .int .u8 (if (s.names.l.take j).contains t.s then s.k else kindL t.s (ls.take i))), (51, .int .i64 j)] ∧ .pt b9 (.cells (spE s).toArray 54 (0, 0)) :: .pt b4 (.cells (exE e).toArray 27 (0, 0)) :: .pt b3 (.cells (exE t).toArray 27 (0, 0)) :: h = h') (s.names.l.length - 0) [(7, .int .u8 (if (s.names.l.take 0).contains t.s then s.k else kindL t.s (ls.take i))), (51, .int .i64 0)] (h0 := .pt b9 (.cells (spE s).toArray 54 (0, 0)) :: .pt b4 (.cells (exE e).toArray 27 (0, 0)) :: .pt b3 (.cells (exE t).toArray 27 (0, 0)) :: h) ?_ Sb ⟨0, by omega, rfl, rfl, rfl⟩ ?_
  (repeat (first | exact Sub.nil | refine Sub.cons rfl ?_ | refine Sub.consE rfl (by simp; done) ?_))
  rintro _ _ _ ⟨j, hj, rfl, rfl, rfl⟩
  refine WC.frm rfl ?_
  repeat first | refine sk fun K hK => ?_ | refine bk ?_ | refine rn fun _ => ?_
  refine xG (PO.bin Et Et rfl) ?_
  refine wn [2, 3, 4, 7, 9, 42, 43, 44, 49, 50, 51, 52] ?_
  repeat first | refine sk fun K hK => ?_ | refine bk ?_
  refine wc (fun c52 => ?_) fun c52 => ?_
  replace c52 := of_decide_eq_true c52
  obtain ⟨x, hx⟩ := get_some (l := s.names.l) (k := j) (by omega)
  have hxt : s.names.l.take (j + 1) = s.names.l.take j ++ [x] := take_at hx
  refine WC.skip (kp [2, 3, 4, 7, 9, 42, 43, 44, 49, 50, 51] ?_)
  (repeat refine WC.seqK fun K hK => ?_)
  refine WC.cutK (by assumption) [2, 3, 4, 9, 42, 43, 44, 49, 50, 51] rfl (fun F' h' => ∃ v : Int, (v = (if (s.names.l.take (j + 1)).contains t.s then s.k else kindL t.s (ls.take i))) ∧ F' = [(7, .int .u8 v)] ∧ .pt b9 (.cells (spE s).toArray 54 (0, 0)) :: .pt b4 (.cells (exE e).toArray 27 (0, 0)) :: .pt b3 (.cells (exE t).toArray 27 (0, 0)) :: h = h') ?_ ?_
  repeat first | refine sk fun K hK => ?_ | refine bk ?_ | refine rn fun _ => ?_
  refine xG (PO.idx EL48.und EL48.size EL48.posz Et Et (by first | assumption | exact Rd.ofSl (by assumption) | exact Rd.ofPt rfl (by decide) (by (repeat (first | exact mem0 _ | apply memT | apply List.mem_append_right))) | exact Rd.mono (by assumption) (View.le.refl _) Sb | exact Rd.inRow (by (repeat (first | exact mem0 _ | apply memT | apply List.mem_append_right))) (by assumption) (by assumption) (by assumption)) rfl (by omega)) ?_
  refine xG (PO.loadF1 Tryz.underlying9 rfl encB_len (by first | assumption | exact Rd.ofSl (by assumption) | exact Rd.ofPt rfl (by decide) (by (repeat (first | exact mem0 _ | apply memT | apply List.mem_append_right))) | exact Rd.mono (by assumption) (View.le.refl _) Sb | exact Rd.inRow (by (repeat (first | exact mem0 _ | apply memT | apply List.mem_append_right))) (by assumption) (by assumption) (by assumption)) Et (by assumption) rfl) ?_
  refine xA ?_
  refine wn [2, 3, 4, 7, 9, 11, 42, 43, 44, 49, 50, 51] ?_
  repeat first | refine sk fun K hK => ?_ | refine bk ?_ | refine rn fun _ => ?_
  refine xM ?_
  refine xF Tryz.underlying27 ?_
  refine xG (PO.load1 Tryz.underlying9 rfl Et (by (repeat (first | exact mem0 _ | apply memT | apply List.mem_append_right))) rfl) ?_
  refine xG (PO.eqlS Et Et) ?_
  refine wn [2, 3, 4, 7, 9, 42, 43, 44, 49, 50, 51, 58] ?_
  repeat first | refine sk fun K hK => ?_ | refine bk ?_
  refine wc (fun c58 => ?_) fun c58 => ?_
  have d58 : x = t.s := by simpa using c58
  repeat first | refine sk fun K hK => ?_ | refine bk ?_ | refine rn fun _ => ?_
  refine xF Tryz.underlying54 ?_
  refine xG (PO.load1 Tryz.underlying47 rfl Et (by (repeat (first | exact mem0 _ | apply memT | apply List.mem_append_right))) rfl) ?_
  refine xA ?_
  refine WL.nil (meetI [(7, .int .u8 (s.k))] (h'' := .pt b9 (.cells (spE s).toArray 54 (0, 0)) :: .pt b4 (.cells (exE e).toArray 27 (0, 0)) :: .pt b3 (.cells (exE t).toArray 27 (0, 0)) :: h) ?_ (by (repeat (first | exact Sub.nil | refine Sub.cons rfl ?_ | refine Sub.consE rfl (by simp; done) ?_))) Sb ⟨s.k, (by rw [hxt, d58]; simp), rfl, rfl⟩)
  (repeat (first | exact Sub.nil | refine Sub.cons rfl ?_ | refine Sub.consE rfl (by simp; done) ?_))
  have d58 : ¬ x = t.s := by simpa using c58
  refine WC.skip (meetI [(7, .int .u8 ((if (s.names.l.take j).contains t.s then s.k else kindL t.s (ls.take i))))] (h'' := .pt b9 (.cells (spE s).toArray 54 (0, 0)) :: .pt b4 (.cells (exE e).toArray 27 (0, 0)) :: .pt b3 (.cells (exE t).toArray 27 (0, 0)) :: h) ?_ (by (repeat (first | exact Sub.nil | refine Sub.cons rfl ?_ | refine Sub.consE rfl (by simp; done) ?_))) Sb ⟨(if (s.names.l.take j).contains t.s then s.k else kindL t.s (ls.take i)), (by rw [hxt]; simp [Ne.symm d58]), rfl, rfl⟩)
  (repeat (first | exact Sub.nil | refine Sub.cons rfl ?_ | refine Sub.consE rfl (by simp; done) ?_))
  rintro _ _ ⟨v, rfl, rfl, rfl⟩
  refine WC.frm rfl ?_
  repeat first | refine sk fun K hK => ?_ | refine bk ?_ | refine rn fun _ => ?_
  refine xG (PO.addI Et Ev.const (by omega)) ?_
  refine xM ?_
  refine WL.nil (loopBackI (s.names.l.length - (j + 1)) [(7, .int .u8 (if (s.names.l.take (j + 1)).contains t.s then s.k else kindL t.s (ls.take i))), (51, .int .i64 (j + 1))] (h'' := .pt b9 (.cells (spE s).toArray 54 (0, 0)) :: .pt b4 (.cells (exE e).toArray 27 (0, 0)) :: .pt b3 (.cells (exE t).toArray 27 (0, 0)) :: h) (by omega) ?_ (by (repeat (first | exact Sub.nil | refine Sub.cons rfl ?_ | refine Sub.consE rfl (by simp; done) ?_))) Sb ⟨j + 1, by omega, rfl, rfl, rfl⟩)
  (repeat (first | exact Sub.nil | refine Sub.cons rfl ?_ | refine Sub.consE rfl (by simp; done) ?_))
  replace c52 := of_decide_eq_false c52
  obtain rfl : j = s.names.l.length := by omega
  rw [List.take_length, show (if s.names.l.contains t.s = true then s.k else kindL t.s (ls.take i)) = kindL t.s (ls.take (i + 1)) from htk.symm]
  refine WC.exit (kp [2, 3, 4, 7, 42, 43, 44] ?_)
  repeat first | refine sk fun K hK => ?_ | refine bk ?_ | refine rn fun _ => ?_
  refine xG (PO.addI Et Ev.const (by omega)) ?_
  refine xM ?_
  refine WL.nil (loopBackI (ls.length - (i + 1)) [(7, .int .u8 (kindL t.s (ls.take (i + 1)))), (44, .int .i64 (i + 1))] (h'' := .pt b4 (.cells (exE e).toArray 27 (0, 0)) :: .pt b3 (.cells (exE t).toArray 27 (0, 0)) :: h) (by omega) ?_ (by (repeat (first | exact Sub.nil | refine Sub.cons rfl ?_ | refine Sub.consE rfl (by simp; done) ?_))) Sb ⟨i + 1, by omega, rfl, rfl, rfl⟩)
  (repeat (first | exact Sub.nil | refine Sub.cons rfl ?_ | refine Sub.consE rfl (by simp; done) ?_))
  replace c45 := of_decide_eq_false c45
  obtain rfl : i = ls.length := by omega
  rw [List.take_length]
  refine WC.exit (kp [2, 3, 4, 7] ?_)
  repeat first | refine sk fun K hK => ?_ | refine bk ?_ | refine rn fun _ => ?_
  refine xG (PO.loadA Tryz.underlying27 rfl rfl Et (by (repeat (first | exact mem0 _ | apply memT | apply List.mem_append_right))) rfl) ?_
  refine xM ?_
  refine xf (E2 Et Et) (of_ct hg t (hT0.mono Sb) hW0 ls a2 ls.length c (hr2.mono (View.le.refl m) Sb) (hv2.mono Sb) (by omega)) ?_
  refine xM ?_
  refine xE ?_
  refine xE ?_
  refine xW fun b12 => ?_
  refine xS ?_
  refine xA ?_
  refine wn [2, 3, 4, 7, 12, 13] ?_
  repeat first | refine sk fun K hK => ?_ | refine bk ?_ | refine rn fun _ => ?_
  refine xG (PO.loadA Tryz.underlying27 rfl rfl Et (by (repeat (first | exact mem0 _ | apply memT | apply List.mem_append_right))) rfl) ?_
  refine xM ?_
  refine xf (E2 Et Et) (of_ct hg e (hT.mono Sb) hW ls a2 ls.length c (hr2.mono (View.le.refl m) Sb) (hv2.mono Sb) (by omega)) ?_
  refine xM ?_
  refine xE ?_
  refine xE ?_
  refine xW fun b14 => ?_
  refine xS ?_
  refine xA ?_
  refine wn [2, 3, 4, 7, 12, 13, 14, 15] ?_
  repeat first | refine sk fun K hK => ?_ | refine bk ?_ | refine rg fun ops hG => ?_
  refine xM ?_
  refine xG (PO.bin Et Ev.const rfl) ?_
  refine xM ?_
  refine zM ?_
  refine zG (fun hc => PO.bin (Eg hc) Ev.const rfl) ?_
  refine xP ?_
  refine xM ?_
  refine WL.poG (GU.t (hG _ _ rfl) rfl) (fun hc => PO.loadA Tryz.underlying30 rfl rfl Et (by (repeat (first | exact mem0 _ | apply memT | apply List.mem_append_right))) rfl) (leB rfl) ?_
  refine WL.poG (GU.t (hG _ _ rfl) rfl) (fun hc => PO.loadA Tryz.underlying30 rfl rfl Et (by (repeat (first | exact mem0 _ | apply memT | apply List.mem_append_right))) rfl) (leB rfl) ?_
  refine WL.poG (GU.t (hG _ _ rfl) rfl) (fun hc => PO.eqlA Tryz.underlying30 (by kernel_rfl) (by kernel_rfl) (Eg hc) (Eg hc) rfl) (leB rfl) ?_
  refine xP ?_
  refine xM ?_
  refine WL.poG (GU.t (hG _ _ rfl) rfl) (fun hc => PO.loadA Tryz.underlying30 rfl rfl Et (by (repeat (first | exact mem0 _ | apply memT | apply List.mem_append_right))) rfl) (leB rfl) ?_
  refine WL.callG (GU.t (hG _ _ rfl) rfl) (fun hc => ⟨Ev.func, (Evs.cons (Eg hc) Evs.nil), simple_ct _ _ _⟩) (leB rfl) ?_
  refine xP ?_
  refine xM ?_
  refine zM ?_
  refine zG (fun hc => PO.bin (Eg hc) Ev.const rfl) ?_
  refine zV ?_
  refine zM ?_
  refine zG (fun hc => PO.bin (Eg hc) Ev.const rfl) ?_
  refine zG (fun hc => PO.pickOrN hc rfl rfl) ?_
  refine xP ?_
  refine xA ?_
  refine wn [2, 3, 4, 16] ?_
  try clear hG ops
  repeat first | refine sk fun K hK => ?_ | refine bk ?_ | refine rn fun _ => ?_
  refine xG (PO.loadA Tryz.underlying27 rfl rfl Et (by (repeat (first | exact mem0 _ | apply memT | apply List.mem_append_right))) rfl) ?_
  refine xY EL25 (EvP.cons Et EvP.nil) fun b99 => ?_
  refine xG (PO.loadA Tryz.underlying27 rfl rfl Et (by (repeat (first | exact mem0 _ | apply memT | apply List.mem_append_right))) rfl) ?_
  refine xY EL25 (EvP.cons Et EvP.nil) fun b101 => ?_
  refine xG (PO.build Tryz.underlying56 rfl rfl rfl (EvP.cons Ev.const (EvP.cons Et (EvP.cons Et EvP.nil))) rfl) ?_
  refine xW fun b17 => ?_
  refine xS ?_
  refine wn [2, 16, 17] ?_
  repeat first | refine sk fun K hK => ?_ | refine bk ?_ | refine rg fun ops hG => ?_
  refine xG (PO.loadA Tryz.underlying56 rfl rfl Et (by (repeat (first | exact mem0 _ | apply memT | apply List.mem_append_right))) rfl) ?_
  refine xM ?_
  refine xf (E2 Et Et) (check_ct hg (flatP 3 [] zeroE (oneS b99 t) (oneS b101 e)) (pok_flat (by decide) (by decide) (eok_zero _ _) (lok_one ⟨hT0.mono Sb, hW0⟩ b99 (by (repeat (first | exact mem0 _ | apply memT | apply List.mem_append_right)))) (lok_one ⟨hT.mono Sb, hW⟩ b101 (by (repeat (first | exact mem0 _ | apply memT | apply List.mem_append_right))))) ls a2 ls.length c (hr2.mono (View.le.refl m) Sb) (hv2.mono Sb) (by omega)) ?_
  refine xG (PO.bin Et Ev.const rfl) ?_
  refine xM ?_
  refine xG (PO.eqlB Tryz.underlying4 Et Et) ?_
  refine WL.val (v' := .bool true) (congrArg Value.bool (by
  have hp := targets_plain (l := ls) (t := t) (e := e) (b := b99) (c := b101) hk hmt hme
  rw [hp]
  simp [eqT])) ?_
  refine xM ?_
  refine zU ?_
  refine xf E0 (worksX_ct hg _) ?_
  refine xP ?_
  refine xA ?_
  refine wn [6] ?_
  try clear hG ops
  refine WC.ret (wR (h) ?_)
  rfl
end Go.Proofs.YtdhmplmpbcnojaaGreatDoor
end
/- LTargets -/
section
namespace Go.Proofs.YtdhmplmpbcnojaaGreatDoor
open Go Go.Eng Go.RowKit Go.ChangeShapes Go.WideShapes Go.ChangeAt Go.Joins

set_option maxRecDepth 100000 in
theorem typingTargets_lifted (os : Os) (started : os.Started) (H : Type) (enc : TypeId × Value → H) :
    ReturnsInHanded {} Tryz.checked os 6 .any (fun w args => (Rows.typingTargetsSpec.pre enc Tryz.prog Tryz.f6 [] false w args ∧ laidMet Tryz.prog laidL w) ∧ sizedMet enc Tryz.prog Tryz.f6 (OpenSpec.ofChange Rows.typingTargetsSpec) false w args)
      (Rows.typingTargetsSpec.post enc Tryz.prog Tryz.f6 false true false false) := by
  refine returnsInHanded_laid (C := Tryz.checked) Tryz.own started (by kernel_rfl) Tryz.func6
    (ChangeSpec.witness_at (enc := enc) (C := Tryz.checked) (os := os) (X := fun w _ => laidMet Tryz.prog laidL w) false (laidWorld os) #[.agg #[.int .u8 0, .int .u8 0, .int .u8 0, .int .i32 0, .string ⟨#[]⟩, .slice none 0 0], .agg #[.int .u8 0, .int .u8 0, .int .u8 0, .int .i32 0, .string ⟨#[]⟩, .slice none 0 0], .slice none 0 0] 8 rfl (by kernel_rfl) (by kernel_rfl) (by kernel_rfl) (by kernel_rfl) (by kernel_rfl) (laidWorld_met os _)) ?_
  intro W base args ds gs before hval hW hsz hL hsh
  have hg := glob_of hL hsh
  refine law_post (C := Tryz.checked) Tryz.laidOut (by kernel_rfl) rfl rfl Tryz.underlying4 (fun ds hd => ?_) hW ?_
  · match ds, hd with
    | [d0, d1, d2], _ => rfl
  · obtain ⟨p, q, hA, hV, rfl, -, -⟩ := hW
    obtain ⟨rfl, rfl⟩ := trodVars_none (show DataW.TrodVars enc Tryz.prog W (fun _ => true) [] gs q from hV)
    rw [show Tryz.checked.prog = Tryz.prog from rfl, Tryz.params6] at hA hsz
    obtain ⟨v0, v1, v2, d0, d1, d2, p0, p1, p2, rfl, rfl, rfl, h0, h1, h2⟩ := trodAll_three hA
    obtain ⟨e0, rfl, hT0, hW0⟩ := ex_arg (hval 0 27 v0 rfl rfl) h0 (fun q hq => by simpa using List.all_eq_true.1 hsz q (DataW.weights_mem_each (j := 0) (t := 27) rfl rfl q hq))
    obtain ⟨e1, rfl, hT1, hW1⟩ := ex_arg (hval 1 27 v1 rfl rfl) h1 (fun q hq => by simpa using List.all_eq_true.1 hsz q (DataW.weights_mem_each (j := 1) (t := 27) rfl rfl q hq))
    obtain ⟨a, k, c, l, rfl, hr, hS⟩ := sps_arg (hval 2 28 v2 rfl rfl) h2 (fun q hq => by simpa using List.all_eq_true.1 hsz q (DataW.weights_mem_each (j := 2) (t := 28) rfl rfl q hq))
    have hv : VOkE (viewOf W) [] l := ⟨fun x hx => (hS x hx).nr, fun x hx => (hS x hx).fr, fun x hx => (hS x hx).v⟩
    exact targets_law hg e0 e1 a k c l _ hT0 hW0 hT1 hW1 hr hv

theorem typingTargets_holds : Rows.TypingTargetsSaid :=
  OpenClaim.holds_of_wide 6 Tryz.f6 rfl rfl rfl rfl rfl rfl rfl ⟨rfl, rfl, rfl, rfl, rfl⟩ rfl rfl rfl rfl rfl (by kernel_rfl) Tryz.func6 (by kernel_rfl)
    (of_decide_eq_true (by kernel_rfl)) (by unfold Func.isWrapper; rw [if_neg (by decide +kernel)]; exact ⟨rfl, rfl⟩)
    (fun os started H enc _ => typingTargets_lifted os started H enc)

theorem typingTargets_card : Rows.TypingTargetsCardSaid :=
  Claim7.holds_tied_plain_at .later [] [.data, .data, .data, .data] true (true, "bc84e5f55452caa94bec5d9f10acfbe12ea07e9c19f3114bcca25cfb5a91555f") false
    typingTargets_holds (fun _ h => by cases h) (by kernel_rfl) (fun _ h => by cases h) typingTargets_row_tie rfl ⟨rfl, rfl⟩ (by kernel_rfl) rfl
    (fun f fn hf hfn => by
      obtain rfl : f = 6 := Option.some.inj ((show Tryz.prog.funcNamed "transputer/transputerlaw13.TypingTargets" = some 6 by kernel_rfl).symm.trans hf) |>.symm
      obtain rfl : fn = Tryz.f6 := (Option.some.inj (Tryz.func6.symm.trans hfn)).symm
      exact ⟨by kernel_rfl, fun j t ht => by
        rw [Tryz.params6] at ht
        match j, ht with
        | 0, ht => cases ht; exact (show Tryz.prog.wantsStandIn 27 = false by kernel_rfl)
        | 1, ht => cases ht; exact (show Tryz.prog.wantsStandIn 27 = false by kernel_rfl)
        | 2, ht => cases ht; exact (show Tryz.prog.wantsStandIn 28 = false by kernel_rfl)
        | j + 3, ht => simp at ht⟩)
    (by kernel_rfl)
end Go.Proofs.YtdhmplmpbcnojaaGreatDoor
end

/- LwA LwJ LwE Door LKnown -/
import Derived.Test.YtdhmplmpbcnojaaGreatDoorLKnownY5
import Derived.SevenTiedAt
import Derived.Test.YtdhmplmpbcnojaaGreatDoorCards
import Derived.Test.YtdhmplmpbcnojaaGreatDoorTie
/- LwA -/
section
namespace Go.Proofs.YtdhmplmpbcnojaaGreatDoor
open Go.Eng Go.Pc Go.Tg Go
open Go.Xp hiding B nameT zeroT
open Go.Ty (Ty Vr eqT tyV cellT PrOk VOk prL encV encV_len encI encI_len zeroT)
open Go.Lx (encB encB_len)
set_option maxRecDepth 100000
theorem appO_any : ∀ l r : List Res, appO l r = some (l ++ r)
  | [], _ => rfl
  | x :: l, r => by unfold appO; rw [appO_any l r]; rfl
theorem subR (fr l r t : List Res) : r.Sublist (fr ++ ((l ++ r) ++ t)) := ((List.sublist_append_right l r).trans (List.sublist_append_left _ t)).trans (List.sublist_append_right fr _)
def Law : Value → View → List Res → Prop := fun v _ _ => v = .bool true
theorem nameX_ct (s : B) (h : List Res) (m : View) : CT Tryz.prog 19 [str s] h m (Pure1 h (exV (nmX s))) := by
  refine CT.body Tryz.call19 Tryz.func19 rfl Tryz.ntmps19 (leB rfl) rfl ?_
  repeat first | refine sk fun K hK => ?_ | refine bk ?_ | refine rn fun _ => ?_
  refine xW fun b2 => ?_
  refine wn [0, 2] ?_
  repeat first | refine sk fun K hK => ?_ | refine bk ?_ | refine rn fun _ => ?_
  refine xM ?_
  refine xG (PO.build Tryz.underlying27 rfl rfl rfl (EvP.cons Ev.const (EvP.cons Et EvP.nil)) rfl) ?_
  refine xS ?_
  refine wn [2] ?_
  refine WC.ret (end1 (h' := h) (.inl rfl) rfl (RV.cellA Tryz.underlying27 rfl rfl rfl (by (repeat (first | exact mem0 _ | apply memT | apply List.mem_append_right))) rfl) (View.le.refl m) Sb ?_)
  exact ⟨rfl, rfl⟩
theorem numX_ct (n : Int) (h : List Res) (m : View) : CT Tryz.prog 14 [.int .i32 n] h m (Pure1 h (exV (nuX n))) := by
  refine CT.body Tryz.call14 Tryz.func14 rfl Tryz.ntmps14 (leB rfl) rfl ?_
  repeat first | refine sk fun K hK => ?_ | refine bk ?_ | refine rn fun _ => ?_
  refine xW fun b2 => ?_
  refine wn [0, 2] ?_
  repeat first | refine sk fun K hK => ?_ | refine bk ?_ | refine rn fun _ => ?_
  refine xM ?_
  refine xG (PO.build Tryz.underlying27 rfl rfl rfl (EvP.cons Ev.const (EvP.cons Et EvP.nil)) rfl) ?_
  refine xS ?_
  refine wn [2] ?_
  refine WC.ret (end1 (h' := h) (.inl rfl) rfl (RV.cellA Tryz.underlying27 rfl rfl rfl (by (repeat (first | exact mem0 _ | apply memT | apply List.mem_append_right))) rfl) (View.le.refl m) Sb ?_)
  exact ⟨rfl, rfl⟩
abbrev twoR (x y : Ex) (b : Nat) : Res := .pt b (.cells (exE x ++ exE y).toArray 27 (0, 0))
abbrev oneR (x : Ex) (b : Nat) : Res := .pt b (.cells (exE x).toArray 27 (0, 0))
theorem two_ct (o : Int) (x y : Ex) (h : List Res) (m : View) : CT Tryz.prog 18 [.int .u8 o, exV x, exV y] h m (fun v _ h' => ∃ b, v = exV (twoX o x y b) ∧ h' = twoR x y b :: h) := by
  refine CT.body Tryz.call18 Tryz.func18 rfl Tryz.ntmps18 (leB rfl) rfl ?_
  repeat first | refine sk fun K hK => ?_ | refine bk ?_ | refine rn fun _ => ?_
  refine xX fun b4 => ?_
  refine xX fun b5 => ?_
  refine xW fun b6 => ?_
  refine wn [0, 4, 5, 6] ?_
  repeat first | refine sk fun K hK => ?_ | refine bk ?_ | refine rn fun _ => ?_
  refine xM ?_
  refine xG (PO.loadA Tryz.underlying27 rfl rfl Et (by (repeat (first | exact mem0 _ | apply memT | apply List.mem_append_right))) rfl) ?_
  refine xG (PO.loadA Tryz.underlying27 rfl rfl Et (by (repeat (first | exact mem0 _ | apply memT | apply List.mem_append_right))) rfl) ?_
  refine xY EL25 (EvP.cons Et (EvP.cons Et EvP.nil)) fun b10 => ?_
  refine xG (PO.build Tryz.underlying27 rfl rfl rfl (EvP.cons Ev.const (EvP.cons Et (EvP.cons Et EvP.nil))) rfl) ?_
  refine xS ?_
  refine wn [6] ?_
  refine WC.ret (end1 (h' := twoR x y b10 :: h) (.inl rfl) rfl (RV.cellA Tryz.underlying27 rfl rfl rfl (by (repeat (first | exact mem0 _ | apply memT | apply List.mem_append_right))) rfl) (View.le.refl m) Sb ?_)
  exact ⟨b10, rfl, rfl⟩
theorem two_t (l t : List Res) (o : Int) (x y : Ex) (m : View) : CX Tryz.prog 18 [.int .u8 o, exV x, exV y] (l ++ t) m (fun v _ h' => ∃ hp', h' = hp' ++ t ∧ ∃ b, v = exV (twoX o x y b) ∧ hp' = twoR x y b :: l) (fun _ _ => False) :=
  (CX.ofCT (X := fun _ _ => False) (two_ct o x y (l ++ t) m)).mono (fun _ _ _ ⟨b, e1, e2⟩ => ⟨twoR x y b :: l, e2, b, e1, rfl⟩) (fun _ _ h => h)
abbrev nmR (s : B) (b : Nat) : Res := .pt b (.cells (fl encB [s]).toArray 9 (0, 0))
theorem decl_ct (s : B) (t : Ty) (h : List Res) (m : View) : CT Tryz.prog 21 [str s, tyV t] h m (fun v _ h' => ∃ b, v = spV (dclS s t b) ∧ h' = nmR s b :: h) := by
  refine CT.body Tryz.call21 Tryz.func21 rfl Tryz.ntmps21 (leB rfl) rfl ?_
  repeat first | refine sk fun K hK => ?_ | refine bk ?_ | refine rn fun _ => ?_
  refine xX fun b3 => ?_
  refine xW fun b4 => ?_
  refine wn [0, 3, 4] ?_
  repeat first | refine sk fun K hK => ?_ | refine bk ?_ | refine rn fun _ => ?_
  refine xG (PO.loadA Tryz.underlying30 rfl rfl Et (by (repeat (first | exact mem0 _ | apply memT | apply List.mem_append_right))) rfl) ?_
  refine xM ?_
  refine xY EL48 (EvP.cons Et EvP.nil) fun b7 => ?_
  refine xG (PO.build Tryz.underlying54 rfl rfl rfl (EvP.cons Ev.const (EvP.cons Et (EvP.cons Et EvP.nil))) rfl) ?_
  refine xS ?_
  refine wn [4] ?_
  refine WC.ret (end1 (h' := nmR s b7 :: h) (.inl rfl) rfl (RV.cellA Tryz.underlying54 rfl rfl rfl (by (repeat (first | exact mem0 _ | apply memT | apply List.mem_append_right))) rfl) (View.le.refl m) Sb ?_)
  exact ⟨b7, rfl, rfl⟩
/-- An environment whose shape is that of the examples. -/
structure EnvOk (m : View) (r : List Res) (a : Option Addr) (c : Nat) (L : List Sp) : Prop where
  rd : Rd m r a 6 c 16 (fl spE L)
  ok : VOkE m r L
  env : envX L = someE
  len : L.length ≤ 900000
theorem EnvOk.mono {m : View} {r r' : List Res} {a : Option Addr} {c : Nat} {L : List Sp} (q : EnvOk m r a c L) (s : r.Sublist r') : EnvOk m r' a c L := ⟨q.rd.mono (View.le.refl m) s, q.ok.mono s, q.env, q.len⟩
def someR (b2 b4 b6 b10 b11 b12 b14 b18 b19 : Nat) : List Res :=
  [.pt b19 (.cells (fl spE (someL b2 b4 b6 b10 b11 b12 b14 b18)).toArray 54 (0, 0)), nmR [99] b18, .pt b14 (.cells (fl encV [vpr b12]).toArray 102 (0, 0)), .pt b12 (.cells (fl encI [1, 3]).toArray 24 (0, 0)), nmR [112] b11, nmR [116] b10, nmR [107] b6, nmR [118] b4, nmR [120] b2]
theorem some_ok (m : View) (b2 b4 b6 b10 b11 b12 b14 b18 b19 : Nat) : EnvOk m (someR b2 b4 b6 b10 b11 b12 b14 b18 b19) (some ⟨b19, 0, none⟩) 6 (someL b2 b4 b6 b10 b11 b12 b14 b18) where
  rd := Rd.ofPt rfl (by show 6 ≤ _; decide) (List.Mem.head _)
  env := some_env _ _ _ _ _ _ _ _
  len := by show 6 ≤ 900000; decide
  ok := by
    have nm : ∀ (s : B) (b : Nat), nmR s b ∈ someR b2 b4 b6 b10 b11 b12 b14 b18 b19 → Rd m (someR b2 b4 b6 b10 b11 b12 b14 b18 b19) (some ⟨b, 0, none⟩) 1 1 1 (fl encB [s]) := fun s b hb => Rd.ofPt rfl (by decide) hb
    have nv : PrOk m (someR b2 b4 b6 b10 b11 b12 b14 b18 b19) none 0 0 [] := ⟨Rd.nilF encV 2 m _, fun _ hx => (List.not_mem_nil hx).elim, fun _ hx => (List.not_mem_nil hx).elim⟩
    refine ⟨fun x hx => ?_, fun x hx => ?_, fun x hx => ?_⟩
    · unfold someL at hx
      simp only [List.mem_cons, List.not_mem_nil, or_false] at hx
      rcases hx with rfl | rfl | rfl | rfl | rfl | rfl <;> exact nm _ _ (by unfold someR; simp)
    · unfold someL at hx
      simp only [List.mem_cons, List.not_mem_nil, or_false] at hx
      rcases hx with rfl | rfl | rfl | rfl | rfl | rfl <;> exact Rd.nilF foE 6 m _
    · unfold someL at hx
      simp only [List.mem_cons, List.not_mem_nil, or_false] at hx
      rcases hx with rfl | rfl | rfl | rfl | rfl | rfl
      · exact nv
      · exact nv
      · exact nv
      · exact nv
      · have h1 : Rd m (someR b2 b4 b6 b10 b11 b12 b14 b18 b19) (some ⟨b14, 0, none⟩) 1 1 2 (fl encV [vpr b12]) := Rd.ofPt rfl (by decide) (show (.pt b14 (.cells (fl encV [vpr b12]).toArray 102 (0, 0)) : Res) ∈ someR b2 b4 b6 b10 b11 b12 b14 b18 b19 from (by unfold someR; simp))
        have h2 : Rd m (someR b2 b4 b6 b10 b11 b12 b14 b18 b19) (some ⟨b12, 0, none⟩) 2 2 1 (fl encI [1, 3]) := Rd.ofPt rfl (by decide) (show (.pt b12 (.cells (fl encI [1, 3]).toArray 24 (0, 0)) : Res) ∈ someR b2 b4 b6 b10 b11 b12 b14 b18 b19 from (by unfold someR; simp))
        refine ⟨h1, fun v hv => ?_, fun v hv => ?_⟩
        · replace hv : v ∈ [vpr b12] := hv
          rw [List.mem_singleton] at hv
          subst hv
          exact ⟨h2⟩
        · replace hv : v ∈ [vpr b12] := hv
          rw [List.mem_singleton] at hv
          subst hv
          exact Nat.zero_le _
      · exact nv
def Some1 (m : View) (h : List Res) (v : Value) (h' : List Res) : Prop := ∃ (a : Option Addr) (c : Nat) (L : List Sp) (r : List Res), v = .slice a 6 c ∧ h' = r ++ h ∧ EnvOk m r a c L
theorem some_ct (h : List Res) (m : View) : CT Tryz.prog 22 [] h m (fun v _ h' => Some1 m h v h') := by
  refine CT.body Tryz.call22 Tryz.func22 rfl Tryz.ntmps22 (leB rfl) rfl ?_
  repeat first | refine sk fun K hK => ?_ | refine bk ?_ | refine rn fun _ => ?_
  refine xC ?_
  refine wn [] ?_
  repeat first | refine sk fun K hK => ?_ | refine bk ?_ | refine rn fun _ => ?_
  refine xG (PO.build Tryz.underlying30 rfl rfl rfl (EvP.cons Ev.const EvP.nil) rfl) ?_
  refine xg (E2 Ev.const Et) (decl_ct [120] (tyK 1) _ _) ?_
  rintro _ _ ⟨b2, rfl, rfl⟩
  refine xG (PO.build Tryz.underlying30 rfl rfl rfl (EvP.cons Ev.const (EvP.cons Ev.const EvP.nil)) rfl) ?_
  refine xg (E2 Ev.const Et) (decl_ct [118] ⟨1, 4, 0, []⟩ _ _) ?_
  rintro _ _ ⟨b4, rfl, rfl⟩
  refine xG (PO.build Tryz.underlying30 rfl rfl rfl (EvP.cons Ev.const EvP.nil) rfl) ?_
  refine xY EL48 (EvP.cons Ev.const EvP.nil) fun b6 => ?_
  refine xG (PO.build Tryz.underlying27 rfl rfl rfl (EvP.cons Ev.const (EvP.cons Ev.const EvP.nil)) rfl) ?_
  refine xG (PO.build Tryz.underlying54 rfl rfl rfl (EvP.cons Ev.const (EvP.cons Et (EvP.cons Et (EvP.cons Et EvP.nil)))) rfl) ?_
  refine xG (PO.build Tryz.underlying30 rfl rfl rfl (EvP.cons Ev.const EvP.nil) rfl) ?_
  refine xg (E2 Ev.const Et) (decl_ct [116] (tyK 5) _ _) ?_
  rintro _ _ ⟨b10, rfl, rfl⟩
  refine xY EL48 (EvP.cons Ev.const EvP.nil) fun b11 => ?_
  refine xY EL100 (EvP.cons Ev.const (EvP.cons Ev.const EvP.nil)) fun b12 => ?_
  refine xG (PO.build Tryz.underlying102 rfl rfl rfl (EvP.cons Et EvP.nil) rfl) ?_
  refine xY EL49 (EvP.cons Et EvP.nil) fun b14 => ?_
  refine xG (PO.build Tryz.underlying51 rfl rfl rfl (EvP.cons Et EvP.nil) rfl) ?_
  refine xG (PO.build Tryz.underlying54 rfl rfl rfl (EvP.cons Ev.const (EvP.cons Et (EvP.cons Et EvP.nil))) rfl) ?_
  refine xG (PO.build Tryz.underlying30 rfl rfl rfl (EvP.cons Ev.const (EvP.cons Ev.const EvP.nil)) rfl) ?_
  refine xg (E2 Ev.const Et) (decl_ct [99] ⟨4, 0, 0, [112]⟩ _ _) ?_
  rintro _ _ ⟨b18, rfl, rfl⟩
  refine xY EL28 (EvP.cons Et (EvP.cons Et (EvP.cons Et (EvP.cons Et (EvP.cons Et (EvP.cons Et EvP.nil)))))) fun b19 => ?_
  refine xA ?_
  refine wn [0] ?_
  refine WC.ret (wR (someR b2 b4 b6 b10 b11 b12 b14 b18 b19 ++ h) ?_)
  exact ⟨_, _, _, _, rfl, rfl, some_ok m b2 b4 b6 b10 b11 b12 b14 b18 b19⟩
theorem some_t (l t : List Res) (m : View) : CX Tryz.prog 22 [] (l ++ t) m (fun v _ h' => ∃ hp', h' = hp' ++ t ∧ ∃ (a : Option Addr) (c : Nat) (L : List Sp) (r : List Res), v = .slice a 6 c ∧ hp' = l ++ r ∧ EnvOk m r a c L) (fun _ _ => False) :=
  CX.ofCT (X := fun _ _ => False) ((some_ct (l ++ t) m).conv fun v m2 h2 w2 _ st hR => by
    obtain ⟨a, c, L, r, e1, rfl, e3⟩ := hR
    exact ⟨m2, (l ++ r) ++ t, View.le.refl _, st.perm ((perm_mid r l t).trans (by rw [List.append_assoc])), l ++ r, rfl, a, c, L, r, e1, rfl, e3⟩)
/-- An expression that lies in memory, and its shape. -/
structure Lies (m : View) (h : List Res) (e x : Ex) : Prop where
  t : TOk m h e
  w : Wf e
  s : strip e = x
theorem Lies.mono {m : View} {h h' : List Res} {e x : Ex} (q : Lies m h e x) (s : h.Sublist h') : Lies m h' e x := ⟨q.t.mono s, q.w, q.s⟩
theorem lies_leaf {m : View} {h : List Res} {k o t n : Int} {s : B} (hk : 0 ≤ k ∧ k ≤ 255) (ho : 0 ≤ o ∧ o ≤ 255) (ht : 0 ≤ t ∧ t ≤ 255) (hn : -2147483648 ≤ n ∧ n ≤ 2147483647) (hs : s.length ≤ 140737488355328) : Lies m h (sx k o t n s []) (sx k o t n s []) :=
  ⟨.mk (Rd.nilF exE 6 m h) (fun _ hx => (List.not_mem_nil hx).elim), .mk hk ho ht hn hs fun _ hx => (List.not_mem_nil hx).elim, rfl⟩
theorem lies_one {m : View} {h : List Res} {e x : Ex} (q : Lies m h e x) (b : Nat) {k o t n : Int} {s : B} (hb : oneR e b ∈ h) (hk : 0 ≤ k ∧ k ≤ 255) (ho : 0 ≤ o ∧ o ≤ 255) (ht : 0 ≤ t ∧ t ≤ 255) (hn : -2147483648 ≤ n ∧ n ≤ 2147483647) (hs : s.length ≤ 140737488355328) :
    Lies m h (.mk k o t n s (some ⟨b, 0, none⟩) 1 [e]) (sx k o t n s [x]) :=
  ⟨.mk (Rd.ofPt rfl (by show 1 ≤ _; decide) hb) (fun y hy => by rw [List.mem_singleton] at hy; subst hy; exact q.t), .mk hk ho ht hn hs fun y hy => by rw [List.mem_singleton] at hy; subst hy; exact q.w, by rw [← q.s]; rfl⟩
theorem lies_two {m : View} {h : List Res} {e f x y : Ex} (q : Lies m h e x) (r : Lies m h f y) (b : Nat) {o : Int} (hb : twoR e f b ∈ h) (ho : 0 ≤ o ∧ o ≤ 255) :
    Lies m h (twoX o e f b) (sx 7 o 0 0 [] [x, y]) :=
  ⟨.mk (Rd.ofPt rfl (by show 2 ≤ _; decide) hb) (fun z hz => by
    rcases List.mem_cons.1 hz with rfl | hz
    · exact q.t
    · rw [List.mem_singleton] at hz
      subst hz
      exact r.t), .mk (by decide) ho (by decide) (by decide) (by decide) fun z hz => (by
    rcases List.mem_cons.1 hz with rfl | hz
    · exact q.w
    · rw [List.mem_singleton] at hz
      subst hz
      exact r.w), by rw [← q.s, ← r.s]; rfl⟩
theorem hasX_ct {m : View} {h : List Res} (hg : Glob m) {e x : Ex} (q : Lies m h e x) (t : Ty) (w : Int) (hx : ofX someE x = (t, w)) : CT Tryz.prog 20 [exV e, tyV t, .int .i64 w] h m (Pure1 h (.bool true)) := by
  have ho : ofX someE e = (t, w) := by rw [← ofX_strip, q.s, hx]
  refine CT.body Tryz.call20 Tryz.func20 rfl Tryz.ntmps20 (leB rfl) rfl ?_
  repeat first | refine sk fun K hK => ?_ | refine bk ?_ | refine rn fun _ => ?_
  refine xX fun b3 => ?_
  refine xX fun b4 => ?_
  refine xC ?_
  refine wn [2, 3, 4] ?_
  repeat first | refine sk fun K hK => ?_ | refine bk ?_
  refine WC.drawL [1, 2] (.op 0 (.op 1 (.op 2 (.op 3 (.op 4 (.op 5 .nil)))))) [7, 8] [(6, 7)] _ [] mixed (fun _ _ _ _ _ h => h) [5] (by kernel_rfl) (Fls.cons rfl rfl rfl (leB rfl) rfl Fls.nil) rfl ?_
  refine yG rfl (PO.loadA Tryz.underlying27 rfl rfl Et (by (repeat (first | exact mem0 _ | apply memT | apply List.mem_append_right))) rfl) ?_
  refine SR.callX rfl rfl Ev.func Evs.nil (fun fr => some_t [] _ _) (leB rfl) (fun fr v hv hx => ?_) fun v11 h11 hr11 => ?_
  · exact hx.elim
  obtain ⟨a11, c11, L, r, rfl, rfl, hE⟩ := hr11
  refine yf rfl (E2 Et Et) (fun fr => of_ct hg e (q.t.mono Sb) q.w L a11 6 c11 (hE.rd.mono (View.le.refl m) (subR fr [] h11 _)) (hE.ok.mono (subR fr [] h11 _)) hE.len) ?_
  refine yG rfl (PO.move Et) ?_
  refine yG rfl (PO.extract Et rfl) ?_
  refine yG rfl (PO.extract Et rfl) ?_
  refine SR.nilF rfl (appO_any _ _) fun b7 => ?_
  refine xS ?_
  refine xA ?_
  refine wn [2, 4, 7, 8] ?_
  repeat first | refine sk fun K hK => ?_ | refine bk ?_ | refine rg fun ops hG => ?_
  refine xG (PO.loadA Tryz.underlying30 rfl rfl Et (by (repeat (first | exact mem0 _ | apply memT | apply List.mem_append_right))) rfl) ?_
  refine xG (PO.loadA Tryz.underlying30 rfl rfl Et (by (repeat (first | exact mem0 _ | apply memT | apply List.mem_append_right))) rfl) ?_
  refine xG (PO.eqlA Tryz.underlying30 (by kernel_rfl) (by kernel_rfl) Et Et rfl) ?_
  refine xM ?_
  refine zM ?_
  refine zM ?_
  refine zG (fun hc => PO.bin (Eg hc) (Eg hc) rfl) ?_
  refine xP ?_
  refine xA ?_
  refine wn [6] ?_
  try clear hG ops
  refine WC.ret (wR (h) ?_)
  exact ⟨by show Value.bool (eqT (ofX (envX L) e).1 t && ((ofX (envX L) e).2 == w)) = Value.bool true; rw [hE.env, ho]; simp [(Go.Ty.eqT_iff t t).2 rfl], rfl⟩
theorem sends_ct (s : B) (a : Option Addr) (k c : Nat) (l : List Ex) (hk : l.length = k) (h : List Res) (m : View) : CT Tryz.prog 29 [str s, .slice a k c] h m (Pure1 h (prV (flatP 5 [] (nmX s) nilS ⟨a, c, l⟩))) := by
  subst hk
  refine CT.body Tryz.call29 Tryz.func29 rfl Tryz.ntmps29 (leB rfl) rfl ?_
  repeat first | refine sk fun K hK => ?_ | refine bk ?_ | refine rn fun _ => ?_
  refine xW fun b4 => ?_
  refine wn [0, 1, 4] ?_
  repeat first | refine sk fun K hK => ?_ | refine bk ?_ | refine rn fun _ => ?_
  refine xM ?_
  refine xf (E1 Et) (nameX_ct _ _ _) ?_
  refine xM ?_
  refine xG (PO.build Tryz.underlying56 rfl rfl rfl (EvP.cons Ev.const (EvP.cons Et (EvP.cons Et EvP.nil))) rfl) ?_
  refine xS ?_
  refine wn [4] ?_
  refine WC.ret (end1 (h' := h) (.inl rfl) rfl (RV.cellA Tryz.underlying56 rfl rfl rfl (by (repeat (first | exact mem0 _ | apply memT | apply List.mem_append_right))) rfl) (View.le.refl m) Sb ?_)
  exact ⟨rfl, rfl⟩
theorem lok_nil (m : View) (h : List Res) : LOk m h nilS := ⟨Rd.nilF exE 6 m h, fun _ hx => (List.not_mem_nil hx).elim⟩
theorem eok_zero (m : View) (h : List Res) : EOk m h zeroE := ⟨.mk (Rd.nilF exE 6 m h) (fun _ hx => (List.not_mem_nil hx).elim), .mk (by decide) (by decide) (by decide) (by decide) (by decide) fun _ hx => (List.not_mem_nil hx).elim⟩
theorem sok_zero (m : View) (h : List Res) : SOk m h zeroS := ⟨by decide, ⟨by decide, by decide, by decide, by decide⟩, Rd.nilF encB 1 m h, fun _ hx => (List.not_mem_nil hx).elim, eok_zero m h, ⟨Rd.nilF encV 2 m h, fun _ hx => (List.not_mem_nil hx).elim, fun _ hx => (List.not_mem_nil hx).elim⟩, fun _ hx => (List.not_mem_nil hx).elim, Rd.nilF foE 6 m h, fun _ hx => (List.not_mem_nil hx).elim, Rd.nilF prE 42 m h⟩
theorem pok_flat {m : View} {h : List Res} {k : Int} {nm : B} {ch : Ex} {tg ex : Sli Ex} (hk : 0 ≤ k ∧ k ≤ 255) (hn : nm.length ≤ Big) (hc : EOk m h ch) (ht : LOk m h tg) (he : LOk m h ex) : POk m h (flatP k nm ch tg ex) :=
  .mk ⟨hk, hn, hc, ht, he, Nat.zero_le _, eok_zero m h, eok_zero m h, Rd.nilF guE 23 m h, fun _ hx => (List.not_mem_nil hx).elim, Rd.nilF prE 42 m h, Rd.nilF encN 1 m h, fun _ hx => (List.not_mem_nil hx).elim, sok_zero m h⟩
    fun x hx => by cases hx with
      | l q => exact (List.not_mem_nil q).elim
      | s q => exact (List.not_mem_nil q).elim
      | g q _ => exact (List.not_mem_nil q).elim
theorem Lies.e {m : View} {h : List Res} {e x : Ex} (q : Lies m h e x) : EOk m h e := ⟨q.t, q.w⟩
theorem lok_one {m : View} {h : List Res} {e : Ex} (q : EOk m h e) (b : Nat) (hb : oneR e b ∈ h) : LOk m h (oneS b e) := ⟨Rd.ofPt rfl (by show 1 ≤ _; decide) hb, fun y hy => by have hy : y ∈ [e] := hy; rw [List.mem_singleton] at hy; subst hy; exact q⟩
theorem lok_two {m : View} {h : List Res} {e f : Ex} (q : EOk m h e) (r : EOk m h f) (b : Nat) (hb : twoR e f b ∈ h) : LOk m h (twoS b e f) := ⟨Rd.ofPt rfl (by show 2 ≤ _; decide) hb, fun z hz => by
    rcases List.mem_cons.1 (show z ∈ [e, f] from hz) with rfl | hz
    · exact q
    · rw [List.mem_singleton] at hz
      subst hz
      exact r⟩
theorem chk_ct {m : View} {h : List Res} (hg : Glob m) {p : Pr} (hP : POk m h p) {a : Option Addr} {c : Nat} {L : List Sp} (hE : EnvOk m h a c L) (w : Int) (hw : checkE p = w) : CT Tryz.prog 16 [prV p, .slice a 6 c] h m (Pure1 h (.int .i64 w)) := by
  have := check_ct hg p hP L a 6 c hE.rd hE.ok hE.len
  rw [hE.env] at this
  rwa [show checkX (mayP p) someE p = w from hw] at this
theorem lies_nm {m : View} {h : List Res} {s : B} (hs : s.length ≤ 100) : Lies m h (nmX s) (nmX s) := lies_leaf (by decide) (by decide) (by decide) (by decide) (by omega)
theorem lies_nu {m : View} {h : List Res} {n : Int} (hn : 0 ≤ n ∧ n ≤ 100) : Lies m h (nuX n) (nuX n) := lies_leaf (by decide) (by decide) (by decide) (by omega) (by decide)
theorem worksX_ct {m : View} (hg : Glob m) (h : List Res) : CT Tryz.prog 10 [] h m (Pure1 h (.bool true)) := by
  refine CT.body Tryz.call10 Tryz.func10 rfl Tryz.ntmps10 (leB rfl) rfl ?_
  repeat first | refine sk fun K hK => ?_ | refine bk ?_ | refine rn fun _ => ?_
  refine xC ?_
  refine wn [] ?_
  repeat first | refine sk fun K hK => ?_ | refine bk ?_ | refine rn fun _ => ?_
  refine xf (E1 Ev.const) (nameX_ct _ _ _) ?_
  refine xY EL25 (EvP.cons Et EvP.nil) fun b6 => ?_
  refine xG (PO.build Tryz.underlying27 rfl rfl rfl (EvP.cons Ev.const (EvP.cons Ev.const (EvP.cons Et EvP.nil))) rfl) ?_
  refine xW fun b1 => ?_
  refine xS ?_
  refine wn [1] ?_
  repeat first | refine sk fun K hK => ?_ | refine bk ?_
  refine WC.drawS [0, 2, 4, 6, 7, 8, 10, 13] (.op 1 (.op 3 (.op 0 (.op 2 (.op 4 (.op 5 (.op 9 (.op 6 (.op 7 (.op 8 (.op 10 (.op 11 (.op 12 (.op 14 (.op 13 .nil))))))))))))))) [15, 16, 17] _ [] mixed (fun _ _ _ _ _ h => h) [] (by kernel_rfl) ?_
  refine yG rfl (PO.loadA Tryz.underlying27 rfl rfl Et (by (repeat (first | exact mem0 _ | apply memT | apply List.mem_append_right))) rfl) ?_
  refine yG rfl (PO.build Tryz.underlying30 rfl rfl rfl (EvP.cons Ev.const EvP.nil) rfl) ?_
  refine yf rfl (E1 Ev.const) (fun fr => nameX_ct _ _ _) ?_
  refine SR.callX rfl rfl Ev.func (Evs.cons Ev.const (Evs.cons Et (Evs.cons Et Evs.nil))) (fun fr => two_t [] _ 1 (nmX [120]) (.mk 5 0 0 0 [118] (some ⟨b6, 0, none⟩) 1 [nmX [120]]) _) (leB rfl) (fun fr v hv hx => ?_) fun v10 h10 hr10 => ?_
  · exact hx.elim
  obtain ⟨b10, rfl, rfl⟩ := hr10
  refine yf rfl (E3 Et Et Ev.const) (fun fr => hasX_ct hg (lies_two (lies_nm (by decide)) (lies_one (lies_nm (by decide)) b6 (by (repeat (first | exact mem0 _ | apply memT | apply List.mem_append_right))) (by decide) (by decide) (by decide) (by decide) (by decide)) b10 (by (repeat (first | exact mem0 _ | apply memT | apply List.mem_append_right))) (by decide)) (tyK 1) 0 ex1) ?_
  refine yG rfl (PO.move Et) ?_
  refine yU rfl (PO.build Tryz.underlying30 rfl rfl rfl EvP.nil rfl) ?_
  refine SR.callU rfl rfl (GU.t rfl rfl) rfl Ev.func (Evs.cons Ev.const Evs.nil) (fun fr => nameX_ct _ _ _) (leB rfl) ?_
  refine SR.callU rfl rfl (GU.t rfl rfl) rfl Ev.func (Evs.cons Ev.const Evs.nil) (fun fr => nameX_ct _ _ _) (leB rfl) ?_
  refine SR.callXU rfl rfl (GU.t rfl rfl) rfl Ev.func (Evs.cons Ev.const (Evs.cons Et (Evs.cons Et Evs.nil))) (fun fr => two_t [_] _ 1 (nmX [120]) (nmX [107]) _) (leB rfl) (fun fr v hv hx => ?_) fun v16 h16 hr16 => ?_
  · exact hx.elim
  obtain ⟨b16, rfl, rfl⟩ := hr16
  refine SR.callU rfl rfl (GU.t rfl rfl) rfl Ev.func (Evs.cons Et (Evs.cons Et (Evs.cons Ev.const Evs.nil))) (fun fr => hasX_ct hg (lies_two (lies_nm (by decide)) (lies_nm (by decide)) b16 (by (repeat (first | exact mem0 _ | apply memT | apply List.mem_append_right))) (by decide)) zeroT 130 ex2) (leB rfl) ?_
  refine yG rfl (PO.pickAnd rfl rfl) ?_
  refine yG rfl (PO.move Et) ?_
  refine yU rfl (PO.build Tryz.underlying30 rfl rfl rfl EvP.nil rfl) ?_
  refine SR.callU rfl rfl (GU.t rfl rfl) rfl Ev.func (Evs.cons Ev.const Evs.nil) (fun fr => nameX_ct _ _ _) (leB rfl) ?_
  refine SR.nil rfl (appO_any _ _) ?_
  refine zU ?_
  refine xf (E3 Et Et Ev.const) (hasX_ct hg (lies_nm (by decide)) zeroT 120 ex3) ?_
  refine xP ?_
  refine xA ?_
  refine wn [2] ?_
  try clear hG ops
  repeat first | refine sk fun K hK => ?_ | refine bk ?_ | refine rn fun _ => ?_
  refine xf (E1 Ev.const) (nameX_ct _ _ _) ?_
  refine xf (E1 Ev.const) (numX_ct _ _ _) ?_
  refine xg (E3 Ev.const Et Et) (two_ct _ _ _ _ _) ?_
  rintro _ _ ⟨b27, rfl, rfl⟩
  refine xW fun b3 => ?_
  refine xS ?_
  refine wn [2, 3] ?_
  repeat first | refine sk fun K hK => ?_ | refine bk ?_ | refine rn fun _ => ?_
  refine xf (E1 Ev.const) (nameX_ct _ _ _) ?_
  refine xY EL25 (EvP.cons Et EvP.nil) fun b29 => ?_
  refine xf (E1 Ev.const) (nameX_ct _ _ _) ?_
  refine xY EL25 (EvP.cons Et EvP.nil) fun b31 => ?_
  refine xG (PO.build Tryz.underlying56 rfl rfl rfl (EvP.cons Ev.const (EvP.cons Et (EvP.cons Et EvP.nil))) rfl) ?_
  refine xW fun b4 => ?_
  refine xS ?_
  refine wn [2, 3, 4] ?_
  repeat first | refine sk fun K hK => ?_ | refine bk ?_
  refine WC.drawS [2, 4, 5, 6, 7, 11, 12, 13, 14, 15, 20] (.op 0 (.op 1 (.op 3 (.op 2 (.op 4 (.op 5 (.op 6 (.op 7 (.op 8 (.op 9 (.op 10 (.op 11 (.op 12 (.op 13 (.op 14 (.op 15 (.op 16 (.op 17 (.op 18 (.op 19 (.op 20 .nil))))))))))))))))))))) [21, 22, 23, 24] _ [] mixed (fun _ _ _ _ _ h => h) [] (by kernel_rfl) ?_
  refine yG rfl (PO.move Et) ?_
  refine yG rfl (PO.move Et) ?_
  refine yU rfl (PO.loadA Tryz.underlying27 rfl rfl Et (by (repeat (first | exact mem0 _ | apply memT | apply List.mem_append_right))) rfl) ?_
  refine SR.callU rfl rfl (GU.t rfl rfl) rfl Ev.func (Evs.cons Ev.const Evs.nil) (fun fr => nameX_ct _ _ _) (leB rfl) ?_
  refine SR.buildSliceU rfl rfl (GU.t rfl rfl) rfl EL25 rfl (EvP.cons Et (EvP.cons Et EvP.nil)) rfl rfl (by decide) rfl (leB rfl) fun b37 => ?_
  refine SR.callU rfl rfl (GU.t rfl rfl) rfl Ev.func (Evs.cons Ev.const (Evs.cons Et Evs.nil)) (fun fr => sends_ct [99] _ _ _ [nmX [120], twoX 14 (nmX [120]) (nuX 1) b27] rfl _ _) (leB rfl) ?_
  refine SR.callXU rfl rfl (GU.t rfl rfl) rfl Ev.func Evs.nil (fun fr => some_t [_] _ _) (leB rfl) (fun fr v hv hx => ?_) fun v39 h39 hr39 => ?_
  · exact hx.elim
  obtain ⟨a39, c39, L39, r39, rfl, rfl, hE39⟩ := hr39
  refine SR.callU rfl rfl (GU.t rfl rfl) rfl Ev.func (Evs.cons Et (Evs.cons Et Evs.nil)) (fun fr => chk_ct hg (pok_flat (by decide) (by decide) (lies_nm (by decide)).e (lok_nil _ _) (lok_two (lies_nm (by decide)).e (lies_two (lies_nm (by decide)) (lies_nu (by decide)) b27 (by (repeat (first | exact mem0 _ | apply memT | apply List.mem_append_right))) (by decide)).e b37 (by (repeat (first | exact mem0 _ | apply memT | apply List.mem_append_right))))) (hE39.mono (subR fr _ r39 _)) 0 (ck1 _ _)) (leB rfl) ?_
  refine yU rfl (PO.bin Et Ev.const rfl) ?_
  refine yG rfl (PO.pickAnd rfl rfl) ?_
  refine yG rfl (PO.move Et) ?_
  refine SR.callU rfl rfl (GU.t rfl rfl) rfl Ev.func (Evs.cons Ev.const Evs.nil) (fun fr => nameX_ct _ _ _) (leB rfl) ?_
  refine SR.buildSliceU rfl rfl (GU.t rfl rfl) rfl EL25 rfl (EvP.cons Et EvP.nil) rfl rfl (by decide) rfl (leB rfl) fun b45 => ?_
  refine SR.callU rfl rfl (GU.t rfl rfl) rfl Ev.func (Evs.cons Ev.const (Evs.cons Et Evs.nil)) (fun fr => sends_ct [99] _ _ _ [nmX [120]] rfl _ _) (leB rfl) ?_
  refine SR.callXU rfl rfl (GU.t rfl rfl) rfl Ev.func Evs.nil (fun fr => some_t _ _ _) (leB rfl) (fun fr v hv hx => ?_) fun v47 h47 hr47 => ?_
  · exact hx.elim
  obtain ⟨a47, c47, L47, r47, rfl, rfl, hE47⟩ := hr47
  refine SR.callU rfl rfl (GU.t rfl rfl) rfl Ev.func (Evs.cons Et (Evs.cons Et Evs.nil)) (fun fr => chk_ct hg (pok_flat (by decide) (by decide) (lies_nm (by decide)).e (lok_nil _ _) (lok_one (lies_nm (by decide)).e b45 (by (repeat (first | exact mem0 _ | apply memT | apply List.mem_append_right))))) (hE47.mono (subR fr _ r47 _)) 130 (ck2 _)) (leB rfl) ?_
  refine yU rfl (PO.bin Et Ev.const rfl) ?_
  refine yG rfl (PO.pickAnd rfl rfl) ?_
  refine yG rfl (PO.move Et) ?_
  refine yU rfl (PO.loadA Tryz.underlying56 rfl rfl Et (by (repeat (first | exact mem0 _ | apply memT | apply List.mem_append_right))) rfl) ?_
  refine SR.callXU rfl rfl (GU.t rfl rfl) rfl Ev.func Evs.nil (fun fr => some_t _ _ _) (leB rfl) (fun fr v hv hx => ?_) fun v53 h53 hr53 => ?_
  · exact hx.elim
  obtain ⟨a53, c53, L53, r53, rfl, rfl, hE53⟩ := hr53
  refine SR.nil rfl (appO_any _ _) ?_
  refine zU ?_
  refine xf (E2 Et Et) (chk_ct hg (pok_flat (by decide) (by decide) (eok_zero _ _) (lok_one (lies_nm (by decide)).e b29 (by (repeat (first | exact mem0 _ | apply memT | apply List.mem_append_right)))) (lok_one (lies_nm (by decide)).e b31 (by (repeat (first | exact mem0 _ | apply memT | apply List.mem_append_right))))) (hE53.mono ((List.sublist_append_right _ r53).trans (List.sublist_append_left _ _))) 130 (ck3 _ _)) ?_
  refine zU ?_
  refine xG (PO.bin Et Ev.const rfl) ?_
  refine xP ?_
  refine xA ?_
  refine wn [0] ?_
  try clear hG ops
  refine WC.ret (wR (h) ?_)
  exact ⟨rfl, rfl⟩
end Go.Proofs.YtdhmplmpbcnojaaGreatDoor
end
/- LwJ -/
section
namespace Go.Proofs.YtdhmplmpbcnojaaGreatDoor
open Go.Eng Go.Pc Go.Tg Go
open Go.Xp hiding B nameT zeroT
open Go.Ty (Ty Vr eqT tyV cellT PrOk VOk prL encV encV_len encI encI_len zeroT)
open Go.Lx (encB encB_len)
set_option maxRecDepth 100000
theorem WL.abs {P : Program} {ops : Array Oper} {Q : Exit → Act → World → Prop} {n : Cx} {l : List Oper} {F : Fm} {h : List Res} {m : View} (p : List Res → Prop) (hp : p h) (k : ∀ H, p H → WL P ops Q n l F H m) : WL P ops Q n l F h m := k h hp
theorem noPanic {d : Prop} {m : View} {R : Value → View → List Res → Prop} {c : List PanicEntry} {w : World} (h : d ∧ RQ m R (.panicked c) w) : False := by
  obtain ⟨_, _, _, _, e, _⟩ := h
  cases e
theorem someC_ct (h : List Res) (m : View) : CT Tryz.prog 22 [] h m (fun v _ h' => ∃ b2 b4 b6 b10 b11 b12 b14 b18 b19, v = .slice (some ⟨b19, 0, none⟩) 6 6 ∧ h' = someR b2 b4 b6 b10 b11 b12 b14 b18 b19 ++ h) := by
  refine CT.body Tryz.call22 Tryz.func22 rfl Tryz.ntmps22 (leB rfl) rfl ?_
  repeat first | refine sk fun K hK => ?_ | refine bk ?_ | refine rn fun _ => ?_
  refine xC ?_
  refine wn [] ?_
  repeat first | refine sk fun K hK => ?_ | refine bk ?_ | refine rn fun _ => ?_
  refine xG (PO.build Tryz.underlying30 rfl rfl rfl (EvP.cons Ev.const EvP.nil) rfl) ?_
  refine xg (E2 Ev.const Et) (decl_ct [120] (tyK 1) _ _) ?_
  rintro _ _ ⟨b2, rfl, rfl⟩
  refine xG (PO.build Tryz.underlying30 rfl rfl rfl (EvP.cons Ev.const (EvP.cons Ev.const EvP.nil)) rfl) ?_
  refine xg (E2 Ev.const Et) (decl_ct [118] ⟨1, 4, 0, []⟩ _ _) ?_
  rintro _ _ ⟨b4, rfl, rfl⟩
  refine xG (PO.build Tryz.underlying30 rfl rfl rfl (EvP.cons Ev.const EvP.nil) rfl) ?_
  refine xY EL48 (EvP.cons Ev.const EvP.nil) fun b6 => ?_
  refine xG (PO.build Tryz.underlying27 rfl rfl rfl (EvP.cons Ev.const (EvP.cons Ev.const EvP.nil)) rfl) ?_
  refine xG (PO.build Tryz.underlying54 rfl rfl rfl (EvP.cons Ev.const (EvP.cons Et (EvP.cons Et (EvP.cons Et EvP.nil)))) rfl) ?_
  refine xG (PO.build Tryz.underlying30 rfl rfl rfl (EvP.cons Ev.const EvP.nil) rfl) ?_
  refine xg (E2 Ev.const Et) (decl_ct [116] (tyK 5) _ _) ?_
  rintro _ _ ⟨b10, rfl, rfl⟩
  refine xY EL48 (EvP.cons Ev.const EvP.nil) fun b11 => ?_
  refine xY EL100 (EvP.cons Ev.const (EvP.cons Ev.const EvP.nil)) fun b12 => ?_
  refine xG (PO.build Tryz.underlying102 rfl rfl rfl (EvP.cons Et EvP.nil) rfl) ?_
  refine xY EL49 (EvP.cons Et EvP.nil) fun b14 => ?_
  refine xG (PO.build Tryz.underlying51 rfl rfl rfl (EvP.cons Et EvP.nil) rfl) ?_
  refine xG (PO.build Tryz.underlying54 rfl rfl rfl (EvP.cons Ev.const (EvP.cons Et (EvP.cons Et EvP.nil))) rfl) ?_
  refine xG (PO.build Tryz.underlying30 rfl rfl rfl (EvP.cons Ev.const (EvP.cons Ev.const EvP.nil)) rfl) ?_
  refine xg (E2 Ev.const Et) (decl_ct [99] ⟨4, 0, 0, [112]⟩ _ _) ?_
  rintro _ _ ⟨b18, rfl, rfl⟩
  refine xY EL28 (EvP.cons Et (EvP.cons Et (EvP.cons Et (EvP.cons Et (EvP.cons Et (EvP.cons Et EvP.nil)))))) fun b19 => ?_
  refine xA ?_
  refine wn [0] ?_
  refine WC.ret (wR (someR b2 b4 b6 b10 b11 b12 b14 b18 b19 ++ h) ?_)
  exact ⟨b2, b4, b6, b10, b11, b12, b14, b18, b19, rfl, rfl⟩
def protS (b11 b12 b14 : Nat) : Sp := .mk 4 zeroT ⟨some ⟨b11, 0, none⟩, 1, [[112]]⟩ zeroE false ⟨some ⟨b14, 0, none⟩, 1, [vpr b12]⟩ nilS none 0 []
theorem again_ok {m : View} {h : List Res} {l : List Sp} {x : Sp} (hv : VOkE m h l) {L : List Sp} (hw : VOkE m h L) (hx : x ∈ L) : VOkE m h (l ++ [x]) := by
  have key : ∀ y ∈ l ++ [x], y ∈ l ∨ y ∈ L := fun y hy => by
    rcases List.mem_append.1 hy with h1 | h1
    · exact .inl h1
    · rw [List.mem_singleton] at h1; subst h1; exact .inr hx
  exact ⟨fun y hy => (key y hy).elim (hv.nm y) (hw.nm y), fun y hy => (key y hy).elim (hv.fr y) (hw.fr y), fun y hy => (key y hy).elim (hv.pr y) (hw.pr y)⟩
theorem again_env (b2 b4 b6 b10 b11 b12 b14 b18 d11 d12 d14 : Nat) : envX (someL b2 b4 b6 b10 b11 b12 b14 b18 ++ [protS d11 d12 d14]) = againE := rfl
theorem prot_mem (b2 b4 b6 b10 b11 b12 b14 b18 : Nat) : protS b11 b12 b14 ∈ someL b2 b4 b6 b10 b11 b12 b14 b18 := by unfold someL protS; simp
/-- A process whose lists are slices, in memory. -/
theorem pok_mkP {m : View} {h : List Res} {k : Int} {nm : B} {ch : Ex} {tg ex : Sli Ex} {rp : Rp} {g : Sli Gu} {l : Sli Pr} {sp : Sp} (hk : 0 ≤ k ∧ k ≤ 255) (hn : nm.length ≤ Big) (hc : EOk m h ch) (ht : LOk m h tg) (he : LOk m h ex)
    (hrn : rp.name.length ≤ Big) (hrb : EOk m h rp.base) (hrc : EOk m h rp.count) (hg : Rd m h g.a g.l.length g.c 23 (fl guE g.l)) (hgs : ∀ x ∈ g.l, GOk m h x ∧ ∀ y ∈ x.bl, POk m h y)
    (hl : Rd m h l.a l.l.length l.c 42 (fl prE l.l)) (hls : ∀ x ∈ l.l, POk m h x) (hsp : SOk m h sp) (hsb : ∀ x ∈ sp.bl, POk m h x) : POk m h (mkP k nm ch tg ex rp g l sp) :=
  .mk ⟨hk, hn, hc, ht, he, hrn, hrb, hrc, hg, fun x hx => (hgs x hx).1, hl, Rd.nilF encN 1 m h, fun _ hx => (List.not_mem_nil hx).elim, hsp⟩
    fun x hx => by cases hx with
      | l q => exact hls x q
      | s q => exact hsb x q
      | g q r => exact (hgs _ q).2 x r
theorem pok_skip (m : View) (h : List Res) : POk m h skipP := pok_flat (by decide) (by decide) (eok_zero m h) (lok_nil m h) (lok_nil m h)
abbrev kidR (p : Pr) (b : Nat) : Res := .pt b (.cells (fl prE [p]).toArray 56 (0, 0))
theorem kid_rd {m : View} {h : List Res} {p : Pr} {b : Nat} (hb : kidR p b ∈ h) : Rd m h (kidS b p).a (kidS b p).l.length (kidS b p).c 42 (fl prE (kidS b p).l) := Rd.ofPt rfl (by show 1 ≤ _; decide) hb
theorem kid_ok {m : View} {h : List Res} {p : Pr} {b : Nat} (q : POk m h p) : ∀ x ∈ (kidS b p).l, POk m h x := fun x hx => by
  have hx : x ∈ [p] := hx
  rw [List.mem_singleton] at hx; subst hx; exact q
theorem nog_rd (m : View) (h : List Res) : Rd m h (nilS : Sli Gu).a (nilS : Sli Gu).l.length (nilS : Sli Gu).c 23 (fl guE (nilS : Sli Gu).l) := Rd.nilF guE 23 m h
theorem nol_rd (m : View) (h : List Res) : Rd m h (nilS : Sli Pr).a (nilS : Sli Pr).l.length (nilS : Sli Pr).c 42 (fl prE (nilS : Sli Pr).l) := Rd.nilF prE 42 m h
theorem none_in {α : Type} {p : α → Prop} : ∀ x ∈ (nilS : Sli α).l, p x := fun _ hx => (List.not_mem_nil hx).elim
/-- A process with one part. -/
theorem pok_kid {m : View} {h : List Res} {k : Int} {ex : Sli Ex} {rp : Rp} {b : Nat} {p : Pr} {sp : Sp} (hk : 0 ≤ k ∧ k ≤ 255) (he : LOk m h ex) (hrn : rp.name.length ≤ Big) (hrb : EOk m h rp.base) (hrc : EOk m h rp.count) (hb : kidR p b ∈ h) (hp : POk m h p)
    (hsp : SOk m h sp) (hsb : ∀ x ∈ sp.bl, POk m h x) : POk m h (mkP k [] zeroE nilS ex rp nilS (kidS b p) sp) :=
  pok_mkP hk (by decide) (eok_zero m h) (lok_nil m h) he hrn hrb hrc (nog_rd m h) none_in (kid_rd hb) (kid_ok hp) hsp hsb
abbrev elseR (b c : Nat) : Res := .pt c (.cells (fl guE [elseG b, elseG b]).toArray 70 (0, 0))
theorem pok_else {m : View} {h : List Res} {ex : Sli Ex} {b c : Nat} (he : LOk m h ex) (hc : elseR b c ∈ h) (hb : kidR skipP b ∈ h) : POk m h (mkP 15 [] zeroE nilS ex zeroR (elseS c b) nilS zeroS) :=
  pok_mkP (by decide) (by decide) (eok_zero m h) (lok_nil m h) he (by decide) (eok_zero m h) (eok_zero m h) (show Rd m h (some ⟨c, 0, none⟩) 2 2 23 (fl guE [elseG b, elseG b]) from Rd.ofPt rfl (by decide) hc)
    (fun x hx => by
      have e : x = elseG b := by
        have hx : x ∈ [elseG b, elseG b] := hx
        simpa using hx
      subst e
      exact ⟨⟨by show 0 ≤ (6 : Int) ∧ (6 : Int) ≤ 255; decide, by show 0 ≤ Big; decide, eok_zero m h, eok_zero m h, lok_nil m h, lok_nil m h, eok_zero m h, Rd.ofPt rfl (by show 1 ≤ _; decide) hb⟩, kid_ok (b := b) (pok_skip m h)⟩)
    (nol_rd m h) none_in (sok_zero m h) (fun _ hx => (List.not_mem_nil hx).elim)
theorem nov_ok (m : View) (h : List Res) : PrOk m h none 0 0 [] := ⟨Rd.nilF encV 2 m h, fun _ hx => (List.not_mem_nil hx).elim, fun _ hx => (List.not_mem_nil hx).elim⟩
theorem sok_decl {m : View} {h : List Res} {s : B} {t : Ty} {b : Nat} (hs : s.length ≤ Big) (ht : TyW t) (hb : nmR s b ∈ h) : SOk m h (dclS s t b) :=
  ⟨by show 0 ≤ (1 : Int) ∧ (1 : Int) ≤ 255; decide, ht, Rd.ofPt rfl (by show 1 ≤ _; decide) hb, fun x hx => by
    have hx : x ∈ [s] := hx
    rw [List.mem_singleton] at hx; subst hx; exact hs, eok_zero m h, nov_ok m h, fun _ hx => (List.not_mem_nil hx).elim, Rd.nilF foE 6 m h, fun _ hx => (List.not_mem_nil hx).elim, Rd.nilF prE 42 m h⟩
abbrev fosR (b : Nat) : Res := .pt b (.cells (fl foE [fo1, fo2, fo3]).toArray 60 (0, 0))
theorem sok_f {m : View} {h : List Res} {b1 b2 b6 : Nat} (h1 : nmR [102] b1 ∈ h) (h2 : fosR b2 ∈ h) (h6 : kidR skipP b6 ∈ h) : SOk m h (fSp b1 b2 b6) :=
  ⟨by show 0 ≤ (5 : Int) ∧ (5 : Int) ≤ 255; decide, (show TyW zeroT from ⟨by decide, by decide, by decide, by decide⟩), Rd.ofPt rfl (by show 1 ≤ _; decide) h1, fun x hx => by
    have hx : x ∈ [[102]] := hx
    rw [List.mem_singleton] at hx; subst hx; decide, eok_zero m h, nov_ok m h, fun _ hx => (List.not_mem_nil hx).elim, Rd.ofPt rfl (by show 3 ≤ _; decide) h2, fun x hx => by
    have hx : x ∈ [fo1, fo2, fo3] := hx
    simp only [List.mem_cons, List.not_mem_nil, or_false] at hx
    rcases hx with rfl | rfl | rfl <;> exact ⟨⟨by decide, by decide, by decide, by decide⟩, by decide⟩, Rd.ofPt rfl (by show 1 ≤ _; decide) h6⟩
theorem pok_call {m : View} {h : List Res} {b b1 b2 b6 : Nat} {l : Sli Ex} (hl : LOk m h l) (hb : kidR (flatP 17 [102] zeroE nilS l) b ∈ h) (h1 : nmR [102] b1 ∈ h) (h2 : fosR b2 ∈ h) (h6 : kidR skipP b6 ∈ h) : POk m h (callP b b1 b2 b6 l) :=
  pok_kid (by decide) (lok_nil m h) (by decide) (eok_zero m h) (eok_zero m h) hb (pok_flat (by decide) (by decide) (eok_zero m h) (lok_nil m h) hl) (sok_f h1 h2 h6) (kid_ok (b := b6) (pok_skip m h))
abbrev threeR (x y z : Ex) (b : Nat) : Res := .pt b (.cells (exE x ++ exE y ++ exE z).toArray 27 (0, 0))
theorem lok_three {m : View} {h : List Res} {e f g : Ex} (q : EOk m h e) (r : EOk m h f) (s : EOk m h g) (b : Nat) (hb : threeR e f g b ∈ h) : LOk m h (threeS b e f g) := ⟨Rd.ofPt rfl (by show 3 ≤ _; decide) hb, fun z hz => by
    have hz : z ∈ [e, f, g] := hz
    simp only [List.mem_cons, List.not_mem_nil, or_false] at hz
    rcases hz with rfl | rfl | rfl <;> assumption⟩
theorem clos_ct (s : Sp) (b : Nat) (a : Option Addr) (k c : Nat) (l : List Ex) (hk : l.length = k) (h : List Res) (m : View) (hb : Res.pt b (.cells (spE s).toArray 54 (0, 0)) ∈ h) :
    CT Tryz.prog 23 [.slice a k c, .pointer (some ⟨b, 0, none⟩)] h m (fun v _ h' => ∃ d, v = prV (mkP 18 [] zeroE nilS nilS zeroR nilS (kidS d (flatP 17 [102] zeroE nilS ⟨a, c, l⟩)) s) ∧ h' = kidR (flatP 17 [102] zeroE nilS ⟨a, c, l⟩) d :: h) := by
  subst hk
  refine CT.body Tryz.call23 Tryz.func23 rfl Tryz.ntmps23 (leB rfl) rfl ?_
  repeat first | refine sk fun K hK => ?_ | refine bk ?_ | refine rn fun _ => ?_
  refine xW fun b3 => ?_
  refine wn [0, 1, 3] ?_
  repeat first | refine sk fun K hK => ?_ | refine bk ?_ | refine rn fun _ => ?_
  refine xG (PO.loadA Tryz.underlying54 rfl rfl Et (by (repeat (first | assumption | exact mem0 _ | apply memT | apply List.mem_append_right))) rfl) ?_
  refine xM ?_
  refine xG (PO.build Tryz.underlying56 rfl rfl rfl (EvP.cons Ev.const (EvP.cons Ev.const (EvP.cons Et EvP.nil))) rfl) ?_
  refine xY EL45 (EvP.cons Et EvP.nil) fun b7 => ?_
  refine xG (PO.build Tryz.underlying56 rfl rfl rfl (EvP.cons Ev.const (EvP.cons Et (EvP.cons Et EvP.nil))) rfl) ?_
  refine xS ?_
  refine wn [3] ?_
  refine WC.ret (end1 (h' := kidR (flatP 17 [102] zeroE nilS ⟨a, c, l⟩) b7 :: h) (.inl rfl) rfl (RV.cellA Tryz.underlying56 rfl rfl rfl (by (repeat (first | assumption | exact mem0 _ | apply memT | apply List.mem_append_right))) rfl) (View.le.refl m) Sb ?_)
  exact ⟨b7, rfl, rfl⟩
theorem host_ct (h : List Res) (m : View) : CT Tryz.prog 24 [] h m (fun v _ h' => ∃ b, v = .slice (some ⟨b, 0, none⟩) 2 2 ∧ h' = h) := by
  refine CT.body Tryz.call24 Tryz.func24 rfl Tryz.ntmps24 (leB rfl) rfl ?_
  repeat first | refine sk fun K hK => ?_ | refine bk ?_ | refine rn fun _ => ?_
  refine xC ?_
  refine wn [] ?_
  repeat first | refine sk fun K hK => ?_ | refine bk ?_ | refine rn fun _ => ?_
  refine xG (PO.build Tryz.underlying30 rfl rfl rfl (EvP.cons Ev.const (EvP.cons Ev.const EvP.nil)) rfl) ?_
  refine xW fun b1 => ?_
  refine xS ?_
  refine wn [1] ?_
  repeat first | refine sk fun K hK => ?_ | refine bk ?_ | refine rn fun _ => ?_
  refine xG (PO.loadA Tryz.underlying30 rfl rfl Et (by (repeat (first | assumption | exact mem0 _ | apply memT | apply List.mem_append_right))) rfl) ?_
  refine xY EL48 (EvP.cons Ev.const EvP.nil) fun b4 => ?_
  refine xG (PO.build Tryz.underlying54 rfl rfl rfl (EvP.cons Ev.const (EvP.cons Et (EvP.cons Et EvP.nil))) rfl) ?_
  refine xG (PO.loadA Tryz.underlying30 rfl rfl Et (by (repeat (first | assumption | exact mem0 _ | apply memT | apply List.mem_append_right))) rfl) ?_
  refine xY EL48 (EvP.cons Ev.const EvP.nil) fun b7 => ?_
  refine xG (PO.build Tryz.underlying54 rfl rfl rfl (EvP.cons Ev.const (EvP.cons Et (EvP.cons Et EvP.nil))) rfl) ?_
  refine xY EL28 (EvP.cons Et (EvP.cons Et EvP.nil)) fun b9 => ?_
  refine xA ?_
  refine wn [0] ?_
  refine WC.ret (wR (h) ?_)
  exact ⟨b9, rfl, rfl⟩
theorem decl_t (l t : List Res) (s : B) (y : Ty) (m : View) : CX Tryz.prog 21 [str s, tyV y] (l ++ t) m (fun v _ h' => ∃ hp', h' = hp' ++ t ∧ ∃ b, v = spV (dclS s y b) ∧ hp' = nmR s b :: l) (fun _ _ => False) :=
  (CX.ofCT (X := fun _ _ => False) (decl_ct s y (l ++ t) m)).mono (fun _ _ _ ⟨b, e1, e2⟩ => ⟨nmR s b :: l, e2, b, e1, rfl⟩) (fun _ _ h => h)
theorem chkA_ct {m : View} {h : List Res} (hg : Glob m) {p : Pr} (hP : POk m h p) {a : Option Addr} {c : Nat} {b2 b4 b6 b10 b11 b12 b14 b18 b19 d2 d4 d6 d10 d11 d12 d14 d18 d19 : Nat} (hr : Rd m h a 7 c 16 (fl spE (someL b2 b4 b6 b10 b11 b12 b14 b18 ++ [protS d11 d12 d14])))
    (hv : (someR b2 b4 b6 b10 b11 b12 b14 b18 b19).Sublist h) (hw : (someR d2 d4 d6 d10 d11 d12 d14 d18 d19).Sublist h) (w : Int) (hc : checkX (mayP p) againE p = w) : CT Tryz.prog 16 [prV p, .slice a 7 c] h m (Pure1 h (.int .i64 w)) := by
  have := check_ct hg p hP _ a 7 c hr (again_ok ((some_ok m b2 b4 b6 b10 b11 b12 b14 b18 b19).ok.mono hv) ((some_ok m d2 d4 d6 d10 d11 d12 d14 d18 d19).ok.mono hw) (prot_mem d2 d4 d6 d10 d11 d12 d14 d18)) (by show 7 ≤ 900000; decide)
  rw [again_env] at this
  rwa [hc] at this
/-- The examples lie in memory. -/
theorem kw_pok {m : View} {h : List Res} {b b6 b17 b96 b97 b116 b118 b120 b128 b130 b140 b144 b152 b163 b168 : Nat} (h0 : oneR (nmX [120]) b ∈ h) (h6 : kidR skipP b6 ∈ h) (h17 : twoR (nmX [120]) (nuX 3) b17 ∈ h) (h96 : twoR (nmX [120]) (nuX 10) b96 ∈ h)
    (h97 : oneR (twoX 6 (nmX [120]) (nuX 10) b96) b97 ∈ h) (h116 : oneR (nmX [105]) b116 ∈ h) (h118 : oneR (nuX 1) b118 ∈ h) (h120 : kidR (flatP 3 [] zeroE (oneS b116 (nmX [105])) (oneS b118 (nuX 1))) b120 ∈ h) (h128 : oneR (nmX [105]) b128 ∈ h)
    (h130 : kidR (flatP 3 [] zeroE (xS b) (oneS b128 (nmX [105]))) b130 ∈ h) (h140 : twoR (nuX 1) (nuX 2) b140 ∈ h) (h144 : oneR (bigB b17) b144 ∈ h) (h152 : elseR b6 b152 ∈ h) (h163 : nmR [100] b163 ∈ h) (h168 : nmR [100] b168 ∈ h) :
    ∀ x ∈ kwL b b6 b17 b96 b97 b116 b118 b120 b128 b130 b140 b144 b152 b163 b168, POk m h x.1 := by
  have nm : ∀ s : B, s.length ≤ 100 → EOk m h (nmX s) := fun s hs => (lies_nm hs).e
  have nu : ∀ n : Int, 0 ≤ n ∧ n ≤ 100 → EOk m h (nuX n) := fun n hn => (lies_nu hn).e
  have x1 : LOk m h (xS b) := lok_one (nm _ (by decide)) b h0
  have two : ∀ (o : Int) (e f : Ex) (d : Nat), EOk m h e → EOk m h f → twoR e f d ∈ h → (0 ≤ o ∧ o ≤ 255) → EOk m h (twoX o e f d) := fun o e f d q r hd ho => (lies_two ⟨q.t, q.w, rfl⟩ ⟨r.t, r.w, rfl⟩ d hd ho).e
  have big : EOk m h (bigB b17) := two _ _ _ _ (nm _ (by decide)) (nu _ (by decide)) h17 (by decide)
  have flat : ∀ (k : Int) (s : B) (c : Ex) (tg ex : Sli Ex), 0 ≤ k ∧ k ≤ 255 → s.length ≤ Big → EOk m h c → LOk m h tg → LOk m h ex → POk m h (flatP k s c tg ex) := fun k s c tg ex hk hs hc ht he => pok_flat hk hs hc ht he
  have sk := pok_skip m h
  have dw : ∀ s : B, s.length ≤ Big → TyW ⟨4, 0, 0, s⟩ := fun s hs => ⟨by show 0 ≤ (4 : Int) ∧ (4 : Int) ≤ 255; decide, by show 0 ≤ (0 : Int) ∧ (0 : Int) ≤ 255; decide, by show -9223372036854775808 ≤ (0 : Int) ∧ (0 : Int) ≤ 9223372036854775807; decide, hs⟩
  intro x hx
  unfold kwL at hx
  simp only [List.mem_cons, List.not_mem_nil, or_false] at hx
  rcases hx with rfl | rfl | rfl | rfl | rfl | rfl | rfl | rfl | rfl | rfl | rfl | rfl | rfl | rfl | rfl | rfl
  · exact flat _ _ _ _ _ (by decide) (by decide) (nm _ (by decide)) x1 (lok_nil m h)
  · exact flat _ _ _ _ _ (by decide) (by decide) (nm _ (by decide)) (lok_nil m h) (lok_one (two _ _ _ _ (nm _ (by decide)) (nu _ (by decide)) h96 (by decide)) b97 h97)
  · exact flat _ _ _ _ _ (by decide) (by decide) (nm _ (by decide)) (lok_nil m h) x1
  · exact flat _ _ _ _ _ (by decide) (by decide) (nm _ (by decide)) x1 (lok_nil m h)
  · exact flat _ _ _ _ _ (by decide) (by decide) (nm _ (by decide)) x1 (lok_nil m h)
  · exact pok_kid (by decide) (lok_nil m h) (by show 1 ≤ Big; decide) (nu _ (by decide)) (nm _ (by decide)) h120 (flat _ _ _ _ _ (by decide) (by decide) (eok_zero m h) (lok_one (nm _ (by decide)) b116 h116) (lok_one (nu _ (by decide)) b118 h118)) (sok_zero m h) (fun _ hx => (List.not_mem_nil hx).elim)
  · exact pok_kid (by decide) (lok_nil m h) (by show 1 ≤ Big; decide) (nu _ (by decide)) (nm _ (by decide)) h130 (flat _ _ _ _ _ (by decide) (by decide) (eok_zero m h) x1 (lok_one (nm _ (by decide)) b128 h128)) (sok_zero m h) (fun _ hx => (List.not_mem_nil hx).elim)
  · exact pok_kid (by decide) x1 (by decide) (eok_zero m h) (eok_zero m h) h6 sk (sok_zero m h) (fun _ hx => (List.not_mem_nil hx).elim)
  · exact flat _ _ _ _ _ (by decide) (by decide) (eok_zero m h) x1 (lok_two (nu _ (by decide)) (nu _ (by decide)) b140 h140)
  · exact flat _ _ _ _ _ (by decide) (by decide) (eok_zero m h) (lok_nil m h) (lok_one big b144 h144)
  · exact pok_else x1 h152 h6
  · exact flat _ _ _ _ _ (by decide) (by decide) (eok_zero m h) (lok_nil m h) (lok_nil m h)
  · exact flat _ _ _ _ _ (by decide) (by decide) (eok_zero m h) (lok_nil m h) (lok_nil m h)
  · exact pok_kid (by decide) (lok_nil m h) (by decide) (eok_zero m h) (eok_zero m h) h6 sk (sok_zero m h) (fun _ hx => (List.not_mem_nil hx).elim)
  · exact pok_kid (by decide) (lok_nil m h) (by decide) (eok_zero m h) (eok_zero m h) h6 sk (sok_decl (by decide) (dw _ (by decide)) h163) (fun _ hx => (List.not_mem_nil hx).elim)
  · exact pok_kid (by decide) (lok_nil m h) (by decide) (eok_zero m h) (eok_zero m h) h6 sk (sok_decl (by decide) (dw _ (by decide)) h168) (fun _ hx => (List.not_mem_nil hx).elim)
/-- What the walk keeps of the memory ahead of the examples' loop. -/
structure KwOk (m : View) (H : List Res) (b1 b6 b172 : Nat) (L : List (Pr × Int)) : Prop where
  rd : Rd m H (some ⟨b172, 0, none⟩) 16 16 43 (fl kwE L)
  ok : ∀ x ∈ L, POk m H x.1 ∧ checkE x.1 = x.2
  ty : Res.pt b1 (.cells (cellT (tyK 1)).toArray 30 (0, 0)) ∈ H
  sk : kidR skipP b6 ∈ H
end Go.Proofs.YtdhmplmpbcnojaaGreatDoor
end
/- LwE -/
section
namespace Go.Proofs.YtdhmplmpbcnojaaGreatDoor
open Go.Eng Go.Pc Go.Tg Go
open Go.Xp hiding B nameT zeroT
open Go.Ty (Ty Vr eqT tyV cellT PrOk VOk prL encV encV_len encI encI_len zeroT)
open Go.Lx (encB encB_len)
set_option maxRecDepth 100000
theorem kn1 : ofX someE (sx 9 0 0 0 [118] []) = (tyK 1, 0) := by decide +kernel
theorem kn2 : ofX someE (sx 9 0 0 0 [120] []) = (zeroT, 130) := by decide +kernel
theorem kn3 : ofX someE (nmX [118]) = (⟨1, 4, 0, []⟩, 0) := by decide +kernel
abbrev bigX : Ex := sx 7 17 0 0 [] [nmX [120], nuX 3]
theorem kn4 : ofX someE (sx 8 0 2 0 [] [bigX]) = (tyK 2, 0) := by decide +kernel
theorem kn5 : ofX someE (sx 7 12 0 0 [] [nmX [120], nmX [107]]) = (zeroT, 130) := by decide +kernel
theorem kn6 : ofX someE (sx 6 26 0 0 [] [sx 7 22 0 0 [] [nmX [120], nuX 1]]) = (tyK 3, 0) := by decide +kernel
theorem kn7 : ofX someE (sx 5 0 0 0 [118] [nmX [107]]) = (zeroT, 130) := by decide +kernel
theorem kn8 : ofX someE zeroE = (zeroT, 2) := by decide +kernel
theorem kn9 : ofX someE (nmX [112]) = (zeroT, 130) := by decide +kernel
theorem kn10 : ofX someE (sx 7 14 0 0 [] [nmX [118], nmX [118]]) = (zeroT, 130) := by decide +kernel
theorem kn11 : ofX someE (sx 7 16 0 0 [] [bigX, bigX]) = (zeroT, 130) := by decide +kernel
theorem known_law {m : View} (hg : Glob m) (h : List Res) : CT Tryz.prog 7 [] h m Law := by
  have leaf : ∀ (h' : List Res) (k : Int) (s : B), 0 ≤ k ∧ k ≤ 255 → s.length ≤ 100 → Lies m h' (sx k 0 0 0 s []) (sx k 0 0 0 s []) := fun h' k s hk hs => lies_leaf hk (by decide) (by decide) (by decide) (by omega)
  refine CT.body Tryz.call7 Tryz.func7 rfl Tryz.ntmps7 (leB rfl) rfl ?_
  repeat first | refine sk fun K hK => ?_ | refine bk ?_ | refine rn fun _ => ?_
  refine xC ?_
  refine wn [] ?_
  repeat first | refine sk fun K hK => ?_ | refine bk ?_ | refine rn fun _ => ?_
  refine xG (PO.build Tryz.underlying30 rfl rfl rfl (EvP.cons Ev.const EvP.nil) rfl) ?_
  refine xG (PO.build Tryz.underlying30 rfl rfl rfl (EvP.cons Ev.const EvP.nil) rfl) ?_
  refine xW fun b1 => ?_
  refine xW fun b2 => ?_
  refine xS ?_
  refine xS ?_
  refine wn [1, 2] ?_
  repeat first | refine sk fun K hK => ?_ | refine bk ?_ | refine rn fun _ => ?_
  refine xf (E1 Ev.const) (nameX_ct _ _ _) ?_
  refine xf (E1 Ev.const) (numX_ct _ _ _) ?_
  refine xg (E3 Ev.const Et Et) (two_ct _ _ _ _ _) ?_
  rintro _ _ ⟨b17, rfl, rfl⟩
  refine xW fun b3 => ?_
  refine xS ?_
  refine wn [1, 2, 3] ?_
  repeat first | refine sk fun K hK => ?_ | refine bk ?_
  refine WC.drawS [2, 6, 9, 11, 15, 18, 21, 22, 23, 25, 28, 29, 30, 31, 34, 37, 38, 41, 46, 49, 51, 54, 55, 56, 58, 63] (.op 0 (.op 1 (.op 2 (.op 3 (.op 4 (.op 5 (.op 6 (.op 7 (.op 8 (.op 10 (.op 9 (.op 11 (.op 12 (.op 13 (.op 14 (.op 17 (.op 15 (.op 16 (.op 18 (.op 19 (.op 20 (.op 24 (.op 21 (.op 22 (.op 23 (.op 25 (.op 26 (.op 27 (.op 33 (.op 28 (.op 29 (.op 30 (.op 31 (.op 32 (.op 34 (.op 35 (.op 36 (.op 40 (.op 37 (.op 38 (.op 39 (.op 41 (.op 42 (.op 43 (.op 44 (.op 45 (.op 46 (.op 47 (.op 48 (.op 50 (.op 49 (.op 51 (.op 52 (.op 53 (.op 57 (.op 54 (.op 55 (.op 56 (.op 58 (.op 59 (.op 60 (.op 61 (.op 62 (.op 64 (.op 63 .nil))))))))))))))))))))))))))))))))))))))))))))))))))))))))))))))))) [65, 66, 67] _ [] mixed (fun _ _ _ _ _ h => h) [] (by kernel_rfl) ?_
  refine yG rfl (PO.build Tryz.underlying27 rfl rfl rfl (EvP.cons Ev.const (EvP.cons Ev.const EvP.nil)) rfl) ?_
  refine yG rfl (PO.loadA Tryz.underlying30 rfl rfl Et (by (repeat (first | assumption | exact mem0 _ | apply memT | apply List.mem_append_right))) rfl) ?_
  refine yf rfl (E3 Et Et Ev.const) (fun fr => hasX_ct hg (leaf _ 9 [118] (by decide) (by decide)) (tyK 1) 0 kn1) ?_
  refine yG rfl (PO.move Et) ?_
  refine yU rfl (PO.build Tryz.underlying27 rfl rfl rfl (EvP.cons Ev.const (EvP.cons Ev.const EvP.nil)) rfl) ?_
  refine yU rfl (PO.build Tryz.underlying30 rfl rfl rfl EvP.nil rfl) ?_
  refine SR.callU rfl rfl (GU.t rfl rfl) rfl Ev.func (Evs.cons Et (Evs.cons Et (Evs.cons Ev.const Evs.nil))) (fun fr => hasX_ct hg (leaf _ 9 [120] (by decide) (by decide)) zeroT 130 kn2) (leB rfl) ?_
  refine yG rfl (PO.pickAnd rfl rfl) ?_
  refine yG rfl (PO.move Et) ?_
  refine yU rfl (PO.build Tryz.underlying30 rfl rfl rfl (EvP.cons Ev.const (EvP.cons Ev.const EvP.nil)) rfl) ?_
  refine SR.callU rfl rfl (GU.t rfl rfl) rfl Ev.func (Evs.cons Ev.const Evs.nil) (fun fr => nameX_ct _ _ _) (leB rfl) ?_
  refine SR.callU rfl rfl (GU.t rfl rfl) rfl Ev.func (Evs.cons Et (Evs.cons Et (Evs.cons Ev.const Evs.nil))) (fun fr => hasX_ct hg (lies_nm (by decide)) ⟨1, 4, 0, []⟩ 0 kn3) (leB rfl) ?_
  refine yG rfl (PO.pickAnd rfl rfl) ?_
  refine yG rfl (PO.move Et) ?_
  refine yU rfl (PO.loadA Tryz.underlying27 rfl rfl Et (by (repeat (first | assumption | exact mem0 _ | apply memT | apply List.mem_append_right))) rfl) ?_
  refine yU rfl (PO.build Tryz.underlying30 rfl rfl rfl (EvP.cons Ev.const EvP.nil) rfl) ?_
  refine SR.buildSliceU rfl rfl (GU.t rfl rfl) rfl EL25 rfl (EvP.cons Et EvP.nil) rfl rfl (by decide) rfl (leB rfl) fun b33 => ?_
  refine yU rfl (PO.build Tryz.underlying27 rfl rfl rfl (EvP.cons Ev.const (EvP.cons Ev.const (EvP.cons Et EvP.nil))) rfl) ?_
  refine SR.callU rfl rfl (GU.t rfl rfl) rfl Ev.func (Evs.cons Et (Evs.cons Et (Evs.cons Ev.const Evs.nil))) (fun fr => hasX_ct hg (lies_one (lies_two (lies_nm (by decide)) (lies_nu (by decide)) b17 (by (repeat (first | assumption | exact mem0 _ | apply memT | apply List.mem_append_right))) (by decide)) b33 (by (repeat (first | assumption | exact mem0 _ | apply memT | apply List.mem_append_right))) (by decide) (by decide) (by decide) (by decide) (by decide)) (tyK 2) 0 kn4) (leB rfl) ?_
  refine yG rfl (PO.pickAnd rfl rfl) ?_
  refine yG rfl (PO.move Et) ?_
  refine yU rfl (PO.build Tryz.underlying30 rfl rfl rfl EvP.nil rfl) ?_
  refine SR.callU rfl rfl (GU.t rfl rfl) rfl Ev.func (Evs.cons Ev.const Evs.nil) (fun fr => nameX_ct _ _ _) (leB rfl) ?_
  refine SR.callU rfl rfl (GU.t rfl rfl) rfl Ev.func (Evs.cons Ev.const Evs.nil) (fun fr => nameX_ct _ _ _) (leB rfl) ?_
  refine SR.callXU rfl rfl (GU.t rfl rfl) rfl Ev.func (Evs.cons Ev.const (Evs.cons Et (Evs.cons Et Evs.nil))) (fun fr => two_t _ _ 12 (nmX [120]) (nmX [107]) _) (leB rfl) (fun fr v hv hx => ?_) fun v41 h41 hr41 => ?_
  · exact hx.elim
  obtain ⟨b41, rfl, rfl⟩ := hr41
  refine SR.callU rfl rfl (GU.t rfl rfl) rfl Ev.func (Evs.cons Et (Evs.cons Et (Evs.cons Ev.const Evs.nil))) (fun fr => hasX_ct hg (lies_two (lies_nm (by decide)) (lies_nm (by decide)) b41 (by (repeat (first | assumption | exact mem0 _ | apply memT | apply List.mem_append_right))) (by decide)) zeroT 130 kn5) (leB rfl) ?_
  refine yG rfl (PO.pickAnd rfl rfl) ?_
  refine yG rfl (PO.move Et) ?_
  refine yU rfl (PO.loadA Tryz.underlying30 rfl rfl Et (by (repeat (first | assumption | exact mem0 _ | apply memT | apply List.mem_append_right))) rfl) ?_
  refine SR.callU rfl rfl (GU.t rfl rfl) rfl Ev.func (Evs.cons Ev.const Evs.nil) (fun fr => nameX_ct _ _ _) (leB rfl) ?_
  refine SR.callU rfl rfl (GU.t rfl rfl) rfl Ev.func (Evs.cons Ev.const Evs.nil) (fun fr => numX_ct _ _ _) (leB rfl) ?_
  refine SR.callXU rfl rfl (GU.t rfl rfl) rfl Ev.func (Evs.cons Ev.const (Evs.cons Et (Evs.cons Et Evs.nil))) (fun fr => two_t _ _ 22 (nmX [120]) (nuX 1) _) (leB rfl) (fun fr v hv hx => ?_) fun v48 h48 hr48 => ?_
  · exact hx.elim
  obtain ⟨b48, rfl, rfl⟩ := hr48
  refine SR.buildSliceU rfl rfl (GU.t rfl rfl) rfl EL25 rfl (EvP.cons Et EvP.nil) rfl rfl (by decide) rfl (leB rfl) fun b49 => ?_
  refine yU rfl (PO.build Tryz.underlying27 rfl rfl rfl (EvP.cons Ev.const (EvP.cons Ev.const (EvP.cons Et EvP.nil))) rfl) ?_
  refine SR.callU rfl rfl (GU.t rfl rfl) rfl Ev.func (Evs.cons Et (Evs.cons Et (Evs.cons Ev.const Evs.nil))) (fun fr => hasX_ct hg (lies_one (lies_two (lies_nm (by decide)) (lies_nu (by decide)) b48 (by (repeat (first | assumption | exact mem0 _ | apply memT | apply List.mem_append_right))) (by decide)) b49 (by (repeat (first | assumption | exact mem0 _ | apply memT | apply List.mem_append_right))) (by decide) (by decide) (by decide) (by decide) (by decide)) (tyK 3) 0 kn6) (leB rfl) ?_
  refine yG rfl (PO.pickAnd rfl rfl) ?_
  refine yG rfl (PO.move Et) ?_
  refine yU rfl (PO.build Tryz.underlying30 rfl rfl rfl EvP.nil rfl) ?_
  refine SR.callU rfl rfl (GU.t rfl rfl) rfl Ev.func (Evs.cons Ev.const Evs.nil) (fun fr => nameX_ct _ _ _) (leB rfl) ?_
  refine SR.buildSliceU rfl rfl (GU.t rfl rfl) rfl EL25 rfl (EvP.cons Et EvP.nil) rfl rfl (by decide) rfl (leB rfl) fun b56 => ?_
  refine yU rfl (PO.build Tryz.underlying27 rfl rfl rfl (EvP.cons Ev.const (EvP.cons Ev.const (EvP.cons Et EvP.nil))) rfl) ?_
  refine SR.callU rfl rfl (GU.t rfl rfl) rfl Ev.func (Evs.cons Et (Evs.cons Et (Evs.cons Ev.const Evs.nil))) (fun fr => hasX_ct hg (lies_one (lies_nm (by decide)) b56 (by (repeat (first | assumption | exact mem0 _ | apply memT | apply List.mem_append_right))) (by decide) (by decide) (by decide) (by decide) (by decide)) zeroT 130 kn7) (leB rfl) ?_
  refine yG rfl (PO.pickAnd rfl rfl) ?_
  refine yG rfl (PO.move Et) ?_
  refine yU rfl (PO.build Tryz.underlying27 rfl rfl rfl EvP.nil rfl) ?_
  refine yU rfl (PO.build Tryz.underlying30 rfl rfl rfl EvP.nil rfl) ?_
  refine SR.callU rfl rfl (GU.t rfl rfl) rfl Ev.func (Evs.cons Et (Evs.cons Et (Evs.cons Ev.const Evs.nil))) (fun fr => hasX_ct hg (leaf _ 0 [] (by decide) (by decide)) zeroT 2 kn8) (leB rfl) ?_
  refine yG rfl (PO.pickAnd rfl rfl) ?_
  refine yG rfl (PO.move Et) ?_
  refine yU rfl (PO.build Tryz.underlying30 rfl rfl rfl EvP.nil rfl) ?_
  refine SR.callU rfl rfl (GU.t rfl rfl) rfl Ev.func (Evs.cons Ev.const Evs.nil) (fun fr => nameX_ct _ _ _) (leB rfl) ?_
  refine SR.callU rfl rfl (GU.t rfl rfl) rfl Ev.func (Evs.cons Et (Evs.cons Et (Evs.cons Ev.const Evs.nil))) (fun fr => hasX_ct hg (lies_nm (by decide)) zeroT 130 kn9) (leB rfl) ?_
  refine yG rfl (PO.pickAnd rfl rfl) ?_
  refine yG rfl (PO.move Et) ?_
  refine yU rfl (PO.build Tryz.underlying30 rfl rfl rfl EvP.nil rfl) ?_
  refine SR.callU rfl rfl (GU.t rfl rfl) rfl Ev.func (Evs.cons Ev.const Evs.nil) (fun fr => nameX_ct _ _ _) (leB rfl) ?_
  refine SR.callU rfl rfl (GU.t rfl rfl) rfl Ev.func (Evs.cons Ev.const Evs.nil) (fun fr => nameX_ct _ _ _) (leB rfl) ?_
  refine SR.callXU rfl rfl (GU.t rfl rfl) rfl Ev.func (Evs.cons Ev.const (Evs.cons Et (Evs.cons Et Evs.nil))) (fun fr => two_t _ _ 14 (nmX [118]) (nmX [118]) _) (leB rfl) (fun fr v hv hx => ?_) fun v74 h74 hr74 => ?_
  · exact hx.elim
  obtain ⟨b74, rfl, rfl⟩ := hr74
  refine SR.callU rfl rfl (GU.t rfl rfl) rfl Ev.func (Evs.cons Et (Evs.cons Et (Evs.cons Ev.const Evs.nil))) (fun fr => hasX_ct hg (lies_two (lies_nm (by decide)) (lies_nm (by decide)) b74 (by (repeat (first | assumption | exact mem0 _ | apply memT | apply List.mem_append_right))) (by decide)) zeroT 130 kn10) (leB rfl) ?_
  refine yG rfl (PO.pickAnd rfl rfl) ?_
  refine yG rfl (PO.move Et) ?_
  refine yU rfl (PO.loadA Tryz.underlying27 rfl rfl Et (by (repeat (first | assumption | exact mem0 _ | apply memT | apply List.mem_append_right))) rfl) ?_
  refine yU rfl (PO.loadA Tryz.underlying27 rfl rfl Et (by (repeat (first | assumption | exact mem0 _ | apply memT | apply List.mem_append_right))) rfl) ?_
  refine yU rfl (PO.build Tryz.underlying30 rfl rfl rfl EvP.nil rfl) ?_
  refine SR.callXU rfl rfl (GU.t rfl rfl) rfl Ev.func (Evs.cons Ev.const (Evs.cons Et (Evs.cons Et Evs.nil))) (fun fr => two_t _ _ 16 (twoX 17 (nmX [120]) (nuX 3) b17) (twoX 17 (nmX [120]) (nuX 3) b17) _) (leB rfl) (fun fr v hv hx => ?_) fun v81 h81 hr81 => ?_
  · exact hx.elim
  obtain ⟨b81, rfl, rfl⟩ := hr81
  refine SR.nil rfl (appO_any _ _) ?_
  refine zU ?_
  refine xf (E3 Et Et Ev.const) (hasX_ct hg (lies_two (lies_two (lies_nm (by decide)) (lies_nu (by decide)) b17 (by (repeat (first | assumption | exact mem0 _ | apply memT | apply List.mem_append_right))) (by decide)) (lies_two (lies_nm (by decide)) (lies_nu (by decide)) b17 (by (repeat (first | assumption | exact mem0 _ | apply memT | apply List.mem_append_right))) (by decide)) b81 (by (repeat (first | assumption | exact mem0 _ | apply memT | apply List.mem_append_right))) (by decide)) zeroT 130 kn11) ?_
  refine xP ?_
  refine xA ?_
  refine wn [1, 3, 4] ?_
  try clear hG ops
  repeat first | refine sk fun K hK => ?_ | refine bk ?_ | refine rn fun _ => ?_
  refine xf (E1 Ev.const) (nameX_ct _ _ _) ?_
  refine xY EL25 (EvP.cons Et EvP.nil) fun b86 => ?_
  refine xA ?_
  refine wn [1, 3, 4, 5] ?_
  repeat first | refine sk fun K hK => ?_ | refine bk ?_ | refine rn fun _ => ?_
  refine xG (PO.build Tryz.underlying56 rfl rfl rfl (EvP.cons Ev.const EvP.nil) rfl) ?_
  refine xY EL45 (EvP.cons Et EvP.nil) fun b88 => ?_
  refine xA ?_
  refine wn [1, 3, 4, 5, 6] ?_
  repeat first | refine sk fun K hK => ?_ | refine bk ?_
  refine WC.drawM [0, 4, 5, 6, 7, 8, 11, 15, 19, 23, 24, 26, 27, 28, 29, 31, 34, 35, 38, 39, 41, 49, 50, 51, 55, 63, 74, 79, 83, 4096] (.op 1 (.op 12 (.op 16 (.op 20 (.op 37 (.op 44 (.op 45 (.op 46 (.op 47 (.op 48 (.op 54 (.op 58 (.op 59 (.op 60 (.op 61 (.op 62 (.op 66 (.op 67 (.op 68 (.op 69 (.op 70 (.op 71 (.op 72 (.op 73 (.op 75 (.op 78 (.op 80 (.op 85 (.op 0 (.op 2 (.op 3 (.op 4 (.op 5 (.op 6 (.op 7 (.op 11 (.op 13 (.op 14 (.op 15 (.op 17 (.op 18 (.op 19 (.op 21 (.op 22 (.op 23 (.op 24 (.op 25 (.op 26 (.op 28 (.op 34 (.op 35 (.op 36 (.op 38 (.op 49 (.op 50 (.op 74 (.op 76 (.op 77 (.op 79 (.op 81 (.op 82 (.op 8 (.op 9 (.op 10 (.op 27 (.op 29 (.op 30 (.op 31 (.op 32 (.op 33 (.op 39 (.op 40 (.op 41 (.op 42 (.op 43 (.op 51 (.op 52 (.op 53 (.op 55 (.op 56 (.op 57 (.op 63 (.op 64 (.op 65 (.op 83 (.op 84 .nil)))))))))))))))))))))))))))))))))))))))))))))))))))))))))))))))))))))))))))))))))))))) [] _ [] mixed (fun _ _ _ h => noPanic h) [] (by kernel_rfl) ?_
  refine yG rfl (PO.move Et) ?_
  refine yG rfl (PO.move Et) ?_
  refine yG rfl (PO.move Et) ?_
  refine yG rfl (PO.move Et) ?_
  refine yG rfl (PO.move Et) ?_
  refine yG rfl (PO.move Et) ?_
  refine yG rfl (PO.move Et) ?_
  refine yG rfl (PO.build Tryz.underlying56 rfl rfl rfl (EvP.cons Ev.const (EvP.cons Et (EvP.cons Et EvP.nil))) rfl) ?_
  refine yG rfl (PO.build Tryz.underlying67 rfl rfl rfl (EvP.cons Et (EvP.cons Ev.const EvP.nil)) rfl) ?_
  refine yG rfl (PO.move Et) ?_
  refine yG rfl (PO.loadA Tryz.underlying27 rfl rfl Et (by (repeat (first | assumption | exact mem0 _ | apply memT | apply List.mem_append_right))) rfl) ?_
  refine yG rfl (PO.move Et) ?_
  refine yG rfl (PO.move Et) ?_
  refine yG rfl (PO.build Tryz.underlying70 rfl rfl rfl (EvP.cons Ev.const (EvP.cons Et EvP.nil)) rfl) ?_
  refine yG rfl (PO.move Et) ?_
  refine yG rfl (PO.build Tryz.underlying70 rfl rfl rfl (EvP.cons Ev.const (EvP.cons Et EvP.nil)) rfl) ?_
  refine yG rfl (PO.build Tryz.underlying56 rfl rfl rfl (EvP.cons Ev.const (EvP.cons Ev.const EvP.nil)) rfl) ?_
  refine yG rfl (PO.build Tryz.underlying67 rfl rfl rfl (EvP.cons Et (EvP.cons Ev.const EvP.nil)) rfl) ?_
  refine yG rfl (PO.build Tryz.underlying56 rfl rfl rfl (EvP.cons Ev.const (EvP.cons Ev.const EvP.nil)) rfl) ?_
  refine yG rfl (PO.build Tryz.underlying67 rfl rfl rfl (EvP.cons Et (EvP.cons Ev.const EvP.nil)) rfl) ?_
  refine yG rfl (PO.move Et) ?_
  refine yG rfl (PO.build Tryz.underlying56 rfl rfl rfl (EvP.cons Ev.const (EvP.cons Et EvP.nil)) rfl) ?_
  refine yG rfl (PO.build Tryz.underlying67 rfl rfl rfl (EvP.cons Et (EvP.cons Ev.const EvP.nil)) rfl) ?_
  refine yG rfl (PO.build Tryz.underlying30 rfl rfl rfl (EvP.cons Ev.const (EvP.cons Ev.const EvP.nil)) rfl) ?_
  refine yG rfl (PO.move Et) ?_
  refine yG rfl (PO.build Tryz.underlying30 rfl rfl rfl (EvP.cons Ev.const (EvP.cons Ev.const EvP.nil)) rfl) ?_
  refine yG rfl (PO.move Et) ?_
  refine yG rfl (PO.move Ev.const) ?_
  refine yf rfl (E1 Ev.const) (fun fr => nameX_ct _ _ _) ?_
  refine yG rfl (PO.build Tryz.underlying56 rfl rfl rfl (EvP.cons Ev.const (EvP.cons Et (EvP.cons Et EvP.nil))) rfl) ?_
  refine yG rfl (PO.build Tryz.underlying67 rfl rfl rfl (EvP.cons Et (EvP.cons Ev.const EvP.nil)) rfl) ?_
  refine yf rfl (E1 Ev.const) (fun fr => nameX_ct _ _ _) ?_
  refine yf rfl (E1 Ev.const) (fun fr => nameX_ct _ _ _) ?_
  refine yf rfl (E1 Ev.const) (fun fr => numX_ct _ _ _) ?_
  refine SR.callX rfl rfl Ev.func (Evs.cons Ev.const (Evs.cons Et (Evs.cons Et Evs.nil))) (fun fr => two_t _ _ 6 (nmX [120]) (nuX 10) _) (leB rfl) (fun fr v hv hx => ?_) fun v96 h96 hr96 => ?_
  · exact hx.elim
  obtain ⟨b96, rfl, rfl⟩ := hr96
  refine yf rfl (E1 Ev.const) (fun fr => nameX_ct _ _ _) ?_
  refine yG rfl (PO.build Tryz.underlying56 rfl rfl rfl (EvP.cons Ev.const (EvP.cons Et (EvP.cons Et EvP.nil))) rfl) ?_
  refine yG rfl (PO.build Tryz.underlying67 rfl rfl rfl (EvP.cons Et (EvP.cons Ev.const EvP.nil)) rfl) ?_
  refine yf rfl (E1 Ev.const) (fun fr => nameX_ct _ _ _) ?_
  refine yG rfl (PO.build Tryz.underlying56 rfl rfl rfl (EvP.cons Ev.const (EvP.cons Et (EvP.cons Et EvP.nil))) rfl) ?_
  refine yG rfl (PO.build Tryz.underlying67 rfl rfl rfl (EvP.cons Et (EvP.cons Ev.const EvP.nil)) rfl) ?_
  refine yf rfl (E1 Ev.const) (fun fr => nameX_ct _ _ _) ?_
  refine yG rfl (PO.build Tryz.underlying56 rfl rfl rfl (EvP.cons Ev.const (EvP.cons Et (EvP.cons Et EvP.nil))) rfl) ?_
  refine yG rfl (PO.build Tryz.underlying67 rfl rfl rfl (EvP.cons Et (EvP.cons Ev.const EvP.nil)) rfl) ?_
  refine yf rfl (E1 Ev.const) (fun fr => numX_ct _ _ _) ?_
  refine yf rfl (E1 Ev.const) (fun fr => nameX_ct _ _ _) ?_
  refine yG rfl (PO.build Tryz.underlying43 rfl rfl rfl (EvP.cons Ev.const (EvP.cons Et (EvP.cons Et EvP.nil))) rfl) ?_
  refine yf rfl (E1 Ev.const) (fun fr => nameX_ct _ _ _) ?_
  refine yf rfl (E1 Ev.const) (fun fr => numX_ct _ _ _) ?_
  refine yf rfl (E1 Ev.const) (fun fr => numX_ct _ _ _) ?_
  refine yf rfl (E1 Ev.const) (fun fr => nameX_ct _ _ _) ?_
  refine yG rfl (PO.build Tryz.underlying43 rfl rfl rfl (EvP.cons Ev.const (EvP.cons Et (EvP.cons Et EvP.nil))) rfl) ?_
  refine yf rfl (E1 Ev.const) (fun fr => nameX_ct _ _ _) ?_
  refine yf rfl (E1 Ev.const) (fun fr => numX_ct _ _ _) ?_
  refine yf rfl (E1 Ev.const) (fun fr => numX_ct _ _ _) ?_
  refine SR.callX rfl rfl Ev.func (Evs.cons Ev.const (Evs.cons Et Evs.nil)) (fun fr => decl_t _ _ [100] ⟨4, 0, 0, [113]⟩ _) (leB rfl) (fun fr v hv hx => ?_) fun v163 h163 hr163 => ?_
  · exact hx.elim
  obtain ⟨b163, rfl, rfl⟩ := hr163
  refine yG rfl (PO.build Tryz.underlying56 rfl rfl rfl (EvP.cons Ev.const (EvP.cons Et (EvP.cons Et EvP.nil))) rfl) ?_
  refine yG rfl (PO.build Tryz.underlying67 rfl rfl rfl (EvP.cons Et (EvP.cons Ev.const EvP.nil)) rfl) ?_
  refine SR.callX rfl rfl Ev.func (Evs.cons Ev.const (Evs.cons Et Evs.nil)) (fun fr => decl_t _ _ [100] ⟨4, 0, 0, [120]⟩ _) (leB rfl) (fun fr v hv hx => ?_) fun v168 h168 hr168 => ?_
  · exact hx.elim
  obtain ⟨b168, rfl, rfl⟩ := hr168
  refine yG rfl (PO.build Tryz.underlying56 rfl rfl rfl (EvP.cons Ev.const (EvP.cons Et (EvP.cons Et EvP.nil))) rfl) ?_
  refine yG rfl (PO.build Tryz.underlying67 rfl rfl rfl (EvP.cons Et (EvP.cons Ev.const EvP.nil)) rfl) ?_
  refine SR.buildSlice rfl rfl EL25 rfl (EvP.cons Et EvP.nil) rfl rfl (by decide) rfl (leB rfl) fun b97 => ?_
  refine yG rfl (PO.build Tryz.underlying56 rfl rfl rfl (EvP.cons Ev.const (EvP.cons Et (EvP.cons Et EvP.nil))) rfl) ?_
  refine yG rfl (PO.build Tryz.underlying67 rfl rfl rfl (EvP.cons Et (EvP.cons Ev.const EvP.nil)) rfl) ?_
  refine SR.buildSlice rfl rfl EL25 rfl (EvP.cons Et EvP.nil) rfl rfl (by decide) rfl (leB rfl) fun b116 => ?_
  refine SR.buildSlice rfl rfl EL25 rfl (EvP.cons Et EvP.nil) rfl rfl (by decide) rfl (leB rfl) fun b118 => ?_
  refine yG rfl (PO.build Tryz.underlying56 rfl rfl rfl (EvP.cons Ev.const (EvP.cons Et (EvP.cons Et EvP.nil))) rfl) ?_
  refine SR.buildSlice rfl rfl EL45 rfl (EvP.cons Et EvP.nil) rfl rfl (by decide) rfl (leB rfl) fun b120 => ?_
  refine yG rfl (PO.build Tryz.underlying56 rfl rfl rfl (EvP.cons Ev.const (EvP.cons Et (EvP.cons Et EvP.nil))) rfl) ?_
  refine yG rfl (PO.build Tryz.underlying67 rfl rfl rfl (EvP.cons Et (EvP.cons Ev.const EvP.nil)) rfl) ?_
  refine SR.buildSlice rfl rfl EL25 rfl (EvP.cons Et EvP.nil) rfl rfl (by decide) rfl (leB rfl) fun b128 => ?_
  refine yG rfl (PO.build Tryz.underlying56 rfl rfl rfl (EvP.cons Ev.const (EvP.cons Et (EvP.cons Et EvP.nil))) rfl) ?_
  refine SR.buildSlice rfl rfl EL45 rfl (EvP.cons Et EvP.nil) rfl rfl (by decide) rfl (leB rfl) fun b130 => ?_
  refine yG rfl (PO.build Tryz.underlying56 rfl rfl rfl (EvP.cons Ev.const (EvP.cons Et (EvP.cons Et EvP.nil))) rfl) ?_
  refine yG rfl (PO.build Tryz.underlying67 rfl rfl rfl (EvP.cons Et (EvP.cons Ev.const EvP.nil)) rfl) ?_
  refine SR.buildSlice rfl rfl EL25 rfl (EvP.cons Et (EvP.cons Et EvP.nil)) rfl rfl (by decide) rfl (leB rfl) fun b140 => ?_
  refine yG rfl (PO.build Tryz.underlying56 rfl rfl rfl (EvP.cons Ev.const (EvP.cons Et (EvP.cons Et EvP.nil))) rfl) ?_
  refine yG rfl (PO.build Tryz.underlying67 rfl rfl rfl (EvP.cons Et (EvP.cons Ev.const EvP.nil)) rfl) ?_
  refine SR.buildSlice rfl rfl EL25 rfl (EvP.cons Et EvP.nil) rfl rfl (by decide) rfl (leB rfl) fun b144 => ?_
  refine yG rfl (PO.build Tryz.underlying56 rfl rfl rfl (EvP.cons Ev.const (EvP.cons Et EvP.nil)) rfl) ?_
  refine yG rfl (PO.build Tryz.underlying67 rfl rfl rfl (EvP.cons Et (EvP.cons Ev.const EvP.nil)) rfl) ?_
  refine SR.buildSlice rfl rfl EL44 rfl (EvP.cons Et (EvP.cons Et EvP.nil)) rfl rfl (by decide) rfl (leB rfl) fun b152 => ?_
  refine yG rfl (PO.build Tryz.underlying56 rfl rfl rfl (EvP.cons Ev.const (EvP.cons Et (EvP.cons Et EvP.nil))) rfl) ?_
  refine yG rfl (PO.build Tryz.underlying67 rfl rfl rfl (EvP.cons Et (EvP.cons Ev.const EvP.nil)) rfl) ?_
  refine SR.buildSlice rfl rfl EL72 rfl (EvP.cons Et (EvP.cons Et (EvP.cons Et (EvP.cons Et (EvP.cons Et (EvP.cons Et (EvP.cons Et (EvP.cons Et (EvP.cons Et (EvP.cons Et (EvP.cons Et (EvP.cons Et (EvP.cons Et (EvP.cons Et (EvP.cons Et (EvP.cons Et EvP.nil)))))))))))))))) rfl rfl (by decide) rfl (leB rfl) fun b172 => ?_
  refine yG rfl (PO.lenSl Tryz.underlying72 Et) ?_
  refine SR.nil rfl rfl ?_
  refine WL.abs (fun H => ∃ L, KwOk m H b1 b88 b172 L) ?_ fun H hH => ?_
  · refine ⟨kwL b86 b88 b17 b96 b97 b116 b118 b120 b128 b130 b140 b144 b152 b163 b168, ?_, fun x hx => ⟨?_, kw_all x hx⟩, ?_, ?_⟩
    · exact Rd.ofPt rfl (by decide) (by (repeat (first | assumption | exact mem0 _ | apply memT | apply List.mem_append_right)))
    · exact kw_pok (by (repeat (first | assumption | exact mem0 _ | apply memT | apply List.mem_append_right))) (by (repeat (first | assumption | exact mem0 _ | apply memT | apply List.mem_append_right))) (by (repeat (first | assumption | exact mem0 _ | apply memT | apply List.mem_append_right))) (by (repeat (first | assumption | exact mem0 _ | apply memT | apply List.mem_append_right))) (by (repeat (first | assumption | exact mem0 _ | apply memT | apply List.mem_append_right))) (by (repeat (first | assumption | exact mem0 _ | apply memT | apply List.mem_append_right))) (by (repeat (first | assumption | exact mem0 _ | apply memT | apply List.mem_append_right))) (by (repeat (first | assumption | exact mem0 _ | apply memT | apply List.mem_append_right))) (by (repeat (first | assumption | exact mem0 _ | apply memT | apply List.mem_append_right))) (by (repeat (first | assumption | exact mem0 _ | apply memT | apply List.mem_append_right))) (by (repeat (first | assumption | exact mem0 _ | apply memT | apply List.mem_append_right))) (by (repeat (first | assumption | exact mem0 _ | apply memT | apply List.mem_append_right))) (by (repeat (first | assumption | exact mem0 _ | apply memT | apply List.mem_append_right))) (by (repeat (first | assumption | exact mem0 _ | apply memT | apply List.mem_append_right))) (by (repeat (first | assumption | exact mem0 _ | apply memT | apply List.mem_append_right))) x hx
    · (repeat (first | assumption | exact mem0 _ | apply memT | apply List.mem_append_right))
    · (repeat (first | assumption | exact mem0 _ | apply memT | apply List.mem_append_right))
  obtain ⟨L, hW⟩ := hH
  have hLn := hW.rd.lenF kwE_len (by decide)
  have hty := hW.ty
  have hsk := hW.sk
  have hrd := hW.rd
  refine wn [1, 4, 6, 172, 173, 174] ?_
  repeat first | refine sk fun K hK => ?_ | refine bk ?_
  refine WC.loopI [1, 6, 172, 173] rfl (fun μ F' h' => ∃ i : Nat, (i ≤ 16) ∧ 16 - i = μ ∧ F' = [(4, .bool true), (174, .int .i64 i)] ∧ H = h') (16 - 0) [(4, .bool true), (174, .int .i64 0)] (h0 := H) ?_ Sb ⟨0, by omega, rfl, rfl, rfl⟩ ?_
  (repeat (first | exact Sub.nil | refine Sub.cons rfl ?_ | refine Sub.consE rfl (by simp; done) ?_))
  rintro _ _ _ ⟨i, hi, rfl, rfl, rfl⟩
  refine WC.frm rfl ?_
  repeat first | refine sk fun K hK => ?_ | refine bk ?_ | refine rn fun _ => ?_
  refine xG (PO.bin Et Et rfl) ?_
  refine wn [1, 4, 6, 172, 173, 174, 175] ?_
  repeat first | refine sk fun K hK => ?_ | refine bk ?_
  refine wc (fun c175 => ?_) fun c175 => ?_
  replace c175 := of_decide_eq_true c175
  obtain ⟨x, hx⟩ := get_some (l := L) (k := i) (by omega)
  have hxm := List.mem_of_getElem? hx
  obtain ⟨hxo, hxc⟩ := hW.ok x hxm
  refine WC.skip (kp [1, 4, 6, 172, 173, 174] ?_)
  repeat first | refine sk fun K hK => ?_ | refine bk ?_ | refine rn fun _ => ?_
  refine xG (PO.idx EL72.und EL72.size EL72.posz Et Et (by first | assumption | exact Rd.ofSl (by assumption) | exact Rd.ofPt rfl (by decide) (by (repeat (first | assumption | exact mem0 _ | apply memT | apply List.mem_append_right))) | exact Rd.mono (by assumption) (View.le.refl _) Sb | exact Rd.inRow (by (repeat (first | assumption | exact mem0 _ | apply memT | apply List.mem_append_right))) (by assumption) (by assumption) (by assumption)) rfl (by omega)) ?_
  refine xG (PO.loadFA Tryz.underlying67 rfl rfl kwE_len (by first | assumption | exact Rd.ofSl (by assumption) | exact Rd.ofPt rfl (by decide) (by (repeat (first | assumption | exact mem0 _ | apply memT | apply List.mem_append_right))) | exact Rd.mono (by assumption) (View.le.refl _) Sb | exact Rd.inRow (by (repeat (first | assumption | exact mem0 _ | apply memT | apply List.mem_append_right))) (by assumption) (by assumption) (by assumption)) Et (by assumption) rfl rfl (Nat.succ_pos _)) ?_
  refine xW fun b8 => ?_
  refine xS ?_
  refine wn [1, 4, 6, 8, 172, 173, 174] ?_
  repeat first | refine sk fun K hK => ?_ | refine bk ?_
  refine WC.drawS [4, 5] (.op 0 (.op 1 (.op 2 (.op 3 (.op 6 (.op 7 (.op 4 (.op 5 .nil)))))))) [8, 9, 10] _ [] mixed (fun _ _ _ _ _ h => h) [] (by kernel_rfl) ?_
  refine yG rfl (PO.move Et) ?_
  refine yG rfl (PO.move Et) ?_
  refine yU rfl (pF Tryz.underlying67) ?_
  refine yU rfl (PO.loadA Tryz.underlying56 rfl rfl Et (by (repeat (first | assumption | exact mem0 _ | apply memT | apply List.mem_append_right))) rfl) ?_
  refine yU rfl (pF Tryz.underlying67) ?_
  refine yU rfl (PO.load1 Tryz.underlying31 rfl Et (by (repeat (first | assumption | exact mem0 _ | apply memT | apply List.mem_append_right))) rfl) ?_
  refine SR.callXU rfl rfl (GU.t rfl rfl) rfl Ev.func Evs.nil (fun fr => some_t [] _ _) (leB rfl) (fun fr v hv hx => ?_) fun v182 h182 hr182 => ?_
  · exact hx.elim
  obtain ⟨a182, c182, L182, r182, rfl, rfl, hE182⟩ := hr182
  refine SR.callU rfl rfl (GU.t rfl rfl) rfl Ev.func (Evs.cons Et (Evs.cons Et Evs.nil)) (fun fr => chk_ct hg (hxo.mono Sb) (hE182.mono (subR fr [] h182 _)) x.2 hxc) (leB rfl) ?_
  refine SR.nil rfl (appO_any _ _) ?_
  refine zU ?_
  refine xG (PO.bin Et Et rfl) ?_
  refine xP ?_
  refine xA ?_
  refine wV (b' := true) (by simp) ?_
  refine wn [1, 4, 6, 172, 173, 174] ?_
  try clear hG ops
  repeat first | refine sk fun K hK => ?_ | refine bk ?_ | refine rn fun _ => ?_
  refine xG (PO.addI Et Ev.const (by omega)) ?_
  refine xM ?_
  refine WL.nil (loopBackI (16 - (i + 1)) [(4, .bool true), (174, .int .i64 (i + 1))] (h'' := H) (by omega) ?_ (by (repeat (first | exact Sub.nil | refine Sub.cons rfl ?_ | refine Sub.consE rfl (by simp; done) ?_))) Sb ⟨i + 1, by omega, rfl, rfl, rfl⟩)
  (repeat (first | exact Sub.nil | refine Sub.cons rfl ?_ | refine Sub.consE rfl (by simp; done) ?_))
  replace c175 := of_decide_eq_false c175
  refine WC.exit (kp [1, 4, 6] ?_)
  repeat first | refine sk fun K hK => ?_ | refine bk ?_ | refine rn fun _ => ?_
  refine xY EL48 (EvP.cons Ev.const EvP.nil) fun b189 => ?_
  refine xG (PO.loadA Tryz.underlying30 rfl rfl Et (by (repeat (first | assumption | exact mem0 _ | apply memT | apply List.mem_append_right))) rfl) ?_
  refine xG (PO.build Tryz.underlying60 rfl rfl rfl (EvP.cons Ev.const (EvP.cons Et (EvP.cons Ev.const EvP.nil))) rfl) ?_
  refine xG (PO.loadA Tryz.underlying30 rfl rfl Et (by (repeat (first | assumption | exact mem0 _ | apply memT | apply List.mem_append_right))) rfl) ?_
  refine xG (PO.build Tryz.underlying60 rfl rfl rfl (EvP.cons Et (EvP.cons Ev.const EvP.nil)) rfl) ?_
  refine xG (PO.build Tryz.underlying30 rfl rfl rfl (EvP.cons Ev.const (EvP.cons Ev.const EvP.nil)) rfl) ?_
  refine xG (PO.build Tryz.underlying60 rfl rfl rfl (EvP.cons Et (EvP.cons Ev.const EvP.nil)) rfl) ?_
  refine xY EL52 (EvP.cons Et (EvP.cons Et (EvP.cons Et EvP.nil))) fun b196 => ?_
  refine xM ?_
  refine xG (PO.build Tryz.underlying54 rfl rfl rfl (EvP.cons Ev.const (EvP.cons Et (EvP.cons Et (EvP.cons Et EvP.nil)))) rfl) ?_
  refine xW fun b9 => ?_
  refine xS ?_
  refine wn [4, 9] ?_
  repeat first | refine sk fun K hK => ?_ | refine bk ?_ | refine rn fun _ => ?_
  refine xG (PO.makeFunc Evs.nil (Evs.cons Et Evs.nil)) ?_
  refine xA ?_
  refine wn [4, 10] ?_
  repeat first | refine sk fun K hK => ?_ | refine bk ?_ | refine rn fun _ => ?_
  refine xg E0 (someC_ct _ _) ?_
  rintro _ _ ⟨e2, e4, e6, e10, e11, e12, e14, e18, e19, rfl, rfl⟩
  refine xg E0 (someC_ct _ _) ?_
  rintro _ _ ⟨d2, d4, d6, d10, d11, d12, d14, d18, d19, rfl, rfl⟩
  have hSe := (some_ok m e2 e4 e6 e10 e11 e12 e14 e18 e19).rd
  have hSd := (some_ok m d2 d4 d6 d10 d11 d12 d14 d18 d19).rd
  have hx4 : (someL d2 d4 d6 d10 d11 d12 d14 d18)[4]? = some (protS d11 d12 d14) := rfl
  refine xG (PO.idx EL28.und EL28.size EL28.posz Et Ev.const (by first | assumption | exact Rd.ofSl (by assumption) | exact Rd.ofPt rfl (by decide) (by (repeat (first | assumption | exact mem0 _ | apply memT | apply List.mem_append_right))) | exact Rd.mono (by assumption) (View.le.refl _) Sb | exact Rd.inRow (by (repeat (first | assumption | exact mem0 _ | apply memT | apply List.mem_append_right))) (by assumption) (by assumption) (by assumption)) rfl (q := 4) (by omega)) ?_
  refine xG (PO.loadFA Tryz.underlying54 rfl rfl spE_len (by first | assumption | exact Rd.ofSl (by assumption) | exact Rd.ofPt rfl (by decide) (by (repeat (first | assumption | exact mem0 _ | apply memT | apply List.mem_append_right))) | exact Rd.mono (by assumption) (View.le.refl _) Sb | exact Rd.inRow (by (repeat (first | assumption | exact mem0 _ | apply memT | apply List.mem_append_right))) (by assumption) (by assumption) (by assumption)) Et (by assumption) rfl rfl (Nat.succ_pos _)) ?_
  refine xY EL28 (EvP.cons Et EvP.nil) fun b204 => ?_
  refine WL.appendR EL28 Et Et (by first | assumption | exact Rd.ofSl (by assumption) | exact Rd.ofPt rfl (by decide) (by (repeat (first | assumption | exact mem0 _ | apply memT | apply List.mem_append_right))) | exact Rd.mono (by assumption) (View.le.refl _) Sb | exact Rd.inRow (by (repeat (first | assumption | exact mem0 _ | apply memT | apply List.mem_append_right))) (by assumption) (by assumption) (by assumption)) (by first | assumption | exact Rd.ofSl (by assumption) | exact Rd.ofPt rfl (by decide) (by (repeat (first | assumption | exact mem0 _ | apply memT | apply List.mem_append_right))) | exact Rd.mono (by assumption) (View.le.refl _) Sb | exact Rd.inRow (by (repeat (first | assumption | exact mem0 _ | apply memT | apply List.mem_append_right))) (by assumption) (by assumption) (by assumption)) (by omega) rfl (fl_snoc (enc := spE) _ ((protS d11 d12 d14))) (by omega) (by omega) (leB rfl) fun a205 c205 => ?_
  refine WL.knowRow (a := some ⟨a205, 0, none⟩) (by (repeat (first | assumption | exact mem0 _ | apply memT | apply List.mem_append_right))) fun p205 q205 r205 => ?_
  refine xA ?_
  refine wn [4, 10, 11] ?_
  repeat first | refine sk fun K hK => ?_ | refine bk ?_ | refine rg fun ops hG => ?_
  refine xM ?_
  refine xf (E1 Ev.const) (numX_ct _ _ _) ?_
  refine xf (E1 Ev.const) (nameX_ct _ _ _) ?_
  refine xf (E1 Ev.const) (nameX_ct _ _ _) ?_
  refine xY EL25 (EvP.cons Et (EvP.cons Et (EvP.cons Et EvP.nil))) fun b210 => ?_
  refine WL.callK (Ev.tmp rfl) (Evs.cons (Ev.tmp rfl) Evs.nil) (clos_ct (fSp b189 b196 b88) b9 _ _ _ [nuX 1, nmX [120], nmX [99]] rfl _ _ (by (repeat (first | assumption | exact mem0 _ | apply memT | apply List.mem_append_right)))) (leB rfl) ?_
  rintro _ _ ⟨b211, rfl, rfl⟩
  refine xg E0 (some_ct _ _) ?_
  rintro _ _ ⟨a212, c212, L212, r212, rfl, rfl, hE212⟩
  refine xf (E2 Et Et) (chk_ct hg (pok_call (b := b211) (b1 := b189) (b2 := b196) (b6 := b88) (lok_three ((lies_nu (n := 1) (by decide)).e) ((lies_nm (s := [120]) (by decide)).e) ((lies_nm (s := [99]) (by decide)).e) b210 (by (repeat (first | assumption | exact mem0 _ | apply memT | apply List.mem_append_right)))) (by (repeat (first | assumption | exact mem0 _ | apply memT | apply List.mem_append_right))) (by (repeat (first | assumption | exact mem0 _ | apply memT | apply List.mem_append_right))) (by (repeat (first | assumption | exact mem0 _ | apply memT | apply List.mem_append_right))) (by (repeat (first | assumption | exact mem0 _ | apply memT | apply List.mem_append_right)))) (hE212.mono Sb) 0 (call1 _ _ _ _ _)) ?_
  refine xG (PO.bin Et Ev.const rfl) ?_
  refine xM ?_
  refine zU ?_
  refine xM ?_
  refine zU ?_
  refine xf (E1 Ev.const) (numX_ct _ _ _) ?_
  refine zU ?_
  refine xf (E1 Ev.const) (numX_ct _ _ _) ?_
  refine zU ?_
  refine xf (E1 Ev.const) (nameX_ct _ _ _) ?_
  refine zU ?_
  refine xY EL25 (EvP.cons Et (EvP.cons Et (EvP.cons Et EvP.nil))) fun b220 => ?_
  refine zU ?_
  refine WL.callK (Ev.tmp rfl) (Evs.cons (Ev.tmp rfl) Evs.nil) (clos_ct (fSp b189 b196 b88) b9 _ _ _ [nuX 1, nuX 2, nmX [99]] rfl _ _ (by (repeat (first | assumption | exact mem0 _ | apply memT | apply List.mem_append_right)))) (leB rfl) ?_
  rintro _ _ ⟨b221, rfl, rfl⟩
  refine zU ?_
  refine xg E0 (some_ct _ _) ?_
  rintro _ _ ⟨a222, c222, L222, r222, rfl, rfl, hE222⟩
  refine zU ?_
  refine xf (E2 Et Et) (chk_ct hg (pok_call (b := b221) (b1 := b189) (b2 := b196) (b6 := b88) (lok_three ((lies_nu (n := 1) (by decide)).e) ((lies_nu (n := 2) (by decide)).e) ((lies_nm (s := [99]) (by decide)).e) b220 (by (repeat (first | assumption | exact mem0 _ | apply memT | apply List.mem_append_right)))) (by (repeat (first | assumption | exact mem0 _ | apply memT | apply List.mem_append_right))) (by (repeat (first | assumption | exact mem0 _ | apply memT | apply List.mem_append_right))) (by (repeat (first | assumption | exact mem0 _ | apply memT | apply List.mem_append_right))) (by (repeat (first | assumption | exact mem0 _ | apply memT | apply List.mem_append_right)))) (hE222.mono Sb) 130 (call2 _ _ _ _ _)) ?_
  refine zU ?_
  refine xG (PO.bin Et Ev.const rfl) ?_
  refine xP ?_
  refine xM ?_
  refine zU ?_
  refine xM ?_
  refine zU ?_
  refine xf (E1 Ev.const) (numX_ct _ _ _) ?_
  refine zU ?_
  refine xf (E1 Ev.const) (nameX_ct _ _ _) ?_
  refine zU ?_
  refine xY EL25 (EvP.cons Et (EvP.cons Et EvP.nil)) fun b230 => ?_
  refine zU ?_
  refine WL.callK (Ev.tmp rfl) (Evs.cons (Ev.tmp rfl) Evs.nil) (clos_ct (fSp b189 b196 b88) b9 _ _ _ [nuX 1, nmX [120]] rfl _ _ (by (repeat (first | assumption | exact mem0 _ | apply memT | apply List.mem_append_right)))) (leB rfl) ?_
  rintro _ _ ⟨b231, rfl, rfl⟩
  refine zU ?_
  refine xg E0 (some_ct _ _) ?_
  rintro _ _ ⟨a232, c232, L232, r232, rfl, rfl, hE232⟩
  refine zU ?_
  refine xf (E2 Et Et) (chk_ct hg (pok_call (b := b231) (b1 := b189) (b2 := b196) (b6 := b88) (lok_two ((lies_nu (n := 1) (by decide)).e) ((lies_nm (s := [120]) (by decide)).e) b230 (by (repeat (first | assumption | exact mem0 _ | apply memT | apply List.mem_append_right)))) (by (repeat (first | assumption | exact mem0 _ | apply memT | apply List.mem_append_right))) (by (repeat (first | assumption | exact mem0 _ | apply memT | apply List.mem_append_right))) (by (repeat (first | assumption | exact mem0 _ | apply memT | apply List.mem_append_right))) (by (repeat (first | assumption | exact mem0 _ | apply memT | apply List.mem_append_right)))) (hE232.mono Sb) 130 (call3 _ _ _ _ _)) ?_
  refine zU ?_
  refine xG (PO.bin Et Ev.const rfl) ?_
  refine xP ?_
  refine xM ?_
  refine zU ?_
  refine xM ?_
  refine zU ?_
  refine xf (E1 Ev.const) (numX_ct _ _ _) ?_
  refine zU ?_
  refine xf (E1 Ev.const) (nameX_ct _ _ _) ?_
  refine zU ?_
  refine xf (E1 Ev.const) (nameX_ct _ _ _) ?_
  refine zU ?_
  refine xY EL25 (EvP.cons Et (EvP.cons Et (EvP.cons Et EvP.nil))) fun b241 => ?_
  refine zU ?_
  refine WL.callK (Ev.tmp rfl) (Evs.cons (Ev.tmp rfl) Evs.nil) (clos_ct (fSp b189 b196 b88) b9 _ _ _ [nuX 1, nmX [120], nmX [99]] rfl _ _ (by (repeat (first | assumption | exact mem0 _ | apply memT | apply List.mem_append_right)))) (leB rfl) ?_
  rintro _ _ ⟨b242, rfl, rfl⟩
  refine zU ?_
  refine xM ?_
  refine zU ?_
  refine xf (E2 Et Et) (chkA_ct (b19 := e19) (d2 := d2) (d4 := d4) (d6 := d6) (d10 := d10) (d18 := d18) (d19 := d19) hg (pok_call (b := b242) (b1 := b189) (b2 := b196) (b6 := b88) (lok_three ((lies_nu (n := 1) (by decide)).e) ((lies_nm (s := [120]) (by decide)).e) ((lies_nm (s := [99]) (by decide)).e) b241 (by (repeat (first | assumption | exact mem0 _ | apply memT | apply List.mem_append_right)))) (by (repeat (first | assumption | exact mem0 _ | apply memT | apply List.mem_append_right))) (by (repeat (first | assumption | exact mem0 _ | apply memT | apply List.mem_append_right))) (by (repeat (first | assumption | exact mem0 _ | apply memT | apply List.mem_append_right))) (by (repeat (first | assumption | exact mem0 _ | apply memT | apply List.mem_append_right)))) (by first | assumption | exact Rd.ofSl (by assumption) | exact Rd.ofPt rfl (by decide) (by (repeat (first | assumption | exact mem0 _ | apply memT | apply List.mem_append_right))) | exact Rd.mono (by assumption) (View.le.refl _) Sb | exact Rd.inRow (by (repeat (first | assumption | exact mem0 _ | apply memT | apply List.mem_append_right))) (by assumption) (by assumption) (by assumption)) Sb Sb 130 (call4 _ _ _ _ _)) ?_
  refine zU ?_
  refine xG (PO.bin Et Ev.const rfl) ?_
  refine xP ?_
  refine xA ?_
  refine wV (b' := true) (by simp) ?_
  refine wn [4, 12] ?_
  try clear hG ops
  repeat first | refine sk fun K hK => ?_ | refine bk ?_ | refine rg fun ops hG => ?_
  refine xM ?_
  refine xM ?_
  refine zU ?_
  refine xM ?_
  refine xP ?_
  refine xM ?_
  refine zU ?_
  refine xg E0 (host_ct _ _) ?_
  rintro _ _ ⟨b252, rfl, rfl⟩
  refine zU ?_
  refine xG (PO.lenSl Tryz.underlying28 Et) ?_
  refine zU ?_
  refine xG (PO.bin Et Ev.const rfl) ?_
  refine xP ?_
  refine xM ?_
  refine zU ?_
  refine xf E0 (worksX_ct hg _) ?_
  refine xP ?_
  refine xA ?_
  refine wV (b' := true) (by simp) ?_
  refine wn [0] ?_
  try clear hG ops
  refine WC.ret (wR ([]) ?_)
  rfl
end Go.Proofs.YtdhmplmpbcnojaaGreatDoor
end
/- Door -/
section
namespace Go.Proofs.YtdhmplmpbcnojaaGreatDoor
open Go Go.Eng Go.RowKit Go.ChangeShapes Go.WideShapes Go.ChangeAt Go.Joins
set_option maxRecDepth 100000
theorem Tryz.own : ownKnob Tryz.prog.godebug = none := by kernel_rfl
theorem Tryz.laidOut : laidOutB Tryz.prog = true := by kernel_rfl
theorem cellsPm : Tryz.prog.cellsOf 240 = 3 := by kernel_rfl
abbrev laidL : List (String × DataW Unit) := [("transputer/types.primitive", Rows.laid_transputer_types_primitive), ("transputer/syntax.one", Rows.laid_transputer_syntax_one), ("transputer/syntax.some", Rows.laid_transputer_syntax_some), ("transputer/syntax.all", Rows.laid_transputer_syntax_all)]
theorem prim_at {W : World} {fuel : Nat} {ys : List Value} {kd sz : Int} {wd : List UInt8} {p : List MemPlace}
    (h : DataW.trod (fun _ => ()) Tryz.prog W 0 (fun _ => true) false fuel 240 ys = some (.agg [.lit (.int .u8 kd), .lit (.string wd), .lit (.int .i64 sz)], p)) :
    ys[0]? = some (.int .u8 kd) ∧ ys[1]? = some (str wd) ∧ ys[2]? = some (.int .i64 sz) := by
  obtain ⟨f, hf⟩ := data_struct Tryz.underlying240 h
  obtain ⟨_, h0⟩ := hf 0 _ _ rfl rfl
  obtain ⟨_, h1⟩ := hf 1 _ _ rfl rfl
  obtain ⟨_, h2⟩ := hf 2 _ _ rfl rfl
  exact ⟨Eng.cell_of_cut (data_int Tryz.underlying24 h0), Eng.cell_of_cut (data_str Tryz.underlying9 h1), Eng.cell_of_cut (data_int Tryz.underlying3 h2)⟩
theorem cut_at {cs ys : List Value} {i j : Nat} {v : Value} (e : (cs.drop (i * 3)).take 3 = ys) (h : ys[j]? = some v) : cs[i * 3 + j]? = some v := by
  subst e
  rw [List.getElem?_take] at h
  split at h
  · rwa [List.getElem?_drop] at h
  · cases h
theorem span_at {W : World} {fuel : Nat} {ys : List Value} {a b : Int} {p : List MemPlace} (h : DataW.trod (fun _ => ()) Tryz.prog W 0 (fun _ => true) false fuel 176 ys = some (.agg [.lit (.int .i64 a), .lit (.int .i64 b)], p)) :
    ∀ (j : Nat) (v : Value), ([.int .i64 a, .int .i64 b] : List Value)[j]? = some v → ys[j]? = some v := by
  obtain ⟨f, hf⟩ := data_struct Tryz.underlying176 h
  obtain ⟨_, h0⟩ := hf 0 _ _ rfl rfl
  obtain ⟨_, h1⟩ := hf 1 _ _ rfl rfl
  have e0 := Eng.cell_of_cut (data_int Tryz.underlying3 h0)
  have e1 := Eng.cell_of_cut (data_int Tryz.underlying3 h1)
  intro j v hj
  match j, hj with
  | 0, hj => cases hj; exact e0
  | 1, hj => cases hj; exact e1
theorem glob_of {W : World} (h : laidMet Tryz.prog laidL W) (hsh : W.ShapedOpen Tryz.prog) : Glob (viewOf W) := by
  obtain ⟨_, ⟨g0, t0, cs0, f0, p0, q0, hg0, ht0, hv0, hd0, ⟨g1, t1, cs1, f1, p1, q1, hg1, ht1, hv1, hd1, ⟨g2, t2, cs2, f2, p2, q2, hg2, ht2, hv2, hd2, ⟨g3, t3, cs3, f3, p3, q3, hg3, ht3, hv3, hd3, _, _⟩, _⟩, _⟩, _⟩, _⟩ := h
  obtain rfl := Option.some.inj ((show Tryz.prog.globalNamed "transputer/types.primitive" = some 4 by kernel_rfl).symm.trans hg0)
  obtain rfl := Option.some.inj ((show Tryz.prog.globalNamed "transputer/syntax.one" = some 1 by kernel_rfl).symm.trans hg1)
  obtain rfl := Option.some.inj ((show Tryz.prog.globalNamed "transputer/syntax.some" = some 2 by kernel_rfl).symm.trans hg2)
  obtain rfl := Option.some.inj ((show Tryz.prog.globalNamed "transputer/syntax.all" = some 0 by kernel_rfl).symm.trans hg3)
  obtain rfl := Option.some.inj ((show (Tryz.prog.globals[4]?).map (·.type) = some 241 by kernel_rfl).symm.trans ht0)
  obtain rfl := Option.some.inj ((show (Tryz.prog.globals[1]?).map (·.type) = some 176 by kernel_rfl).symm.trans ht1)
  obtain rfl := Option.some.inj ((show (Tryz.prog.globals[2]?).map (·.type) = some 176 by kernel_rfl).symm.trans ht2)
  obtain rfl := Option.some.inj ((show (Tryz.prog.globals[0]?).map (·.type) = some 176 by kernel_rfl).symm.trans ht3)
  refine ⟨(Tryz.laysM144.s1_3 W hsh).imp fun _ e => start_cell e, fun j v hj => start_cell ?_, fun j v hj => start_cell ?_, fun j v hj => start_cell ?_, fun j v hj => start_cell ?_⟩
  · obtain ⟨f, hf⟩ := data_array Tryz.underlying241 hd0
    obtain ⟨_, h0⟩ := hf 0 _ (by decide) rfl
    obtain ⟨_, h1⟩ := hf 1 _ (by decide) rfl
    obtain ⟨_, h2⟩ := hf 2 _ (by decide) rfl
    rw [cellsPm] at h0 h1 h2
    have a0 := prim_at h0
    have a1 := prim_at h1
    have a2 := prim_at h2
    rw [World.var?_cell hg0 hv0 j, ← Array.getElem?_toList]
    match j, hj with
    | 0, hj => cases hj; exact cut_at (i := 0) rfl a0.1
    | 1, hj => cases hj; exact cut_at (i := 0) rfl a0.2.1
    | 2, hj => cases hj; exact cut_at (i := 0) rfl a0.2.2
    | 3, hj => cases hj; exact cut_at (i := 1) rfl a1.1
    | 4, hj => cases hj; exact cut_at (i := 1) rfl a1.2.1
    | 5, hj => cases hj; exact cut_at (i := 1) rfl a1.2.2
    | 6, hj => cases hj; exact cut_at (i := 2) rfl a2.1
    | 7, hj => cases hj; exact cut_at (i := 2) rfl a2.2.1
    | 8, hj => cases hj; exact cut_at (i := 2) rfl a2.2.2
  · rw [World.var?_cell hg1 hv1 j, ← Array.getElem?_toList]
    exact span_at hd1 j v hj
  · rw [World.var?_cell hg2 hv2 j, ← Array.getElem?_toList]
    exact span_at hd2 j v hj
  · rw [World.var?_cell hg3 hv3 j, ← Array.getElem?_toList]
    exact span_at hd3 j v hj
noncomputable def setC (g : Nat) (l : List Value) (hp : Array Obj) : Array Obj := hp.modify g fun
      | .cells _ t fz => .cells l.toArray t fz
      | o => o
noncomputable def laidWorld (os : Os) : World :=
  { World.holding Tryz.prog os ⟨#[], #[], []⟩ with heap := setC 4 primC (setC 1 oneC (setC 2 someC (setC 0 allC (World.holding Tryz.prog os ⟨#[], #[], []⟩).heap))) }
theorem laidWorld_met (os : Os) (args : Array Value) : laidMet Tryz.prog laidL ((laidWorld os).forCall (fun _ _ => 0) ⟨#[], args, []⟩).memory :=
  laidMet_of_run' 8 (by kernel_rfl) (by kernel_rfl)
end Go.Proofs.YtdhmplmpbcnojaaGreatDoor
end
/- LKnown -/
section
namespace Go.Proofs.YtdhmplmpbcnojaaGreatDoor
open Go Go.Eng Go.RowKit Go.ChangeShapes Go.WideShapes Go.ChangeAt Go.Joins

set_option maxRecDepth 100000 in
theorem typingKnown_lifted (os : Os) (started : os.Started) (H : Type) (enc : TypeId × Value → H) :
    ReturnsInHanded {} Tryz.checked os 7 .any (fun w args => (Rows.typingKnownSpec.pre enc Tryz.prog Tryz.f7 [] false w args ∧ laidMet Tryz.prog laidL w) ∧ sizedMet enc Tryz.prog Tryz.f7 (OpenSpec.ofChange Rows.typingKnownSpec) false w args)
      (Rows.typingKnownSpec.post enc Tryz.prog Tryz.f7 false true false false) := by
  refine returnsInHanded_laid (C := Tryz.checked) Tryz.own started (by kernel_rfl) Tryz.func7
    (ChangeSpec.witness_at (enc := enc) (C := Tryz.checked) (os := os) (X := fun w _ => laidMet Tryz.prog laidL w) false (laidWorld os) #[] 8 rfl (by kernel_rfl) (by kernel_rfl) (by kernel_rfl) (by kernel_rfl) (by kernel_rfl) (laidWorld_met os _)) ?_
  intro W base args ds gs before hval hW hsz hL hsh
  have hg := glob_of hL hsh
  refine law_post (C := Tryz.checked) Tryz.laidOut (by kernel_rfl) rfl rfl Tryz.underlying4 (fun ds hd => ?_) hW ?_
  · match ds, hd with
    | [], _ => rfl
  · obtain ⟨p, q, hA, hV, rfl, -, -⟩ := hW
    obtain ⟨rfl, rfl⟩ := trodVars_none (show DataW.TrodVars enc Tryz.prog W (fun _ => true) [] gs q from hV)
    rw [show Tryz.checked.prog = Tryz.prog from rfl, Tryz.params7] at hA hsz
    obtain ⟨rfl, rfl, rfl⟩ := trodAll_none hA
    exact known_law hg _

theorem typingKnown_holds : Rows.TypingKnownSaid :=
  OpenClaim.holds_of_wide 7 Tryz.f7 rfl rfl rfl rfl rfl rfl rfl ⟨rfl, rfl, rfl, rfl, rfl⟩ rfl rfl rfl rfl rfl (by kernel_rfl) Tryz.func7 (by kernel_rfl)
    (of_decide_eq_true (by kernel_rfl)) (by unfold Func.isWrapper; rw [if_neg (by decide +kernel)]; exact ⟨rfl, rfl⟩)
    (fun os started H enc _ => typingKnown_lifted os started H enc)

theorem typingKnown_card : Rows.TypingKnownCardSaid :=
  Claim7.holds_tied_plain_at .later [] [.data, .data, .data, .data] true (true, "bc84e5f55452caa94bec5d9f10acfbe12ea07e9c19f3114bcca25cfb5a91555f") false
    typingKnown_holds (fun _ h => by cases h) (by kernel_rfl) (fun _ h => by cases h) typingKnown_row_tie rfl ⟨rfl, rfl⟩ (by kernel_rfl) rfl
    (fun f fn hf hfn => by
      obtain rfl : f = 7 := Option.some.inj ((show Tryz.prog.funcNamed "transputer/transputerlaw13.TypingKnown" = some 7 by kernel_rfl).symm.trans hf) |>.symm
      obtain rfl : fn = Tryz.f7 := (Option.some.inj (Tryz.func7.symm.trans hfn)).symm
      exact ⟨by kernel_rfl, fun j t ht => by
        rw [Tryz.params7] at ht
        match j, ht with
        | j + 0, ht => simp at ht⟩)
    (by kernel_rfl)
end Go.Proofs.YtdhmplmpbcnojaaGreatDoor
end

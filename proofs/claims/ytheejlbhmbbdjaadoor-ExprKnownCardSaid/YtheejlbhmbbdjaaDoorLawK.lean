/- expr: ExprKnown. -/
import Derived.Test.YtheejlbhmbbdjaaDoorLawA
namespace Go.Proofs.YtheejlbhmbbdjaaDoor
open Go.Eng Go.Xp Go
open Go.Ty (Tok encK encK_len tokV)
open Go.Lx (mayK lexO textO encB encB_len)
set_option maxRecDepth 100000
theorem cnt_strip (e : Ex) : cntE (strip e) = cntE e := by
  refine Ex.ind (p := fun e => cntE (strip e) = cntE e) (fun e ih => ?_) e
  rw [cntE_eq, cntE_eq, l_strip]
  have key : ∀ (l : List Ex), (∀ x ∈ l, x ∈ e.l) → cntL (l.map strip) = cntL l := by
    intro l
    induction l with
    | nil => intro _; rfl
    | cons x r ihr =>
      intro hm
      rw [List.map_cons]
      unfold cntL
      rw [ih x (hm x (by simp)), ihr fun y hy => hm y (by simp [hy])]
  rw [key e.l fun _ h => h]
theorem names_strip (e : Ex) : namesE (strip e) = namesE e := by
  refine Ex.ind (p := fun e => namesE (strip e) = namesE e) (fun e ih => ?_) e
  rw [namesE_eq, namesE_eq, l_strip, strip_eq]
  have key : ∀ (l : List Ex), (∀ x ∈ l, x ∈ e.l) → namesL (l.map strip) = namesL l := by
    intro l
    induction l with
    | nil => intro _; rfl
    | cons x r ihr =>
      intro hm
      rw [List.map_cons]
      unfold namesL
      rw [ih x (hm x (by simp)), ihr fun y hy => hm y (by simp [hy])]
  rw [key e.l fun _ h => h]
  rfl
/-- An expression that lies in memory, and its shape. -/
structure Lies (m : View) (h : List Res) (e x : Ex) : Prop where
  t : TOk m h e
  w : Wf e
  s : strip e = x
theorem Lies.mono {m : View} {h h' : List Res} {e x : Ex} (q : Lies m h e x) (s : h.Sublist h') : Lies m h' e x := ⟨q.t.mono s, q.w, q.s⟩
theorem Lies.may {m : View} {h : List Res} {e x : Ex} (q : Lies m h e x) : mayE e = mayE x := by rw [← q.s, may_strip]
theorem Lies.cnt {m : View} {h : List Res} {e x : Ex} (q : Lies m h e x) : cntE e = cntE x := by rw [← q.s, cnt_strip]
theorem Lies.reads {m : View} {h : List Res} {e x : Ex} (q : Lies m h e x) (line : B) (n : Int) : readsP line e n = readsP line x n := by rw [← q.s, reads_strip]
theorem lies_leaf (m : View) (h : List Res) {k o t n : Int} {s : B} (hk : 0 ≤ k ∧ k ≤ 255) (ho : 0 ≤ o ∧ o ≤ 255) (ht : 0 ≤ t ∧ t ≤ 255) (hn : -2147483648 ≤ n ∧ n ≤ 2147483647) (hs : s.length ≤ 140737488355328) : Lies m h (sx k o t n s []) (sx k o t n s []) :=
  ⟨tok_leaf _ _ _ _ _ _ _, wf_leaf hk ho ht hn hs, rfl⟩
theorem lies_one {m : View} {h : List Res} {e x : Ex} (q : Lies m h e x) (b : Nat) {k o t n : Int} {s : B} (hk : 0 ≤ k ∧ k ≤ 255) (ho : 0 ≤ o ∧ o ≤ 255) (ht : 0 ≤ t ∧ t ≤ 255) (hn : -2147483648 ≤ n ∧ n ≤ 2147483647) (hs : s.length ≤ 140737488355328) :
    Lies m (.pt b (.cells (exE e).toArray 27 (0, 0)) :: h) (.mk k o t n s (some ⟨b, 0, none⟩) 1 [e]) (sx k o t n s [x]) :=
  ⟨tok_one q.t b _ _ _ _ _, wf_one q.w hk ho ht hn hs, by rw [← q.s]; rfl⟩
theorem lies_two {m : View} {h : List Res} {e f x y : Ex} (q : Lies m h e x) (r : Lies m h f y) (b : Nat) {o : Int} (ho : 0 ≤ o ∧ o ≤ 255) :
    Lies m (twoR e f b :: h) (twoX o e f b) (sx 7 o 0 0 [] [x, y]) :=
  ⟨.mk (Rd.ofPt rfl (by show 2 ≤ _; decide) (List.Mem.head _)) (fun z hz => by
    rcases List.mem_cons.1 hz with rfl | hz
    · exact q.t.mono (List.sublist_cons_self _ _)
    · rw [List.mem_singleton] at hz
      subst hz
      exact r.t.mono (List.sublist_cons_self _ _)), wf_two q.w r.w (by decide) ho (by decide) (by decide) (by decide), by rw [← q.s, ← r.s]; rfl⟩
/- The examples. -/
theorem kn1 : readsP [120, 32, 58, 61] (nmX [120]) 1 = true := by decide +kernel
theorem kn2 : readsP [45, 32, 49] (sx 6 23 0 0 [] [oneX]) 2 = true := by decide +kernel
theorem kn3 : readsP [78, 79, 84, 32, 97, 32, 65, 78, 68, 32, 98] (sx 6 26 0 0 [] [nmX [97]]) 2 = true := by decide +kernel
theorem kn4 : readsP [66, 89, 84, 69, 32, 40, 120, 32, 43, 32, 49, 41] (sx 8 0 2 0 [] [sx 7 1 0 0 [] [nmX [120], oneX]]) 6 = true := by decide +kernel
theorem kn5 : readsP [83, 73, 90, 69, 32, 118, 91, 49, 93] (sx 9 0 0 0 [118] []) 2 = true := by decide +kernel
theorem kn6 : readsP [84, 82, 85, 69, 32, 79, 82, 32, 70, 65, 76, 83, 69] (sx 7 21 0 0 [] [sx 3 0 0 1 [] [], sx 3 0 0 0 [] []]) 3 = true := by decide +kernel
theorem kn7 : readsP [39, 97, 39, 32, 60, 62, 32, 39, 98, 39] (sx 7 15 0 0 [] [sx 2 0 0 97 [] [], sx 2 0 0 98 [] []]) 3 = true := by decide +kernel
theorem kf1 : failsP [45] 100 = true := by decide +kernel
theorem kf2 : failsP [118, 91, 32, 105] 100 = true := by decide +kernel
theorem kf3 : failsP [83, 73, 90, 69, 32, 51] 100 = true := by decide +kernel
theorem kf4 : failsP [] 100 = true := by decide +kernel
theorem kf5 : failsP [40, 97, 32, 43, 32, 98, 32, 99, 41] 100 = true := by decide +kernel
theorem kf6 : failsP [73, 78, 84] 100 = true := by decide +kernel
theorem kf7 : failsP [83, 75, 73, 80] 100 = true := by decide +kernel
def deepX : Nat → Ex
  | 0 => nmX [97]
  | 1 => nmX [97]
  | n + 2 => sx 6 25 0 0 [] [deepX (n + 1)]
theorem kd1 : readsP ((List.replicate 32 40 ++ [97]) ++ List.replicate 32 41) (nmX [97]) 65 = true := by decide +kernel
theorem kd2 : failsP (List.replicate 32 40 ++ [40]) 3 = true := by decide +kernel
theorem kd3 : failsP ((List.replicate 32 40 ++ [40, 97, 41]) ++ List.replicate 32 41) 3 = true := by decide +kernel
theorem kd4 : failsP ((List.replicate 32 40 ++ [118, 91, 97, 93]) ++ List.replicate 32 41) 3 = true := by decide +kernel
theorem kd5 : mayE (deepX 32) = true ∧ mayE (sx 6 25 0 0 [] [deepX 32]) = false ∧ cntE (sx 6 25 0 0 [] [deepX 32]) = 33 := by decide +kernel
def wideX : Nat → Ex
  | 0 => oneX
  | n + 1 => sx 7 6 0 0 [] [wideX n, wideX n]
abbrev fullX : Ex := sx 7 6 0 0 [] [wideX 7, sx 6 23 0 0 [] [oneX]]
theorem kw1 : mayE (wideX 7) = true ∧ cntE (wideX 7) = 255 ∧ mayE fullX = false ∧ cntE fullX = 258 := by decide +kernel
theorem kn8 : namesE (sx 7 1 0 0 [] [sx 5 0 0 0 [118] [nmX [105]], sx 9 0 0 0 [119] []]) = [[118], [105], [119]] := by decide +kernel
theorem rd_t {m : View} {h : List Res} {e x : Ex} (hg : Glob m) (q : Lies m h e x) (line : B) (hl : line.length ≤ 1000) (n : Int) (hx : readsP line x n = true) : CT Tryd.prog 20 [str line, exV e, .int .i64 n] h m (Pure1 h (.bool true)) := by
  have := reads_ct hg line hl e n h q.t
  rwa [q.reads, hx] at this
theorem fl_t {m : View} {h : List Res} (hg : Glob m) (line : B) (hl : line.length ≤ 1000) (n : Int) (hx : failsP line n = true) : CT Tryd.prog 23 [str line, .int .i64 n] h m (Pure1 h (.bool true)) := by
  have := fails_ct hg line hl n h
  rwa [hx] at this
theorem my_t {m : View} {h : List Res} {e x : Ex} {b : Bool} (hg : Glob m) (q : Lies m h e x) (hx : mayE x = b) : CT Tryd.prog 13 [exV e] h m (Pure1 h (.bool b)) := by
  have := may_ct hg e h q.t q.w
  rwa [q.may, hx] at this
theorem sz_t {m : View} {h : List Res} {e x : Ex} {n : Nat} (q : Lies m h e x) (hx : cntE x = n) (hn : n ≤ 1000) : CT Tryd.prog 24 [exV e] h m (Pure1 h (.int .i64 n)) := by
  have := size_ct e h m q.t (by rw [q.cnt]; omega)
  rwa [q.cnt, hx] at this
theorem Lies.fr {m : View} {h : List Res} {e x : Ex} (q : Lies m h e x) (fr : List Res) : Lies m (fr ++ h) e x := q.mono (List.sublist_append_right fr h)
theorem two_t (l hs fr : List Res) (o : Int) (x y : Ex) (m : View) : CX Tryd.prog 22 [.int .u8 o, exV x, exV y] (l ++ (fr ++ hs)) m (fun v _ h' => ∃ hp', h' = hp' ++ (fr ++ hs) ∧ ∃ b, v = exV (twoX o x y b) ∧ hp' = twoR x y b :: l) (fun _ _ => False) := two_cx o x y l (fr ++ hs) m
theorem nms_t {m : View} {h : List Res} {e x : Ex} {l : List B} (q : Lies m h e x) (hx : namesE x = l) (hn : cntE x ≤ 1000) : CT Tryd.prog 27 [exV e] h m (fun v _ h' => OwnF encB 9 1 h l v h') := by
  have := names_ct e h m q.t (by rw [q.cnt]; omega)
  rwa [← names_strip, q.s, hx] at this
theorem bad_t {m : View} {h : List Res} {e x : Ex} (q : Lies m h e x) (hx : mayE x = false) : TOk m h e ∧ Wf e ∧ mayE e = false := ⟨q.t, q.w, by rw [q.may]; exact hx⟩
theorem wl_sub {P : Program} {ops : Array Oper} {Q : Exit → Act → World → Prop} {n : Cx} {l : List Oper} {F : Fm} {h h' : List Res} {m : View} (s : h'.Sublist h) (k : WL P ops Q n l F h' m) : WL P ops Q n l F h m := .mk fun a w ha hs => k.e a w ha (hs.sub s)
abbrev pt1 (e : Ex) (b : Nat) : Res := .pt b (.cells (exE e).toArray 27 (0, 0))
theorem known_law {m : View} (hg : Glob m) (hp : Pow m) (h : List Res) : CT Tryd.prog 7 [] h m Law := by
  have l1 : ∀ h' : List Res, Lies m h' oneX oneX := fun h' => lies_leaf m h' (by decide) (by decide) (by decide) (by decide) (by decide)
  have nm : ∀ (h' : List Res) (s : B), s.length ≤ 100 → Lies m h' (nmX s) (nmX s) := fun h' s hs => lies_leaf m h' (by decide) (by decide) (by decide) (by decide) (by omega)
  refine CT.body Tryd.call7 Tryd.func7 rfl Tryd.ntmps7 (leB rfl) rfl ?_
  (repeat (first | refine WC.seqK fun K hK => ?_ | refine WC.block ?_ | refine WC.regionG rfl fun ops hG => ?_))
  refine WL.po (PO.assign Ev.const) (leB rfl) ?_
  refine WL.nil (keepF (ts := []) rfl (toK (by assumption) ?_))
  (try clear hG ops)
  (repeat (first | refine WC.seqK fun K hK => ?_ | refine WC.block ?_ | refine WC.regionG rfl fun ops hG => ?_))
  refine WL.po (PO.build Tryd.underlying27 rfl rfl rfl (EvP.cons Ev.const (EvP.cons Ev.const EvP.nil)) rfl) (leB rfl) ?_
  refine WL.alloc rfl rfl (leB rfl) fun b1 => ?_
  refine WL.store rfl (Ev.tmp rfl) (Ev.tmp rfl) rfl rfl rfl rfl (by (repeat (first | exact Upd.here | apply Upd.next))) ?_
  refine WL.nil (keepF (ts := [1]) rfl (toK (by assumption) ?_))
  (try clear hG ops)
  (repeat (first | refine WC.seqK fun K hK => ?_ | refine WC.block ?_ | refine WC.regionG rfl fun ops hG => ?_))
  refine WC.drawS [0, 1, 4, 6, 9, 10, 12, 15, 17, 18, 20, 24, 29, 30] (.op 0 (.op 1 (.op 2 (.op 3 (.op 4 (.op 5 (.op 6 (.op 7 (.op 8 (.op 9 (.op 10 (.op 11 (.op 12 (.op 13 (.op 14 (.op 16 (.op 15 (.op 17 (.op 18 (.op 19 (.op 20 (.op 21 (.op 22 (.op 23 (.op 24 (.op 25 (.op 26 (.op 27 (.op 28 (.op 29 (.op 30 (.op 31 (.op 32 (.op 33 (.op 34 .nil))))))))))))))))))))))))))))))))))) [35, 36, 37, 38] _ [] mixed (fun _ _ _ _ _ h => h) [] (by kernel_rfl) ?_
  refine SR.callP rfl rfl Ev.func (Evs.cons Ev.const Evs.nil) (fun fr => nameX_ct _ _ _) (leB rfl) ?_
  refine SR.callP rfl rfl Ev.func (Evs.cons Ev.const (Evs.cons (Ev.tmp rfl) (Evs.cons Ev.const Evs.nil))) (fun fr => rd_t hg (nm _ [120] (by decide)) [120, 32, 58, 61] (by decide) 1 kn1) (leB rfl) ?_
  refine SR.po rfl rfl (PO.move (Ev.tmp rfl)) (leB rfl) ?_
  refine SR.poU rfl rfl (GU.t rfl rfl) rfl (PO.loadA Tryd.underlying27 rfl rfl (Ev.tmp rfl) (by (repeat (first | exact mem0 _ | apply memT))) rfl) (leB rfl) ?_
  refine SR.buildSliceU rfl rfl (GU.t rfl rfl) rfl EL25 rfl (EvP.cons (Ev.tmp rfl) EvP.nil) rfl rfl (by decide) rfl (leB rfl) fun b29 => ?_
  refine SR.poU rfl rfl (GU.t rfl rfl) rfl (PO.build Tryd.underlying27 rfl rfl rfl (EvP.cons Ev.const (EvP.cons Ev.const (EvP.cons (Ev.tmp rfl) EvP.nil))) rfl) (leB rfl) ?_
  refine SR.callU rfl rfl (GU.t rfl rfl) rfl Ev.func (Evs.cons Ev.const (Evs.cons (Ev.tmp rfl) (Evs.cons Ev.const Evs.nil))) (fun fr => rd_t hg (Lies.fr (lies_one (l1 _) b29 (by decide) (by decide) (by decide) (by decide) (by decide)) fr) [45, 32, 49] (by decide) 2 kn2) (leB rfl) ?_
  refine SR.po rfl rfl (PO.pickAnd rfl rfl) (leB rfl) ?_
  refine SR.po rfl rfl (PO.move (Ev.tmp rfl)) (leB rfl) ?_
  refine SR.callU rfl rfl (GU.t rfl rfl) rfl Ev.func (Evs.cons Ev.const Evs.nil) (fun fr => nameX_ct _ _ _) (leB rfl) ?_
  refine SR.buildSliceU rfl rfl (GU.t rfl rfl) rfl EL25 rfl (EvP.cons (Ev.tmp rfl) EvP.nil) rfl rfl (by decide) rfl (leB rfl) fun b35 => ?_
  refine SR.poU rfl rfl (GU.t rfl rfl) rfl (PO.build Tryd.underlying27 rfl rfl rfl (EvP.cons Ev.const (EvP.cons Ev.const (EvP.cons (Ev.tmp rfl) EvP.nil))) rfl) (leB rfl) ?_
  refine SR.callU rfl rfl (GU.t rfl rfl) rfl Ev.func (Evs.cons Ev.const (Evs.cons (Ev.tmp rfl) (Evs.cons Ev.const Evs.nil))) (fun fr => rd_t hg (Lies.fr (lies_one (nm _ [97] (by decide)) b35 (by decide) (by decide) (by decide) (by decide) (by decide)) fr) [78, 79, 84, 32, 97, 32, 65, 78, 68, 32, 98] (by decide) 2 kn3) (leB rfl) ?_
  refine SR.po rfl rfl (PO.pickAnd rfl rfl) (leB rfl) ?_
  refine SR.po rfl rfl (PO.move (Ev.tmp rfl)) (leB rfl) ?_
  refine SR.poU rfl rfl (GU.t rfl rfl) rfl (PO.loadA Tryd.underlying27 rfl rfl (Ev.tmp rfl) (by (repeat (first | exact mem0 _ | apply memT))) rfl) (leB rfl) ?_
  refine SR.callU rfl rfl (GU.t rfl rfl) rfl Ev.func (Evs.cons Ev.const Evs.nil) (fun fr => nameX_ct _ _ _) (leB rfl) ?_
  refine SR.callXU rfl rfl (GU.t rfl rfl) rfl Ev.func (Evs.cons Ev.const (Evs.cons (Ev.tmp rfl) (Evs.cons (Ev.tmp rfl) Evs.nil))) (fun fr => two_t [_, _] _ fr 1 (nmX [120]) oneX _) (leB rfl) (fun fr v hv hx => ?_) fun v42 h42 hr42 => ?_
  · exact hx.elim
  obtain ⟨b42, rfl, rfl⟩ := hr42
  refine SR.buildSliceU rfl rfl (GU.t rfl rfl) rfl EL25 rfl (EvP.cons (Ev.tmp rfl) EvP.nil) rfl rfl (by decide) rfl (leB rfl) fun b43 => ?_
  refine SR.poU rfl rfl (GU.t rfl rfl) rfl (PO.build Tryd.underlying27 rfl rfl rfl (EvP.cons Ev.const (EvP.cons Ev.const (EvP.cons (Ev.tmp rfl) EvP.nil))) rfl) (leB rfl) ?_
  refine SR.callU rfl rfl (GU.t rfl rfl) rfl Ev.func (Evs.cons Ev.const (Evs.cons (Ev.tmp rfl) (Evs.cons Ev.const Evs.nil))) (fun fr => rd_t hg (Lies.fr (lies_one (lies_two (nm _ [120] (by decide)) (l1 _) b42 (by decide)) b43 (by decide) (by decide) (by decide) (by decide) (by decide)) fr) [66, 89, 84, 69, 32, 40, 120, 32, 43, 32, 49, 41] (by decide) 6 kn4) (leB rfl) ?_
  refine SR.po rfl rfl (PO.pickAnd rfl rfl) (leB rfl) ?_
  refine SR.po rfl rfl (PO.move (Ev.tmp rfl)) (leB rfl) ?_
  refine SR.poU rfl rfl (GU.t rfl rfl) rfl (PO.build Tryd.underlying27 rfl rfl rfl (EvP.cons Ev.const (EvP.cons Ev.const EvP.nil)) rfl) (leB rfl) ?_
  refine SR.callU rfl rfl (GU.t rfl rfl) rfl Ev.func (Evs.cons Ev.const (Evs.cons (Ev.tmp rfl) (Evs.cons Ev.const Evs.nil))) (fun fr => rd_t hg (lies_leaf m _ (by decide) (by decide) (by decide) (by decide) (by decide)) [83, 73, 90, 69, 32, 118, 91, 49, 93] (by decide) 2 kn5) (leB rfl) ?_
  refine SR.po rfl rfl (PO.pickAnd rfl rfl) (leB rfl) ?_
  refine SR.po rfl rfl (PO.move (Ev.tmp rfl)) (leB rfl) ?_
  refine SR.poU rfl rfl (GU.t rfl rfl) rfl (PO.build Tryd.underlying27 rfl rfl rfl (EvP.cons Ev.const (EvP.cons Ev.const EvP.nil)) rfl) (leB rfl) ?_
  refine SR.poU rfl rfl (GU.t rfl rfl) rfl (PO.build Tryd.underlying27 rfl rfl rfl (EvP.cons Ev.const EvP.nil) rfl) (leB rfl) ?_
  refine SR.callXU rfl rfl (GU.t rfl rfl) rfl Ev.func (Evs.cons Ev.const (Evs.cons (Ev.tmp rfl) (Evs.cons (Ev.tmp rfl) Evs.nil))) (fun fr => two_t [_, _, _, _] _ fr 21 (sx 3 0 0 1 [] []) (sx 3 0 0 0 [] []) _) (leB rfl) (fun fr v hv hx => ?_) fun v54 h54 hr54 => ?_
  · exact hx.elim
  obtain ⟨b54, rfl, rfl⟩ := hr54
  refine SR.callU rfl rfl (GU.t rfl rfl) rfl Ev.func (Evs.cons Ev.const (Evs.cons (Ev.tmp rfl) (Evs.cons Ev.const Evs.nil))) (fun fr => rd_t hg (Lies.fr (lies_two (lies_leaf m _ (by decide) (by decide) (by decide) (by decide) (by decide)) (lies_leaf m _ (by decide) (by decide) (by decide) (by decide) (by decide)) b54 (by decide)) fr) [84, 82, 85, 69, 32, 79, 82, 32, 70, 65, 76, 83, 69] (by decide) 3 kn6) (leB rfl) ?_
  refine SR.po rfl rfl (PO.pickAnd rfl rfl) (leB rfl) ?_
  refine SR.po rfl rfl (PO.move (Ev.tmp rfl)) (leB rfl) ?_
  refine SR.poU rfl rfl (GU.t rfl rfl) rfl (PO.build Tryd.underlying27 rfl rfl rfl (EvP.cons Ev.const (EvP.cons Ev.const EvP.nil)) rfl) (leB rfl) ?_
  refine SR.poU rfl rfl (GU.t rfl rfl) rfl (PO.build Tryd.underlying27 rfl rfl rfl (EvP.cons Ev.const (EvP.cons Ev.const EvP.nil)) rfl) (leB rfl) ?_
  refine SR.nil rfl rfl ?_
  refine WL.unG (GU.t rfl rfl) rfl ?_
  refine WL.callK Ev.func (Evs.cons Ev.const (Evs.cons (Ev.tmp rfl) (Evs.cons (Ev.tmp rfl) Evs.nil))) (two_ct 15 (sx 2 0 0 97 [] []) (sx 2 0 0 98 [] []) _ _) (leB rfl) ?_
  rintro _ _ ⟨b60, rfl, rfl⟩
  refine WL.unG (GU.t rfl rfl) rfl ?_
  refine WL.callP Ev.func (Evs.cons Ev.const (Evs.cons (Ev.tmp rfl) (Evs.cons Ev.const Evs.nil))) (rd_t hg (lies_two (lies_leaf m _ (by decide) (by decide) (by decide) (by decide) (by decide)) (lies_leaf m _ (by decide) (by decide) (by decide) (by decide) (by decide)) b60 (by decide)) [39, 97, 39, 32, 60, 62, 32, 39, 98, 39] (by decide) 3 kn7) (leB rfl) ?_
  refine WL.po (PO.pickAnd rfl rfl) (leB rfl) ?_
  refine WL.po (PO.assign (Ev.tmp rfl)) (leB rfl) ?_
  refine WL.nil (keepF (ts := [1, 2]) rfl (toK (by assumption) ?_))
  (try clear hG ops)
  (repeat (first | refine WC.seqK fun K hK => ?_ | refine WC.block ?_ | refine WC.regionG rfl fun ops hG => ?_))
  refine WL.callP Ev.func (Evs.cons Ev.const (Evs.cons Ev.const Evs.nil)) (fl_t hg [45] (by decide) 100 kf1) (leB rfl) ?_
  refine WL.po (PO.move (Ev.tmp rfl)) (leB rfl) ?_
  refine WL.unG (GU.t (hG _ _ rfl) rfl) rfl ?_
  refine WL.callP Ev.func (Evs.cons Ev.const (Evs.cons Ev.const Evs.nil)) (fl_t hg [118, 91, 32, 105] (by decide) 100 kf2) (leB rfl) ?_
  refine WL.po (PO.pickAnd rfl rfl) (leB rfl) ?_
  refine WL.po (PO.move (Ev.tmp rfl)) (leB rfl) ?_
  refine WL.unG (GU.t (hG _ _ rfl) rfl) rfl ?_
  refine WL.callP Ev.func (Evs.cons Ev.const (Evs.cons Ev.const Evs.nil)) (fl_t hg [83, 73, 90, 69, 32, 51] (by decide) 100 kf3) (leB rfl) ?_
  refine WL.po (PO.pickAnd rfl rfl) (leB rfl) ?_
  refine WL.po (PO.move (Ev.tmp rfl)) (leB rfl) ?_
  refine WL.unG (GU.t (hG _ _ rfl) rfl) rfl ?_
  refine WL.callP Ev.func (Evs.cons Ev.const (Evs.cons Ev.const Evs.nil)) (fl_t hg [] (by decide) 100 kf4) (leB rfl) ?_
  refine WL.po (PO.pickAnd rfl rfl) (leB rfl) ?_
  refine WL.po (PO.move (Ev.tmp rfl)) (leB rfl) ?_
  refine WL.unG (GU.t (hG _ _ rfl) rfl) rfl ?_
  refine WL.callP Ev.func (Evs.cons Ev.const (Evs.cons Ev.const Evs.nil)) (fl_t hg [40, 97, 32, 43, 32, 98, 32, 99, 41] (by decide) 100 kf5) (leB rfl) ?_
  refine WL.po (PO.pickAnd rfl rfl) (leB rfl) ?_
  refine WL.po (PO.move (Ev.tmp rfl)) (leB rfl) ?_
  refine WL.unG (GU.t (hG _ _ rfl) rfl) rfl ?_
  refine WL.callP Ev.func (Evs.cons Ev.const (Evs.cons Ev.const Evs.nil)) (fl_t hg [73, 78, 84] (by decide) 100 kf6) (leB rfl) ?_
  refine WL.po (PO.pickAnd rfl rfl) (leB rfl) ?_
  refine WL.po (PO.move (Ev.tmp rfl)) (leB rfl) ?_
  refine WL.unG (GU.t (hG _ _ rfl) rfl) rfl ?_
  refine WL.callP Ev.func (Evs.cons Ev.const (Evs.cons Ev.const Evs.nil)) (fl_t hg [83, 75, 73, 80] (by decide) 100 kf7) (leB rfl) ?_
  refine WL.po (PO.pickAnd rfl rfl) (leB rfl) ?_
  refine WL.po (PO.assign (Ev.tmp rfl)) (leB rfl) ?_
  refine WL.nil (keepF (ts := [1, 2, 3]) rfl (toK (by assumption) ?_))
  (try clear hG ops)
  (repeat (first | refine WC.seqK fun K hK => ?_ | refine WC.block ?_ | refine WC.regionG rfl fun ops hG => ?_))
  refine WL.po (PO.assign Ev.const) (leB rfl) ?_
  refine WL.po (PO.assign Ev.const) (leB rfl) ?_
  refine WL.nil (keepF (ts := [1, 2, 3, 4, 5]) rfl (toK (by assumption) ?_))
  (try clear hG ops)
  (repeat (first | refine WC.seqK fun K hK => ?_ | refine WC.block ?_ | refine WC.regionG rfl fun ops hG => ?_))
  refine WL.callP Ev.func (Evs.cons Ev.const Evs.nil) (nameX_ct _ _ _) (leB rfl) ?_
  refine WL.alloc rfl rfl (leB rfl) fun b6 => ?_
  refine WL.store rfl (Ev.tmp rfl) (Ev.tmp rfl) rfl rfl rfl rfl (by (repeat (first | exact Upd.here | apply Upd.next))) ?_
  refine WL.nil (keepF (ts := [1, 2, 3, 4, 5, 6]) rfl (toK (by assumption) ?_))
  (try clear hG ops)
  (repeat (first | refine WC.seqK fun K hK => ?_ | refine WC.block ?_ | refine WC.regionG rfl fun ops hG => ?_))
  refine WL.po (PO.assign Ev.const) (leB rfl) ?_
  refine WL.nil (keepF (ts := [1, 2, 3, 4, 5, 6, 7]) rfl (toK (by assumption) ?_))
  (try clear hG ops)
  (repeat (first | refine WC.seqK fun K hK => ?_ | refine WC.block ?_ | refine WC.regionG rfl fun ops hG => ?_))
  refine WC.loopI [1, 2, 3, 6] rfl (fun μ F' h' => ∃ i : Nat, ∃ d : Ex, ∃ rs : List Res, (i ≤ 32 ∧ Lies m rs d (deepX i)) ∧ 32 - i = μ ∧ F' = [(4, str (List.replicate i 40)), (5, str (List.replicate i 41)), (7, .int .i64 i)] ∧ pt1 d b6 :: pt1 oneX b1 :: (rs ++ h) = h') (32 - 0) [(4, str (List.replicate 0 40)), (5, str (List.replicate 0 41)), (7, .int .i64 0)] (h0 := pt1 (nmX [97]) b6 :: pt1 oneX b1 :: (([]) ++ h)) ?_ (by (repeat (first | exact sub0 _ | exact subA _ _ | refine subC _ ?_ | apply subK | refine subT _ ?_))) ⟨0, nmX [97], [], ⟨by omega, nm _ [97] (by decide)⟩, rfl, rfl, rfl⟩ ?_
  · (repeat (first | exact Sub.nil | refine Sub.cons rfl ?_ | refine Sub.consE rfl (by simp; done) ?_))
  rintro _ _ _ ⟨i, d, rs, ⟨hi, hd⟩, rfl, rfl, rfl⟩
  refine WC.frm rfl ?_
  (repeat (first | refine WC.seqK fun K hK => ?_ | refine WC.block ?_ | refine WC.regionG rfl fun ops hG => ?_))
  refine WL.po (PO.move (Ev.tmp rfl)) (leB rfl) ?_
  refine WL.po (PO.bin (Ev.tmp rfl) Ev.const rfl) (leB rfl) ?_
  refine WL.nil (keepF (ts := [1, 2, 3, 4, 5, 6, 7, 84]) rfl (toK (by assumption) ?_))
  (try clear hG ops)
  (repeat (first | refine WC.seqK fun K hK => ?_ | refine WC.block ?_ | refine WC.regionG rfl fun ops hG => ?_))
  refine WC.cond (Ev.tmp rfl) (fun c84 => ?_) (fun c84 => ?_)
  · replace c84 := of_decide_eq_true c84
    refine WC.skip (keepF (ts := [1, 2, 3, 4, 5, 6, 7]) rfl (toK (by assumption) ?_))
    (repeat refine WC.seqK fun K hK => ?_)
    refine WC.cutK (by assumption) [1, 2, 3, 6, 7] rfl (fun F' h' => ∃ d2 : Ex, ∃ rs2 : List Res, (Lies m rs2 d2 (deepX (i + 1))) ∧ F' = [(4, str (List.replicate (i + 1) 40)), (5, str (List.replicate (i + 1) 41))] ∧ pt1 d2 b6 :: pt1 oneX b1 :: (rs2 ++ h) = h') ?_ ?_
    · (repeat (first | refine WC.seqK fun K hK => ?_ | refine WC.block ?_ | refine WC.regionG rfl fun ops hG => ?_))
      refine WL.po (PO.move (Ev.tmp rfl)) (leB rfl) ?_
      refine WL.po (PO.catS (Ev.tmp rfl) Ev.const (by simp; omega)) (leB rfl) ?_
      refine WL.val (v' := str (List.replicate (i + 1) 40)) (by rw [List.replicate_succ']) ?_
      refine WL.po (PO.move (Ev.tmp rfl)) (leB rfl) ?_
      refine WL.po (PO.catS (Ev.tmp rfl) Ev.const (by simp; omega)) (leB rfl) ?_
      refine WL.val (v' := str (List.replicate (i + 1) 41)) (by rw [List.replicate_succ']) ?_
      refine WL.po (PO.assign (Ev.tmp rfl)) (leB rfl) ?_
      refine WL.po (PO.assign (Ev.tmp rfl)) (leB rfl) ?_
      refine WL.nil (keepF (ts := [1, 2, 3, 4, 5, 6, 7]) rfl (toK (by assumption) ?_))
      (try clear hG ops)
      (repeat (first | refine WC.seqK fun K hK => ?_ | refine WC.block ?_ | refine WC.regionG rfl fun ops hG => ?_))
      refine WL.po (PO.move (Ev.tmp rfl)) (leB rfl) ?_
      refine WL.po (PO.bin (Ev.tmp rfl) Ev.const rfl) (leB rfl) ?_
      refine WL.nil (keepF (ts := [1, 2, 3, 4, 5, 6, 7, 92]) rfl (toK (by assumption) ?_))
      (try clear hG ops)
      (repeat (first | refine WC.seqK fun K hK => ?_ | refine WC.block ?_ | refine WC.regionG rfl fun ops hG => ?_))
      refine WC.cond (Ev.tmp rfl) (fun c92 => ?_) (fun c92 => ?_)
      · replace c92 := of_decide_eq_true c92
        (repeat (first | refine WC.seqK fun K hK => ?_ | refine WC.block ?_ | refine WC.regionG rfl fun ops hG => ?_))
        refine WL.po (PO.loadA Tryd.underlying27 rfl rfl (Ev.tmp rfl) (by (repeat (first | exact mem0 _ | apply memT))) rfl) (leB rfl) ?_
        refine WL.buildSlice EL25 rfl (EvP.cons (Ev.tmp rfl) EvP.nil) rfl rfl (by decide) rfl (leB rfl) fun b94 => ?_
        refine WL.po (PO.build Tryd.underlying27 rfl rfl rfl (EvP.cons Ev.const (EvP.cons Ev.const (EvP.cons (Ev.tmp rfl) EvP.nil))) rfl) (leB rfl) ?_
        refine WL.store rfl (Ev.tmp rfl) (Ev.tmp rfl) rfl rfl rfl rfl (by (repeat (first | exact Upd.here | apply Upd.next))) ?_
        refine WL.take (r := .pt b1 _) (by (repeat (first | exact Del.here | apply Del.next))) ?_
        refine WL.take (r := .pt b6 _) (by (repeat (first | exact Del.here | apply Del.next))) ?_
        refine WL.nil (meetI [(4, str (List.replicate (i + 1) 40)), (5, str (List.replicate (i + 1) 41))] (h'' := pt1 (.mk 6 25 0 0 [] (some ⟨b94, 0, none⟩) 1 [d]) b6 :: pt1 oneX b1 :: ((pt1 d b94 :: rs) ++ h)) ?_ (by (repeat (first | exact Sub.nil | refine Sub.cons rfl ?_ | refine Sub.consE rfl (by simp; done) ?_))) (by (repeat (first | exact sub0 _ | exact subA _ _ | refine subC _ ?_ | apply subK | refine subT _ ?_))) ⟨.mk 6 25 0 0 [] (some ⟨b94, 0, none⟩) 1 [d], pt1 d b94 :: rs, (by obtain ⟨j, rfl⟩ : ∃ j, i = j + 1 := ⟨i - 1, by omega⟩; exact lies_one hd b94 (by decide) (by decide) (by decide) (by decide) (by decide)), rfl, rfl⟩)
        (repeat (first | exact Sub.nil | refine Sub.cons rfl ?_ | refine Sub.consE rfl (by simp; done) ?_))
      · replace c92 := of_decide_eq_false c92
        refine WC.skip (meetI [(4, str (List.replicate (i + 1) 40)), (5, str (List.replicate (i + 1) 41))] (h'' := pt1 d b6 :: pt1 oneX b1 :: (rs ++ h)) ?_ (by (repeat (first | exact Sub.nil | refine Sub.cons rfl ?_ | refine Sub.consE rfl (by simp; done) ?_))) (by (repeat (first | exact sub0 _ | exact subA _ _ | refine subC _ ?_ | apply subK | refine subT _ ?_))) ⟨d, rs, (by obtain rfl : i = 0 := (by omega); exact hd), rfl, rfl⟩)
        (repeat (first | exact Sub.nil | refine Sub.cons rfl ?_ | refine Sub.consE rfl (by simp; done) ?_))
    rintro _ _ ⟨d2, rs2, hd2, rfl, rfl⟩
    refine WC.frm rfl ?_
    (repeat (first | refine WC.seqK fun K hK => ?_ | refine WC.block ?_ | refine WC.regionG rfl fun ops hG => ?_))
    refine WL.po (PO.move (Ev.tmp rfl)) (leB rfl) ?_
    refine WL.po (PO.addI (Ev.tmp rfl) Ev.const (by omega)) (leB rfl) ?_
    refine WL.po (PO.assign (Ev.tmp rfl)) (leB rfl) ?_
    refine WL.nil (loopBackI (32 - (i + 1)) [(4, str (List.replicate (i + 1) 40)), (5, str (List.replicate (i + 1) 41)), (7, .int .i64 (i + 1))] (h'' := pt1 d2 b6 :: pt1 oneX b1 :: (rs2 ++ h)) (by omega) ?_ (by (repeat (first | exact Sub.nil | refine Sub.cons rfl ?_ | refine Sub.consE rfl (by simp; done) ?_))) (by (repeat (first | exact sub0 _ | exact subA _ _ | refine subC _ ?_ | apply subK | refine subT _ ?_))) ⟨i + 1, d2, rs2, ⟨by omega, hd2⟩, rfl, rfl, rfl⟩)
    (repeat (first | exact Sub.nil | refine Sub.cons rfl ?_ | refine Sub.consE rfl (by simp; done) ?_))
  · replace c84 := of_decide_eq_false c84
    obtain rfl : i = 32 := by omega
    refine WC.exit (keepF (ts := [1, 2, 3, 4, 5, 6]) rfl (toK (by assumption) ?_))
    (repeat (first | refine WC.seqK fun K hK => ?_ | refine WC.block ?_ | refine WC.regionG rfl fun ops hG => ?_))
    refine WL.po (PO.move (Ev.tmp rfl)) (leB rfl) ?_
    refine WL.po (PO.catS (Ev.tmp rfl) Ev.const (by simp)) (leB rfl) ?_
    refine WL.po (PO.move (Ev.tmp rfl)) (leB rfl) ?_
    refine WL.po (PO.catS (Ev.tmp rfl) (Ev.tmp rfl) (by simp)) (leB rfl) ?_
    refine WL.callP Ev.func (Evs.cons Ev.const Evs.nil) (nameX_ct _ _ _) (leB rfl) ?_
    refine WL.callP Ev.func (Evs.cons (Ev.tmp rfl) (Evs.cons (Ev.tmp rfl) (Evs.cons Ev.const Evs.nil))) (rd_t hg (nm _ [97] (by decide)) ((List.replicate 32 40 ++ [97]) ++ List.replicate 32 41) (by decide) 65 kd1) (leB rfl) ?_
    refine WL.po (PO.move (Ev.tmp rfl)) (leB rfl) ?_
    refine WL.unG (GU.t (hG _ _ rfl) rfl) rfl ?_
    refine WL.po (PO.move (Ev.tmp rfl)) (leB rfl) ?_
    refine WL.unG (GU.t (hG _ _ rfl) rfl) rfl ?_
    refine WL.po (PO.catS (Ev.tmp rfl) Ev.const (by simp)) (leB rfl) ?_
    refine WL.unG (GU.t (hG _ _ rfl) rfl) rfl ?_
    refine WL.callP Ev.func (Evs.cons (Ev.tmp rfl) (Evs.cons Ev.const Evs.nil)) (fl_t hg (List.replicate 32 40 ++ [40]) (by decide) 3 kd2) (leB rfl) ?_
    refine WL.po (PO.pickAnd rfl rfl) (leB rfl) ?_
    refine WL.po (PO.move (Ev.tmp rfl)) (leB rfl) ?_
    refine WL.unG (GU.t (hG _ _ rfl) rfl) rfl ?_
    refine WL.po (PO.move (Ev.tmp rfl)) (leB rfl) ?_
    refine WL.unG (GU.t (hG _ _ rfl) rfl) rfl ?_
    refine WL.po (PO.catS (Ev.tmp rfl) Ev.const (by simp)) (leB rfl) ?_
    refine WL.unG (GU.t (hG _ _ rfl) rfl) rfl ?_
    refine WL.po (PO.move (Ev.tmp rfl)) (leB rfl) ?_
    refine WL.unG (GU.t (hG _ _ rfl) rfl) rfl ?_
    refine WL.po (PO.catS (Ev.tmp rfl) (Ev.tmp rfl) (by simp)) (leB rfl) ?_
    refine WL.unG (GU.t (hG _ _ rfl) rfl) rfl ?_
    refine WL.callP Ev.func (Evs.cons (Ev.tmp rfl) (Evs.cons Ev.const Evs.nil)) (fl_t hg ((List.replicate 32 40 ++ [40, 97, 41]) ++ List.replicate 32 41) (by decide) 3 kd3) (leB rfl) ?_
    refine WL.po (PO.pickAnd rfl rfl) (leB rfl) ?_
    refine WL.po (PO.move (Ev.tmp rfl)) (leB rfl) ?_
    refine WL.unG (GU.t (hG _ _ rfl) rfl) rfl ?_
    refine WL.po (PO.move (Ev.tmp rfl)) (leB rfl) ?_
    refine WL.unG (GU.t (hG _ _ rfl) rfl) rfl ?_
    refine WL.po (PO.catS (Ev.tmp rfl) Ev.const (by simp)) (leB rfl) ?_
    refine WL.unG (GU.t (hG _ _ rfl) rfl) rfl ?_
    refine WL.po (PO.move (Ev.tmp rfl)) (leB rfl) ?_
    refine WL.unG (GU.t (hG _ _ rfl) rfl) rfl ?_
    refine WL.po (PO.catS (Ev.tmp rfl) (Ev.tmp rfl) (by simp)) (leB rfl) ?_
    refine WL.unG (GU.t (hG _ _ rfl) rfl) rfl ?_
    refine WL.callP Ev.func (Evs.cons (Ev.tmp rfl) (Evs.cons Ev.const Evs.nil)) (fl_t hg ((List.replicate 32 40 ++ [118, 91, 97, 93]) ++ List.replicate 32 41) (by decide) 3 kd4) (leB rfl) ?_
    refine WL.po (PO.pickAnd rfl rfl) (leB rfl) ?_
    refine WL.po (PO.assign (Ev.tmp rfl)) (leB rfl) ?_
    refine WL.nil (keepF (ts := [1, 2, 3, 6, 8]) rfl (toK (by assumption) ?_))
    (try clear hG ops)
    (repeat (first | refine WC.seqK fun K hK => ?_ | refine WC.block ?_ | refine WC.regionG rfl fun ops hG => ?_))
    refine WL.po (PO.loadA Tryd.underlying27 rfl rfl (Ev.tmp rfl) (by (repeat (first | exact mem0 _ | apply memT))) rfl) (leB rfl) ?_
    refine WL.buildSlice EL25 rfl (EvP.cons (Ev.tmp rfl) EvP.nil) rfl rfl (by decide) rfl (leB rfl) fun b122 => ?_
    refine WL.po (PO.build Tryd.underlying27 rfl rfl rfl (EvP.cons Ev.const (EvP.cons Ev.const (EvP.cons (Ev.tmp rfl) EvP.nil))) rfl) (leB rfl) ?_
    refine WL.alloc rfl rfl (leB rfl) fun b9 => ?_
    refine WL.store rfl (Ev.tmp rfl) (Ev.tmp rfl) rfl rfl rfl rfl (by (repeat (first | exact Upd.here | apply Upd.next))) ?_
    refine WL.nil (keepF (ts := [1, 2, 3, 6, 8, 9]) rfl (toK (by assumption) ?_))
    (try clear hG ops)
    (repeat (first | refine WC.seqK fun K hK => ?_ | refine WC.block ?_ | refine WC.regionG rfl fun ops hG => ?_))
    have hdm := lies_one hd b122 (k := 6) (o := 25) (t := 0) (n := 0) (s := []) (by decide) (by decide) (by decide) (by decide) (by decide)
    refine WL.po (PO.loadA Tryd.underlying27 rfl rfl (Ev.tmp rfl) (by (repeat (first | exact mem0 _ | apply memT))) rfl) (leB rfl) ?_
    refine WL.callP Ev.func (Evs.cons (Ev.tmp rfl) Evs.nil) (my_t hg (hd.mono (List.Sublist.cons _ (List.Sublist.cons _ (List.Sublist.cons _ (List.Sublist.cons _ (List.sublist_append_left rs h)))))) kd5.1) (leB rfl) ?_
    refine WL.po (PO.move (Ev.tmp rfl)) (leB rfl) ?_
    refine WL.unG (GU.t (hG _ _ rfl) rfl) rfl ?_
    refine WL.po (PO.loadA Tryd.underlying27 rfl rfl (Ev.tmp rfl) (by (repeat (first | exact mem0 _ | apply memT))) rfl) (leB rfl) ?_
    refine WL.unG (GU.t (hG _ _ rfl) rfl) rfl ?_
    refine WL.callP Ev.func (Evs.cons (Ev.tmp rfl) Evs.nil) (my_t hg (hdm.mono (List.Sublist.cons _ (List.Sublist.cons_cons _ (List.Sublist.cons _ (List.Sublist.cons _ (List.sublist_append_left rs h)))))) kd5.2.1) (leB rfl) ?_
    refine WL.unG (GU.t (hG _ _ rfl) rfl) rfl ?_
    refine WL.po (PO.not (Ev.tmp rfl)) (leB rfl) ?_
    refine WL.po (PO.pickAnd rfl rfl) (leB rfl) ?_
    refine WL.po (PO.move (Ev.tmp rfl)) (leB rfl) ?_
    refine WL.unG (GU.t (hG _ _ rfl) rfl) rfl ?_
    refine WL.po (PO.loadA Tryd.underlying27 rfl rfl (Ev.tmp rfl) (by (repeat (first | exact mem0 _ | apply memT))) rfl) (leB rfl) ?_
    refine WL.unG (GU.t (hG _ _ rfl) rfl) rfl ?_
    refine WL.callP Ev.func (Evs.cons (Ev.tmp rfl) Evs.nil) (sz_t (hdm.mono (List.Sublist.cons _ (List.Sublist.cons_cons _ (List.Sublist.cons _ (List.Sublist.cons _ (List.sublist_append_left rs h)))))) kd5.2.2 (by decide)) (leB rfl) ?_
    refine WL.unG (GU.t (hG _ _ rfl) rfl) rfl ?_
    refine WL.po (PO.bin (Ev.tmp rfl) Ev.const rfl) (leB rfl) ?_
    refine WL.po (PO.pickAnd rfl rfl) (leB rfl) ?_
    refine WL.po (PO.assign (Ev.tmp rfl)) (leB rfl) ?_
    refine WL.nil (keepF (ts := [1, 2, 3, 8, 10]) rfl (toK (by assumption) ?_))
    (try clear hG ops)
    (repeat (first | refine WC.seqK fun K hK => ?_ | refine WC.block ?_ | refine WC.regionG rfl fun ops hG => ?_))
    refine WL.po (PO.loadA Tryd.underlying27 rfl rfl (Ev.tmp rfl) (by (repeat (first | exact mem0 _ | apply memT))) rfl) (leB rfl) ?_
    refine WL.alloc rfl rfl (leB rfl) fun b11 => ?_
    refine WL.store rfl (Ev.tmp rfl) (Ev.tmp rfl) rfl rfl rfl rfl (by (repeat (first | exact Upd.here | apply Upd.next))) ?_
    refine WL.nil (keepF (ts := [1, 2, 3, 8, 10, 11]) rfl (toK (by assumption) ?_))
    (try clear hG ops)
    (repeat (first | refine WC.seqK fun K hK => ?_ | refine WC.block ?_ | refine WC.regionG rfl fun ops hG => ?_))
    refine WL.po (PO.assign Ev.const) (leB rfl) ?_
    refine WL.nil (keepF (ts := [1, 2, 3, 8, 10, 11, 12]) rfl (toK (by assumption) ?_))
    (try clear hG ops)
    (repeat (first | refine WC.seqK fun K hK => ?_ | refine WC.block ?_ | refine WC.regionG rfl fun ops hG => ?_))
    refine WC.loopI [1, 2, 3, 8, 10, 11] rfl (fun μ F' h' => ∃ j : Nat, ∃ w : Ex, ∃ rs3 : List Res, (j ≤ 7 ∧ Lies m rs3 w (wideX j)) ∧ 7 - j = μ ∧ F' = [(12, .int .i64 j)] ∧ pt1 w b11 :: pt1 oneX b1 :: (rs3 ++ h) = h') (7 - 0) [(12, .int .i64 0)] (h0 := pt1 oneX b11 :: pt1 oneX b1 :: (([]) ++ h)) ?_ (by (repeat (first | exact sub0 _ | exact subA _ _ | refine subC _ ?_ | apply subK | refine subT _ ?_))) ⟨0, oneX, [], ⟨by omega, l1 _⟩, rfl, rfl, rfl⟩ ?_
    · (repeat (first | exact Sub.nil | refine Sub.cons rfl ?_ | refine Sub.consE rfl (by simp; done) ?_))
    rintro _ _ _ ⟨j, w, rs3, ⟨hj, hw⟩, rfl, rfl, rfl⟩
    refine WC.frm rfl ?_
    (repeat (first | refine WC.seqK fun K hK => ?_ | refine WC.block ?_ | refine WC.regionG rfl fun ops hG => ?_))
    refine WL.po (PO.move (Ev.tmp rfl)) (leB rfl) ?_
    refine WL.po (PO.bin (Ev.tmp rfl) Ev.const rfl) (leB rfl) ?_
    refine WL.nil (keepF (ts := [1, 2, 3, 8, 10, 11, 12, 138]) rfl (toK (by assumption) ?_))
    (try clear hG ops)
    (repeat (first | refine WC.seqK fun K hK => ?_ | refine WC.block ?_ | refine WC.regionG rfl fun ops hG => ?_))
    refine WC.cond (Ev.tmp rfl) (fun c138 => ?_) (fun c138 => ?_)
    · replace c138 := of_decide_eq_true c138
      refine WC.skip (keepF (ts := [1, 2, 3, 8, 10, 11, 12]) rfl (toK (by assumption) ?_))
      (repeat (first | refine WC.seqK fun K hK => ?_ | refine WC.block ?_ | refine WC.regionG rfl fun ops hG => ?_))
      refine WL.po (PO.loadA Tryd.underlying27 rfl rfl (Ev.tmp rfl) (by (repeat (first | exact mem0 _ | apply memT))) rfl) (leB rfl) ?_
      refine WL.po (PO.loadA Tryd.underlying27 rfl rfl (Ev.tmp rfl) (by (repeat (first | exact mem0 _ | apply memT))) rfl) (leB rfl) ?_
      refine WL.callK Ev.func (Evs.cons Ev.const (Evs.cons (Ev.tmp rfl) (Evs.cons (Ev.tmp rfl) Evs.nil))) (two_ct _ _ _ _ _) (leB rfl) ?_
      rintro _ _ ⟨b143, rfl, rfl⟩
      refine WL.store rfl (Ev.tmp rfl) (Ev.tmp rfl) rfl rfl rfl rfl (by (repeat (first | exact Upd.here | apply Upd.next))) ?_
      refine WL.take (r := .pt b1 _) (by (repeat (first | exact Del.here | apply Del.next))) ?_
      refine WL.take (r := .pt b11 _) (by (repeat (first | exact Del.here | apply Del.next))) ?_
      refine WL.nil (keepF (ts := [1, 2, 3, 8, 10, 11, 12]) rfl (toK (by assumption) ?_))
      (try clear hG ops)
      (repeat (first | refine WC.seqK fun K hK => ?_ | refine WC.block ?_ | refine WC.regionG rfl fun ops hG => ?_))
      refine WL.po (PO.move (Ev.tmp rfl)) (leB rfl) ?_
      refine WL.po (PO.addI (Ev.tmp rfl) Ev.const (by omega)) (leB rfl) ?_
      refine WL.po (PO.assign (Ev.tmp rfl)) (leB rfl) ?_
      refine WL.nil (loopBackI (7 - (j + 1)) [(12, .int .i64 (j + 1))] (h'' := pt1 (twoX 6 w w b143) b11 :: pt1 oneX b1 :: ((twoR w w b143 :: rs3) ++ h)) (by omega) ?_ (by (repeat (first | exact Sub.nil | refine Sub.cons rfl ?_ | refine Sub.consE rfl (by simp; done) ?_))) (by (repeat (first | exact sub0 _ | exact subA _ _ | refine subC _ ?_ | apply subK | refine subT _ ?_))) ⟨j + 1, twoX 6 w w b143, twoR w w b143 :: rs3, ⟨by omega, lies_two hw hw b143 (by decide)⟩, rfl, rfl, rfl⟩)
      (repeat (first | exact Sub.nil | refine Sub.cons rfl ?_ | refine Sub.consE rfl (by simp; done) ?_))
    · replace c138 := of_decide_eq_false c138
      obtain rfl : j = 7 := by omega
      refine WC.exit (keepF (ts := [1, 2, 3, 8, 10, 11]) rfl (toK (by assumption) ?_))
      (repeat (first | refine WC.seqK fun K hK => ?_ | refine WC.block ?_ | refine WC.regionG rfl fun ops hG => ?_))
      refine WL.po (PO.loadA Tryd.underlying27 rfl rfl (Ev.tmp rfl) (by (repeat (first | exact mem0 _ | apply memT))) rfl) (leB rfl) ?_
      refine WL.po (PO.loadA Tryd.underlying27 rfl rfl (Ev.tmp rfl) (by (repeat (first | exact mem0 _ | apply memT))) rfl) (leB rfl) ?_
      refine WL.buildSlice EL25 rfl (EvP.cons (Ev.tmp rfl) EvP.nil) rfl rfl (by decide) rfl (leB rfl) fun b146 => ?_
      refine WL.po (PO.build Tryd.underlying27 rfl rfl rfl (EvP.cons Ev.const (EvP.cons Ev.const (EvP.cons (Ev.tmp rfl) EvP.nil))) rfl) (leB rfl) ?_
      refine WL.callK Ev.func (Evs.cons Ev.const (Evs.cons (Ev.tmp rfl) (Evs.cons (Ev.tmp rfl) Evs.nil))) (two_ct 6 w (.mk 6 23 0 0 [] (some ⟨b146, 0, none⟩) 1 [oneX]) _ _) (leB rfl) ?_
      rintro _ _ ⟨b148, rfl, rfl⟩
      refine WL.alloc rfl rfl (leB rfl) fun b13 => ?_
      refine WL.store rfl (Ev.tmp rfl) (Ev.tmp rfl) rfl rfl rfl rfl (by (repeat (first | exact Upd.here | apply Upd.next))) ?_
      refine WL.nil (keepF (ts := [1, 2, 3, 8, 10, 11, 13]) rfl (toK (by assumption) ?_))
      (try clear hG ops)
      (repeat (first | refine WC.seqK fun K hK => ?_ | refine WC.block ?_ | refine WC.regionG rfl fun ops hG => ?_))
      have hfu := lies_two (hw.mono (List.sublist_cons_self (pt1 oneX b146) rs3)) (lies_one (l1 rs3) b146 (k := 6) (o := 23) (t := 0) (n := 0) (s := []) (by decide) (by decide) (by decide) (by decide) (by decide)) b148 (o := 6) (by decide)
      have hs1 : rs3.Sublist (pt1 (twoX 6 w (.mk 6 23 0 0 [] (some ⟨b146, 0, none⟩) 1 [oneX]) b148) b13 :: twoR w (.mk 6 23 0 0 [] (some ⟨b146, 0, none⟩) 1 [oneX]) b148 :: pt1 oneX b146 :: pt1 w b11 :: pt1 oneX b1 :: (rs3 ++ h)) := List.Sublist.cons _ (List.Sublist.cons _ (List.Sublist.cons _ (List.Sublist.cons _ (List.Sublist.cons _ (List.sublist_append_left rs3 h)))))
      have hs2 : (twoR w (.mk 6 23 0 0 [] (some ⟨b146, 0, none⟩) 1 [oneX]) b148 :: pt1 oneX b146 :: rs3).Sublist (pt1 (twoX 6 w (.mk 6 23 0 0 [] (some ⟨b146, 0, none⟩) 1 [oneX]) b148) b13 :: twoR w (.mk 6 23 0 0 [] (some ⟨b146, 0, none⟩) 1 [oneX]) b148 :: pt1 oneX b146 :: pt1 w b11 :: pt1 oneX b1 :: (rs3 ++ h)) := List.Sublist.cons _ (List.Sublist.cons_cons _ (List.Sublist.cons_cons _ (List.Sublist.cons _ (List.Sublist.cons _ (List.sublist_append_left rs3 h)))))
      refine WL.po (PO.loadA Tryd.underlying27 rfl rfl (Ev.tmp rfl) (by (repeat (first | exact mem0 _ | apply memT))) rfl) (leB rfl) ?_
      refine WL.callP Ev.func (Evs.cons (Ev.tmp rfl) Evs.nil) (my_t hg (hw.mono hs1) kw1.1) (leB rfl) ?_
      refine WL.po (PO.move (Ev.tmp rfl)) (leB rfl) ?_
      refine WL.unG (GU.t (hG _ _ rfl) rfl) rfl ?_
      refine WL.po (PO.loadA Tryd.underlying27 rfl rfl (Ev.tmp rfl) (by (repeat (first | exact mem0 _ | apply memT))) rfl) (leB rfl) ?_
      refine WL.unG (GU.t (hG _ _ rfl) rfl) rfl ?_
      refine WL.callP Ev.func (Evs.cons (Ev.tmp rfl) Evs.nil) (sz_t (hw.mono hs1) kw1.2.1 (by decide)) (leB rfl) ?_
      refine WL.unG (GU.t (hG _ _ rfl) rfl) rfl ?_
      refine WL.po (PO.bin (Ev.tmp rfl) Ev.const rfl) (leB rfl) ?_
      refine WL.po (PO.pickAnd rfl rfl) (leB rfl) ?_
      refine WL.po (PO.move (Ev.tmp rfl)) (leB rfl) ?_
      refine WL.unG (GU.t (hG _ _ rfl) rfl) rfl ?_
      refine WL.po (PO.loadA Tryd.underlying27 rfl rfl (Ev.tmp rfl) (by (repeat (first | exact mem0 _ | apply memT))) rfl) (leB rfl) ?_
      refine WL.unG (GU.t (hG _ _ rfl) rfl) rfl ?_
      refine WL.callP Ev.func (Evs.cons (Ev.tmp rfl) Evs.nil) (my_t hg (hfu.mono hs2) kw1.2.2.1) (leB rfl) ?_
      refine WL.unG (GU.t (hG _ _ rfl) rfl) rfl ?_
      refine WL.po (PO.not (Ev.tmp rfl)) (leB rfl) ?_
      refine WL.po (PO.pickAnd rfl rfl) (leB rfl) ?_
      refine WL.po (PO.move (Ev.tmp rfl)) (leB rfl) ?_
      refine WL.unG (GU.t (hG _ _ rfl) rfl) rfl ?_
      refine WL.po (PO.loadA Tryd.underlying27 rfl rfl (Ev.tmp rfl) (by (repeat (first | exact mem0 _ | apply memT))) rfl) (leB rfl) ?_
      refine WL.unG (GU.t (hG _ _ rfl) rfl) rfl ?_
      refine WL.callP Ev.func (Evs.cons (Ev.tmp rfl) Evs.nil) (sz_t (hfu.mono hs2) kw1.2.2.2 (by decide)) (leB rfl) ?_
      refine WL.unG (GU.t (hG _ _ rfl) rfl) rfl ?_
      refine WL.po (PO.bin (Ev.tmp rfl) Ev.const rfl) (leB rfl) ?_
      refine WL.po (PO.pickAnd rfl rfl) (leB rfl) ?_
      refine WL.po (PO.assign (Ev.tmp rfl)) (leB rfl) ?_
      refine WL.nil (keepF (ts := [1, 2, 3, 8, 10, 14]) rfl (toK (by assumption) ?_))
      (try clear hG ops)
      (repeat (first | refine WC.seqK fun K hK => ?_ | refine WC.block ?_ | refine WC.regionG rfl fun ops hG => ?_))
      refine WL.po (PO.build Tryd.underlying27 rfl rfl rfl EvP.nil rfl) (leB rfl) ?_
      refine WL.po (PO.build Tryd.underlying27 rfl rfl rfl (EvP.cons Ev.const EvP.nil) rfl) (leB rfl) ?_
      refine WL.po (PO.build Tryd.underlying27 rfl rfl rfl (EvP.cons Ev.const (EvP.cons Ev.const EvP.nil)) rfl) (leB rfl) ?_
      refine WL.po (PO.build Tryd.underlying27 rfl rfl rfl (EvP.cons Ev.const (EvP.cons Ev.const EvP.nil)) rfl) (leB rfl) ?_
      refine WL.po (PO.build Tryd.underlying27 rfl rfl rfl (EvP.cons Ev.const (EvP.cons Ev.const EvP.nil)) rfl) (leB rfl) ?_
      refine WL.po (PO.build Tryd.underlying27 rfl rfl rfl (EvP.cons Ev.const (EvP.cons Ev.const EvP.nil)) rfl) (leB rfl) ?_
      refine WL.po (PO.build Tryd.underlying27 rfl rfl rfl (EvP.cons Ev.const (EvP.cons Ev.const EvP.nil)) rfl) (leB rfl) ?_
      refine WL.po (PO.loadA Tryd.underlying27 rfl rfl (Ev.tmp rfl) (by (repeat (first | exact mem0 _ | apply memT))) rfl) (leB rfl) ?_
      refine WL.buildSlice EL25 rfl (EvP.cons (Ev.tmp rfl) EvP.nil) rfl rfl (by decide) rfl (leB rfl) fun b174 => ?_
      refine WL.po (PO.build Tryd.underlying27 rfl rfl rfl (EvP.cons Ev.const (EvP.cons Ev.const (EvP.cons (Ev.tmp rfl) EvP.nil))) rfl) (leB rfl) ?_
      refine WL.po (PO.loadA Tryd.underlying27 rfl rfl (Ev.tmp rfl) (by (repeat (first | exact mem0 _ | apply memT))) rfl) (leB rfl) ?_
      refine WL.po (PO.loadA Tryd.underlying27 rfl rfl (Ev.tmp rfl) (by (repeat (first | exact mem0 _ | apply memT))) rfl) (leB rfl) ?_
      refine WL.buildSlice EL25 rfl (EvP.cons (Ev.tmp rfl) (EvP.cons (Ev.tmp rfl) EvP.nil)) rfl rfl (by decide) rfl (leB rfl) fun b178 => ?_
      refine WL.po (PO.build Tryd.underlying27 rfl rfl rfl (EvP.cons Ev.const (EvP.cons Ev.const (EvP.cons (Ev.tmp rfl) EvP.nil))) rfl) (leB rfl) ?_
      refine WL.po (PO.loadA Tryd.underlying27 rfl rfl (Ev.tmp rfl) (by (repeat (first | exact mem0 _ | apply memT))) rfl) (leB rfl) ?_
      refine WL.buildSlice EL25 rfl (EvP.cons (Ev.tmp rfl) EvP.nil) rfl rfl (by decide) rfl (leB rfl) fun b181 => ?_
      refine WL.po (PO.build Tryd.underlying27 rfl rfl rfl (EvP.cons Ev.const (EvP.cons Ev.const (EvP.cons (Ev.tmp rfl) EvP.nil))) rfl) (leB rfl) ?_
      refine WL.po (PO.loadA Tryd.underlying27 rfl rfl (Ev.tmp rfl) (by (repeat (first | exact mem0 _ | apply memT))) rfl) (leB rfl) ?_
      refine WL.buildSlice EL25 rfl (EvP.cons (Ev.tmp rfl) EvP.nil) rfl rfl (by decide) rfl (leB rfl) fun b184 => ?_
      refine WL.po (PO.build Tryd.underlying27 rfl rfl rfl (EvP.cons Ev.const (EvP.cons Ev.const (EvP.cons (Ev.tmp rfl) EvP.nil))) rfl) (leB rfl) ?_
      refine WL.po (PO.build Tryd.underlying27 rfl rfl rfl (EvP.cons Ev.const EvP.nil) rfl) (leB rfl) ?_
      refine WL.buildSlice EL25 rfl (EvP.cons (Ev.tmp rfl) (EvP.cons (Ev.tmp rfl) (EvP.cons (Ev.tmp rfl) (EvP.cons (Ev.tmp rfl) (EvP.cons (Ev.tmp rfl) (EvP.cons (Ev.tmp rfl) (EvP.cons (Ev.tmp rfl) (EvP.cons (Ev.tmp rfl) (EvP.cons (Ev.tmp rfl) (EvP.cons (Ev.tmp rfl) (EvP.cons (Ev.tmp rfl) (EvP.cons (Ev.tmp rfl) EvP.nil)))))))))))) rfl rfl (by decide) rfl (leB rfl) fun b187 => ?_
      obtain ⟨es, hes⟩ : ∃ es : List Ex, es = [sx 0 0 0 0 [] [], sx 4 0 0 0 [] [], sx 4 0 0 0 [83, 69, 81] [], sx 2 0 0 256 [] [], sx 3 0 0 2 [] [], sx 1 0 0 0 [97] [], sx 5 0 0 0 [118] [], .mk 6 2 0 0 [] (some ⟨b174, 0, none⟩) 1 [oneX], .mk 7 26 0 0 [] (some ⟨b178, 0, none⟩) 2 [oneX, oneX], .mk 8 0 4 0 [] (some ⟨b181, 0, none⟩) 1 [oneX], .mk 9 0 0 0 [118] (some ⟨b184, 0, none⟩) 1 [oneX], sx 99 0 0 0 [] []] := ⟨_, rfl⟩
      have hel : es.length = 12 := by rw [hes]; rfl
      obtain ⟨H, hH⟩ : ∃ H : List Res, H = .pt b187 (.cells (fl exE es).toArray 27 (0, 0)) :: pt1 oneX b184 :: pt1 oneX b181 :: twoR oneX oneX b178 :: pt1 oneX b174 :: h := ⟨_, rfl⟩
      have hrd : Rd m H (some ⟨b187, 0, none⟩) 12 12 6 (fl exE es) := Rd.ofPt (by rw [fl_len exE_len, hel]) (by decide) (by rw [hH]; exact List.Mem.head _)
      have lf : ∀ (h' : List Res) {k o t n : Int} {s : B}, mayE (sx k o t n s []) = false → (0 ≤ k ∧ k ≤ 255) → (0 ≤ o ∧ o ≤ 255) → (0 ≤ t ∧ t ≤ 255) → (-2147483648 ≤ n ∧ n ≤ 2147483647) → s.length ≤ 140737488355328 → TOk m h' (sx k o t n s []) ∧ Wf (sx k o t n s []) ∧ mayE (sx k o t n s []) = false :=
        fun h' k o t n s hx hk ho ht hn hs => bad_t (lies_leaf m h' hk ho ht hn hs) hx
      have hall : ∀ x ∈ es, TOk m H x ∧ Wf x ∧ mayE x = false := by
        rw [hes, hH]
        simp only [List.forall_mem_cons]
        refine ⟨lf _ (by decide +kernel) (by decide) (by decide) (by decide) (by decide) (by decide), lf _ (by decide +kernel) (by decide) (by decide) (by decide) (by decide) (by decide), lf _ (by decide +kernel) (by decide) (by decide) (by decide) (by decide) (by decide), lf _ (by decide +kernel) (by decide) (by decide) (by decide) (by decide) (by decide), lf _ (by decide +kernel) (by decide) (by decide) (by decide) (by decide) (by decide), lf _ (by decide +kernel) (by decide) (by decide) (by decide) (by decide) (by decide), lf _ (by decide +kernel) (by decide) (by decide) (by decide) (by decide) (by decide), ?_, ?_, ?_, ?_, lf _ (by decide +kernel) (by decide) (by decide) (by decide) (by decide) (by decide), fun _ h => (List.not_mem_nil h).elim⟩
        · exact bad_t (Lies.mono (lies_one (l1 h) b174 (by decide) (by decide) (by decide) (by decide) (by decide)) (by (repeat (first | exact sub0 _ | exact subA _ _ | refine subC _ ?_ | apply subK | refine subT _ ?_)))) (by decide +kernel)
        · exact bad_t (Lies.mono (lies_two (l1 h) (l1 h) b178 (by decide)) (by exact List.Sublist.cons _ (List.Sublist.cons _ (List.Sublist.cons _ (List.Sublist.cons_cons _ (List.sublist_cons_self _ _)))))) (by decide +kernel)
        · exact bad_t (Lies.mono (lies_one (l1 h) b181 (by decide) (by decide) (by decide) (by decide) (by decide)) (by exact List.Sublist.cons _ (List.Sublist.cons _ (List.Sublist.cons_cons _ (List.Sublist.cons _ (List.sublist_cons_self _ _)))))) (by decide +kernel)
        · exact bad_t (Lies.mono (lies_one (l1 h) b184 (by decide) (by decide) (by decide) (by decide) (by decide)) (by exact List.Sublist.cons _ (List.Sublist.cons_cons _ (List.Sublist.cons _ (List.Sublist.cons _ (List.sublist_cons_self _ _)))))) (by decide +kernel)
      refine WL.ptE (cs' := fl exE es) (by rw [hes]) (by (repeat (first | exact Upd.here | apply Upd.next))) ?_
      refine wl_sub (h' := H) (by rw [hH]; exact (List.Sublist.cons_cons _ (List.Sublist.cons_cons _ (List.Sublist.cons_cons _ (List.Sublist.cons_cons _ (List.Sublist.cons_cons _ (by (repeat (first | exact sub0 _ | exact subA _ _ | refine subC _ ?_ | apply subK | refine subT _ ?_))))))))) ?_
      refine WL.po (PO.lenSl Tryd.underlying25 (Ev.tmp rfl)) (leB rfl) ?_
      refine WL.po (PO.move Ev.const) (leB rfl) ?_
      refine WL.nil (keepF (ts := [2, 3, 8, 10, 14, 187, 188, 189]) rfl (toK (by assumption) ?_))
      (try clear hG ops)
      (repeat (first | refine WC.seqK fun K hK => ?_ | refine WC.block ?_ | refine WC.regionG rfl fun ops hG => ?_))
      refine WC.loopI [2, 3, 8, 10, 187, 188] rfl (fun μ F' h' => ∃ i : Nat, (i ≤ 12) ∧ 12 - i = μ ∧ F' = [(14, .bool true), (189, .int .i64 i)] ∧ H = h') (12 - 0) [(14, .bool true), (189, .int .i64 0)] (h0 := H) ?_ (by (repeat (first | exact sub0 _ | exact subA _ _ | refine subC _ ?_ | apply subK | refine subT _ ?_))) ⟨0, by omega, rfl, rfl, rfl⟩ ?_
      · exact Sub.cons rfl (Sub.cons rfl Sub.nil)
      rintro _ _ _ ⟨i, hi, rfl, rfl, rfl⟩
      refine WC.frm rfl ?_
      (repeat (first | refine WC.seqK fun K hK => ?_ | refine WC.block ?_ | refine WC.regionG rfl fun ops hG => ?_))
      refine WL.po (PO.bin (Ev.tmp rfl) (Ev.tmp rfl) rfl) (leB rfl) ?_
      refine WL.nil (keepF (ts := [2, 3, 8, 10, 14, 187, 188, 189, 190]) rfl (toK (by assumption) ?_))
      (try clear hG ops)
      (repeat (first | refine WC.seqK fun K hK => ?_ | refine WC.block ?_ | refine WC.regionG rfl fun ops hG => ?_))
      refine WC.cond (Ev.tmp rfl) (fun c190 => ?_) (fun c190 => ?_)
      · replace c190 := of_decide_eq_true c190
        obtain ⟨x, hx⟩ := get_some (l := es) (k := i) (by omega)
        have hxm := hall x (List.mem_of_getElem? hx)
        refine WC.skip (keepF (ts := [2, 3, 8, 10, 14, 187, 188, 189]) rfl (toK (by assumption) ?_))
        (repeat (first | refine WC.seqK fun K hK => ?_ | refine WC.block ?_ | refine WC.regionG rfl fun ops hG => ?_))
        refine WL.po (PO.idx EL25.und EL25.size EL25.posz (Ev.tmp rfl) (Ev.tmp rfl) (by first | assumption | exact Rd.ofSl (by assumption) | exact Rd.ofPt rfl (by decide) (by (repeat (first | exact mem0 _ | apply memT))) | exact Rd.mono (by assumption) (View.le.refl _) (by (repeat (first | exact sub0 _ | exact subA _ _ | refine subC _ ?_ | apply subK | refine subT _ ?_))) | exact Rd.inRow (by (repeat (first | exact mem0 _ | apply memT))) (by assumption) (by assumption) (by assumption)) rfl (by omega)) (leB rfl) ?_
        refine WL.po (PO.loadFA Tryd.underlying27 rfl rfl exE_len (by first | assumption | exact Rd.ofSl (by assumption) | exact Rd.ofPt rfl (by decide) (by (repeat (first | exact mem0 _ | apply memT))) | exact Rd.mono (by assumption) (View.le.refl _) (by (repeat (first | exact sub0 _ | exact subA _ _ | refine subC _ ?_ | apply subK | refine subT _ ?_))) | exact Rd.inRow (by (repeat (first | exact mem0 _ | apply memT))) (by assumption) (by assumption) (by assumption)) (Ev.tmp rfl) (by assumption) rfl rfl (Nat.succ_pos _)) (leB rfl) ?_
        refine WL.alloc rfl rfl (leB rfl) fun b16 => ?_
        refine WL.store rfl (Ev.tmp rfl) (Ev.tmp rfl) rfl rfl rfl rfl (by (repeat (first | exact Upd.here | apply Upd.next))) ?_
        refine WL.nil (keepF (ts := [2, 3, 8, 10, 14, 16, 187, 188, 189]) rfl (toK (by assumption) ?_))
        (try clear hG ops)
        (repeat (first | refine WC.seqK fun K hK => ?_ | refine WC.block ?_ | refine WC.regionG rfl fun ops hG => ?_))
        refine WL.po (PO.move (Ev.tmp rfl)) (leB rfl) ?_
        refine WL.po (PO.move (Ev.tmp rfl)) (leB rfl) ?_
        refine WL.unG (GU.t (hG _ _ rfl) rfl) rfl ?_
        refine WL.po (PO.loadA Tryd.underlying27 rfl rfl (Ev.tmp rfl) (by (repeat (first | exact mem0 _ | apply memT))) rfl) (leB rfl) ?_
        refine WL.unG (GU.t (hG _ _ rfl) rfl) rfl ?_
        refine WL.callP Ev.func (Evs.cons (Ev.tmp rfl) Evs.nil) (CT.val (may_ct hg x _ (hxm.1.mono (by (repeat (first | exact sub0 _ | exact subA _ _ | refine subC _ ?_ | apply subK | refine subT _ ?_)))) hxm.2.1) (congrArg Value.bool hxm.2.2)) (leB rfl) ?_
        refine WL.unG (GU.t (hG _ _ rfl) rfl) rfl ?_
        refine WL.po (PO.not (Ev.tmp rfl)) (leB rfl) ?_
        refine WL.po (PO.pickAnd rfl rfl) (leB rfl) ?_
        refine WL.po (PO.assign (Ev.tmp rfl)) (leB rfl) ?_
        refine WL.nil (keepF (ts := [2, 3, 8, 10, 14, 187, 188, 189]) rfl (toK (by assumption) ?_))
        (try clear hG ops)
        (repeat (first | refine WC.seqK fun K hK => ?_ | refine WC.block ?_ | refine WC.regionG rfl fun ops hG => ?_))
        refine WL.po (PO.addI (Ev.tmp rfl) Ev.const (by omega)) (leB rfl) ?_
        refine WL.po (PO.move (Ev.tmp rfl)) (leB rfl) ?_
        refine WL.nil (loopBackI (12 - (i + 1)) [(14, .bool true), (189, .int .i64 (i + 1))] (h'' := H) (by omega) ?_ (by (repeat (first | exact Sub.nil | refine Sub.cons rfl ?_ | refine Sub.consE rfl (by simp; done) ?_))) (by (repeat (first | exact sub0 _ | exact subA _ _ | refine subC _ ?_ | apply subK | refine subT _ ?_))) ⟨i + 1, by omega, rfl, rfl, rfl⟩)
        (repeat (first | exact Sub.nil | refine Sub.cons rfl ?_ | refine Sub.consE rfl (by simp; done) ?_))
      · replace c190 := of_decide_eq_false c190
        subst hH
        refine WC.exit (keepF (ts := [2, 3, 8, 10, 14]) rfl (toK (by assumption) ?_))
        (repeat (first | refine WC.seqK fun K hK => ?_ | refine WC.block ?_ | refine WC.regionG rfl fun ops hG => ?_))
        refine WL.callP Ev.func (Evs.cons Ev.const Evs.nil) (word_ct 0 (by decide) _ _) (leB rfl) ?_
        refine WL.po (PO.move (Ev.tmp rfl)) (leB rfl) ?_
        refine WL.po (PO.extract (Ev.tmp rfl) rfl) (leB rfl) ?_
        refine WL.po (PO.extract (Ev.tmp rfl) rfl) (leB rfl) ?_
        refine WL.po (PO.assign (Ev.tmp rfl)) (leB rfl) ?_
        refine WL.po (PO.assign (Ev.tmp rfl)) (leB rfl) ?_
        refine WL.nil (keepF (ts := [2, 3, 8, 10, 14, 18]) rfl (toK (by assumption) ?_))
        (try clear hG ops)
        (repeat (first | refine WC.seqK fun K hK => ?_ | refine WC.block ?_ | refine WC.regionG rfl fun ops hG => ?_))
        refine WL.callP Ev.func (Evs.cons Ev.const Evs.nil) (word_ct 27 (by decide) _ _) (leB rfl) ?_
        refine WL.po (PO.move (Ev.tmp rfl)) (leB rfl) ?_
        refine WL.po (PO.extract (Ev.tmp rfl) rfl) (leB rfl) ?_
        refine WL.po (PO.extract (Ev.tmp rfl) rfl) (leB rfl) ?_
        refine WL.po (PO.assign (Ev.tmp rfl)) (leB rfl) ?_
        refine WL.po (PO.assign (Ev.tmp rfl)) (leB rfl) ?_
        refine WL.nil (keepF (ts := [2, 3, 8, 10, 14, 18, 20]) rfl (toK (by assumption) ?_))
        (try clear hG ops)
        (repeat (first | refine WC.seqK fun K hK => ?_ | refine WC.block ?_ | refine WC.regionG rfl fun ops hG => ?_))
        refine WL.callP Ev.func (Evs.cons Ev.const Evs.nil) (word_ct 12 (by decide) _ _) (leB rfl) ?_
        refine WL.po (PO.move (Ev.tmp rfl)) (leB rfl) ?_
        refine WL.po (PO.extract (Ev.tmp rfl) rfl) (leB rfl) ?_
        refine WL.po (PO.extract (Ev.tmp rfl) rfl) (leB rfl) ?_
        refine WL.po (PO.assign (Ev.tmp rfl)) (leB rfl) ?_
        refine WL.po (PO.assign (Ev.tmp rfl)) (leB rfl) ?_
        refine WL.nil (keepF (ts := [2, 3, 8, 10, 14, 18, 20, 21, 22]) rfl (toK (by assumption) ?_))
        (try clear hG ops)
        (repeat (first | refine WC.seqK fun K hK => ?_ | refine WC.block ?_ | refine WC.regionG rfl fun ops hG => ?_))
        refine WL.callP Ev.func (Evs.cons Ev.const Evs.nil) (nameX_ct _ _ _) (leB rfl) ?_
        refine WL.buildSlice EL25 rfl (EvP.cons (Ev.tmp rfl) EvP.nil) rfl rfl (by decide) rfl (leB rfl) fun b213 => ?_
        refine WL.po (PO.build Tryd.underlying27 rfl rfl rfl (EvP.cons Ev.const (EvP.cons Ev.const (EvP.cons (Ev.tmp rfl) EvP.nil))) rfl) (leB rfl) ?_
        refine WL.po (PO.build Tryd.underlying27 rfl rfl rfl (EvP.cons Ev.const (EvP.cons Ev.const EvP.nil)) rfl) (leB rfl) ?_
        refine WL.callK Ev.func (Evs.cons Ev.const (Evs.cons (Ev.tmp rfl) (Evs.cons (Ev.tmp rfl) Evs.nil))) (two_ct 1 (.mk 5 0 0 0 [118] (some ⟨b213, 0, none⟩) 1 [nmX [105]]) (sx 9 0 0 0 [119] []) _ _) (leB rfl) ?_
        rintro _ _ ⟨b216, rfl, rfl⟩
        have hnl := lies_two (lies_one (nm h [105] (by decide)) b213 (k := 5) (o := 0) (t := 0) (n := 0) (s := [118]) (by decide) (by decide) (by decide) (by decide) (by decide)) (lies_leaf m (pt1 (nmX [105]) b213 :: h) (k := 9) (o := 0) (t := 0) (n := 0) (s := [119]) (by decide) (by decide) (by decide) (by decide) (by decide)) b216 (o := 1) (by decide)
        refine WL.callK Ev.func (Evs.cons (Ev.tmp rfl) Evs.nil) (nms_t (hnl.mono (List.Sublist.cons_cons _ (List.Sublist.cons_cons _ (by (repeat (first | exact sub0 _ | exact subA _ _ | refine subC _ ?_ | apply subK | refine subT _ ?_)))))) kn8 (by decide)) (leB rfl) ?_
        rintro _ _ ⟨a217, c217, k217, e217, rfl, rfl⟩
        refine WL.knowRow (a := a217) (by (repeat (first | exact mem0 _ | apply memT))) fun p217 q217 r217 => ?_
        obtain rfl : k217 = 3 := e217
        refine WL.buildSlice EL58 rfl (EvP.cons Ev.const (EvP.cons Ev.const (EvP.cons Ev.const EvP.nil))) rfl rfl (by decide) rfl (leB rfl) fun b218 => ?_
        refine WL.callP Ev.func (Evs.cons (Ev.tmp rfl) (Evs.cons (Ev.tmp rfl) Evs.nil)) (CT.val (texts_ct a217 (some ⟨b218, 0, none⟩) 3 c217 3 3 [[118], [105], [119]] [[118], [105], [119]] _ m (Rd.inRow (by (repeat (first | exact mem0 _ | apply memT))) r217 p217 q217) (Rd.ofPt rfl (by decide) (by (repeat (first | exact mem0 _ | apply memT))))) (congrArg Value.bool (show (([[118], [105], [119]] : List B) == [[118], [105], [119]]) = true from by decide))) (leB rfl) ?_
        refine WL.po (PO.assign (Ev.tmp rfl)) (leB rfl) ?_
        refine WL.nil (keepF (ts := [2, 3, 8, 10, 14, 18, 20, 21, 22, 23]) rfl (toK (by assumption) ?_))
        (try clear hG ops)
        (repeat (first | refine WC.seqK fun K hK => ?_ | refine WC.block ?_ | refine WC.regionG rfl fun ops hG => ?_))
        refine WL.po (PO.move (Ev.tmp rfl)) (leB rfl) ?_
        refine WL.po (PO.move (Ev.tmp rfl)) (leB rfl) ?_
        refine WL.unG (GU.t (hG _ _ rfl) rfl) rfl ?_
        refine WL.po (PO.move (Ev.tmp rfl)) (leB rfl) ?_
        refine WL.po (PO.pickAnd rfl rfl) (leB rfl) ?_
        refine WL.po (PO.move (Ev.tmp rfl)) (leB rfl) ?_
        refine WL.unG (GU.t (hG _ _ rfl) rfl) rfl ?_
        refine WL.po (PO.move (Ev.tmp rfl)) (leB rfl) ?_
        refine WL.po (PO.pickAnd rfl rfl) (leB rfl) ?_
        refine WL.po (PO.move (Ev.tmp rfl)) (leB rfl) ?_
        refine WL.unG (GU.t (hG _ _ rfl) rfl) rfl ?_
        refine WL.po (PO.move (Ev.tmp rfl)) (leB rfl) ?_
        refine WL.po (PO.pickAnd rfl rfl) (leB rfl) ?_
        refine WL.po (PO.move (Ev.tmp rfl)) (leB rfl) ?_
        refine WL.unG (GU.t (hG _ _ rfl) rfl) rfl ?_
        refine WL.po (PO.move (Ev.tmp rfl)) (leB rfl) ?_
        refine WL.po (PO.pickAnd rfl rfl) (leB rfl) ?_
        refine WL.po (PO.move (Ev.tmp rfl)) (leB rfl) ?_
        refine WL.unG (GU.t (hG _ _ rfl) rfl) rfl ?_
        refine WL.po (PO.move (Ev.tmp rfl)) (leB rfl) ?_
        refine WL.unG (GU.t (hG _ _ rfl) rfl) rfl ?_
        refine WL.po (PO.not (Ev.tmp rfl)) (leB rfl) ?_
        refine WL.po (PO.pickAnd rfl rfl) (leB rfl) ?_
        refine WL.po (PO.move (Ev.tmp rfl)) (leB rfl) ?_
        refine WL.unG (GU.t (hG _ _ rfl) rfl) rfl ?_
        refine WL.po (PO.move (Ev.tmp rfl)) (leB rfl) ?_
        refine WL.unG (GU.t (hG _ _ rfl) rfl) rfl ?_
        refine WL.po (PO.not (Ev.tmp rfl)) (leB rfl) ?_
        refine WL.po (PO.pickAnd rfl rfl) (leB rfl) ?_
        refine WL.po (PO.move (Ev.tmp rfl)) (leB rfl) ?_
        refine WL.unG (GU.t (hG _ _ rfl) rfl) rfl ?_
        refine WL.po (PO.move (Ev.tmp rfl)) (leB rfl) ?_
        refine WL.po (PO.pickAnd rfl rfl) (leB rfl) ?_
        refine WL.po (PO.move (Ev.tmp rfl)) (leB rfl) ?_
        refine WL.unG (GU.t (hG _ _ rfl) rfl) rfl ?_
        refine WL.po (PO.move (Ev.tmp rfl)) (leB rfl) ?_
        refine WL.unG (GU.t (hG _ _ rfl) rfl) rfl ?_
        refine WL.po (PO.eqlS (Ev.tmp rfl) Ev.const) (leB rfl) ?_
        refine WL.po (PO.pickAnd rfl rfl) (leB rfl) ?_
        refine WL.po (PO.move (Ev.tmp rfl)) (leB rfl) ?_
        refine WL.unG (GU.t (hG _ _ rfl) rfl) rfl ?_
        refine WL.po (PO.move (Ev.tmp rfl)) (leB rfl) ?_
        refine WL.po (PO.pickAnd rfl rfl) (leB rfl) ?_
        refine WL.po (PO.move (Ev.tmp rfl)) (leB rfl) ?_
        refine WL.unG (GU.t (hG _ _ rfl) rfl) rfl ?_
        refine WL.callP Ev.func Evs.nil (works_ct hg hp _) (leB rfl) ?_
        refine WL.po (PO.pickAnd rfl rfl) (leB rfl) ?_
        refine WL.po (PO.assign (Ev.tmp rfl)) (leB rfl) ?_
        refine WL.nil (keepF (ts := [0]) rfl (toK (by assumption) ?_))
        (try clear hG ops)
        refine WC.ret (end1 (h' := h) (.inl rfl) rfl (RV.tmp rfl) (View.le.refl m) (by (repeat (first | exact sub0 _ | exact subA _ _ | refine subC _ ?_ | apply subK | refine subT _ ?_))) ?_)
        rfl
end Go.Proofs.YtheejlbhmbbdjaaDoor

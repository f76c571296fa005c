import Derived.Test.YtkemgjnejlkkcaaGreatDoorLNumbersZ5
section
namespace Go.Proofs.YtkemgjnejlkkcaaGreatDoor
set_option maxRecDepth 100000
set_option maxHeartbeats 2000000
open Go.Eng Go.Pc Go.Sx Go
open Go.Xp hiding B D9
open Go.Ty (Ty Vr Tok eqT tyV J2 B4 B7 S1 zeroK M5 D6 encV E5 prL prV PrOk VOk mayPr)
open Go.Lx (encB D1 lexO)
open Go.Ly (Rw I6 C7)
abbrev OPr (m:View) (x:Bool × List Vr) (v:Value) (bl:List Res):Prop:=∃ cs a c l,x=(cs,l.map W4)∧v=prV cs a l.length c∧PrOk m bl a l.length c l∧∀ y ∈ l,y.items.length=y.n
abbrev pxR (b:Nat) (a:Option Addr) (k c:Nat):Res:=.pt b (.cells (prL true a k c).toArray 47 (0,0))
abbrev vxR (b:Nat) (v:Vr):Res:=.pt b (.cells (encV v).toArray 125 (0,0))
theorem b8S {m:View} (hg:Glob m) {z:Pz} (hz:Pok m z) (d:Int) (i b:Nat) (a:Option Addr) (c:Nat) (ts:List Tok) (h hT:List Res) (hk:Tk2 m hT a c ts) (hs:hT.Sublist h) (hi:i < z.R.length) (hd:0≤d∧d≤32) :
   QrX m z 102 [ptV z.bp,.int .i64 d,ptV b] i b a c ts h (a2N z.R d ts i) (OPr m):=by
 have hR:=hz.ok.1
 have hq:a2N z.R d ts i=if isM 2 [73,83] ts then I3 (P9 a5K [59] 8 ts.tail) i fun l r=>V7 5 [58] r i fun r=>F9 r i fun i=>.ok ((false,[vrM [] l]),i)
   else F9 ts i fun i=>a0Q z.R (d+1) 2 [67,65,83,69] i fun i=>R0 (Y5 z.R d (z.R.length - i) [] i) fun l i=>a0Q z.R d 5 [58] i fun i=>.ok ((true,l),i):=rfl
 refine CX.body Tryz.call102 Tryz.func102 rfl Tryz.ntmps102 Lb rfl ?_
 refine j0 ?_
 refine xW fun b6=>?_
 refine kQ0 [0,1,2,6] ?_
 refine kA1 ?_
 refine xf (E1 Ev.const) (K2 _ _ _) ?_
 refine WL.perm (Del.perm (r:=lnR b a ts.length c) De) ?_
 refine xg (E2 Et Et) (K5 b a c ts _ _ _ hk (by first | exact G2 Me | exact hs.trans Sb)) ?_
 rintro _ _ ⟨a13,u13,r13,rfl,he13,hk13,rfl⟩
 refine kQ0 [0,1,2,6,13] ?_
 refine wc (fun c13=>?_) fun c13=>?_
 replace he13:=he13.trans (if_pos c13)
 subst r13
 rw[if_pos c13] at hq
 refine kA2 ?_
 refine xG (PO.makeFunc (E1 Et) Evs.nil) ?_
 refine WL.perm (Del.perm (r:=lnR b a13 ts.tail.length u13) De) ?_
 refine A1 Ev.func (E4 Et Ev.const Ev.const Et) (b1t 165 a5K [59] 8 b a13 u13 ts.tail _ _ hk13 (by first | exact G2 Me | exact hs.trans Sb) (by decide) (fun a c ts h hk hs=>b5u hg b a c ts h _ hk hs)) Lb (fun v hv hx=>?_) fun v17 h17 hr17=>?_
 · obtain⟨e,hx1,rfl,rfl⟩:=hx;rw[hx1] at hq;exact prP Tryz.f102 hq Sb
 obtain⟨x17,r17,a17,u17,bl17,hM17,⟨p17,q17,rfl,hS17,hO17⟩,hk17,rfl⟩:=hr17
 refine WL.perm ((Mv.perm (by (repeat (first | apply Mv.cons | exact Mv.stop)))).cons _) ?_
 rw[hM17,I9] at hq
 refine kA1 ?_
 refine xY a2q (EvP.cons Et EvP.nil) fun b19=>?_
 refine WL.perm (Mv.perm (bl:=[_]) (by (repeat (first | apply Mv.cons | exact Mv.stop)))) ?_
 refine kA1 ?_
 refine xW fun b7=>?_
 refine kQ1 [0,2,6,7] ?_
 refine kA1 ?_
 refine xf (E1 Ev.const) (H0 _ _ _) ?_
 refine xY A9 (EvP.cons Et EvP.nil) fun b23=>?_
 refine WL.perm (Del.perm (r:=lnR b a17 r17.length u17) De) ?_
 refine A1 Ev.func (E2 Et Et) (N7 b a17 u17 r17 _ _ _ _ _ hk17 (by first | exact G2 Me | exact hs.trans Sb) (Rd.ofPt rfl (by decide) Me)) Lb (fun v hv hx=>?_) fun v24 h24 hr24=>?_
 · obtain⟨hx1,rfl,rfl⟩:=hx;rw[a2e hx1] at hq;exact prP Tryz.f102 hq Sb
 obtain⟨hi24,a24,u24,hk24,rfl⟩:=hr24
 rw[a1P hi24] at hq
 refine kQ0 [0,2,6,7] ?_
 refine kA2 ?_
 refine WL.perm ((Del.perm (r:=psR z i) De).trans ((Del.perm (r:=lnR b a24 r17.tail.length u24) De).cons _)) ?_
 refine A1 Ev.func (E2 Et Et) (L1 hz i b a24 u24 r17.tail _ (by omega)) Lb (fun v hv hx=>?_) fun v27 h27 hr27=>?_
 · obtain⟨hx1,rfl,rfl⟩:=hx;rw[M6 hx1] at hq;exact prP Tryz.f102 hq Sb
 obtain⟨hz27,rfl⟩:=hr27
 rw[M3 hz27] at hq
 refine kQ0 [6,7] ?_
 refine kQ2 [6] ?_
 refine WC.ret (toX (.inl rfl) (I2 (h':=psR z (i+1)::(vxR b19 ⟨[],p17,x17.length,q17,x17⟩::(bl17++h))) (.inl rfl) rfl (A4 c0c rfl rfl rfl Me rfl) (View.le.refl m) Sb ?_))
 exact⟨_,_,vxR b19 ⟨[],p17,x17.length,q17,x17⟩::bl17,hq,⟨by omega,by omega⟩,⟨false,some ⟨b19,0,none⟩,1,[⟨[],p17,x17.length,q17,x17⟩],rfl,rfl,⟨Rd.ofPt rfl (by show 1≤_;decide) (List.Mem.head _),a08 ⟨hS17.mono (View.le.refl _) (List.sublist_cons_self _ _)⟩,a08 (Nat.zero_le _)⟩,a08 rfl⟩,rfl⟩
 replace he13:=he13.trans (if_neg (H3 c13))
 subst r13
 rw[if_neg (H3 c13)] at hq
 refine kQ0 [0,1,2,6] ?_
 refine kA2 ?_
 refine WL.perm ((Del.perm (r:=psR z i) De).trans ((Del.perm (r:=lnR b a13 ts.length u13) De).cons _)) ?_
 refine A1 Ev.func (E2 Et Et) (L1 hz i b a13 u13 ts _ (by omega)) Lb (fun v hv hx=>?_) fun v31 h31 hr31=>?_
 · obtain⟨hx1,rfl,rfl⟩:=hx;rw[M6 hx1] at hq;exact prP Tryz.f102 hq Sb
 obtain⟨hz31,rfl⟩:=hr31
 rw[M3 hz31] at hq
 refine kQ0 [0,1,6] ?_
 refine kA3 ?_
 refine xf (E1 Ev.const) (K2 _ _ _) ?_
 refine xY A9 (EvP.cons Et EvP.nil) fun b36=>?_
 refine WL.perm (Del.perm (r:=psR z (i+1)) De) ?_
 refine A1 Ev.func (E3 Et Et Et) (b0x hg hz (i+1) _ _ _ _ _ (by omega) (Rd.ofPt rfl (by decide) Me)) Lb (fun v hv hx=>?_) fun v37 h37 hr37=>?_
 · obtain⟨e,hx1,rfl,rfl⟩:=hx;rw[hx1] at hq;exact prP Tryz.f102 hq Sb
 obtain⟨ho37,hz37,rfl⟩:=hr37
 rw[hz37] at hq
 refine kQ0 [0,1,6] ?_
 refine kA1 ?_
 refine xW fun b8=>?_
 refine kA1 ?_
 refine WL.addNil 125 2 ?_
 refine WL.perm (Del.perm (r:=psR z (i+1+1)) De) ?_
 refine kQ0 [0,1,6,8] ?_
 refine B1 [0,1,6,8] rfl (fun μ F' h'=>∃ a9:Option Addr,∃ c9:Nat,∃ l:List Vr,∃ bl:List Res,∃ k:Nat,∃ j:Nat,((l.length+i+2≤j∧j≤z.R.length∧z.R.length≤j+k)∧(∀ y ∈ l,VOk m bl y∧y.tag.length≤Big∧y.items.length=y.n)∧a2N z.R d ts i=R0 (Y5 z.R d k (l.map W4) j) fun l i=>a0Q z.R d 5 [58] i fun i=>.ok ((true,l),i))∧k=μ∧F'=[]∧psR z j::.row (.slice a9 l.length c9) 125 2 l.length (fl encV l)::pxR b8 a9 l.length c9::.pt b6 (.cells (prL false none 0 0).toArray 47 (0,0))::(bl++h)=h') ((z.R.length - (i+1+1))) [] (h0:=psR z (i+1+1)::.row (.slice none ([]).length 0) 125 2 ([]).length (fl encV ([]))::pxR b8 none ([]).length 0::.pt b6 (.cells (prL false none 0 0).toArray 47 (0,0))::(([])++h)) ?_ Sb ⟨none,0,[],[],z.R.length - (i+1+1),i+1+1,⟨⟨by simp,by omega,by omega⟩,fun _ hx=>(List.not_mem_nil hx).elim,hq⟩,rfl,rfl,rfl⟩ ?_
 exact Su
 rintro _ _ _ ⟨a9,c9,l,bl,k,j,⟨⟨hl,hj,hk⟩,hV,hq⟩,rfl,rfl,rfl⟩
 refine B3 rfl ?_
 have hlm:(l.map W4).length=l.length:=List.length_map _
 refine kA7 ?_
 refine E8 (GU.f rfl rfl) (fun hc=>I7 (Eg hc) Ev.const (by first | omega | (simp at hc;omega))) Lb ?_
 refine A8 (GU.f rfl rfl) (fun hc=>⟨Ev.func,(E2 (Eg hc) (Eg hc)),a5f hz j (d+2) _ Me⟩) Lb ?_
 refine kQ1 [0,1,6,8,48] ?_
 refine wc (fun c48=>?_) fun c48=>?_
 have hc:(l.map W4).length=0∨N6 z.R (d+2) j=true:=by
   simp only[Bool.or_eq_true,beq_iff_eq] at c48
   rw[hlm]
   exact c48.imp (fun q=>by omega) id
 rw[b7n hk hc] at hq
 refine kQ0 [0,1,6,8] ?_
 refine kA3 ?_
 refine WL.perm (Del.perm (r:=psR z j) De) ?_
 refine A1 Ev.func (E2 Et Et) (a2O hg hz j _ _ (by omega)) Lb (fun v hv hx=>?_) fun v52 h52 hr52=>?_
 · obtain⟨e,j,hx1,rfl,rfl⟩:=hx;(first | rw[hx1] at hq | rw[J1 hx1] at hq);exact prP Tryz.f102 hq Sb
 obtain⟨r52,b52,a52,u52,hM52,rfl,hk52,rfl⟩:=hr52
 have ho52:=a1c hz hM52
 rw[a3t hM52] at hq
 refine kQ1 [0,1,6,8,9] ?_
 have hv:a1H r52=O9 (V9 r52) fun n r=>if isM 5 [59] r then O9 (P9 a5K [59] 8 r.tail) fun l r=>.ok (vrM n l,r) else .ok (vrM n [],r):=rfl
 refine kA1 ?_
 refine WL.perm (Del.perm (r:=lnR b52 a52 r52.length u52) De) ?_
 refine A1 Ev.func (E1 Et) (a0Z b52 a52 u52 r52 _ _ hk52 (by first | exact G2 Me | exact hs.trans Sb)) Lb (fun v hv hx=>?_) fun v54 h54 hr54=>?_
 · obtain⟨e,hx1,rfl,rfl⟩:=hx
   rw[hx1] at hv
   rw[show a1H r52=.error e from hv] at hq
   exact prP Tryz.f102 hq Sb
 obtain⟨x54,r54,a54,u54,hM54,⟨rfl,hw54⟩,hk54,rfl⟩:=hr54
 rw[hM54,I1] at hv
 refine kA1 ?_
 refine xW fun b10=>?_
 refine kQ1 [0,1,6,8,9,10] ?_
 refine kA1 ?_
 refine xf (E1 Ev.const) (H0 _ _ _) ?_
 refine WL.perm (Del.perm (r:=lnR b52 a54 r54.length u54) De) ?_
 refine xg (E2 Et Et) (K5 b52 a54 u54 r54 _ _ _ hk54 (by first | exact G2 Me | exact hs.trans Sb)) ?_
 rintro _ _ ⟨a58,u58,r58,rfl,he58,hk58,rfl⟩
 refine kP0 [0,1,6,8,9,10,58] ?_
 refine H7 KKh [0,1,6,8,9,10] rfl (fun F' h'=>∃ w:Vr,∃ bl2:List Res,∃ x:Option Addr,∃ y:Nat,∃ r:List Tok,((VOk m bl2 w∧w.tag.length≤Big∧w.items.length=w.n)∧Tk2 m [tkW a52 u52 r52] x y r∧a1H r52=.ok (W4 w,r))∧F'=[]∧lnR b52 x r.length y::vxR b10 w::tkW a52 u52 r52::psR z j::.row (.slice a9 l.length c9) 125 2 l.length (fl encV l)::pxR b8 a9 l.length c9::.pt b6 (.cells (prL false none 0 0).toArray 47 (0,0))::(bl2++(bl++h))=h') ?_ ?_
 refine jE ?_
 refine wc (fun c58=>?_) fun c58=>?_
 replace he58:=he58.trans (if_pos c58)
 subst r58
 rw[if_pos c58] at hv
 refine kA2 ?_
 refine xG (PO.makeFunc (E1 Et) Evs.nil) ?_
 refine WL.perm (Del.perm (r:=lnR b52 a58 r54.tail.length u58) De) ?_
 refine A1 Ev.func (E4 Et Ev.const Ev.const Et) (b1t 165 a5K [59] 8 b52 a58 u58 r54.tail _ _ hk58 (by first | exact G2 Me | exact hs.trans Sb) (by decide) (fun a c ts h hk hs=>b5u hg b52 a c ts h _ hk hs)) Lb (fun v hv hx=>?_) fun v62 h62 hr62=>?_
 · obtain⟨e,hx1,rfl,rfl⟩:=hx
   rw[hx1] at hv
   rw[show a1H r52=.error e from hv] at hq
   exact prP Tryz.f102 hq Sb
 obtain⟨x62,r62,a62,u62,bl62,hM62,⟨p62,q62,rfl,hS62,hO62⟩,hk62,rfl⟩:=hr62
 refine WL.perm ((Mv.perm (by (repeat (first | apply Mv.cons | exact Mv.stop)))).cons _) ?_
 rw[hM62,I1] at hv
 refine kA2 ?_
 refine WL.nil (D0 [] (h'':=lnR b52 a62 r62.length u62::vxR b10 (⟨x54,p62,x62.length,q62,x62⟩)::tkW a52 u52 r52::psR z j::.row (.slice a9 l.length c9) 125 2 l.length (fl encV l)::pxR b8 a9 l.length c9::.pt b6 (.cells (prL false none 0 0).toArray 47 (0,0))::(bl62++(bl++h))) ?_ Su Sb ⟨⟨x54,p62,x62.length,q62,x62⟩,bl62,a62,u62,r62,⟨⟨⟨hS62⟩,hw54,rfl⟩,hk62,hv⟩,rfl,rfl⟩)
 exact Su
 replace he58:=he58.trans (if_neg (H3 c58))
 subst r58
 rw[if_neg (H3 c58)] at hv
 refine WC.skip (D0 [] (h'':=lnR b52 a58 r54.length u58::vxR b10 (⟨x54,none,0,0,[]⟩)::tkW a52 u52 r52::psR z j::.row (.slice a9 l.length c9) 125 2 l.length (fl encV l)::pxR b8 a9 l.length c9::.pt b6 (.cells (prL false none 0 0).toArray 47 (0,0))::(([])++(bl++h))) ?_ Su Sb ⟨⟨x54,none,0,0,[]⟩,[],a58,u58,r54,⟨⟨⟨Rd.nilF M5 1 m _⟩,hw54,rfl⟩,hk58,hv⟩,rfl,rfl⟩)
 exact Su
 rintro _ _ ⟨w,bl2,x,y,r,⟨hw,hk1,hv⟩,rfl,rfl⟩
 refine B3 rfl ?_
 rw[hv,I9] at hq
 refine kA3 ?_
 refine xY a2q (EvP.cons Et EvP.nil) fun b67=>?_
 have hln:(l++[w]).length=l.length+1:=List.length_append
 refine xD a2q (Ev.tmp rfl) (Ev.tmp rfl) (show l.length+1=(l++[w]).length by simp) (F7 (enc:=encV) _ (w)) fun a68 c68=>?_
 refine kA2 ?_
 rw[← List.append_assoc bl2 bl h]
 have hV2:∀ y ∈ l++[w],VOk m (bl2++bl) y∧y.tag.length≤Big∧y.items.length=y.n:=W7 (fun y hy=>⟨(hV y hy).1.mono (View.le.refl _) (List.sublist_append_right _ _),(hV y hy).2⟩) ⟨hw.1.mono (View.le.refl _) (List.sublist_append_left _ _),hw.2⟩
 refine A0 (a:=a68) Me fun p68 q68 r68=>?_
 refine kQ0 [0,1,6,8,9] ?_
 refine kA1 ?_
 refine xf (E1 Et) (Ty9.mayProto_ct true a68 _ c68 (l++[w]) _ _ hg ⟨Rd.inRow Me r68 p68 q68,fun y hy=>(hV2 y hy).1.mono (View.le.refl _) ((List.sublist_append_left _ _).trans Sb),fun y hy=>Nat.le_trans (hV2 y hy).2.1 (by decide)⟩) ?_
 refine kQ1 [0,1,6,8,9,72] ?_
 refine wc (fun c72=>?_) fun c72=>?_
 have d72:mayPr true (l.map W4++[W4 w])=false:=by
   have:=a8C true (l++[w])
   rw[List.map_append,List.map_singleton] at this
   rw[this]
   simpa using c72
 rw[if_neg (H3 d72)] at hq
 refine j0 ?_
 refine A1 Ev.func Evs.nil (I4 _ _) Lb (fun v hv hx=>?_) fun v73 h73 hr73=>?_
 · obtain⟨rfl,rfl⟩:=hx;exact prP Tryz.f102 hq Sb
 exact hr73.elim
 have d72:mayPr true (l.map W4++[W4 w])=true:=by
   have:=a8C true (l++[w])
   rw[List.map_append,List.map_singleton] at this
   rw[this]
   simpa using c72
 rw[if_pos d72] at hq
 refine kQ0 [0,1,6,8,9] ?_
 refine kA2 ?_
 refine WL.perm ((Del.perm (r:=psR z j) De).trans ((Del.perm (r:=lnR b52 x r.length y) De).cons _)) ?_
 refine A1 Ev.func (E2 Et Et) (L1 hz j b52 x y r _ (by omega)) Lb (fun v hv hx=>?_) fun v76 h76 hr76=>?_
 · obtain⟨hx1,rfl,rfl⟩:=hx;rw[M6 hx1] at hq;exact prP Tryz.f102 hq Sb
 obtain⟨hz76,rfl⟩:=hr76
 rw[M3 hz76] at hq
 refine WL.nil (A6 ((k - 1)) [] (h'':=psR z ((j+1))::.row (.slice a68 (l++[w]).length c68) 125 2 (l++[w]).length (fl encV (l++[w]))::pxR b8 a68 (l++[w]).length c68::.pt b6 (.cells (prL false none 0 0).toArray 47 (0,0))::((bl2++bl)++h)) (by omega) ?_ Su Sb ⟨a68,c68,l++[w],bl2++bl,k - 1,(j+1),⟨⟨by omega,by omega,by omega⟩,hV2,hq.trans (by rw[List.map_append,List.map_singleton])⟩,rfl,rfl,rfl⟩)
 exact Su
 have hc:¬ ((l.map W4).length=0∨N6 z.R (d+2) j=true):=fun q=>by
   rw[hlm] at q
   have:(((l.length:Int)==0)||N6 z.R (d+2) j)=true:=by
     simp only[Bool.or_eq_true,beq_iff_eq]
     exact q.imp (fun q=>by omega) id
   rw[this] at c48
   cases c48
 rw[b3C hc,O8] at hq
 refine P7 (a:=a9) Me fun p9 q9 r9=>?_
 refine kQ0 [0,1,6,8] ?_
 refine kA2 ?_
 refine xf (E1 Ev.const) (H0 _ _ _) ?_
 refine xY A9 (EvP.cons Et EvP.nil) fun b80=>?_
 refine WL.perm (Del.perm (r:=psR z j) De) ?_
 refine A1 Ev.func (E3 Et Et Et) (b0x hg hz j _ _ _ _ _ (by omega) (Rd.ofPt rfl (by decide) Me)) Lb (fun v hv hx=>?_) fun v81 h81 hr81=>?_
 · obtain⟨e,hx1,rfl,rfl⟩:=hx;rw[hx1] at hq;exact prP Tryz.f102 hq Sb
 obtain⟨ho81,hz81,rfl⟩:=hr81
 rw[hz81] at hq
 refine kQ0 [6,8] ?_
 refine kQ2 [6] ?_
 refine WC.ret (toX (.inl rfl) (I2 (h':=psR z (j+1)::(.row (.slice a9 l.length c9) 125 2 l.length (fl encV l)::(bl++h))) (.inl rfl) rfl (A4 c0c rfl rfl rfl Me rfl) (View.le.refl m) Sb ?_))
 exact⟨_,_,.row (.slice a9 l.length c9) 125 2 l.length (fl encV l)::bl,hq,⟨by omega,by omega⟩,⟨true,a9,c9,l,rfl,rfl,⟨Rd.inRow (List.Mem.head _) r9 p9 q9,fun y hy=>(hV y hy).1.mono (View.le.refl _) (List.sublist_cons_self _ _),fun y hy=>Nat.le_trans (hV y hy).2.1 (by decide)⟩,fun y hy=>(hV y hy).2.2⟩,rfl⟩
abbrev spR (b:Nat) (s:Sp):Res:=.pt b (.cells (spE s).toArray 50 (0,0))
abbrev nmR (b:Nat) (s:B):Res:=.pt b (.cells [str s].toArray 9 (0,0))
abbrev s0 (k:Int) (ty:Ty) (ns:Sli B) (e:Ex):Sp:=.mk k ty ns e false B5 B5 none 0 []
theorem b8J (m:View) (h:List Res):Rd m h none 0 0 6 (fl foE []):=Rd.nilF foE 6 m h
abbrev SpX (m:View) (z:Pz) (i b:Nat) (ts:List Tok) (hT h:List Res) (M:PE (Option Sp)) (v:Value) (h':List Res):Prop:=
 ∃ so j X s,M=.ok (so,j)∧v=.tuple #[spV s,.bool (Option.isSome so)]∧h'=psR z j::(X++h)∧(so=none→j=i∧∃ a c,X=[lnR b a ts.length c]∧Tk2 m hT a c ts)∧∀ s',so=some s'→(i < j∧j≤z.R.length)∧stS s=s'∧Ss m X s
theorem a8M {m:View} {z:Pz} {i b:Nat} {ts:List Tok} {hT h:List Res} {M:PE (Option Sp)} {s:Sp} {s':Sp} {j:Nat} {X:List Res} (hM:M=.ok (some s',j)) (hj:i < j∧j≤z.R.length) (hs:stS s=s') (hS:Ss m X s) {H:List Res} (he:H=psR z j::(X++h)) :
   SpX m z i b ts hT h M (.tuple #[spV s,.bool true]) H:=⟨some s',j,X,s,hM,rfl,he,nofun,fun _ e=>by cases e;exact⟨hj,hs,hS⟩⟩
theorem sS1 {m:View} {h:List Res} {k:Int} {ty:Ty} {ns:Sli B} {e:Ex} (hk:0≤k∧k≤255) (ht:TyW ty) (hn:Rd m h ns.a ns.l.length ns.c 1 (fl encB ns.l)) (hw:∀ x ∈ ns.l,x.length≤Big) (he:EOk m h e):Ss m h (s0 k ty ns e):=
 ⟨⟨hk,ht,hn,hw,he,a7P m h,fun _ hx=>(List.not_mem_nil hx).elim,b8J m h,fun _ hx=>(List.not_mem_nil hx).elim,Rd.nilF prE 42 m h⟩,fun _ hx=>(List.not_mem_nil hx).elim⟩
theorem c5J:TyW Go.Ty.zeroT:=⟨by decide,by decide,by decide,Nat.zero_le _⟩
set_option maxHeartbeats 2000000 in
theorem c0q {m:View} (hg:Glob m) {z:Pz} (hz:Pok m z) {n:Nat} (hrec:REC m z n) (d:Int) (i b:Nat) (a:Option Addr) (c:Nat) (ts:List Tok) (h hT:List Res) (hk:Tk2 m hT a c ts) (hs:hT.Sublist h) (hi:i < z.R.length) (hf:z.R.length≤i+n+1) (hd:0≤d∧d≤32) :
   CX Tryz.prog 51 [ptV z.bp,.int .i64 d,ptV b] (psR z i::lnR b a ts.length c::h) m (fun v _ h'=>SpX m z i b ts hT h (a3n z.R (C0 z.R n) d ts i) v h') (fun v h'=>PrE z (a3n z.R (C0 z.R n) d ts i) h v h'):=by
 have hR:=hz.ok.1
 have hq:a3n z.R (C0 z.R n) d ts i=if isM 2 [80,82,79,84,79,67,79,76] ts then I3 (V9 ts.tail) i fun nm r=>R0 (a2N z.R d r i) fun p i=>.ok (some (spM 4 Go.Ty.zeroT [nm] A3 p.1 p.2 [] []),i)
 else if isM 2 [80,82,79,67] ts then I3 (V9 ts.tail) i fun nm r=>I3 (brM a4u r) i fun fs r=>F9 r i fun i=>R0 (C0 z.R n (d+1) false i) fun x i=>a0Q z.R d 5 [58] i fun i=>.ok (some (spM 5 Go.Ty.zeroT [nm] A3 false [] fs [x]),i)
 else if isM 2 [86,65,76] ts then I3 (a8m ts.tail) i fun t r=>I3 (V9 r) i fun nm r=>V7 2 [73,83] r i fun r=>I3 (M2 r) i fun e r=>b2S (spM 2 t [nm] e false [] [] []) r i
 else if isM 5 [91] ts||isM 2 [73,78,84] ts||isM 2 [66,89,84,69] ts||isM 2 [66,79,79,76] ts||isM 2 [67,72,65,78] ts||isM 2 [84,73,77,69,82] ts then I3 (a8m ts) i fun t r=>I3 (P9 V9 [44] 8 r) i fun ns r=>
   if isM 2 [73,83] r then I3 (L3 r.tail) i fun e r=>b2S (spM 3 t ns e false [] [] []) r i else b2S (spM 1 t ns A3 false [] [] []) r i
 else .ok (none,i):=rfl
 refine CX.body Tryz.call51 Tryz.func51 rfl Tryz.ntmps51 Lb rfl ?_
 refine j0 ?_
 refine xW fun b6=>?_
 refine kP1 [0,1,2,6] ?_
 refine H7 KKh [0,2,6] rfl (fun F' h'=>∃ s:Sp,∃ bl:List Res,∃ x:Option Addr,∃ y:Nat,∃ r:List Tok,(Ss m bl s∧Tk2 m hT x y r∧a3n z.R (C0 z.R n) d ts i=b2S (stS s) r i)∧F'=[]∧lnR b x r.length y::spR b6 s::psR z i::(bl++h)=h') ?_ ?_
 refine kA1 ?_
 refine xf (E1 Ev.const) (K2 _ _ _) ?_
 refine WL.perm (Del.perm (r:=lnR b a ts.length c) De) ?_
 refine xg (E2 Et Et) (K5 b a c ts _ _ _ hk (by first | exact G2 Me | exact hs.trans Sb)) ?_
 rintro _ _ ⟨a12,u12,r12,rfl,he12,hk12,rfl⟩
 refine kQ1 [0,1,2,6,9] ?_
 refine wc (fun c9=>?_) fun c9=>?_
 replace he12:=he12.trans (if_pos c9)
 subst r12
 rw[if_pos c9] at hq
 refine kA1 ?_
 refine WL.perm (Del.perm (r:=lnR b a12 ts.tail.length u12) De) ?_
 refine A1 Ev.func (E1 Et) (a0Z b a12 u12 ts.tail _ _ hk12 (by first | exact G2 Me | exact hs.trans Sb)) Lb (fun v hv hx=>?_) fun v14 h14 hr14=>?_
 · obtain⟨e,hx1,rfl,rfl⟩:=hx;rw[hx1] at hq;exact prP Tryz.f51 hq Sb
 obtain⟨x14,r14,a14,u14,hM14,⟨rfl,hw14⟩,hk14,rfl⟩:=hr14
 rw[hM14,I9] at hq
 refine xY N3 (EvP.cons Et EvP.nil) fun b15=>?_
 refine WL.perm (Mv.perm (bl:=[_]) (by (repeat (first | apply Mv.cons | exact Mv.stop)))) ?_
 refine kQ2 [0,1,2,6] ?_
 refine kA3 ?_
 refine WL.perm ((Del.perm (r:=psR z i) De).trans ((Del.perm (r:=lnR b a14 r14.length u14) De).cons _)) ?_
 refine A1 Ev.func (E3 Et Et Et) (b8S hg hz d i b a14 u14 r14 _ _ hk14 (by first | exact G2 Me | exact hs.trans Sb) hi hd) Lb (fun v hv hx=>?_) fun v20 h20 hr20=>?_
 · obtain⟨e,j,hx1,rfl,rfl⟩:=hx;(first | rw[hx1] at hq | rw[J1 hx1] at hq);exact prP Tryz.f51 hq Sb
 obtain⟨x20,j20,bl20,hM20,hj20,⟨e20,q20,w20,l20,rfl,rfl,hP20,hL20⟩,rfl⟩:=hr20
 refine WL.perm ((Mv.perm (by (repeat (first | apply Mv.cons | exact Mv.stop)))).cons _) ?_
 rw[hM20,O8] at hq
 refine kQ2 [6] ?_
 refine kQ3 [6,7] ?_
 refine WC.ret (toX (.inl rfl) (J3 (h':=psR z j20::((nmR b15 x14::bl20)++h)) (.inl rfl) rfl (A4 a9h rfl rfl rfl Me rfl) (RV.tmp rfl) (View.le.refl m) Sb ?_))
 exact a8M hq hj20 (S7 _) (s:=.mk 4 Go.Ty.zeroT ⟨some ⟨b15,0,none⟩,1,[x14]⟩ A3 e20 ⟨q20,w20,l20⟩ B5 none 0 []) ⟨⟨(show(0:Int)≤4∧(4:Int)≤255 by decide),c5J,Rd.ofPt rfl (by show 1≤_;decide) (List.Mem.head _),a08 hw14,F1 _ _,hP20.mono (View.le.refl _) (List.sublist_cons_self _ _),hL20,b8J _ _,fun _ hx=>(List.not_mem_nil hx).elim,Rd.nilF prE 42 m _⟩,fun _ hx=>(List.not_mem_nil hx).elim⟩ rfl
 replace he12:=he12.trans (if_neg (H3 c9))
 subst r12
 rw[if_neg (H3 c9)] at hq
 refine kA1 ?_
 refine xf (E1 Ev.const) (K2 _ _ _) ?_
 refine WL.perm (Del.perm (r:=lnR b a12 ts.length u12) De) ?_
 refine xg (E2 Et Et) (K5 b a12 u12 ts _ _ _ hk12 (by first | exact G2 Me | exact hs.trans Sb)) ?_
 rintro _ _ ⟨a26,u26,r26,rfl,he26,hk26,rfl⟩
 refine kQ1 [0,1,2,6,23] ?_
 refine wc (fun c23=>?_) fun c23=>?_
 replace he26:=he26.trans (if_pos c23)
 subst r26
 rw[if_pos c23] at hq
 refine kA1 ?_
 refine WL.perm (Del.perm (r:=lnR b a26 ts.tail.length u26) De) ?_
 refine A1 Ev.func (E1 Et) (a0Z b a26 u26 ts.tail _ _ hk26 (by first | exact G2 Me | exact hs.trans Sb)) Lb (fun v hv hx=>?_) fun v28 h28 hr28=>?_
 · obtain⟨e,hx1,rfl,rfl⟩:=hx;rw[hx1] at hq;exact prP Tryz.f51 hq Sb
 obtain⟨x28,r28,a28,u28,hM28,⟨rfl,hw28⟩,hk28,rfl⟩:=hr28
 rw[hM28,I9] at hq
 refine xY N3 (EvP.cons Et EvP.nil) fun b29=>?_
 refine WL.perm (Mv.perm (bl:=[_]) (by (repeat (first | apply Mv.cons | exact Mv.stop)))) ?_
 refine kA2 ?_
 refine xG (PO.makeFunc (E1 Et) Evs.nil) ?_
 refine WL.perm (Del.perm (r:=lnR b a28 r28.length u28) De) ?_
 refine A1 Ev.func (E2 Et Et) (c0S 104 a4u b a28 u28 r28 _ _ hk28 (by first | exact G2 Me | exact hs.trans Sb) (fun a c ts h hk hs=>b6R hg b a c ts h _ hk hs)) Lb (fun v hv hx=>?_) fun v33 h33 hr33=>?_
 · obtain⟨e,hx1,rfl,rfl⟩:=hx;rw[hx1] at hq;exact prP Tryz.f51 hq Sb
 obtain⟨x33,r33,a33,u33,bl33,hM33,⟨p33,q33,rfl,hS33,hF33⟩,hk33,rfl⟩:=hr33
 refine WL.perm ((Mv.perm (by (repeat (first | apply Mv.cons | exact Mv.stop)))).cons _) ?_
 rw[hM33,I9] at hq
 refine kQ2 [0,1,2,6] ?_
 refine kA2 ?_
 refine WL.perm ((Del.perm (r:=psR z i) De).trans ((Del.perm (r:=lnR b a33 r33.length u33) De).cons _)) ?_
 refine A1 Ev.func (E2 Et Et) (L1 hz i b a33 u33 r33 _ (by omega)) Lb (fun v hv hx=>?_) fun v37 h37 hr37=>?_
 · obtain⟨hx1,rfl,rfl⟩:=hx;rw[M6 hx1] at hq;exact prP Tryz.f51 hq Sb
 obtain⟨hz37,rfl⟩:=hr37
 rw[M3 hz37] at hq
 refine kQ0 [0,1,6] ?_
 refine kA3 ?_
 refine WL.perm (Del.perm (r:=psR z (i+1)) De) ?_
 refine A1 Ev.func (E3 Et Et Ev.const) (hrec (i+1) _ _ _ (by omega) (by omega) (by omega)) Lb (fun v hv hx=>?_) fun v41 h41 hr41=>?_
 · obtain⟨e,j,hx1,rfl,rfl⟩:=hx;(first | rw[hx1] at hq | rw[J1 hx1] at hq);exact prP Tryz.f51 hq Sb
 obtain⟨x41,j41,bl41,hM41,hj41,⟨p41,rfl,rfl,hO41⟩,rfl⟩:=hr41
 refine WL.perm ((Mv.perm (by (repeat (first | apply Mv.cons | exact Mv.stop)))).cons _) ?_
 rw[hM41,O8] at hq
 refine xY Z9 (EvP.cons Et EvP.nil) fun b42=>?_
 refine WL.perm (Mv.perm (bl:=[_]) (by (repeat (first | apply Mv.cons | exact Mv.stop)))) ?_
 refine kQ2 [0,1,6] ?_
 refine kA2 ?_
 refine xf (E1 Ev.const) (H0 _ _ _) ?_
 refine xY A9 (EvP.cons Et EvP.nil) fun b47=>?_
 refine WL.perm (Del.perm (r:=psR z j41) De) ?_
 refine A1 Ev.func (E3 Et Et Et) (b0x hg hz j41 _ _ _ _ _ (by omega) (Rd.ofPt rfl (by decide) Me)) Lb (fun v hv hx=>?_) fun v48 h48 hr48=>?_
 · obtain⟨e,hx1,rfl,rfl⟩:=hx;rw[hx1] at hq;exact prP Tryz.f51 hq Sb
 obtain⟨ho48,hz48,rfl⟩:=hr48
 rw[hz48] at hq
 refine kQ0 [6] ?_
 refine kQ3 [6,7] ?_
 refine WC.ret (toX (.inl rfl) (J3 (h':=psR z (j41+1)::nmR b29 x28::prR b42 p41::(bl41++(bl33++h))) (.inl rfl) rfl (A4 a9h rfl rfl rfl Me rfl) (RV.tmp rfl) (View.le.refl m) Sb ?_))
 exact a8M hq (by omega) (S7 _) (s:=.mk 5 Go.Ty.zeroT ⟨some ⟨b29,0,none⟩,1,[x28]⟩ A3 false B5 ⟨p33,q33,x33⟩ (some ⟨b42,0,none⟩) 1 [p41]) ⟨⟨(show(0:Int)≤5∧(5:Int)≤255 by decide),c5J,Rd.ofPt rfl (by show 1≤_;decide) (List.Mem.head _),a08 hw28,F1 _ _,a7P _ _,fun _ hx=>(List.not_mem_nil hx).elim,hS33.mono (View.le.refl _) (((List.sublist_append_right _ _).cons _).cons _),hF33,Rd.ofPt rfl (by show 1≤_;decide) (List.Mem.tail _ (List.Mem.head _))⟩,a08 (hO41.mono (((List.sublist_append_left _ _).cons _).cons _))⟩ (X:=nmR b29 x28::prR b42 p41::(bl41++bl33)) (by simp only[List.cons_append,List.append_assoc])
 replace he26:=he26.trans (if_neg (H3 c23))
 subst r26
 rw[if_neg (H3 c23)] at hq
 refine kA1 ?_
 refine xf (E1 Ev.const) (K2 _ _ _) ?_
 refine WL.perm (Del.perm (r:=lnR b a26 ts.length u26) De) ?_
 refine xg (E2 Et Et) (K5 b a26 u26 ts _ _ _ hk26 (by first | exact G2 Me | exact hs.trans Sb)) ?_
 rintro _ _ ⟨a53,u53,r53,rfl,he53,hk53,rfl⟩
 refine kQ1 [0,2,6,50] ?_
 refine wc (fun c50=>?_) fun c50=>?_
 replace he53:=he53.trans (if_pos c50)
 subst r53
 rw[if_pos c50] at hq
 refine kA1 ?_
 refine WL.perm (Del.perm (r:=lnR b a53 ts.tail.length u53) De) ?_
 refine A1 Ev.func (E1 Et) (b0z hg b a53 u53 ts.tail _ _ hk53 (by first | exact G2 Me | exact hs.trans Sb)) Lb (fun v hv hx=>?_) fun v55 h55 hr55=>?_
 · obtain⟨e,hx1,rfl,rfl⟩:=hx;rw[hx1] at hq;exact prP Tryz.f51 hq Sb
 obtain⟨x55,r55,a55,u55,hM55,⟨rfl,hw55⟩,hk55,rfl⟩:=hr55
 rw[hM55,I9] at hq
 refine kA1 ?_
 refine WL.perm (Del.perm (r:=lnR b a55 r55.length u55) De) ?_
 refine A1 Ev.func (E1 Et) (a0Z b a55 u55 r55 _ _ hk55 (by first | exact G2 Me | exact hs.trans Sb)) Lb (fun v hv hx=>?_) fun v57 h57 hr57=>?_
 · obtain⟨e,hx1,rfl,rfl⟩:=hx;rw[hx1] at hq;exact prP Tryz.f51 hq Sb
 obtain⟨x57,r57,a57,u57,hM57,⟨rfl,hw57⟩,hk57,rfl⟩:=hr57
 rw[hM57,I9] at hq
 refine xY N3 (EvP.cons Et EvP.nil) fun b58=>?_
 refine WL.perm (Mv.perm (bl:=[_]) (by (repeat (first | apply Mv.cons | exact Mv.stop)))) ?_
 refine kQ2 [0,2,6] ?_
 refine kA1 ?_
 refine xf (E1 Ev.const) (K2 _ _ _) ?_
 refine xY A9 (EvP.cons Et EvP.nil) fun b62=>?_
 refine WL.perm (Del.perm (r:=lnR b a57 r57.length u57) De) ?_
 refine A1 Ev.func (E2 Et Et) (N7 b a57 u57 r57 _ _ _ _ _ hk57 (by first | exact G2 Me | exact hs.trans Sb) (Rd.ofPt rfl (by decide) Me)) Lb (fun v hv hx=>?_) fun v63 h63 hr63=>?_
 · obtain⟨hx1,rfl,rfl⟩:=hx;rw[a2e hx1] at hq;exact prP Tryz.f51 hq Sb
 obtain⟨hi63,a63,u63,hk63,rfl⟩:=hr63
 rw[a1P hi63] at hq
 refine kQ0 [0,2,6] ?_
 refine kA1 ?_
 refine WL.perm (Del.perm (r:=lnR b a63 r57.tail.length u63) De) ?_
 refine A1 Ev.func (E1 Et) (T8 hg b a63 u63 r57.tail _ _ hk63 (by first | exact G2 Me | exact hs.trans Sb)) Lb (fun v hv hx=>?_) fun v65 h65 hr65=>?_
 · obtain⟨e,hx1,rfl,rfl⟩:=hx;rw[hx1] at hq;exact prP Tryz.f51 hq Sb
 obtain⟨x65,r65,a65,u65,bl65,hM65,⟨t65,rfl,rfl,hO65⟩,hk65,rfl⟩:=hr65
 refine WL.perm ((Mv.perm (by (repeat (first | apply Mv.cons | exact Mv.stop)))).cons _) ?_
 rw[hM65,I9] at hq
 refine kA2 ?_
 refine WL.nil (D0 [] (h'':=lnR b a65 r65.length u65::spR b6 (s0 2 x55 ⟨some ⟨b58,0,none⟩,1,[x57]⟩ t65)::psR z i::((nmR b58 x57::bl65)++h)) ?_ Su Sb ⟨s0 2 x55 ⟨some ⟨b58,0,none⟩,1,[x57]⟩ t65,nmR b58 x57::bl65,a65,u65,r65,⟨sS1 (by decide) hw55 (Rd.ofPt rfl (by show 1≤_;decide) (List.Mem.head _)) (a08 hw57) (hO65.mono (List.sublist_cons_self _ _)),hk65,hq.trans (by rw[S7];rfl)⟩,rfl,rfl⟩)
 exact Su
 replace he53:=he53.trans (if_neg (H3 c50))
 subst r53
 rw[if_neg (H3 c50)] at hq
 refine kA1 ?_
 refine xf (E1 Ev.const) (H0 _ _ _) ?_
 refine xf (E2 Et Et) (a2A b a53 u53 ts _ _ _ Me hk53 (by first | exact G2 Me | exact hs.trans Sb)) ?_
 refine kP1 [0,2,6,67] ?_
 refine H7 KKh [0,2,6] rfl (fun F' h'=>∃ q:Bool,(q=(isM 5 [91] ts||isM 2 [73,78,84] ts||isM 2 [66,89,84,69] ts||isM 2 [66,79,79,76] ts||isM 2 [67,72,65,78] ts||isM 2 [84,73,77,69,82] ts))∧F'=[(67,.bool q)]∧lnR b a53 ts.length u53::spR b6 D2::psR z i::h=h') ?_ ?_
 refine jE ?_
 refine wc (fun c67=>?_) fun c67=>?_
 have e0:isM 5 [91] ts=true:=c67
 refine WC.skip (D0 [(67,.bool (isM 5 [91] ts))] (h'':=lnR b a53 ts.length u53::spR b6 D2::psR z i::h) ?_ Su Sb ⟨isM 5 [91] ts,by rw[e0];rfl,rfl,rfl⟩)
 exact Su
 have d0:isM 5 [91] ts=false:=c67
 refine kA1 ?_
 refine xf (E1 Ev.const) (K2 _ _ _) ?_
 refine xf (E2 Et Et) (a2A b a53 u53 ts _ _ _ Me hk53 (by first | exact G2 Me | exact hs.trans Sb)) ?_
 refine kQ1 [0,2,6,67] ?_
 refine wc (fun c67=>?_) fun c67=>?_
 have e1:isM 2 [73,78,84] ts=true:=c67
 refine WC.skip (D0 [(67,.bool (isM 2 [73,78,84] ts))] (h'':=lnR b a53 ts.length u53::spR b6 D2::psR z i::h) ?_ Su Sb ⟨isM 2 [73,78,84] ts,by rw[d0,e1];rfl,rfl,rfl⟩)
 exact Su
 have d1:isM 2 [73,78,84] ts=false:=c67
 refine kA1 ?_
 refine xf (E1 Ev.const) (K2 _ _ _) ?_
 refine xf (E2 Et Et) (a2A b a53 u53 ts _ _ _ Me hk53 (by first | exact G2 Me | exact hs.trans Sb)) ?_
 refine kQ1 [0,2,6,67] ?_
 refine wc (fun c67=>?_) fun c67=>?_
 have e2:isM 2 [66,89,84,69] ts=true:=c67
 refine WC.skip (D0 [(67,.bool (isM 2 [66,89,84,69] ts))] (h'':=lnR b a53 ts.length u53::spR b6 D2::psR z i::h) ?_ Su Sb ⟨isM 2 [66,89,84,69] ts,by rw[d0,d1,e2];rfl,rfl,rfl⟩)
 exact Su
 have d2:isM 2 [66,89,84,69] ts=false:=c67
 refine kA1 ?_
 refine xf (E1 Ev.const) (K2 _ _ _) ?_
 refine xf (E2 Et Et) (a2A b a53 u53 ts _ _ _ Me hk53 (by first | exact G2 Me | exact hs.trans Sb)) ?_
 refine kQ1 [0,2,6,67] ?_
 refine wc (fun c67=>?_) fun c67=>?_
 have e3:isM 2 [66,79,79,76] ts=true:=c67
 refine WC.skip (D0 [(67,.bool (isM 2 [66,79,79,76] ts))] (h'':=lnR b a53 ts.length u53::spR b6 D2::psR z i::h) ?_ Su Sb ⟨isM 2 [66,79,79,76] ts,by rw[d0,d1,d2,e3];rfl,rfl,rfl⟩)
 exact Su
 have d3:isM 2 [66,79,79,76] ts=false:=c67
 refine kA1 ?_
 refine xf (E1 Ev.const) (K2 _ _ _) ?_
 refine xf (E2 Et Et) (a2A b a53 u53 ts _ _ _ Me hk53 (by first | exact G2 Me | exact hs.trans Sb)) ?_
 refine kQ1 [0,2,6,67] ?_
 refine wc (fun c67=>?_) fun c67=>?_
 have e4:isM 2 [67,72,65,78] ts=true:=c67
 refine WC.skip (D0 [(67,.bool (isM 2 [67,72,65,78] ts))] (h'':=lnR b a53 ts.length u53::spR b6 D2::psR z i::h) ?_ Su Sb ⟨isM 2 [67,72,65,78] ts,by rw[d0,d1,d2,d3,e4];rfl,rfl,rfl⟩)
 exact Su
 have d4:isM 2 [67,72,65,78] ts=false:=c67
 refine kA1 ?_
 refine xf (E1 Ev.const) (K2 _ _ _) ?_
 refine xf (E2 Et Et) (a2A b a53 u53 ts _ _ _ Me hk53 (by first | exact G2 Me | exact hs.trans Sb)) ?_
 refine kA1 ?_
 refine WL.nil (D0 [(67,.bool (isM 2 [84,73,77,69,82] ts))] (h'':=lnR b a53 ts.length u53::spR b6 D2::psR z i::h) ?_ Su Sb ⟨isM 2 [84,73,77,69,82] ts,by rw[d0,d1,d2,d3,d4];rfl,rfl,rfl⟩)
 exact Su
 rintro _ _ ⟨q,hqq,rfl,rfl⟩
 refine B3 rfl ?_
 rw[← hqq] at hq
 refine jE ?_
 refine wc (fun c67=>?_) fun c67=>?_
 rw[if_pos c67] at hq
 refine kA1 ?_
 refine WL.perm (Del.perm (r:=lnR b a53 ts.length u53) De) ?_
 refine A1 Ev.func (E1 Et) (b0z hg b a53 u53 ts _ _ hk53 (by first | exact G2 Me | exact hs.trans Sb)) Lb (fun v hv hx=>?_) fun v87 h87 hr87=>?_
 · obtain⟨e,hx1,rfl,rfl⟩:=hx;rw[hx1] at hq;exact prP Tryz.f51 hq Sb
 obtain⟨x87,r87,a87,u87,hM87,⟨rfl,hw87⟩,hk87,rfl⟩:=hr87
 rw[hM87,I9] at hq
 refine kA2 ?_
 refine xG (PO.makeFunc (E1 Et) Evs.nil) ?_
 refine WL.perm (Del.perm (r:=lnR b a87 r87.length u87) De) ?_
 refine A1 Ev.func (E4 Et Ev.const Ev.const Et) (b9z 101 V9 [44] 8 b a87 u87 r87 _ _ hk87 (by first | exact G2 Me | exact hs.trans Sb) (by decide) (fun a c ts h hk hs=>a0Z b a c ts h _ hk hs)) Lb (fun v hv hx=>?_) fun v91 h91 hr91=>?_
 · obtain⟨e,hx1,rfl,rfl⟩:=hx;rw[hx1] at hq;exact prP Tryz.f51 hq Sb
 obtain⟨x91,r91,a91,u91,bl91,hM91,⟨p91,q91,rfl,hS91,hO91⟩,hk91,rfl⟩:=hr91
 refine WL.perm ((Mv.perm (by (repeat (first | apply Mv.cons | exact Mv.stop)))).cons _) ?_
 rw[hM91,I9] at hq
 refine kQ2 [0,2,6] ?_
 refine kA1 ?_
 refine xf (E1 Ev.const) (K2 _ _ _) ?_
 refine WL.perm (Del.perm (r:=lnR b a91 r91.length u91) De) ?_
 refine xg (E2 Et Et) (K5 b a91 u91 r91 _ _ _ hk91 (by first | exact G2 Me | exact hs.trans Sb)) ?_
 rintro _ _ ⟨a95,u95,r95,rfl,he95,hk95,rfl⟩
 refine kQ0 [0,2,6,95] ?_
 refine wc (fun c95=>?_) fun c95=>?_
 replace he95:=he95.trans (if_pos c95)
 subst r95
 rw[if_pos c95] at hq
 refine kA1 ?_
 refine WL.perm (Del.perm (r:=lnR b a95 r91.tail.length u95) De) ?_
 refine A1 Ev.func (E1 Et) (a0r hg b a95 u95 r91.tail _ _ hk95 (by first | exact G2 Me | exact hs.trans Sb)) Lb (fun v hv hx=>?_) fun v97 h97 hr97=>?_
 · obtain⟨e,hx1,rfl,rfl⟩:=hx;rw[hx1] at hq;exact prP Tryz.f51 hq Sb
 obtain⟨x97,r97,a97,u97,bl97,hM97,⟨t97,rfl,rfl,hO97⟩,hk97,rfl⟩:=hr97
 refine WL.perm ((Mv.perm (by (repeat (first | apply Mv.cons | exact Mv.stop)))).cons _) ?_
 rw[hM97,I9] at hq
 refine kA4 ?_
 rw[← List.append_assoc bl97 bl91]
 refine WL.nil (D0 [] (h'':=lnR b a97 r97.length u97::spR b6 (s0 3 x87 ⟨p91,q91,x91⟩ t97)::psR z i::((bl97++bl91)++h)) ?_ Su Sb ⟨s0 3 x87 ⟨p91,q91,x91⟩ t97,bl97++bl91,a97,u97,r97,⟨sS1 (by decide) hw87 (hS91.mono (View.le.refl _) (List.sublist_append_right _ _)) hO91 (hO97.mono (List.sublist_append_left _ _)),hk97,hq.trans (by rw[S7];rfl)⟩,rfl,rfl⟩)
 exact Su
 replace he95:=he95.trans (if_neg (H3 c95))
 subst r95
 rw[if_neg (H3 c95)] at hq
 refine WC.skip (D0 [] (h'':=lnR b a95 r91.length u95::spR b6 (s0 1 x87 ⟨p91,q91,x91⟩ A3)::psR z i::(bl91++h)) ?_ Su Sb ⟨s0 1 x87 ⟨p91,q91,x91⟩ A3,bl91,a95,u95,r91,⟨sS1 (by decide) hw87 hS91 hO91 (F1 _ _),hk95,hq.trans (by rw[S7];rfl)⟩,rfl,rfl⟩)
 exact Su
 rw[if_neg (H3 c67)] at hq
 refine WC.take (r:=psR z i) De ?_
 refine kQ3 [6,7] ?_
 refine WC.ret (toX (.inl rfl) (J3 (h':=psR z i::([lnR b a53 ts.length u53]++h)) (.inl rfl) rfl (A4 a9h rfl rfl rfl Me rfl) (RV.tmp rfl) (View.le.refl m) Sb ?_))
 exact⟨none,i,[lnR b a53 ts.length u53],D2,hq,rfl,rfl,fun _=>⟨rfl,_,_,rfl,hk53⟩,nofun⟩
 rintro _ _ ⟨s,bl,x,y,r,⟨hS,hk1,hq⟩,rfl,rfl⟩
 refine B3 rfl ?_
 replace hq:a3n z.R (C0 z.R n) d ts i=V7 5 [58] r i fun r=>if spP (stS s) then F9 r i fun i=>.ok (some (stS s),i) else .error (110,i):=hq
 rw[c2L] at hq
 refine kA1 ?_
 refine xf (E1 Ev.const) (H0 _ _ _) ?_
 refine xY A9 (EvP.cons Et EvP.nil) fun b102=>?_
 refine WL.perm (Del.perm (r:=lnR b x r.length y) De) ?_
 refine A1 Ev.func (E2 Et Et) (N7 b x y r _ _ _ _ _ hk1 (by first | exact G2 Me | exact hs.trans Sb) (Rd.ofPt rfl (by decide) Me)) Lb (fun v hv hx=>?_) fun v103 h103 hr103=>?_
 · obtain⟨hx1,rfl,rfl⟩:=hx;rw[a2e hx1] at hq;exact prP Tryz.f51 hq Sb
 obtain⟨hi103,a103,u103,hk103,rfl⟩:=hr103
 rw[a1P hi103] at hq
 refine kQ0 [0,2,6] ?_
 refine kA1 ?_
 refine xf (E1 Et) (b5h hg s (hS.ok.mono ((List.sublist_append_left _ _).trans Sb))) ?_
 refine kQ1 [0,2,6,106] ?_
 refine wc (fun c106=>?_) fun c106=>?_
 have d106:spP s=false:=by simpa using c106
 rw[if_neg (H3 d106)] at hq
 refine j0 ?_
 refine A1 Ev.func Evs.nil (I4 _ _) Lb (fun v hv hx=>?_) fun v107 h107 hr107=>?_
 · obtain⟨rfl,rfl⟩:=hx;exact prP Tryz.f51 hq Sb
 exact hr107.elim
 have d106:spP s=true:=by simpa using c106
 rw[if_pos d106] at hq
 refine kQ0 [0,2,6] ?_
 refine kA2 ?_
 refine WL.perm ((Del.perm (r:=psR z i) De).trans ((Del.perm (r:=lnR b a103 r.tail.length u103) De).cons _)) ?_
 refine A1 Ev.func (E2 Et Et) (L1 hz i b a103 u103 r.tail _ (by omega)) Lb (fun v hv hx=>?_) fun v110 h110 hr110=>?_
 · obtain⟨hx1,rfl,rfl⟩:=hx;rw[M6 hx1] at hq;exact prP Tryz.f51 hq Sb
 obtain⟨hz110,rfl⟩:=hr110
 rw[M3 hz110] at hq
 refine kQ0 [6] ?_
 refine kQ3 [6,7] ?_
 refine WC.ret (toX (.inl rfl) (J3 (h':=psR z (i+1)::(bl++h)) (.inl rfl) rfl (A4 a9h rfl rfl rfl Me rfl) (RV.tmp rfl) (View.le.refl m) Sb ?_))
 exact a8M hq (by omega) rfl hS rfl
end Go.Proofs.YtkemgjnejlkkcaaGreatDoor
end
section
namespace Go.Proofs.YtkemgjnejlkkcaaGreatDoor
set_option maxRecDepth 100000
set_option maxHeartbeats 2000000
open Go.Eng Go.Pc Go.Sx Go
open Go.Xp hiding B D9
open Go.Ty (Ty Vr Tok eqT tyV J2 B4 B7 S1 zeroK M5 D6)
open Go.Lx (encB D1 lexO)
open Go.Ly (Rw I6 C7)
def kvs (bp:Nat):List (List UInt8 × Value):=[([83,75,73,80],.func (.func 113) #[ptV bp] #[]),([83,84,79,80],.func (.func 114) #[ptV bp] #[]),([83,69,81],.func (.func 115) #[ptV bp] #[]),([80,65,82],.func (.func 116) #[ptV bp] #[]),([80,82,73],.func (.func 117) #[ptV bp] #[]),([65,76,84],.func (.func 118) #[ptV bp] #[]),([73,70],.func (.func 119) #[ptV bp] #[]),([67,65,83,69],.func (.func 120) #[ptV bp] #[]),([87,72,73,76,69],.func (.func 121) #[ptV bp] #[]),([80,76,65,67,69,68],.func (.func 122) #[ptV bp] #[])]
theorem a8X (bp:Nat) (h:List Res) (m:View):CT Tryz.prog 52 [ptV bp] h m (fun v _ h'=>∃ b es ck,v=.map (some b)∧a8r es (kvs bp)∧h'=.pt b (.map es ck)::h):=by
 refine CT.body Tryz.call52 Tryz.func52 rfl Tryz.ntmps52 Lb rfl ?_
 refine kQ1 [0] ?_
 refine WL.makeMap Lb fun b3=>?_
 have hM0:a8r #[] []:=rfl
 refine kA1 ?_
 refine xG (PO.makeFunc (E1 Et) Evs.nil) ?_
 refine P5 (.inr rfl) a3b uu9 hM0 rfl Et Ev.const Et (fun _ _=>Up) fun es1 ck1 hM1=>?_
 refine kA1 ?_
 refine xG (PO.makeFunc (E1 Et) Evs.nil) ?_
 refine P5 (.inr rfl) a3b uu9 hM1 rfl Et Ev.const Et (fun _ _=>Up) fun es2 ck2 hM2=>?_
 refine kA1 ?_
 refine xG (PO.makeFunc (E1 Et) Evs.nil) ?_
 refine P5 (.inr rfl) a3b uu9 hM2 rfl Et Ev.const Et (fun _ _=>Up) fun es3 ck3 hM3=>?_
 refine kA1 ?_
 refine xG (PO.makeFunc (E1 Et) Evs.nil) ?_
 refine P5 (.inr rfl) a3b uu9 hM3 rfl Et Ev.const Et (fun _ _=>Up) fun es4 ck4 hM4=>?_
 refine kA1 ?_
 refine xG (PO.makeFunc (E1 Et) Evs.nil) ?_
 refine P5 (.inr rfl) a3b uu9 hM4 rfl Et Ev.const Et (fun _ _=>Up) fun es5 ck5 hM5=>?_
 refine kA1 ?_
 refine xG (PO.makeFunc (E1 Et) Evs.nil) ?_
 refine P5 (.inr rfl) a3b uu9 hM5 rfl Et Ev.const Et (fun _ _=>Up) fun es6 ck6 hM6=>?_
 refine kA1 ?_
 refine xG (PO.makeFunc (E1 Et) Evs.nil) ?_
 refine P5 (.inr rfl) a3b uu9 hM6 rfl Et Ev.const Et (fun _ _=>Up) fun es7 ck7 hM7=>?_
 refine kA1 ?_
 refine xG (PO.makeFunc (E1 Et) Evs.nil) ?_
 refine P5 (.inr rfl) a3b uu9 hM7 rfl Et Ev.const Et (fun _ _=>Up) fun es8 ck8 hM8=>?_
 refine kA1 ?_
 refine xG (PO.makeFunc (E1 Et) Evs.nil) ?_
 refine P5 (.inr rfl) a3b uu9 hM8 rfl Et Ev.const Et (fun _ _=>Up) fun es9 ck9 hM9=>?_
 refine kA1 ?_
 refine xG (PO.makeFunc (E1 Et) Evs.nil) ?_
 refine P5 (.inr rfl) a3b uu9 hM9 rfl Et Ev.const Et (fun _ _=>Up) fun es10 ck10 hM10=>?_
 refine kQ2 [2] ?_
 refine WC.ret (wR (.pt b3 (.map es10 ck10)::h) ?_)
 exact⟨b3,es10,ck10,rfl,hM10,rfl⟩
theorem a9c (bp:Nat) (h:List Res) (m:View):CX Tryz.prog 52 [ptV bp] h m (fun v _ h'=>∃ hp',h'=hp'++h∧∃ b es ck,v=.map (some b)∧a8r es (kvs bp)∧hp'=[.pt b (.map es ck)]) (fun _ _=>False):=
 CX.ofCT (CT.conv (a8X bp h m) fun _ m' _ _ _ st ⟨b,es,ck,e1,e2,e3⟩=>⟨m',[.pt b (.map es ck)]++h,View.le.refl _,by rw[e3] at st;exact st,_,rfl,b,es,ck,e1,e2,rfl⟩)
abbrev c5Y (m:View) (z:Pz) (n:Nat) (id:FuncId) (f:Int→List Tok→Nat→PE Pr):Prop:=∀ (d:Int) (i b:Nat) (a:Option Addr) (c:Nat) (ts:List Tok) (h hT:List Res),Tk2 m hT a c ts→hT.Sublist h→i < z.R.length→z.R.length≤i+n+1→(0≤d∧d≤32) →
 QrX m z id [ptV z.bp,.int .i64 d,ptV b] i b a c ts h (f d ts i) (OP m)
theorem c1g {m:View} (hg:Glob m) {z:Pz} (hz:Pok m z) {n:Nat} (hrec:REC m z n) {s:B} {v:Value} (hv:a0P s (kvs z.bp)=some v):∃ id,v=.func (.func id) #[ptV z.bp] #[]∧∃ f,a1S z.R (C0 z.R n) s=some f∧c5Y m z n id f:=by
 by_cases h0:s=[83,75,73,80]
 · subst h0
   exact⟨_,(Option.some.inj hv).symm,_,rfl,fun d i b a c ts h _ _ _ hi _ _=>c2q hz d i b a c ts h hi⟩
 by_cases h1:s=[83,84,79,80]
 · subst h1
   exact⟨_,(Option.some.inj hv).symm,_,rfl,fun d i b a c ts h _ _ _ hi _ _=>c2o hz d i b a c ts h hi⟩
 by_cases h2:s=[83,69,81]
 · subst h2
   exact⟨_,(Option.some.inj hv).symm,_,rfl,fun d i b a c ts h hT=>c1Z hg hz hrec d i b a c ts h hT⟩
 by_cases h3:s=[80,65,82]
 · subst h3
   exact⟨_,(Option.some.inj hv).symm,_,rfl,fun d i b a c ts h hT=>c0P hg hz hrec d i b a c ts h hT⟩
 by_cases h4:s=[80,82,73]
 · subst h4
   exact⟨_,(Option.some.inj hv).symm,_,rfl,fun d i b a c ts h hT=>c3A hg hz hrec d i b a c ts h hT⟩
 by_cases h5:s=[65,76,84]
 · subst h5
   exact⟨_,(Option.some.inj hv).symm,_,rfl,fun d i b a c ts h hT=>c1i hg hz hrec d i b a c ts h hT⟩
 by_cases h6:s=[73,70]
 · subst h6
   exact⟨_,(Option.some.inj hv).symm,_,rfl,fun d i b a c ts h hT=>b4p hg hz hrec d i b a c ts h hT⟩
 by_cases h7:s=[67,65,83,69]
 · subst h7
   exact⟨_,(Option.some.inj hv).symm,_,rfl,fun d i b a c ts h hT=>c3t hg hz hrec d i b a c ts h hT⟩
 by_cases h8:s=[87,72,73,76,69]
 · subst h8
   exact⟨_,(Option.some.inj hv).symm,_,rfl,fun d i b a c ts h hT=>c2g hg hz hrec d i b a c ts h hT⟩
 by_cases h9:s=[80,76,65,67,69,68]
 · subst h9
   exact⟨_,(Option.some.inj hv).symm,_,rfl,fun d i b a c ts h hT=>b6T hg hz hrec d i b a c ts h hT⟩
 exfalso
 unfold kvs at hv
 simp only[a0P,if_neg h0,if_neg h1,if_neg h2,if_neg h3,if_neg h4,if_neg h5,if_neg h6,if_neg h7,if_neg h8,if_neg h9] at hv
 cases hv
theorem b5H {bp:Nat} {R:List Rw} {rec:Int→Bool→Nat→PE Pr} {s:B} (hv:a0P s (kvs bp)=none):a1S R rec s=none:=by
 by_cases h0:s=[83,75,73,80]
 · subst h0
   cases hv
 by_cases h1:s=[83,84,79,80]
 · subst h1
   cases hv
 by_cases h2:s=[83,69,81]
 · subst h2
   cases hv
 by_cases h3:s=[80,65,82]
 · subst h3
   cases hv
 by_cases h4:s=[80,82,73]
 · subst h4
   cases hv
 by_cases h5:s=[65,76,84]
 · subst h5
   cases hv
 by_cases h6:s=[73,70]
 · subst h6
   cases hv
 by_cases h7:s=[67,65,83,69]
 · subst h7
   cases hv
 by_cases h8:s=[87,72,73,76,69]
 · subst h8
   cases hv
 by_cases h9:s=[80,76,65,67,69,68]
 · subst h9
   cases hv
 unfold a1S
 simp only[if_neg h0,if_neg h1,if_neg h2,if_neg h3,if_neg h4,if_neg h5,if_neg h6,if_neg h7,if_neg h8,if_neg h9]
theorem b9W {m:View} (hg:Glob m) {z:Pz} (hz:Pok m z) (i:Nat) (d:Int) (h:List Res) (hi:i=z.R.length):CX Tryz.prog 34 [ptV z.bp,.int .i64 d] (psR z i::h) m
   (fun _ _ _=>False) (fun v h'=>v=wrV 110∧h'=psR z i::h):=
 (a2O hg hz i d h (by omega)).mono (fun _ _ _ ⟨_,_,_,_,hM,_⟩=>absurd (a1c hz hM).1.1 (by omega)) fun _ _ ⟨e,j,hM,e1,e2⟩=>by
   rw[a2F (by omega)] at hM
   cases hM
   exact⟨e1,e2⟩
theorem c6k {m:View} (hg:Glob m) {z:Pz} (hz:Pok m z):REC m z 0:=by
 intro i d top h hi hf hd
 have hq:C0 z.R 0 d top i=.error (110,i):=rfl
 refine CX.body Tryz.call33 Tryz.func33 rfl Tryz.ntmps33 Lb rfl ?_
 refine j0 ?_
 refine xW fun b6=>?_
 refine kQ0 [0,1,2,6] ?_
 refine kA2 ?_
 refine WL.perm (Del.perm (r:=psR z i) De) ?_
 refine A1 Ev.func (E2 Et Et) (b9W hg hz i d _ (by omega)) Lb (fun v hv hx=>?_) fun v14 h14 hr14=>?_
 · obtain⟨rfl,rfl⟩:=hx
   exact prP Tryz.f33 hq Sb
 exact hr14.elim
set_option maxHeartbeats 2000000 in
theorem c6d {m:View} (hg:Glob m) {z:Pz} (hz:Pok m z) {n:Nat} (hrec:REC m z n):REC m z (n+1):=by
 intro i d top h hi hf hd
 have hR:=hz.ok.1
 have hq:C0 z.R (n+1) d top i=a03 z.R d i fun ts=>R0 (a3n z.R (C0 z.R n) d ts i) fun so i=>match so with
   | some s=>R0 (C0 z.R n d top i) fun x i=>.ok (prM 18 [] A3 [] [] D5 [] [x] [] s,i)
   | none=>a3G z.R (C0 z.R n) d top ts i:=rfl
 refine CX.body Tryz.call33 Tryz.func33 rfl Tryz.ntmps33 Lb rfl ?_
 refine j0 ?_
 refine xW fun b6=>?_
 refine kQ0 [0,1,2,6] ?_
 refine kA2 ?_
 refine WL.perm (Del.perm (r:=psR z i) De) ?_
 refine A1 Ev.func (E2 Et Et) (a2O hg hz i _ _ (by omega)) Lb (fun v hv hx=>?_) fun v14 h14 hr14=>?_
 · obtain⟨e,j,hx1,rfl,rfl⟩:=hx;(first | rw[hx1] at hq | rw[J1 hx1] at hq);exact prP Tryz.f33 hq Sb
 obtain⟨r14,b14,a14,u14,hM14,rfl,hk14,rfl⟩:=hr14
 have ho14:=a1c hz hM14
 rw[a3t hM14] at hq
 refine kQ1 [0,1,2,6,7] ?_
 refine kA3 ?_
 refine WL.perm ((Del.perm (r:=psR z i) De).trans ((Del.perm (r:=lnR b14 a14 r14.length u14) De).cons _)) ?_
 refine A1 Ev.func (E3 Et Et Et) (c0q hg hz hrec d i b14 a14 u14 r14 _ _ hk14 (G2 Me) (by omega) (by omega) (by omega)) Lb (fun v hv hx=>?_) fun v19 h19 hr19=>?_
 · obtain⟨e,j,hx1,rfl,rfl⟩:=hx;(first | rw[hx1] at hq | rw[J1 hx1] at hq);exact prP Tryz.f33 hq Sb
 obtain⟨so,j19,X19,s19,hM19,rfl,rfl,hN,hS⟩:=hr19
 refine WL.perm ((Mv.perm (by (repeat (first | apply Mv.cons | exact Mv.stop)))).cons _) ?_
 rw[hM19,O8] at hq
 refine kA3 ?_
 refine xW fun b8=>?_
 refine kQ2 [0,1,2,6,7,8,9] ?_
 refine kQ1 [0,1,2,6,7,8,22] ?_
 refine wc (fun c22=>?_) fun c22=>?_
 obtain⟨s',rfl⟩:=Option.isSome_iff_exists.1 c22
 obtain⟨hj19,hst19,hS19⟩:=hS s' rfl
 dsimp only at hq
 refine jE ?_
 refine WC.drop (h':=spR b8 s19::psR z j19::prR b6 (p0 0 [] A3 B5 B5 D5)::(X19++h)) Sb ?_
 refine WC.take (r:=psR z j19) De ?_
 refine G1 [4,5] (.op 0 (.op 1 (.op 2 (.op 3 (.op 4 (.op 5 .nil)))))) [6,7] _ [_] D8 (fun _ _ _ _ _ h=>h) [] (by kernel_rfl) ?_
 refine kA4 ?_
 refine a1x rfl rfl Ev.func (E3 Et Et Et) (fun fr=>c4h hrec j19 d top _ (by omega) (by omega) (by omega)) Lb (fun fr v hv hx=>?_) fun v27 h27 hr27=>?_
 · obtain⟨e,j2,hx1,rfl,rfl⟩:=hx
   rw[hx1] at hq
   exact prP Tryz.f33 hq ((a1X Sb fr).cons_cons _)
 obtain⟨p27,j27,bl27,hM27,hj27,rfl,hO27,rfl⟩:=hr27
 refine SR.buildSlice rfl rfl Z9 rfl (EvP.cons Et EvP.nil) rfl rfl (by decide) rfl Lb fun b28=>?_
 refine a1N (H:=psR z j27::prR b28 p27::spR b8 s19::prR b6 (p0 0 [] A3 B5 B5 D5)::(bl27++(X19++h))) rfl ((List.Perm.swap _ _ _).trans (((X0 bl27 [_,_] (X19++h)).cons _).cons _)) ?_
 refine kQ2 [6] ?_
 refine WC.ret (toX (.inl rfl) (I2 (h':=psR z j27::(prR b28 p27::(bl27++(X19++h)))) (.inl rfl) rfl (A4 P3 rfl rfl rfl Me rfl) (View.le.refl m) Sb ?_))
 rw[hM27,O8] at hq;exact⟨_,_,prR b28 p27::(bl27++X19),hq,⟨by omega,hj27.2⟩,⟨.mk 18 [] A3 B5 B5 D5 none 0 [] (some ⟨b28,0,none⟩) 1 [p27] B5 s19,rfl,hst19 ▸ S9 _,a3f (by decide) (Nat.zero_le _) (F1 _ _) (F3 _ _) (F3 _ _) (R4 _ _) (X9 _ _) ⟨Rd.ofPt rfl (by show 1≤_;decide) (List.Mem.head _),a08 (hO27.mono ((List.sublist_append_left _ _).cons _))⟩ (U9 _ _) (hS19.mono ((List.sublist_append_right _ _).cons _))⟩,by rw[List.cons_append,List.append_assoc]⟩
 obtain rfl:so=none:=by cases so with | none=>rfl | some _=>cases c22
 obtain⟨hji,a2,c2,rfl,hk2⟩:=hN rfl
 obtain rfl:i=j19:=hji.symm
 dsimp only at hq
 have hne:=c0Y hz hM14
 obtain⟨t,ht⟩:∃ t,t=r14.getD 0 zeroK:=⟨_,rfl⟩
 have hel:r14[0]?=some t:=by rw[ht,List.getD_eq_getElem?_getD,List.getElem?_eq_getElem hne];rfl
 have hrd:=hk2.k.rd
 refine kQ0 [0,1,2,6,7] ?_
 refine G1 [1,9] (.op 0 (.op 2 (.op 3 (.op 4 (.op 5 (.op 6 (.op 7 (.op 8 (.op 1 (.op 9 (.op 10 (.op 11 (.op 12 .nil))))))))))))) [13,14] _ [] D8 (fun _ _ _ _ _ h=>h) [12] (by kernel_rfl) ?_
 refine kA5 ?_
 refine yG rfl (F4 A9.und A9.size A9.posz (Ev.tmp rfl) Ev.const Rr rfl (q:=0) (by omega)) ?_
 refine kA2 ?_
 refine a1x rfl rfl Ev.func (E1 Et) (fun fr=>a9c z.bp _ m) Lb (fun fr v hv hx=>?_) fun v32 h32 hr32=>?_
 · exact hx.elim
 obtain⟨b32,es32,ck32,rfl,hM32,rfl⟩:=hr32
 refine b4x rfl rfl (fun fr=>b3y a3b uu9 rfl hM32 Et Et (List.mem_append_right _ Me)) Lb ?_
 refine kA1 ?_
 refine yG rfl (PO.extract Et rfl) ?_
 refine yG rfl (PO.extract Et rfl) ?_
 refine SR.nil rfl rfl ?_
 refine kQ2 [0,1,2,6,7,10,11] ?_
 refine kA3 ?_
 refine zG (fun hc=>PO.nilCheck (Eg hc)) ?_
 refine kA2 ?_
 refine E8 (GU.t rfl rfl) (fun hc=>F4 A9.und A9.size A9.posz (Eg hc) Ev.const Rr rfl (q:=0) (by omega)) Lb ?_
 refine zG (fun hc=>F5 H9 rfl (Nat.ne_of_beq_eq_false rfl) B7 (Nat.succ_pos _) Rr (by assumption) (Eg hc)) ?_
 refine zG (fun hc=>F8 a6N rfl B7 Rr (Eg hc) (by assumption) rfl) ?_
 refine kA6 ?_
 refine zG (fun hc=>PO.nilCheck (Eg hc)) ?_
 refine kA2 ?_
 refine E8 (a3u rfl rfl) (fun hc=>F4 A9.und A9.size A9.posz (Eg hc) Ev.const Rr rfl (q:=0) (by omega)) Lb ?_
 refine zG (fun hc=>F5 H9 rfl (Nat.ne_of_beq_eq_false rfl) B7 (Nat.succ_pos _) Rr (by assumption) (Eg hc)) ?_
 refine zG (fun hc=>F8 uu9 rfl B7 Rr (Eg hc) (by assumption) rfl) ?_
 refine zG (fun hc=>Q2 (Eg hc) Ev.const) ?_
 refine zG (fun hc=>a2T hc rfl rfl) ?_
 refine kQ1 [0,1,6,7,10,66] ?_
 refine wc (fun c66=>?_) fun c66=>?_
 have d66:(∃ v,a0P t.text (kvs z.bp)=some v)∧t.kind=2∧(top=true∨t.text≠[80,76,65,67,69,68]):=by
   simp only[Bool.and_eq_true,Bool.or_eq_true,beq_iff_eq,Bool.not_eq_true',beq_eq_false_iff_ne,ne_eq] at c66
   exact⟨Option.isSome_iff_exists.1 c66.1.1,c66.1.2,c66.2⟩
 obtain⟨⟨v,hv⟩,hc⟩:=d66
 obtain⟨id,rfl,f,hf2,hQ⟩:=c1g hg hz hrec hv
 rw[b6t hel hf2 hc] at hq
 rw[hv]
 refine kA5 ?_
 refine xG (a0l A9.und A9.size Et Ev.const (l:=1) rfl (by omega)) ?_
 refine kA3 ?_
 rw[← List.length_tail]
 refine kQ0 [1,6,7,10] ?_
 refine kA3 ?_
 refine WL.perm ((Del.perm (r:=psR z i) De).trans ((Del.perm (r:=lnR b14 (sl1 a2 1 c2 4) r14.tail.length (c2 - 1)) De).cons _)) ?_
 refine A1 (Ev.tmp rfl) (E2 (Ev.tmp rfl) (Ev.tmp rfl)) (hQ d i b14 _ _ r14.tail _ _ (hk2.tail hne) (G2 Me) (by omega) (by omega) (by omega)) Lb (fun v hv hx=>?_) fun v78 h78 hr78=>?_
 · obtain⟨e,j,hx1,rfl,rfl⟩:=hx;(first | rw[hx1] at hq | rw[J1 hx1] at hq);exact prP Tryz.f33 hq Sb
 obtain⟨x78,j78,bl78,hM78,hj78,⟨p78,rfl,rfl,hO78⟩,rfl⟩:=hr78
 refine WL.perm ((Mv.perm (by (repeat (first | apply Mv.cons | exact Mv.stop)))).cons _) ?_
 rw[hM78] at hq
 refine kQ1 [6] ?_
 refine WC.ret (toX (.inl rfl) (I2 (h':=psR z j78::(bl78++h)) (.inl rfl) rfl (A4 P3 rfl rfl rfl Me rfl) (View.le.refl m) Sb ?_))
 exact⟨_,_,bl78,hq,hj78,⟨p78,rfl,rfl,hO78⟩,rfl⟩
 have d66:a1S z.R (C0 z.R n) t.text=none∨¬ (t.kind=2∧(top=true∨t.text≠[80,76,65,67,69,68])):=by
   cases hv:a0P t.text (kvs z.bp) with
   | none=>exact .inl (b5H hv)
   | some v=>
     refine .inr fun q=>?_
     rw[hv] at c66
     have:((((some v).isSome&&(t.kind==2))&&(top||!(t.text==[80,76,65,67,69,68]))):Bool)=true:=by
       simp only[Bool.and_eq_true,Bool.or_eq_true,beq_iff_eq,Bool.not_eq_true',beq_eq_false_iff_ne,ne_eq]
       exact⟨⟨rfl,q.1⟩,q.2⟩
     exact absurd (this.symm.trans c66) (by decide)
 rw[b3d hel d66] at hq
 refine kQ0 [0,1,6,7] ?_
 refine kA3 ?_
 refine WL.perm ((Del.perm (r:=psR z i) De).trans ((Del.perm (r:=lnR b14 a2 r14.length c2) De).cons _)) ?_
 refine A1 Ev.func (E3 Et Et Et) (b7g hg hz hrec d i b14 a2 c2 r14 _ _ hk2 (G2 Me) (by omega) (by omega) (by omega) hne) Lb (fun v hv hx=>?_) fun v82 h82 hr82=>?_
 · obtain⟨e,j,hx1,rfl,rfl⟩:=hx;(first | rw[hx1] at hq | rw[J1 hx1] at hq);exact prP Tryz.f33 hq Sb
 obtain⟨x82,j82,bl82,hM82,hj82,⟨p82,rfl,rfl,hO82⟩,rfl⟩:=hr82
 refine WL.perm ((Mv.perm (by (repeat (first | apply Mv.cons | exact Mv.stop)))).cons _) ?_
 rw[hM82] at hq
 refine kQ1 [6] ?_
 refine WC.ret (toX (.inl rfl) (I2 (h':=psR z j82::(bl82++h)) (.inl rfl) rfl (A4 P3 rfl rfl rfl Me rfl) (View.le.refl m) Sb ?_))
 exact⟨_,_,bl82,hq,hj82,⟨p82,rfl,rfl,hO82⟩,rfl⟩
theorem c4W {m:View} (hg:Glob m) {z:Pz} (hz:Pok m z):∀ n,REC m z n
 | 0=>c6k hg hz
 | n+1=>c6d hg hz (c4W hg hz n)
end Go.Proofs.YtkemgjnejlkkcaaGreatDoor
end
section
namespace Go.Proofs.YtkemgjnejlkkcaaGreatDoor.Ly7
set_option maxRecDepth 100000
set_option maxHeartbeats 2000000
open Go.Eng Go.Ly Go
theorem a7m (l:B) (c:UInt8) (h:List Res) (m:View):CT Tryz.prog 99 [str l,.int .u8 c.toNat] h m (A7 h (.int .i64 (Lib.indexByte l c))):=
 CT.ofCalls Tryz.call99 fun w _=>by
   have:=Tryz.strings_IndexByte ⟨l.toArray⟩ c.toNat w
   rw[show(c.toNat:Int).toNat.toUInt8=c by simp] at this
   exact this
theorem b4t (c:UInt8) (h:List Res) (m:View):CT Tryz.prog 50 [.int .u8 c.toNat] h m (A7 h (.bool (okB c))):=by
 refine CT.body Tryz.call50 Tryz.func50 rfl Tryz.ntmps50 Lb rfl ?_
 refine kQ1 [0] ?_
 refine kQ7 [2] ?_
 refine WC.ret (wR (h) ?_)
 exact⟨rfl,rfl⟩
theorem b8K {s:B} (h0:s≠[]):∃ c,s[s.length - 1]?=some c∧a6S s=a9X.contains c:=by
 refine⟨s.getLast h0,?_,?_⟩
 · rw[← List.getLast?_eq_getElem?,List.getLast?_eq_some_getLast h0]
 · unfold a6S
   rw[List.getLast?_eq_some_getLast h0]
theorem b0V (s:B) (h0:s≠[]) (hs:s.length≤9223372036854775807) (h:List Res) (m:View):CT Tryz.prog 49 [str s] h m (A7 h (.bool (a6S s))):=by
 obtain⟨c,hc,he⟩:=b8K h0
 have hp:0 < s.length:=List.length_pos_iff.2 h0
 refine CT.body Tryz.call49 Tryz.func49 rfl Tryz.ntmps49 Lb rfl ?_
 refine kQ1 [0] ?_
 refine kA2 ?_
 refine xG (I0 uu9 Et) ?_
 refine xG (P4 Et Ev.const (by omega)) ?_
 refine WL.val (v':=.int .i64 ((s.length - 1:Nat):Int)) (congrArg (Value.int .i64) (by omega)) ?_
 refine xG (G9 uu9 Et Et rfl (by assumption)) ?_
 refine xf (E2 Ev.const Et) (CT.argsE rfl (a7m a9X c _ _)) ?_
 refine kQ2 [2] ?_
 refine WC.ret (wR (h) ?_)
 exact⟨by rw[he,← b2I],rfl⟩
theorem c2k (s:B) (h:List Res) (m:View) (hs:s.length≤9223372036854775807):CT Tryz.prog 47 [str s,str [32]] h m (A7 h (str (Lib.trimB s 32))):=
 ⟨Tryz.call47,fun w st=>Calls.mono (Tryz.strings_Trim_one ⟨s.toArray⟩ 32 (by decide) w hs) (by
   rintro e w' ⟨rfl,hw⟩
   rcases hw with rfl | rfl
   · exact⟨_,m,h,rfl,View.le.refl m,st,rfl,rfl⟩
   · exact⟨_,m,h,rfl,View.le.refl m,st.drew,rfl,rfl⟩)⟩
theorem b8V {m:View} (hg:Glob m) (s:B) (hs:s.length≤140737488355328) (h:List Res):CT Tryz.prog 31 [str s] h m (A7 h (.bool (validP s))):=by
 have hs':s.length≤140737488355328:=by omega
 have hs2:s.length≤9223372036854775807:=by omega
 have hd:∀ k,k < s.length→s[k]?=some (s.getD k 0):=fun k hi=>by rw[List.getD_eq_getElem?_getD,List.getElem?_eq_getElem hi];rfl
 refine CT.body Tryz.call31 Tryz.func31 rfl Tryz.ntmps31 Lb rfl ?_
 refine kQ1 [0] ?_
 refine kA1 ?_
 refine xG (N1 Et Ev.const) ?_
 refine kA2 ?_
 refine zG (fun hc=>I0 uu9 (Eg hc)) ?_
 refine kA4 ?_
 refine A8 (GU.f rfl rfl) (fun hc=>⟨Ev.func,(E2 (Eg hc) Ev.const),c2k s _ _ hs2⟩) Lb ?_
 refine kA1 ?_
 refine zG (fun hc=>Q2 (Eg hc) (Eg hc)) ?_
 refine kA3 ?_
 refine A8 (GU.f rfl rfl) (fun hc=>⟨Ev.func,(E2 (Eg hc) Ev.const),a0M hg s [45,45] (by simp at hc;omega) _⟩) Lb ?_
 refine kA3 ?_
 refine A8 (GU.f rfl rfl) (fun hc=>⟨Ev.func,(E1 (Eg hc)),b0V s (by intro e;subst e;simp at hc) hs2 _ _⟩) Lb ?_
 refine kQ1 [0,24] ?_
 refine wc (fun c24=>?_) fun c24=>?_
 have hb:b6r s=true:=c24
 refine kQ1 [2] ?_
 refine WC.ret (wR (h) ?_)
 exact⟨by unfold validP;rw[hb];rfl,rfl⟩
 have hb:b6r s=false:=c24
 have hv:validP s=s.all okB:=by unfold validP;rw[hb];rfl
 refine kQ0 [0] ?_
 refine kA1 ?_
 refine xG (I0 uu9 Et) ?_
 refine kQ1 [0,26,27] ?_
 refine B1 [0,26] rfl (fun μ F' h'=>∃ k:Nat,(k≤s.length∧s.all okB=(s.drop k).all okB)∧s.length - k=μ∧F'=[(27,.int .i64 k)]∧h=h') (s.length - 0) [(27,.int .i64 0)] (h0:=h) ?_ Sb ⟨0,⟨by omega,rfl⟩,rfl,rfl,rfl⟩ ?_
 exact Su
 rintro _ _ _ ⟨k,⟨hk,hJ⟩,rfl,rfl,rfl⟩
 refine B3 rfl ?_
 refine kQ1 [0,26,27,28] ?_
 refine wc (fun c28=>?_) fun c28=>?_
 replace c28:=dT c28
 obtain⟨c,hc⟩:=A5 (l:=s) (k:=k) (by omega)
 have hJ:s.all okB=(okB c&&(s.drop (k+1)).all okB):=by rw[hJ,R8 hc];rfl
 refine kQ0 [0,26,27] ?_
 refine kQ2 [0,3,26,27] ?_
 refine kA2 ?_
 refine xG (G9 uu9 Et Et rfl (by assumption)) ?_
 refine xf (E1 Et) (b4t _ _ _) ?_
 refine kQ1 [0,26,27,34] ?_
 refine wc (fun c34=>?_) fun c34=>?_
 have hn:okB c=false:=by simpa using c34
 refine kQ1 [2] ?_
 refine WC.ret (wR (h) ?_)
 exact⟨by rw[hv,hJ,hn];rfl,rfl⟩
 have hn:okB c=true:=by simpa using c34
 refine kQ0 [0,26,27] ?_
 refine kA2 ?_
 refine WL.nil (A6 (s.length - (k+1)) [(27,.int .i64 (k+1))] (h'':=h) (by omega) ?_ Su Sb ⟨k+1,⟨by omega,by rw[hJ,hn];rfl⟩,rfl,rfl,rfl⟩)
 exact Su
 replace c28:=dF c28
 refine kQ0 [] ?_
 refine kQ1 [2] ?_
 refine WC.ret (wR (h) ?_)
 exact⟨by rw[hv,hJ,List.drop_eq_nil_of_le (by omega)];rfl,rfl⟩
theorem may_ct {m:View} (hg:Glob m) (a:Option Addr) (n c:Nat) (l:List Rw) (h:List Res) (hr:Rd m h a n c 3 (fl I6 l)) (hs:∀ x ∈ l,x.text.length≤140737488355328):CT Tryz.prog 18 [.slice a n c] h m (A7 h (.bool (mayP l))):=by
 have hl:=hr.lenF C7 (by decide)
 have hmx:=hr.mx
 have hle:=hr.le
 subst hl
 refine CT.body Tryz.call18 Tryz.func18 rfl Tryz.ntmps18 Lb rfl ?_
 refine kQ1 [0] ?_
 refine kQ3 [0,10] ?_
 refine wc (fun c10=>?_) fun c10=>?_
 replace c10:=dT c10
 refine kQ1 [2] ?_
 refine WC.ret (wR (h) ?_)
 exact⟨by unfold mayP;rw[if_pos c10],rfl⟩
 replace c10:=dF c10
 have hm:mayP l=mayA 0 (-1) 0 l:=by unfold mayP;rw[if_neg c10]
 refine kQ0 [0] ?_
 refine kQ3 [0,3,4,5] ?_
 refine kQ3 [3,4,5,11,12,13] ?_
 refine B1 [11,12] rfl (fun μ F' h'=>∃ k:Nat,∃ no:Int,∃ dp:Int,∃ size:Int,((k≤l.length∧(-1≤dp∧dp≤32)∧(0≤size∧size≤k * 321))∧mayP l=mayA no dp size (l.drop k))∧l.length - k=μ∧F'=[(3,.int .i64 no),(4,.int .i64 dp),(5,.int .i64 size),(13,.int .i64 k)]∧h=h') (l.length - 0) [(3,.int .i64 0),(4,.int .i64 (-1)),(5,.int .i64 0),(13,.int .i64 0)] (h0:=h) ?_ Sb ⟨0,0,-1,0,⟨⟨by omega,by omega,by omega⟩,hm⟩,rfl,rfl,rfl⟩ ?_
 exact Su
 rintro _ _ _ ⟨k,no,dp,size,⟨⟨hk,hdp,hsz⟩,hJ⟩,rfl,rfl,rfl⟩
 refine B3 rfl ?_
 refine kQ1 [3,4,5,11,12,13,14] ?_
 refine wc (fun c14=>?_) fun c14=>?_
 replace c14:=dT c14
 obtain⟨x,hx⟩:=A5 (l:=l) (k:=k) (by omega)
 have hxs:=hs x (List.mem_of_getElem? hx)
 rw[a9K hx] at hJ
 refine kQ0 [3,4,5,11,12,13] ?_
 refine kA2 ?_
 refine xW fun b7=>?_
 refine kQ1 [3,4,5,7,11,12,13] ?_
 refine a7F ?_
 refine kA6 ?_
 refine E8 (GU.f rfl rfl) (fun hc=>I7 (Eg hc) Ev.const (by first | omega | (simp at hc;omega))) Lb ?_
 refine zG (fun hc=>PO.min (Eg hc) Ev.const) ?_
 refine kA5 ?_
 refine A8 (GU.f rfl rfl) (fun hc=>⟨Ev.func,(E1 (Eg hc)),b8V hg x.text hxs _⟩) Lb ?_
 refine kQ2 [5,7,11,12,13,44] ?_
 refine wc (fun c44=>?_) fun c44=>?_
 have hb:badR no dp x=true:=c44
 rw[if_pos hb] at hJ
 refine kQ1 [2] ?_
 refine WC.ret (wR (h) ?_)
 exact⟨by rw[hJ],rfl⟩
 have hb:badR no dp x=false:=c44
 rw[hb] at hJ
 obtain⟨h1,h2,h3,h4,h5,h6⟩:=b0o hb
 have h7:=(validP_spec h6).2.1
 refine kQ0 [5,7,11,12,13] ?_
 refine dS [] (.op 0 (.op 1 (.op 2 (.op 3 (.op 4 (.op 5 (.op 6 (.op 7 (.op 8 (.op 9 (.op 10 (.op 11 (.op 12 (.op 13 (.op 14 (.op 15 .nil)))))))))))))))) [16] D8 ?_
 refine kA7 ?_
 refine yG rfl (a7a Ev.const Et (by omega)) ?_
 refine yG rfl (I7 Et Et (by omega)) ?_
 refine kA2 ?_
 refine yG rfl (I0 uu9 Et) ?_
 refine yG rfl (I7 Et Et (by omega)) ?_
 refine yG rfl (I7 Et Ev.const (by omega)) ?_
 refine yG rfl (PO.assign Et) ?_
 refine yG rfl (PO.assign Et) ?_
 refine SR.nil rfl rfl ?_
 refine kQ1 [3,4,5,11,12,13] ?_
 refine kA2 ?_
 refine WL.nil (A6 (l.length - (k+1)) [(3,.int .i64 (x.no)),(4,.int .i64 (x.depth)),(5,.int .i64 (size+2 * x.depth+x.text.length+1)),(13,.int .i64 (k+1))] (h'':=h) (by omega) ?_ Su Sb ⟨k+1,x.no,x.depth,size+2 * x.depth+x.text.length+1,⟨⟨by omega,by omega,by omega⟩,hJ⟩,rfl,rfl,rfl⟩)
 exact Su
 replace c14:=dF c14
 rw[List.drop_eq_nil_of_le (by omega)] at hJ
 refine kQ0 [5] ?_
 refine kQ3 [2] ?_
 refine WC.ret (wR (h) ?_)
 exact⟨by rw[hJ];rfl,rfl⟩
end Go.Proofs.YtkemgjnejlkkcaaGreatDoor.Ly7
end
section
namespace Go.Proofs.YtkemgjnejlkkcaaGreatDoor
set_option maxRecDepth 100000
set_option maxHeartbeats 2000000
open Go.Eng Go.Pc Go.Sx Go
open Go.Xp hiding B D9
open Go.Ty (Ty Vr Tok eqT tyV J2 B4 B7 S1 zeroK M5 D6)
open Go.Lx (encB D1 lexO)
open Go.Ly (Rw I6 C7 mayP)
abbrev erR (b:Nat) (e:Int):Res:=.pt b (.cells [Value.int .i64 e].toArray 53 (0,0))
abbrev zP:Pr:=p0 0 [] A3 B5 B5 D5
theorem c1P (b0 b1:Nat) (h:List Res) (m:View):a8V Tryz.prog 32 [ptV b0,ptV b1] .returning m h h:=by
 refine a79 Tryz.func32 rfl rfl Tryz.ntmps32 Lb rfl Lb Lb (b2J rfl) rfl ?_
 refine kA1 ?_
 refine xG (a8P b8o Et rfl) ?_
 refine kQ0 [0,1,2,7] ?_
 refine wc (fun c7=>?_) fun c7=>?_
 cases c7
 refine WC.skip (a6Y (h2:=h) (.inr rfl) rfl Sb)
theorem c2h (b0 b1:Nat) (h:List Res) (m:View) (x:Pr) (k e:Int):a8V Tryz.prog 32 [ptV b0,ptV b1] (.panicking [{ v:=wrV e,recovered:=false }]) m (prR b0 x::erR b1 k::h) (prR b0 zP::erR b1 e::h):=by
 refine a79 Tryz.func32 rfl rfl Tryz.ntmps32 Lb rfl Lb Lb b1B (a8K _) ?_
 refine kA1 ?_
 refine xG (a7E b8o Et rfl) ?_
 refine kQ0 [0,1,2,7] ?_
 refine wc (fun c7=>?_) fun c7=>?_
 refine kA1 ?_
 refine xG (a3c c1D Et) ?_
 refine kA3 ?_
 refine xW fun b3=>?_
 refine kQ2 [0,1,3,4] ?_
 refine kQ2 [0,1,3,14] ?_
 refine wc (fun c14=>?_) fun c14=>?_
 cases c14
 refine WC.skip (kp [0,1,3] ?_)
 refine jE ?_
 refine WC.take (r:=.pt b0 _) De ?_
 refine G1 [3] (.op 0 (.op 1 (.op 2 (.op 3 .nil)))) [4] _ [_] D8 (fun _ _ _ _ _ h=>absurd h.1 (by rintro (q | q) <;> cases q)) [] (by kernel_rfl) ?_
 refine yG rfl (PO.build P3 rfl rfl rfl EvP.nil rfl) ?_
 refine kA2 ?_
 refine SR.store rfl rfl rfl Et Et rfl rfl rfl rfl Up ?_
 refine SR.nil rfl rfl ?_
 refine kA1 ?_
 refine WL.nil (a6Y (h2:=prR b0 zP::erR b1 e::h) (.inr rfl) rfl Sb)
 cases c7
theorem b4a (x y z:Res) (h:List Res):(x::y::z::h).Perm (z::y::x::h):=(List.Perm.swap _ _ _).trans (((List.Perm.swap _ _ _).cons _).trans (List.Perm.swap _ _ _))
abbrev c5z (m:View) (z:Pz) (h:List Res) (v:Value) (h':List Res):Prop:=
 ∃ x bl j e,v=.tuple #[prV x,.int .i64 e]∧h'=psR z j::(bl++h)∧POk m bl x∧((e=0∧a6V z.R=.ok (stP x,j))∨(e≠0∧x=zP∧a6V z.R=.error (e,j)))
theorem c3n {m:View} (hg:Glob m) {z:Pz} (hz:Pok m z) (h:List Res):CT Tryz.prog 19 [ptV z.bp] (psR z 0::h) m (fun v _ h'=>c5z m z h v h'):=by
 have hR:=hz.ok.1
 have hrd:=hz.rd.mono (View.le.refl m) (List.nil_sublist h)
 have hq:a6V z.R=R0 (C0 z.R z.R.length 0 true 0) fun x i=>match z.R[i]? with
   | none=>.ok (x,i)
   | some y=>.error (if (lexO y.text).2.2≠0 then (lexO y.text).2.2 else 110,i):=rfl
 have key:∀ (n:Cx) (F:Fm) (e:Int) (j:Nat) (y:Int) (p:Pr) (b2 b3:Nat),n.ds=[a9e 32 [ptV b2,ptV b3]]→Go.Eng.look F 2=some (ptV b2)→Go.Eng.look F 3=some (ptV b3)→a6V z.R=.error (e,j)→∀ a w,Fr n F a→St m (psR z j::erR b3 y::prR b2 p::h) w →
     bodyPostD Tryz.prog Tryz.f19 (RQ m (fun v _ h'=>c5z m z h v h')) (.panic [{ v:=wrV e,recovered:=false }]) a w:=fun n F e j y p b2 b3 hds e1 e2 hA a w ha hs=>
   c5O (P:=Tryz.prog) (fn:=Tryz.f19) (h':=psR z j::h) hds Tryz.call32 (c2h b2 b3 (psR z j::h) m p y e) rfl (A4 P3 rfl rfl e1 Me rfl) (W8 b6i rfl e2 Me rfl) (View.le.refl m) Sb
     ⟨zP,[],j,e,rfl,rfl,b7m _ _ (by decide),.inr ⟨c4c e j hA,rfl,hA⟩⟩ a w ha (hs.perm (b4a _ _ _ _))
 refine CT.bodyD Tryz.call19 Tryz.func19 rfl Tryz.ntmps19 Lb rfl ?_
 refine j0 ?_
 refine xW fun b2=>?_
 refine xW fun b3=>?_
 refine wn [0,2,3] ?_
 refine jE ?_
 refine a7f rfl fun ops hG=>?_
 refine WY.po rfl (PO.makeFunc Evs.nil (E2 Et Et)) Lb ?_
 refine WY.defer rfl Et ?_
 refine kp [0,2,3] ?_
 refine kA1 ?_
 refine WL.perm (Del.perm (r:=psR z 0) De) ?_
 refine A1 Ev.func (E3 Et Ev.const Ev.const) (c4W hg hz z.R.length 0 0 true _ (by omega) (by omega) (by decide)) Lb (fun v hv hx=>?_) fun v6 h6 hr6=>?_
 · obtain⟨e,j,hx1,rfl,rfl⟩:=hx
   rw[hx1] at hq
   exact key _ _ e j 0 zP b2 b3 rfl rfl rfl hq
 obtain⟨x6,j6,bl6,hM6,hj6,⟨p6,rfl,rfl,hO6⟩,rfl⟩:=hr6
 refine WL.perm ((Mv.perm (by (repeat (first | apply Mv.cons | exact Mv.stop)))).cons _) ?_
 rw[hM6,O8] at hq
 refine kA1 ?_
 refine wn [0,2,3] ?_
 refine jE ?_
 refine WC.noPan ?_
 refine dS [] (.op 0 (.op 1 (.op 2 (.op 3 (.op 4 (.op 5 (.op 6 (.op 7 (.op 8 .nil))))))))) [9] D8 ?_
 refine kA8 ?_
 refine yG rfl (U5 a6T Et) ?_
 refine SR.nil rfl rfl ?_
 refine kQ1 [0,2,3,16] ?_
 refine wc (fun c16=>?_) fun c16=>?_
 replace c16:=dT c16
 obtain⟨y,hel⟩:=A5 (l:=z.R) (k:=j6) (by omega)
 rw[hel] at hq
 dsimp only at hq
 have hop:Y9 z.R y.depth j6=if (lexO y.text).2.2≠0 then .error ((lexO y.text).2.2,j6) else .ok (lexO y.text).1:=by
   unfold Y9
   rw[hel]
   simp only[ne_eq,not_true_eq_false,if_false]
 refine jE ?_
 refine b9K [] (.op 0 (.op 1 (.op 2 (.op 3 (.op 4 (.op 5 (.op 6 (.op 7 (.op 8 (.op 9 (.op 10 (.op 11 .nil)))))))))))) [12] _ [] D8 (by kernel_rfl) ?_
 refine kA9 ?_
 refine yG rfl (F4 S8.und S8.size S8.posz (Ev.tmp rfl) (Ev.tmp rfl) Rr rfl (q:=j6) (by omega)) ?_
 refine kA2 ?_
 refine SR.nil rfl rfl ?_
 refine WL.perm (Del.perm (r:=psR z j6) De) ?_
 refine A1 Ev.func (E2 Et Et) (a2O hg hz j6 y.depth _ (by omega)) Lb (fun v hv hx=>?_) fun v29 h29 hr29=>?_
 · obtain⟨e,j,hx1,rfl,rfl⟩:=hx
   rw[hop] at hx1
   split at hx1
   · rename_i hl
     cases hx1
     rw[if_pos hl] at hq
     exact fun a w ha hs=>key _ _ _ _ 0 p6 b2 b3 rfl rfl rfl hq a w ha (hs.sub Sb)
   · cases hx1
 obtain⟨ts29,b29,a29,c29,hM29,rfl,hk29,rfl⟩:=hr29
 refine kQ0 [2,3] ?_
 refine A1 Ev.func Evs.nil (I4 _ _) Lb (fun v hv hx=>?_) fun v30 h30 hr30=>?_
 · obtain⟨rfl,rfl⟩:=hx
   rw[hop] at hM29
   split at hM29
   · cases hM29
   · rename_i hl
     rw[if_neg hl] at hq
     exact fun a w ha hs=>key _ _ _ _ 0 p6 b2 b3 rfl rfl rfl hq a w ha (hs.sub Sb)
 exact hr30.elim
 replace c16:=dF c16
 rw[List.getElem?_eq_none (by omega)] at hq
 dsimp only at hq
 refine kQ0 [2,3] ?_
 refine kQ3 [2,3] ?_
 refine WC.ret (c5k (h':=psR z j6::(bl6++h)) (.inl rfl) rfl Tryz.call32 (c1P _ _ _ _) rfl (A4 P3 rfl rfl rfl Me rfl) (W8 b6i rfl rfl Me rfl) (View.le.refl m) Sb ?_)
 exact⟨p6,bl6,j6,0,rfl,rfl,hO6,.inl ⟨rfl,hq⟩⟩
abbrev c6a (m:View) (R:List Rw) (h:List Res) (v:Value) (h':List Res):Prop:=
 ∃ x bl,v=.tuple #[prV x,.int .i64 ((K6 R).2.1:Nat),.int .i64 (K6 R).2.2]∧stP x=(K6 R).1∧POk m bl x∧h'=bl++h
theorem a7C {m:View} (hg:Glob m) (ra:Option Addr) (rc:Nat) (R:List Rw) (h:List Res) (hr:Rd m [] ra R.length rc 3 (fl I6 R)) (ht:∀ x ∈ R,x.text.length≤140737488355328) :
   CT Tryz.prog 10 [.slice ra R.length rc] h m (fun v _ h'=>c6a m R h v h'):=by
 have hq:K6 R=if mayP R then (match a6V R with
   | .ok (x,_)=>(x,0,0)
   | .error (e,i)=>(prM 0 [] A3 [] [] D5 [] [] [] D2,i,e)) else (prM 0 [] A3 [] [] D5 [] [] [] D2,0,2):=rfl
 refine CT.body Tryz.call10 Tryz.func10 rfl Tryz.ntmps10 Lb rfl ?_
 refine j0 ?_
 refine xW fun b2=>?_
 refine kQ2 [0,2] ?_
 refine kA1 ?_
 refine xf (E1 Et) (Ly7.may_ct hg ra _ rc R _ (hr.mono (View.le.refl m) (List.nil_sublist _)) ht) ?_
 refine kQ1 [0,2,8] ?_
 refine wc (fun c8=>?_) fun c8=>?_
 have d8:mayP R=false:=by simpa using c8
 rw[if_neg (H3 d8)] at hq
 refine kQ4 [2,3,4] ?_
 refine WC.ret (a8W (h':=h) (.inl rfl) rfl (A4 P3 rfl rfl rfl Me rfl) (RV.tmp rfl) (RV.tmp rfl) (View.le.refl m) Sb ?_)
 exact⟨zP,[],by rw[hq];rfl,by rw[hq];exact S9 _,b7m _ _ (by decide),rfl⟩
 have d8:mayP R=true:=by simpa using c8
 rw[if_pos d8] at hq
 refine kQ0 [0,2] ?_
 refine kA2 ?_
 refine xX fun b12=>?_
 refine kQ1 [2,5] ?_
 refine kA1 ?_
 refine WL.perm (Del.perm (r:=psR ⟨b12,ra,rc,R⟩ 0) De) ?_
 refine xg (E1 Et) (c3n hg (z:=⟨b12,ra,rc,R⟩) (Pok.of hr d8) _) ?_
 rintro _ _ ⟨x15,bl15,j15,e15,rfl,rfl,hO15,hA15⟩
 refine WL.perm ((Mv.perm (by (repeat (first | apply Mv.cons | exact Mv.stop)))).cons _) ?_
 refine kQ5 [2,4,5] ?_
 refine kQ2 [2,4,5,19] ?_
 refine wc (fun c19=>?_) fun c19=>?_
 replace c19:=a1p c19
 obtain⟨rfl,hA⟩:x15=zP∧a6V R=.error (e15,j15):=hA15.elim (fun q=>absurd q.1 c19) fun q=>q.2
 rw[hA] at hq
 dsimp only at hq
 refine jE ?_
 refine WC.take (r:=.pt b2 _) De ?_
 refine G1 [6] (.op 0 (.op 1 (.op 2 (.op 3 (.op 4 (.op 5 (.op 6 .nil))))))) [7,8] _ [_] D8 (fun _ _ _ _ _ h=>h) [5] (by kernel_rfl) ?_
 refine yG rfl (PO.build P3 rfl rfl rfl EvP.nil rfl) ?_
 refine kA5 ?_
 refine SR.store rfl rfl rfl Et Et rfl rfl rfl rfl Up ?_
 refine SR.nil rfl rfl ?_
 refine kQ2 [2,3,4] ?_
 refine WC.ret (a8W (h':=h) (.inl rfl) rfl (A4 P3 rfl rfl rfl Me rfl) (RV.tmp rfl) (RV.tmp rfl) (View.le.refl m) Sb ?_)
 exact⟨zP,[],by rw[hq];rfl,by rw[hq];exact S9 _,b7m _ _ (by decide),rfl⟩
 replace c19:=a1y c19
 have hA:a6V R=.ok (stP x15,j15):=hA15.elim (fun q=>q.2) fun q=>absurd c19 q.1
 rw[hA] at hq
 dsimp only at hq
 refine kQ0 [2] ?_
 refine kQ4 [2,3,4] ?_
 refine WC.ret (a8W (h':=bl15++h) (.inl rfl) rfl (A4 P3 rfl rfl rfl Me rfl) (RV.tmp rfl) (RV.tmp rfl) (View.le.refl m) Sb ?_)
 exact⟨x15,bl15,by rw[hq];rfl,by rw[hq],hO15,rfl⟩
end Go.Proofs.YtkemgjnejlkkcaaGreatDoor
end
section
namespace Go.Proofs.YtkemgjnejlkkcaaGreatDoor
set_option maxRecDepth 100000
set_option maxHeartbeats 2000000
open Go.Eng Go.Lx Go.Ty
def Pow (m : View) : Prop := ∀ h w, St m h w → Lib.TabIs Tryz.prog w "internal/strconv.uint64pow10" .u64 Lib.pow10Tab
theorem c1r (v:Int) (h:List Res) (m:View) (hp:Pow m) (hv:-9223372036854775808≤v∧v≤9223372036854775807):CT Tryz.prog 231 [.int .i64 v] h m (A7 h (str (Lib.itoa v))):=
 CT.ofGrow Tryz.call231 fun w st=>Tryz.strconv_Itoa v hv.1 hv.2 w (hp h w st)
theorem a8w (t:Tok) (s:B) (h:List Res) (m:View) (hg:Glob m) (hs:s.length < 4294967281):CT Tryz.prog 130 [S1 t,str s] h m (A7 h (.bool (b0D t s))):=by
 refine CT.body Tryz.call130 Tryz.func130 rfl Tryz.ntmps130 Lb rfl ?_
 refine j0 ?_
 refine xX fun b2=>?_
 refine kQ1 [1,2] ?_
 refine kA7 ?_
 refine A8 (GU.t rfl rfl) (fun hc=>⟨Ev.func,(E2 (Eg hc) (Eg hc)),a0M hg s t.text hs _⟩) Lb ?_
 refine kQ2 [4] ?_
 refine WC.ret (wR (h) ?_)
 exact⟨rfl,rfl⟩
theorem a6t {s:B} {k:Nat} (h:k < s.length):(s.drop k).take (k+1 - k)=[s.getD k 0]:=by
 rw[List.drop_eq_getElem_cons h,Nat.add_sub_cancel_left,List.take_succ_cons,List.take_zero,List.getD_eq_getElem?_getD,List.getElem?_eq_getElem h]
 rfl
theorem c4X (v:Nat):IntKind.u8.wrap (v:Int)=((UInt8.ofNat v).toNat:Int):=by
 rw[UInt8.toNat_ofNat']
 unfold IntKind.wrap
 simp[IntKind.bits,IntKind.signed]
theorem c4Z (v:Nat):a5R .i32 (v:Int) 4=((v / 16:Nat):Int):=by
 unfold a5R
 rw[Int.fdiv_eq_ediv_of_nonneg _ (by decide)]
 simp[IntKind.bits]
theorem c2V {v:Nat} (h:v < 256):b0Z .i32 (v:Int) 15=((v % 16:Nat):Int):=by
 have:∀ v,v < 256→b0Z .i32 ((v:Nat):Int) 15=((v % 16:Nat):Int):=by decide +kernel
 exact this v h
theorem b9q {v:Nat} (h:v < 256):IntKind.i32.wrap ((v:Int)+1)=((v+1:Nat):Int):=by
 unfold IntKind.wrap
 simp[IntKind.bits,IntKind.signed]
 omega
theorem b8E (v:Nat) (h:List Res) (m:View) (hv:v < 256):CT Tryz.prog 186 [.int .i32 v] h m (A7 h (str (a4K v))):=by
 have hI:=a3U (UInt8.ofNat v) c3X
 have hI5:shI v≤4:=hI
 refine CT.body Tryz.call186 Tryz.func186 rfl Tryz.ntmps186 Lb rfl ?_
 refine kQ1 [0] ?_
 refine kA1 ?_
 refine xG (PO.conv a2U uu5 Et) ?_
 refine WL.val (v':=.int .u8 ((UInt8.ofNat v).toNat:Int)) (congrArg (Value.int .u8) (c4X v)) ?_
 refine xf (E2 Ev.const Et) (CT.argsE rfl (a7m c3X (UInt8.ofNat v) _ _)) ?_
 refine WL.val (v':=.int .i64 (shI v)) rfl ?_
 refine kQ1 [0,3] ?_
 refine kQ3 [0,3,7] ?_
 refine wc (fun c7=>?_) fun c7=>?_
 have d7:0≤shI v:=dT c7
 obtain⟨k,hk⟩:∃ k:Nat,shI v=k:=⟨(shI v).toNat,by omega⟩
 rw[hk]
 have hk5:k < b2r.length:=by show k < 5;omega
 refine kA3 ?_
 refine WL.val (v':=.int .i64 ((k+1:Nat):Int)) (congrArg (Value.int .i64) (by omega)) ?_
 refine xG (a0B (s:=b2r) (l:=k) (u:=k+1) uu9 Ev.const Et Et rfl rfl (by omega) (by omega)) ?_
 refine WL.val (v':=str [b2r.getD k 0]) (congrArg str (a6t hk5)) ?_
 refine xG (a00 Ev.const Et (by simp)) ?_
 refine kQ1 [2] ?_
 refine WC.ret (wR (h) ?_)
 exact⟨by unfold a4K;rw[c7,hk];rfl,rfl⟩
 refine kQ7 [0,15] ?_
 refine wc (fun c15=>?_) fun c15=>?_
 refine jE ?_
 refine dS [] (.op 0 (.op 1 (.op 2 (.op 3 (.op 4 (.op 5 (.op 6 (.op 7 (.op 8 (.op 9 (.op 10 (.op 11 (.op 12 .nil))))))))))))) [13,14] D8 ?_
 refine kA1 ?_
 refine yG rfl (PO.shr Et Ev.const (by decide)) ?_
 refine SR.val (v':=.int .i32 ((v / 16:Nat):Int)) (congrArg (Value.int .i32) (c4Z v)) ?_
 refine kA1 ?_
 refine yG rfl (PO.shr Et Ev.const (by decide)) ?_
 refine SR.val (v':=.int .i32 ((v / 16:Nat):Int)) (congrArg (Value.int .i32) (c4Z v)) ?_
 refine yG rfl (O6 Et Ev.const rfl) ?_
 refine SR.val (v':=.int .i32 ((v / 16+1:Nat):Int)) (congrArg (Value.int .i32) (b9q (by omega))) ?_
 refine yG rfl (a0B (s:=O4) (l:=v / 16) (u:=v / 16+1) uu9 Ev.const Et Et rfl rfl (by omega) (by show _≤16;omega)) ?_
 refine SR.val (v':=str [O4.getD (v / 16) 0]) (congrArg str (a6t (by show _ < 16;omega))) ?_
 refine yG rfl (a00 Ev.const Et (by simp)) ?_
 refine kA1 ?_
 refine yG rfl (O6 Et Ev.const rfl) ?_
 refine SR.val (v':=.int .i32 ((v % 16:Nat):Int)) (congrArg (Value.int .i32) (c2V hv)) ?_
 refine kA1 ?_
 refine yG rfl (O6 Et Ev.const rfl) ?_
 refine SR.val (v':=.int .i32 ((v % 16:Nat):Int)) (congrArg (Value.int .i32) (c2V hv)) ?_
 refine yG rfl (O6 Et Ev.const rfl) ?_
 refine SR.val (v':=.int .i32 ((v % 16+1:Nat):Int)) (congrArg (Value.int .i32) (b9q (by omega))) ?_
 refine yG rfl (a0B (s:=O4) (l:=v % 16) (u:=v % 16+1) uu9 Ev.const Et Et rfl rfl (by omega) (by show _≤16;omega)) ?_
 refine SR.val (v':=str [O4.getD (v % 16) 0]) (congrArg str (a6t (by show _ < 16;omega))) ?_
 refine SR.nil rfl rfl ?_
 refine xG (a00 Et Et (by simp)) ?_
 refine kQ1 [2] ?_
 refine WC.ret (wR (h) ?_)
 exact⟨by unfold a4K;rw[c7,c15];rfl,rfl⟩
 have hv2:v < 128:=by simp at c15;omega
 refine kQ0 [0] ?_
 refine kA1 ?_
 refine xG (c0p a2U uu9 Et rfl hv2) ?_
 refine kQ1 [2] ?_
 refine WC.ret (wR (h) ?_)
 exact⟨by unfold a4K;rw[c7,c15];rfl,rfl⟩
theorem c0Q {u i:Nat} (hi:i < 8):a5R .u32 (u:Int) (4 * (i:Int))=((u / 16 ^ i:Nat):Int):=by
 unfold a5R
 rw[show min (4 * (i:Int)).toNat IntKind.u32.bits=4 * i by show min _ 32=_;omega,Int.fdiv_eq_ediv_of_nonneg _ (Int.le_of_lt (Int.pow_pos (by decide)))]
 rw[show(16:Nat) ^ i=2 ^ (4 * i) by rw[Nat.pow_mul]]
 simp
theorem c0u (x:Nat) (hx:x < 4294967296):b0Z .u32 (x:Int) 15=((x % 16:Nat):Int):=by
 have e:(BitVec.ofInt 32 (x:Int) &&& BitVec.ofInt 32 15).toNat=x % 16:=by
   rw[BitVec.toNat_and,BitVec.ofInt_natCast,BitVec.toNat_ofNat,Nat.mod_eq_of_lt (by omega),show(BitVec.ofInt 32 15).toNat=2 ^ 4 - 1 from rfl,Nat.and_two_pow_sub_one_eq_mod]
 unfold b0Z
 rw[show IntKind.u32.bits=32 from rfl,e,a8c (by omega)]
theorem c6o {k j:Nat} {x:UInt8} {r:B} (hj:j=k+1):(bv (35::(List.replicate (k+1) 0++r))).set (0+j * 1) (.int .u8 x.toNat)=bv (35::(List.replicate k 0++(x::r))):=by
 subst hj
 rw[Nat.zero_add,Nat.mul_one]
 have e:∀ (k:Nat),(bv (List.replicate (k+1) 0++r)).set k (.int .u8 x.toNat)=bv (List.replicate k 0++(x::r)):=by
   intro k
   induction k with
   | zero=>rfl
   | succ k ih=>
     show _::(bv (List.replicate (k+1) 0++r)).set k _=_
     rw[ih]
     rfl
 show _::(bv (List.replicate (k+1) 0++r)).set k _=_
 rw[e]
 rfl
theorem b7t (v:Int) (b:Bool) (h:List Res) (m:View) (hp:Pow m) (hv:-2147483648≤v∧v≤2147483647):CT Tryz.prog 185 [.int .i32 v,.bool b] h m (A7 h (str (a1q v b))):=by
 obtain⟨u,hu⟩:∃ u:Nat,IntKind.u32.wrap v=u:=⟨(IntKind.u32.wrap v).toNat,by
   have:0≤IntKind.u32.wrap v:=by unfold IntKind.wrap;simp[IntKind.bits,IntKind.signed];omega
   omega⟩
 have hu32:u < 4294967296:=by
   have:IntKind.u32.wrap v < 4294967296:=by unfold IntKind.wrap;simp[IntKind.bits,IntKind.signed];omega
   omega
 refine CT.body Tryz.call185 Tryz.func185 rfl Tryz.ntmps185 Lb rfl ?_
 refine kQ1 [0,1] ?_
 refine kQ2 [0,8] ?_
 refine wc (fun c8=>?_) fun c8=>?_
 have d8:b=false:=by simpa using c8
 subst d8
 refine kA1 ?_
 refine xG (PO.conv a2U uu3 Et) ?_
 refine WL.val (v':=.int .i64 v) (congrArg (Value.int .i64) (by unfold IntKind.wrap;simp[IntKind.bits,IntKind.signed];omega)) ?_
 refine xf (E1 Et) (c1r v _ _ hp (by omega)) ?_
 refine kQ1 [4] ?_
 refine WC.ret (wR (h) ?_)
 exact⟨rfl,rfl⟩
 have d8:b=true:=by simpa using c8
 subst d8
 refine kQ0 [0] ?_
 refine xG (a3P b4W rfl rfl rfl (EvP.cons Ev.const EvP.nil) rfl) ?_
 refine xW fun b5=>?_
 refine kQ1 [0,5] ?_
 refine kQ1 [0,5,13] ?_
 refine B1 [0,5] rfl (fun μ F' h'=>∃ i:Nat,(i≤8)∧8 - i=μ∧F'=[(13,.int .i64 i)]∧.pt b5 (.cells (bv (35::(List.replicate (8 - i) 0++a0p u i))).toArray 267 (0,0))::h=h') (8 - 0) [(13,.int .i64 0)] (h0:=.pt b5 (.cells (bv (35::(List.replicate (8 - 0) 0++a0p u 0))).toArray 267 (0,0))::h) ?_ Sb ⟨0,by omega,rfl,rfl,rfl⟩ ?_
 exact Su
 rintro _ _ _ ⟨i,hJ,rfl,rfl,rfl⟩
 refine B3 rfl ?_
 refine kQ1 [0,5,13,14] ?_
 refine wc (fun c14=>?_) fun c14=>?_
 replace c14:=dT c14
 have hd:u / 16 ^ i % 16 < 16:=Nat.mod_lt _ (by decide)
 obtain⟨x,hx⟩:=A5 (l:=O4) (k:=u / 16 ^ i % 16) hd
 have hx':O4.getD (u / 16 ^ i % 16) 0=x:=by rw[List.getD_eq_getElem?_getD,hx];rfl
 have hle:u / 16 ^ i < 4294967296:=Nat.lt_of_le_of_lt (Nat.div_le_self _ _) hu32
 refine kQ0 [0,5,13] ?_
 refine kQ2 [0,5,6,13] ?_
 refine kA1 ?_
 refine xG (P4 Ev.const Et (by omega)) ?_
 refine kA1 ?_
 refine xG (PO.conv a2U b33 Et) ?_
 refine WL.val (v':=.int .u32 (u:Int)) (congrArg (Value.int .u32) hu) ?_
 refine kA1 ?_
 refine xG (a7a Ev.const Et (by omega)) ?_
 refine xG (PO.shr Et Et (by omega)) ?_
 refine WL.val (v':=.int .u32 ((u / 16 ^ i:Nat):Int)) (congrArg (Value.int .u32) (c0Q (by omega))) ?_
 refine kA1 ?_
 refine WL.val (v':=.int .u32 ((u / 16 ^ i % 16:Nat):Int)) (congrArg (Value.int .u32) (c0u _ hle)) ?_
 refine xG (G9 (l:=O4) (q:=u / 16 ^ i % 16) uu9 Ev.const Et rfl hx) ?_
 refine xG (b5c (sz:=1) b4W rfl Et Et (q:=8 - i) (by omega) (by omega)) ?_
 refine b61 (cs:=bv (35::(List.replicate (8 - i) 0++a0p u i))) rfl Et Et rfl rfl (by rw[a7o];simp[a4R];omega) Up ?_
 refine c3T (cs:=(bv (35::(List.replicate (8 - i) 0++a0p u i))).set (0+(8 - i) * 1) _) (cs':=bv (35::(List.replicate (8 - (i+1)) 0++a0p u (i+1)))) (by rw[b3q,hx',show 8 - i=8 - (i+1)+1 by omega];exact c6o rfl) Up ?_
 refine kQ0 [0,5,13] ?_
 refine kA2 ?_
 refine WL.nil (A6 (8 - (i+1)) [(13,.int .i64 (i+1))] (h'':=.pt b5 (.cells (bv (35::(List.replicate (8 - (i+1)) 0++a0p u (i+1)))).toArray 267 (0,0))::h) (by omega) ?_ Su Sb ⟨i+1,by omega,rfl,rfl,rfl⟩)
 exact Su
 replace c14:=dF c14
 have e:i=8:=by omega
 subst e
 refine kQ0 [5] ?_
 refine xG (b2X b4W rfl (by decide) Et) ?_
 refine xG (b8Z (bs:=35::a0p u 8) b5Q uu5 uu9 Et (Rd.ofPt rfl (by decide) (List.Mem.head _))) ?_
 refine kQ1 [4] ?_
 refine WC.ret (wR (h) ?_)
 exact⟨by unfold a1q;rw[hu];rfl,rfl⟩
end Go.Proofs.YtkemgjnejlkkcaaGreatDoor
end
section
namespace Go.Proofs.YtkemgjnejlkkcaaGreatDoor
set_option maxRecDepth 100000
set_option maxHeartbeats 2000000
open Go.Eng Go.Lx Go.Ty
theorem c2w (t:Tok) (h:List Res) (m:View) (hp:Pow m) (hn:-2147483648≤t.n∧t.n≤2147483647) (hk:K1 t=true):CT Tryz.prog 132 [S1 t] h m (A7 h (str (a0R t))):=by
 refine CT.body Tryz.call132 Tryz.func132 rfl Tryz.ntmps132 Lb rfl ?_
 refine j0 ?_
 refine xX fun b1=>?_
 refine kQ1 [1] ?_
 refine kQ2 [1,4] ?_
 refine kQ2 [1,4,5] ?_
 refine wc (fun c5=>?_) fun c5=>?_
 refine kA5 ?_
 refine xf (E2 Et Et) (b7t t.n _ _ _ hp hn) ?_
 refine kQ1 [2] ?_
 refine WC.ret (wR (h) ?_)
 exact⟨by unfold a0R;rw[c5];rfl,rfl⟩
 refine kQ2 [1,13] ?_
 refine wc (fun c13=>?_) fun c13=>?_
 have hb:0≤t.n∧t.n < 256:=by
   have e:t.kind=4:=eq_of_beq c13
   unfold K1 at hk
   rw[e] at hk
   simp at hk
   omega
 have hsl:=b00 t.n.toNat
 refine kA2 ?_
 refine WL.val (v':=.int .i32 (t.n.toNat:Int)) (congrArg (Value.int .i32) (by omega)) ?_
 refine xf (E1 Et) (b8E t.n.toNat _ _ (by omega)) ?_
 refine xG (a00 Ev.const Et (by simp;omega)) ?_
 refine xG (a00 Et Ev.const (by simp;omega)) ?_
 refine kQ1 [2] ?_
 refine WC.ret (wR (h) ?_)
 exact⟨by unfold a0R;rw[c5,c13];rfl,rfl⟩
 refine kQ0 [1] ?_
 refine kQ3 [2] ?_
 refine WC.ret (wR (h) ?_)
 exact⟨by unfold a0R;rw[c5,c13];rfl,rfl⟩
def TkL (l:List Tok):Prop:=∀ x,x ∈ l→(-2147483648≤x.n∧x.n≤2147483647)∧x.text.length≤140737488355328
theorem c1F {l:List Tok} {i:Nat} {x:Tok} (hx:l[i]?=some x) (h:K1 x=false):l.any (fun t=>!K1 t)=true:=
 List.any_eq_true.2 ⟨x,List.mem_of_getElem? hx,by rw[h];rfl⟩
theorem b8e {l:List Tok} {i:Nat} {x:Tok} (hx:l[i]?=some x) (h:K1 x=true) (hJ:(l.take i).any (fun t=>!K1 t)=false):(l.take (i+1)).any (fun t=>!K1 t)=false:=by
 rw[List.take_add_one,hx,List.any_append,hJ]
 simp[h]
theorem c3c {l:List Tok} {i:Nat} (hi:i < l.length) (x:Tok):a9k (a3l none (l.take i)) x=(decide ((i:Int) > 0)&&gap (l.getD (i - 1) zeroK) x):=by
 cases i with
 | zero=>rfl
 | succ j=>
   have hj:j < l.length:=by omega
   rw[a8S l j none l[j] (List.getElem?_eq_getElem hj),Nat.add_sub_cancel,List.getD_eq_getElem?_getD,List.getElem?_eq_getElem hj]
   have:decide (((j+1:Nat):Int) > 0)=true:=by simp
   rw[this]
   rfl
theorem b5U (a:Option Addr) (k c:Nat) (l:List Tok) (h:List Res) (m:View) (hg:Glob m) (hp:Pow m) (hs:Rd m h a k c 4 (fl B4 l)) (hT:TkL l) :
   CT Tryz.prog 69 [.slice a k c] h m (A7 h (.tuple #[str (textO l).1,.int .i64 (textO l).2])):=by
 have hl:=hs.lenF B7 (by decide)
 subst hl
 have hmx:=hs.mx
 have hle:=hs.le
 have hq:∀ n:Nat,n < l.length→l[n]?=some (l.getD n zeroK):=fun n hn=>by rw[List.getD_eq_getElem?_getD,List.getElem?_eq_getElem hn];rfl
 refine CT.body Tryz.call69 Tryz.func69 rfl Tryz.ntmps69 Lb rfl ?_
 refine kQ2 [0] ?_
 refine xG (PO.assign Ev.func) ?_
 refine kQ0 [0,4] ?_
 refine kQ3 [0,4,10,11,12] ?_
 refine B1 [0,4,10,11] rfl (fun μ F' h'=>∃ i:Nat,(i≤l.length∧(l.take i).any (fun t=>!K1 t)=false)∧l.length - i=μ∧F'=[(12,.int .i64 i)]∧h=h') (l.length - 0) [(12,.int .i64 0)] (h0:=h) ?_ Sb ⟨0,⟨by omega,rfl⟩,rfl,rfl,rfl⟩ ?_
 exact Su
 rintro _ _ _ ⟨i,⟨hi,hJ⟩,rfl,rfl,rfl⟩
 refine B3 rfl ?_
 refine kQ1 [0,4,10,11,12,13] ?_
 refine wc (fun c13=>?_) fun c13=>?_
 replace c13:=dT c13
 obtain⟨x,hx⟩:=A5 (l:=l) (k:=i) (by omega)
 have hxT:=hT x (List.mem_of_getElem? hx)
 refine kQ0 [0,4,10,11,12] ?_
 refine kA2 ?_
 refine xW fun b6=>?_
 refine kQ1 [0,4,6,10,11,12] ?_
 refine kA1 ?_
 refine xf (E1 Et) (b1r x _ _ hg hxT.2) ?_
 refine kQ1 [0,4,10,11,12,18] ?_
 refine wc (fun c18=>?_) fun c18=>?_
 have d18:K1 x=false:=by simpa using c18
 have hO:=b6f (c1F hx d18)
 refine kQ2 [2,3] ?_
 refine WC.ret (J3 (h':=h) (.inl rfl) rfl (RV.tmp rfl) (RV.tmp rfl) (View.le.refl m) Sb ?_)
 exact⟨by rw[hO],rfl⟩
 have d18:K1 x=true:=by simpa using c18
 have hJ2:=b8e hx d18 hJ
 refine kQ0 [0,4,10,11,12] ?_
 refine kA2 ?_
 refine WL.nil (A6 (l.length - (i+1)) [(12,.int .i64 (i+1))] (h'':=h) (by omega) ?_ Su Sb ⟨i+1,⟨by omega,hJ2⟩,rfl,rfl,rfl⟩)
 exact Su
 replace c13:=dF c13
 rw[List.take_of_length_le (by omega)] at hJ
 have hall:∀ x,x ∈ l→K1 x=true:=fun x hx=>by
   have:=List.any_eq_false.1 hJ x hx
   simpa using this
 refine kQ0 [0,4] ?_
 refine kQ1 [0,4,7] ?_
 refine kQ3 [0,4,7,20,21,22] ?_
 refine B1 [0,4,20,21] rfl (fun μ F' h'=>∃ i:Nat,∃ s:B,((i≤l.length∧s.length≤256)∧s=textL none (l.take i))∧l.length - i=μ∧F'=[(7,str s),(22,.int .i64 i)]∧h=h') (l.length - 0) [(7,str ([])),(22,.int .i64 0)] (h0:=h) ?_ Sb ⟨0,[],⟨⟨by omega,by decide⟩,rfl⟩,rfl,rfl,rfl⟩ ?_
 exact Su
 rintro _ _ _ ⟨i,s,⟨⟨hi,hs256⟩,hS⟩,rfl,rfl,rfl⟩
 refine B3 rfl ?_
 refine kQ1 [0,4,7,20,21,22,23] ?_
 refine wc (fun c23=>?_) fun c23=>?_
 replace c23:=dT c23
 obtain⟨x,hx⟩:=A5 (l:=l) (k:=i) (by omega)
 have hxT:=hT x (List.mem_of_getElem? hx)
 have hxK:=hall x (List.mem_of_getElem? hx)
 have hgap:=c3c (l:=l) (i:=i) (by omega) x
 have hsn:=b3l none hx
 have hxl:=b6o hxT.1 hxT.2
 generalize hy:l.getD (i - 1) zeroK=y at hgap
 have hqy:0 < i→l[i - 1]?=some y:=fun h0=>by rw[hq (i - 1) (by omega),hy]
 refine kQ0 [0,4,7,20,21,22] ?_
 refine kA3 ?_
 refine xW fun b9=>?_
 refine kQ2 [0,4,7,8,9,20,21,22] ?_
 refine kA4 ?_
 refine zG (fun _=>pA H9) ?_
 refine A8 (GU.t rfl rfl) (fun hc=>⟨(U3 rfl hc),(E2 (U3 rfl hc) Ev.const),a8w x b86 _ _ hg (by decide)⟩) Lb ?_
 refine kA6 ?_
 refine E8 (GU.t rfl rfl) (fun hc=>P4 (Eg hc) Ev.const (by first | omega | (simp at hc;omega))) Lb ?_
 refine E8 (GU.t rfl rfl) (fun hc=>F4 A9.und A9.size A9.posz (Eg hc) (Eg hc) Rr (q:=i - 1) (by simp at hc;omega) (by simp at hc;omega)) Lb ?_
 refine E8 (GU.t rfl rfl) (fun hc=>a3W H9 rfl rfl B7 Rr (Eg hc) (hqy (by simp at hc;omega)) rfl rfl (Nat.succ_pos _)) Lb ?_
 refine A8 (GU.t rfl rfl) (fun hc=>⟨(U3 rfl hc),(E2 (U3 rfl hc) Ev.const),a8w y b56 _ _ hg (by decide)⟩) Lb ?_
 refine kA5 ?_
 refine E8 (GU.t rfl rfl) (fun hc=>P4 (Eg hc) Ev.const (by first | omega | (simp at hc;omega))) Lb ?_
 refine E8 (GU.t rfl rfl) (fun hc=>F4 A9.und A9.size A9.posz (Eg hc) (Eg hc) Rr (q:=i - 1) (by simp at hc;omega) (by simp at hc;omega)) Lb ?_
 refine E8 (GU.t rfl rfl) (fun hc=>F5 H9 rfl (Nat.ne_of_beq_eq_false rfl) B7 (Nat.succ_pos _) Rr (hqy (by simp at hc;omega)) (Eg hc)) Lb ?_
 refine E8 (GU.t rfl rfl) (fun hc=>F8 a6N rfl B7 Rr (Eg hc) (hqy (by simp at hc;omega)) rfl) Lb ?_
 refine kA3 ?_
 refine zG (fun _=>pA H9) ?_
 refine A8 (a3u rfl rfl) (fun hc=>⟨(U3 rfl hc),(E2 (U3 rfl hc) Ev.const),a8w x b56 _ _ hg (by decide)⟩) Lb ?_
 refine kA1 ?_
 refine zG (fun hc=>a2T hc rfl rfl) ?_
 refine kP1 [0,4,7,9,20,21,22,59] ?_
 refine H7 KKh [0,4,9,20,21,22] rfl (fun F' h'=>∃ u:B,(u=s++sep (a9k (a3l none (l.take i)) x)∧u.length≤257)∧F'=[(7,str u)]∧.pt b9 (.cells (B4 x).toArray 106 (0,0))::h=h') ?_ ?_
 refine jE ?_
 refine wc (fun c59=>?_) fun c59=>?_
 have d59:a9k (a3l none (l.take i)) x=true:=by rw[hgap];simpa [gap,Bool.and_assoc] using c59
 refine kA1 ?_
 refine xG (a00 Et Ev.const (by simp;omega)) ?_
 refine kA1 ?_
 refine WL.nil (D0 [(7,str (s++[32]))] (h'':=.pt b9 (.cells (B4 x).toArray 106 (0,0))::h) ?_ Su Sb ⟨s++[32],⟨by rw[d59];rfl,by rw[List.length_append,List.length_singleton];omega⟩,rfl,rfl⟩)
 exact Su
 have d59:a9k (a3l none (l.take i)) x=false:=by rw[hgap];simpa [gap,Bool.and_assoc] using c59
 refine WC.skip (D0 [(7,str s)] (h'':=.pt b9 (.cells (B4 x).toArray 106 (0,0))::h) ?_ Su Sb ⟨s,⟨by rw[d59];exact(List.append_nil s).symm,by omega⟩,rfl,rfl⟩)
 exact Su
 rintro _ _ ⟨u,⟨hu,hul⟩,rfl,rfl⟩
 refine B3 rfl ?_
 refine kA2 ?_
 refine xf (E1 Et) (c2w x _ _ hp hxT.1 hxK) ?_
 refine xG (a00 Et Et (by omega)) ?_
 refine kQ1 [0,4,7,20,21,22] ?_
 refine kA1 ?_
 refine xG (I0 uu9 Et) ?_
 refine kQ1 [0,4,7,20,21,22,68] ?_
 refine wc (fun c68=>?_) fun c68=>?_
 have hlong:256 < (u++a0R x).length:=by have:=of_decide_eq_true c68;omega
 have hO:=b3h hJ (i:=i+1) (by rw[hsn,← hS,← List.append_assoc,← hu];exact hlong)
 refine kQ2 [2,3] ?_
 refine WC.ret (J3 (h':=h) (.inl rfl) rfl (RV.tmp rfl) (RV.tmp rfl) (View.le.refl m) Sb ?_)
 exact⟨by rw[hO],rfl⟩
 have hshort:(u++a0R x).length≤256:=by have:=of_decide_eq_false c68;omega
 refine kQ0 [0,4,7,20,21,22] ?_
 refine kA2 ?_
 refine WL.nil (A6 (l.length - (i+1)) [(7,str (u++a0R x)),(22,.int .i64 (i+1))] (h'':=h) (by omega) ?_ Su Sb ⟨i+1,u++a0R x,⟨⟨by omega,hshort⟩,by rw[hsn,← hS,← List.append_assoc,← hu]⟩,rfl,rfl,rfl⟩)
 exact Su
 replace c23:=dF c23
 rw[List.take_of_length_le (by omega)] at hS
 have hO:=b7Q hJ (by rw[← hS];exact hs256)
 refine kQ0 [7] ?_
 refine kQ3 [2,3] ?_
 refine WC.ret (J3 (h':=h) (.inl rfl) rfl (RV.tmp rfl) (RV.tmp rfl) (View.le.refl m) Sb ?_)
 exact⟨by rw[hO,hS],rfl⟩
end Go.Proofs.YtkemgjnejlkkcaaGreatDoor
end
section
namespace Go.Proofs.YtkemgjnejlkkcaaGreatDoor
set_option maxRecDepth 100000
set_option maxHeartbeats 2000000
open Go.Eng Go.Pc Go.Sx Go
open Go.Xp hiding B D9
open Go.Ty (Ty Vr Tok eqT tyV J2 B4 B7 S1 zeroK M5 D6)
open Go.Lx (encB D1 textO)
open Go.Ly (Rw I6 C7)
abbrev OwT (h:List Res) (l:List Tok) (v:Value) (h':List Res):Prop:=b3v B4 106 4 h l v h'
theorem a1J (s:B) (h:List Res) (m:View):CT Tryz.prog 58 [str s] h m (fun v _ h'=>OwT h [O3 s] v h'):=by
 refine CT.body Tryz.call58 Tryz.func58 rfl Tryz.ntmps58 Lb rfl ?_
 refine kQ1 [0] ?_
 refine kA2 ?_
 refine xY A9 (EvP.cons Et EvP.nil) fun b5=>?_
 refine a3x (k:=1) (sz:=4) (cs:=fl B4 [O3 s]) rfl (by decide) Up ?_
 refine kQ1 [2] ?_
 refine WC.ret (wR (.row (.slice (some ⟨b5,0,none⟩) 1 1) 106 4 1 (fl B4 [O3 s])::h) ?_)
 exact⟨_,_,1,rfl,rfl,rfl⟩
theorem C4 {m:View} (hg:Glob m) (a:Option Addr) (k c:Nat) (l:List B) (h:List Res) (hs:Rd m h a k c 1 (fl encB l)) (hl:k≤1000) (hw:∀ x ∈ l,x.length≤140737488355328) :
   CT Tryz.prog 42 [.slice a k c] h m (fun v _ h'=>OwT h (l.map A2) v h'):=by
 have hlen:=hs.lenF D1 (by decide)
 subst hlen
 refine CT.body Tryz.call42 Tryz.func42 rfl Tryz.ntmps42 Lb rfl ?_
 refine kQ1 [0] ?_
 refine WL.addNil 106 4 ?_
 refine kQ1 [0,3] ?_
 refine kQ3 [3,6,7,8] ?_
 refine B1 [6,7] rfl (fun μ F' h'=>∃ a3:Option Addr,∃ c3:Nat,∃ r:List Tok,∃ j:Nat,((j≤l.length∧r.length=j)∧r=(l.take j).map A2)∧l.length - j=μ∧F'=[(3,.slice a3 r.length c3),(8,.int .i64 j)]∧.row (.slice a3 r.length c3) 106 4 r.length (fl B4 r)::h=h') (l.length - 0) [(3,.slice none ([]).length 0),(8,.int .i64 0)] (h0:=.row (.slice none ([]).length 0) 106 4 ([]).length (fl B4 ([]))::h) ?_ Sb ⟨none,0,[],0,⟨⟨by omega,rfl⟩,rfl⟩,rfl,rfl,rfl⟩ ?_
 exact Su
 rintro _ _ _ ⟨a3,c3,r,j,⟨⟨hj,hr⟩,hJ⟩,rfl,rfl,rfl⟩
 refine B3 rfl ?_
 refine kQ1 [3,6,7,8,9] ?_
 refine wc (fun c9=>?_) fun c9=>?_
 replace c9:=dT c9
 obtain⟨s,hx⟩:=A5 (l:=l) (k:=j) (by omega)
 have htk:(l.take (j+1)).map A2=(l.take j).map A2++[A2 s]:=by rw[a2h hx,List.map_append];rfl
 have hsw:=hw s (List.mem_of_getElem? hx)
 refine kQ0 [3,6,7,8] ?_
 refine kQ3 [3,5,6,7,8] ?_
 refine kA1 ?_
 refine xf (E1 Et) (a6h s _ _ hg hsw) ?_
 refine kQ0 [3,5,6,7,8,13] ?_
 refine wc (fun c13=>?_) fun c13=>?_
 have hws:A2 s=⟨2,0,s,0⟩:=by unfold A2;rw[if_pos c13]
 have hln:(r++[A2 s]).length=r.length+1:=List.length_append
 refine kA2 ?_
 refine xf (E1 Et) (K2 _ _ _) ?_
 refine xY A9 (EvP.cons Et EvP.nil) fun b17=>?_
 rw[← hws]
 refine xD A9 (Ev.tmp rfl) (Ev.tmp rfl) (show r.length+1=(r++[A2 s]).length by simp) (F7 (enc:=B4) _ (A2 s)) fun a18 c18=>?_
 refine kQ1 [3,6,7,8] ?_
 refine kA2 ?_
 refine WL.nil (A6 (l.length - (j+1)) [(3,.slice a18 (r++[A2 s]).length c18),(8,.int .i64 (j+1))] (h'':=.row (.slice a18 (r++[A2 s]).length c18) 106 4 (r++[A2 s]).length (fl B4 (r++[A2 s]))::h) (by omega) ?_ Su Sb ⟨a18,c18,r++[A2 s],j+1,⟨⟨by omega,by omega⟩,by rw[htk,hJ]⟩,rfl,rfl,rfl⟩)
 exact Su
 have hws:A2 s=⟨5,0,s,0⟩:=by unfold A2;rw[if_neg (H3 c13)]
 have hln:(r++[A2 s]).length=r.length+1:=List.length_append
 refine kA2 ?_
 refine xf (E1 Et) (H0 _ _ _) ?_
 refine xY A9 (EvP.cons Et EvP.nil) fun b22=>?_
 rw[← hws]
 refine xD A9 (Ev.tmp rfl) (Ev.tmp rfl) (show r.length+1=(r++[A2 s]).length by simp) (F7 (enc:=B4) _ (A2 s)) fun a23 c23=>?_
 refine kQ1 [3,6,7,8] ?_
 refine kA2 ?_
 refine WL.nil (A6 (l.length - (j+1)) [(3,.slice a23 (r++[A2 s]).length c23),(8,.int .i64 (j+1))] (h'':=.row (.slice a23 (r++[A2 s]).length c23) 106 4 (r++[A2 s]).length (fl B4 (r++[A2 s]))::h) (by omega) ?_ Su Sb ⟨a23,c23,r++[A2 s],j+1,⟨⟨by omega,by omega⟩,by rw[htk,hJ]⟩,rfl,rfl,rfl⟩)
 exact Su
 replace c9:=dF c9
 rw[List.take_of_length_le (by omega)] at hJ
 subst hJ
 refine kQ0 [3] ?_
 refine kQ2 [2] ?_
 refine WC.ret (wR (.row (.slice a3 (l.map A2).length c3) 106 4 (l.map A2).length (fl B4 (l.map A2))::h) ?_)
 exact⟨_,_,_,rfl,rfl,rfl⟩
theorem J4 {m:View} (hg:Glob m) (e:Ex) (h:List Res) (hE:EOk m h e):CT Tryz.prog 60 [exV e] h m (fun v _ h'=>OwT h (E7 e) v h'):=by
 refine CT.body Tryz.call60 Tryz.func60 rfl Tryz.ntmps60 Lb rfl ?_
 refine j0 ?_
 refine xX fun b1=>?_
 refine kQ1 [1] ?_
 refine kA1 ?_
 refine xg (E1 Et) (c2j hg e _ (hE.t.mono Sb) hE.w) ?_
 rintro _ _ ⟨a7,c7,rfl,rfl⟩
 refine kQ5 [3] ?_
 refine kQ2 [2] ?_
 refine WC.ret (wR (.row (.slice a7 (E7 e).length c7) 106 4 (E7 e).length (fl B4 (E7 e))::h) ?_)
 exact⟨_,_,_,rfl,rfl,rfl⟩
theorem a1g {m:View} (hg:Glob m) (t:Ty) (h:List Res) (hs:t.proto.length≤9223372036854775807):CT Tryz.prog 59 [tyV t] h m (fun v _ h'=>OwT h (K4 t) v h'):=by
 refine CT.body Tryz.call59 Tryz.func59 rfl Tryz.ntmps59 Lb rfl ?_
 refine j0 ?_
 refine xX fun b1=>?_
 refine kQ1 [1] ?_
 refine kA1 ?_
 refine xg (E1 Et) (Ty9.tokens_ct t _ _ hg hs) ?_
 rintro _ _ ⟨a7,c7,rfl,rfl⟩
 refine kQ5 [3] ?_
 refine kQ2 [2] ?_
 refine WC.ret (wR (.row (.slice a7 (K4 t).length c7) 106 4 (K4 t).length (fl B4 (K4 t))::h) ?_)
 exact⟨_,_,_,rfl,rfl,rfl⟩
theorem b2U {m:View} (hg:Glob m) (k:Int) (h:List Res):CT Tryz.prog 64 [.int .u8 k] h m (fun v _ h'=>OwT h (a0G k) v h'):=by
 refine CT.body Tryz.call64 Tryz.func64 rfl Tryz.ntmps64 Lb rfl ?_
 refine kQ1 [0] ?_
 refine kA2 ?_
 refine xg (E1 Et) (a1g hg ⟨k,0,0,[]⟩ _ (Nat.zero_le _)) ?_
 rintro _ _ ⟨a5,c5,k5,hk5,rfl,rfl⟩
 refine kQ1 [2] ?_
 refine WC.ret (wR (.row (.slice a5 k5 c5) 106 4 k5 (fl B4 (a0G k))::h) ?_)
 exact⟨_,_,_,hk5,rfl,rfl⟩
theorem a2u {m:View} (q:FuncId) (f:Ex→List Tok) (sep:B) (a:Option Addr) (k c:Nat) (l:List Ex) (h:List Res) (hs:Rd m h a k c 6 (fl exE l)) (hk:k≤3000) (hb:∀ x ∈ l,(f x).length≤3000)
   (ht:∀ x ∈ l,∀ h',h.Sublist h'→CT Tryz.prog q [exV x] h' m (fun v _ h2=>OwT h' (f x) v h2)) :
   CT Tryz.prog 68 [.slice a k c,str sep,.func (.func q) #[] #[]] h m (fun v _ h'=>OwT h (D3 sep f l) v h'):=by
 have hlen:=hs.lenF a4c (by decide)
 subst hlen
 refine CT.body Tryz.call68 Tryz.func68 rfl Tryz.ntmps68 Lb rfl ?_
 refine kQ1 [0,1,2] ?_
 refine WL.addNil 106 4 ?_
 refine kQ1 [0,1,2,7] ?_
 refine kQ3 [1,2,7,10,11,12] ?_
 refine B1 [1,2,10,11] rfl (fun μ F' h'=>∃ a7:Option Addr,∃ c7:Nat,∃ r:List Tok,∃ j:Nat,((j≤l.length∧r.length≤j * 3001)∧r=D3 sep f (l.take j))∧l.length - j=μ∧F'=[(7,.slice a7 r.length c7),(12,.int .i64 j)]∧.row (.slice a7 r.length c7) 106 4 r.length (fl B4 r)::h=h') (l.length - 0) [(7,.slice none ([]).length 0),(12,.int .i64 0)] (h0:=.row (.slice none ([]).length 0) 106 4 ([]).length (fl B4 ([]))::h) ?_ Sb ⟨none,0,[],0,⟨⟨by omega,by simp⟩,rfl⟩,rfl,rfl,rfl⟩ ?_
 exact Su
 rintro _ _ _ ⟨a7,c7,r,j,⟨⟨hj,hr⟩,hJ⟩,rfl,rfl,rfl⟩
 refine B3 rfl ?_
 refine kQ1 [1,2,7,10,11,12,13] ?_
 refine wc (fun c13=>?_) fun c13=>?_
 replace c13:=dT c13
 obtain⟨x,hx⟩:=A5 (l:=l) (k:=j) (by omega)
 have hxm:=List.mem_of_getElem? hx
 have hfx:=hb x hxm
 have htk:=a2h hx
 have h3:j * 3001≤9000000:=by omega
 refine kQ0 [1,2,7,10,11,12] ?_
 refine kA3 ?_
 refine xW fun b9=>?_
 refine kQ2 [1,2,7,8,9,10,11,12] ?_
 refine kP2 [1,2,7,9,10,11,12,18] ?_
 refine H7 KKh [1,2,9,10,11,12] rfl (fun F' h'=>∃ a8:Option Addr,∃ c8:Nat,∃ r2:List Tok,(r2.length≤r.length+1∧r2++f x=D3 sep f (l.take (j+1)))∧F'=[(7,.slice a8 r2.length c8)]∧.pt b9 (.cells (exE x).toArray 35 (0,0))::.row (.slice a8 r2.length c8) 106 4 r2.length (fl B4 r2)::h=h') ?_ ?_
 refine jE ?_
 refine wc (fun c18=>?_) fun c18=>?_
 replace c18:=dT c18
 have hln:(r++[(⟨5,0,sep,0⟩:Tok)]).length=r.length+1:=List.length_append
 refine kA2 ?_
 refine xf (E1 Et) (H0 _ _ _) ?_
 refine xY A9 (EvP.cons Et EvP.nil) fun b22=>?_
 refine xD A9 (Ev.tmp rfl) (Ev.tmp rfl) (show r.length+1=(r++[(⟨5,0,sep,0⟩:Tok)]).length by simp) (F7 (enc:=B4) _ (⟨5,0,sep,0⟩)) fun a23 c23=>?_
 refine kA1 ?_
 refine WL.nil (D0 [(7,.slice a23 (r++[(⟨5,0,sep,0⟩:Tok)]).length c23)] (h'':=.pt b9 (.cells (exE x).toArray 35 (0,0))::.row (.slice a23 (r++[(⟨5,0,sep,0⟩:Tok)]).length c23) 106 4 (r++[(⟨5,0,sep,0⟩:Tok)]).length (fl B4 (r++[(⟨5,0,sep,0⟩:Tok)]))::h) ?_ Su Sb ⟨a23,c23,r++[(⟨5,0,sep,0⟩:Tok)],⟨by omega,by rw[htk,a1u sep f _ x (by intro q;have:=congrArg List.length q;rw[List.length_take] at this;simp only[List.length_nil] at this;omega),← hJ,List.append_assoc];rfl⟩,rfl,rfl⟩)
 exact Su
 replace c18:=dF c18
 have hj0:j=0:=by omega
 subst hj0
 have hr0:r=[]:=hJ
 subst hr0
 refine WC.skip (D0 [(7,.slice a7 ([]).length c7)] (h'':=.pt b9 (.cells (exE x).toArray 35 (0,0))::.row (.slice a7 ([]).length c7) 106 4 ([]).length (fl B4 ([]))::h) ?_ Su Sb ⟨a7,c7,[],⟨by simp,by rw[htk];rfl⟩,rfl,rfl⟩)
 exact Su
 rintro _ _ ⟨a8,c8,r2,⟨hr2,hJ2⟩,rfl,rfl⟩
 refine B3 rfl ?_
 refine kA3 ?_
 refine G0 (Ev.tmp rfl) (E1 (Ev.tmp rfl)) (ht x hxm _ Sb) Lb ?_
 rintro _ _ ⟨a27,c27,k27,e27,rfl,rfl⟩
 refine A0 (a:=a27) Me fun p27 q27 r27=>?_
 have hln:(r2++f x).length=r2.length+k27:=by rw[List.length_append,e27]
 refine xD A9 (Ev.tmp rfl) (Ev.tmp rfl) (show r2.length+k27=(r2++f x).length from hln.symm) (a3F (enc:=B4) r2 (f x)).symm fun a28 c28=>?_
 refine kQ1 [1,2,7,10,11,12] ?_
 refine kA2 ?_
 refine WL.nil (A6 (l.length - (j+1)) [(7,.slice a28 (r2++f x).length c28),(12,.int .i64 (j+1))] (h'':=.row (.slice a28 (r2++f x).length c28) 106 4 (r2++f x).length (fl B4 (r2++f x))::h) (by omega) ?_ Su Sb ⟨a28,c28,r2++f x,j+1,⟨⟨by omega,by omega⟩,hJ2⟩,rfl,rfl,rfl⟩)
 exact Su
 replace c13:=dF c13
 rw[List.take_of_length_le (by omega)] at hJ
 subst hJ
 refine kQ0 [7] ?_
 refine kQ2 [6] ?_
 refine WC.ret (wR (.row (.slice a7 (D3 sep f l).length c7) 106 4 (D3 sep f l).length (fl B4 (D3 sep f l))::h) ?_)
 exact⟨_,_,_,rfl,rfl,rfl⟩
theorem b7a {m:View} (q:FuncId) (f:Fo→List Tok) (sep:B) (a:Option Addr) (k c:Nat) (l:List Fo) (h:List Res) (hs:Rd m h a k c 6 (fl foE l)) (hk:k≤3000) (hb:∀ x ∈ l,(f x).length≤3000)
   (ht:∀ x ∈ l,∀ h',h.Sublist h'→CT Tryz.prog q [foV x] h' m (fun v _ h2=>OwT h' (f x) v h2)) :
   CT Tryz.prog 61 [.slice a k c,str sep,.func (.func q) #[] #[]] h m (fun v _ h'=>OwT h (D3 sep f l) v h'):=by
 have hlen:=hs.lenF a4s (by decide)
 subst hlen
 refine CT.body Tryz.call61 Tryz.func61 rfl Tryz.ntmps61 Lb rfl ?_
 refine kQ1 [0,1,2] ?_
 refine WL.addNil 106 4 ?_
 refine kQ1 [0,1,2,7] ?_
 refine kQ3 [1,2,7,10,11,12] ?_
 refine B1 [1,2,10,11] rfl (fun μ F' h'=>∃ a7:Option Addr,∃ c7:Nat,∃ r:List Tok,∃ j:Nat,((j≤l.length∧r.length≤j * 3001)∧r=D3 sep f (l.take j))∧l.length - j=μ∧F'=[(7,.slice a7 r.length c7),(12,.int .i64 j)]∧.row (.slice a7 r.length c7) 106 4 r.length (fl B4 r)::h=h') (l.length - 0) [(7,.slice none ([]).length 0),(12,.int .i64 0)] (h0:=.row (.slice none ([]).length 0) 106 4 ([]).length (fl B4 ([]))::h) ?_ Sb ⟨none,0,[],0,⟨⟨by omega,by simp⟩,rfl⟩,rfl,rfl,rfl⟩ ?_
 exact Su
 rintro _ _ _ ⟨a7,c7,r,j,⟨⟨hj,hr⟩,hJ⟩,rfl,rfl,rfl⟩
 refine B3 rfl ?_
 refine kQ1 [1,2,7,10,11,12,13] ?_
 refine wc (fun c13=>?_) fun c13=>?_
 replace c13:=dT c13
 obtain⟨x,hx⟩:=A5 (l:=l) (k:=j) (by omega)
 have hxm:=List.mem_of_getElem? hx
 have hfx:=hb x hxm
 have htk:=a2h hx
 have h3:j * 3001≤9000000:=by omega
 refine kQ0 [1,2,7,10,11,12] ?_
 refine kA3 ?_
 refine xW fun b9=>?_
 refine kQ2 [1,2,7,8,9,10,11,12] ?_
 refine kP2 [1,2,7,9,10,11,12,18] ?_
 refine H7 KKh [1,2,9,10,11,12] rfl (fun F' h'=>∃ a8:Option Addr,∃ c8:Nat,∃ r2:List Tok,(r2.length≤r.length+1∧r2++f x=D3 sep f (l.take (j+1)))∧F'=[(7,.slice a8 r2.length c8)]∧.pt b9 (.cells (foE x).toArray 97 (0,0))::.row (.slice a8 r2.length c8) 106 4 r2.length (fl B4 r2)::h=h') ?_ ?_
 refine jE ?_
 refine wc (fun c18=>?_) fun c18=>?_
 replace c18:=dT c18
 have hln:(r++[(⟨5,0,sep,0⟩:Tok)]).length=r.length+1:=List.length_append
 refine kA2 ?_
 refine xf (E1 Et) (H0 _ _ _) ?_
 refine xY A9 (EvP.cons Et EvP.nil) fun b22=>?_
 refine xD A9 (Ev.tmp rfl) (Ev.tmp rfl) (show r.length+1=(r++[(⟨5,0,sep,0⟩:Tok)]).length by simp) (F7 (enc:=B4) _ (⟨5,0,sep,0⟩)) fun a23 c23=>?_
 refine kA1 ?_
 refine WL.nil (D0 [(7,.slice a23 (r++[(⟨5,0,sep,0⟩:Tok)]).length c23)] (h'':=.pt b9 (.cells (foE x).toArray 97 (0,0))::.row (.slice a23 (r++[(⟨5,0,sep,0⟩:Tok)]).length c23) 106 4 (r++[(⟨5,0,sep,0⟩:Tok)]).length (fl B4 (r++[(⟨5,0,sep,0⟩:Tok)]))::h) ?_ Su Sb ⟨a23,c23,r++[(⟨5,0,sep,0⟩:Tok)],⟨by omega,by rw[htk,a1u sep f _ x (by intro q;have:=congrArg List.length q;rw[List.length_take] at this;simp only[List.length_nil] at this;omega),← hJ,List.append_assoc];rfl⟩,rfl,rfl⟩)
 exact Su
 replace c18:=dF c18
 have hj0:j=0:=by omega
 subst hj0
 have hr0:r=[]:=hJ
 subst hr0
 refine WC.skip (D0 [(7,.slice a7 ([]).length c7)] (h'':=.pt b9 (.cells (foE x).toArray 97 (0,0))::.row (.slice a7 ([]).length c7) 106 4 ([]).length (fl B4 ([]))::h) ?_ Su Sb ⟨a7,c7,[],⟨by simp,by rw[htk];rfl⟩,rfl,rfl⟩)
 exact Su
 rintro _ _ ⟨a8,c8,r2,⟨hr2,hJ2⟩,rfl,rfl⟩
 refine B3 rfl ?_
 refine kA3 ?_
 refine G0 (Ev.tmp rfl) (E1 (Ev.tmp rfl)) (ht x hxm _ Sb) Lb ?_
 rintro _ _ ⟨a27,c27,k27,e27,rfl,rfl⟩
 refine A0 (a:=a27) Me fun p27 q27 r27=>?_
 have hln:(r2++f x).length=r2.length+k27:=by rw[List.length_append,e27]
 refine xD A9 (Ev.tmp rfl) (Ev.tmp rfl) (show r2.length+k27=(r2++f x).length from hln.symm) (a3F (enc:=B4) r2 (f x)).symm fun a28 c28=>?_
 refine kQ1 [1,2,7,10,11,12] ?_
 refine kA2 ?_
 refine WL.nil (A6 (l.length - (j+1)) [(7,.slice a28 (r2++f x).length c28),(12,.int .i64 (j+1))] (h'':=.row (.slice a28 (r2++f x).length c28) 106 4 (r2++f x).length (fl B4 (r2++f x))::h) (by omega) ?_ Su Sb ⟨a28,c28,r2++f x,j+1,⟨⟨by omega,by omega⟩,hJ2⟩,rfl,rfl,rfl⟩)
 exact Su
 replace c13:=dF c13
 rw[List.take_of_length_le (by omega)] at hJ
 subst hJ
 refine kQ0 [7] ?_
 refine kQ2 [6] ?_
 refine WC.ret (wR (.row (.slice a7 (D3 sep f l).length c7) 106 4 (D3 sep f l).length (fl B4 (D3 sep f l))::h) ?_)
 exact⟨_,_,_,rfl,rfl,rfl⟩
theorem b6U {m:View} (q:FuncId) (f:B→List Tok) (sep:B) (a:Option Addr) (k c:Nat) (l:List B) (h:List Res) (hs:Rd m h a k c 1 (fl encB l)) (hk:k≤3000) (hb:∀ x ∈ l,(f x).length≤3000)
   (ht:∀ x ∈ l,∀ h',h.Sublist h'→CT Tryz.prog q [str x] h' m (fun v _ h2=>OwT h' (f x) v h2)) :
   CT Tryz.prog 57 [.slice a k c,str sep,.func (.func q) #[] #[]] h m (fun v _ h'=>OwT h (D3 sep f l) v h'):=by
 have hlen:=hs.lenF D1 (by decide)
 subst hlen
 refine CT.body Tryz.call57 Tryz.func57 rfl Tryz.ntmps57 Lb rfl ?_
 refine kQ1 [0,1,2] ?_
 refine WL.addNil 106 4 ?_
 refine kQ1 [0,1,2,7] ?_
 refine kQ3 [1,2,7,10,11,12] ?_
 refine B1 [1,2,10,11] rfl (fun μ F' h'=>∃ a7:Option Addr,∃ c7:Nat,∃ r:List Tok,∃ j:Nat,((j≤l.length∧r.length≤j * 3001)∧r=D3 sep f (l.take j))∧l.length - j=μ∧F'=[(7,.slice a7 r.length c7),(12,.int .i64 j)]∧.row (.slice a7 r.length c7) 106 4 r.length (fl B4 r)::h=h') (l.length - 0) [(7,.slice none ([]).length 0),(12,.int .i64 0)] (h0:=.row (.slice none ([]).length 0) 106 4 ([]).length (fl B4 ([]))::h) ?_ Sb ⟨none,0,[],0,⟨⟨by omega,by simp⟩,rfl⟩,rfl,rfl,rfl⟩ ?_
 exact Su
 rintro _ _ _ ⟨a7,c7,r,j,⟨⟨hj,hr⟩,hJ⟩,rfl,rfl,rfl⟩
 refine B3 rfl ?_
 refine kQ1 [1,2,7,10,11,12,13] ?_
 refine wc (fun c13=>?_) fun c13=>?_
 replace c13:=dT c13
 obtain⟨x,hx⟩:=A5 (l:=l) (k:=j) (by omega)
 have hxm:=List.mem_of_getElem? hx
 have hfx:=hb x hxm
 have htk:=a2h hx
 have h3:j * 3001≤9000000:=by omega
 refine kQ0 [1,2,7,10,11,12] ?_
 refine kQ5 [1,2,7,8,9,10,11,12] ?_
 refine kP2 [1,2,7,9,10,11,12,18] ?_
 refine H7 KKh [1,2,9,10,11,12] rfl (fun F' h'=>∃ a8:Option Addr,∃ c8:Nat,∃ r2:List Tok,(r2.length≤r.length+1∧r2++f x=D3 sep f (l.take (j+1)))∧F'=[(7,.slice a8 r2.length c8)]∧.row (.slice a8 r2.length c8) 106 4 r2.length (fl B4 r2)::h=h') ?_ ?_
 refine jE ?_
 refine wc (fun c18=>?_) fun c18=>?_
 replace c18:=dT c18
 have hln:(r++[(⟨5,0,sep,0⟩:Tok)]).length=r.length+1:=List.length_append
 refine kA2 ?_
 refine xf (E1 Et) (H0 _ _ _) ?_
 refine xY A9 (EvP.cons Et EvP.nil) fun b22=>?_
 refine xD A9 (Ev.tmp rfl) (Ev.tmp rfl) (show r.length+1=(r++[(⟨5,0,sep,0⟩:Tok)]).length by simp) (F7 (enc:=B4) _ (⟨5,0,sep,0⟩)) fun a23 c23=>?_
 refine kA1 ?_
 refine WL.nil (D0 [(7,.slice a23 (r++[(⟨5,0,sep,0⟩:Tok)]).length c23)] (h'':=.row (.slice a23 (r++[(⟨5,0,sep,0⟩:Tok)]).length c23) 106 4 (r++[(⟨5,0,sep,0⟩:Tok)]).length (fl B4 (r++[(⟨5,0,sep,0⟩:Tok)]))::h) ?_ Su Sb ⟨a23,c23,r++[(⟨5,0,sep,0⟩:Tok)],⟨by omega,by rw[htk,a1u sep f _ x (by intro q;have:=congrArg List.length q;rw[List.length_take] at this;simp only[List.length_nil] at this;omega),← hJ,List.append_assoc];rfl⟩,rfl,rfl⟩)
 exact Su
 replace c18:=dF c18
 have hj0:j=0:=by omega
 subst hj0
 have hr0:r=[]:=hJ
 subst hr0
 refine WC.skip (D0 [(7,.slice a7 ([]).length c7)] (h'':=.row (.slice a7 ([]).length c7) 106 4 ([]).length (fl B4 ([]))::h) ?_ Su Sb ⟨a7,c7,[],⟨by simp,by rw[htk];rfl⟩,rfl,rfl⟩)
 exact Su
 rintro _ _ ⟨a8,c8,r2,⟨hr2,hJ2⟩,rfl,rfl⟩
 refine B3 rfl ?_
 refine kA3 ?_
 refine G0 (Ev.tmp rfl) (E1 (Ev.tmp rfl)) (ht x hxm _ Sb) Lb ?_
 rintro _ _ ⟨a27,c27,k27,e27,rfl,rfl⟩
 refine A0 (a:=a27) Me fun p27 q27 r27=>?_
 have hln:(r2++f x).length=r2.length+k27:=by rw[List.length_append,e27]
 refine xD A9 (Ev.tmp rfl) (Ev.tmp rfl) (show r2.length+k27=(r2++f x).length from hln.symm) (a3F (enc:=B4) r2 (f x)).symm fun a28 c28=>?_
 refine kQ1 [1,2,7,10,11,12] ?_
 refine kA2 ?_
 refine WL.nil (A6 (l.length - (j+1)) [(7,.slice a28 (r2++f x).length c28),(12,.int .i64 (j+1))] (h'':=.row (.slice a28 (r2++f x).length c28) 106 4 (r2++f x).length (fl B4 (r2++f x))::h) (by omega) ?_ Su Sb ⟨a28,c28,r2++f x,j+1,⟨⟨by omega,by omega⟩,hJ2⟩,rfl,rfl,rfl⟩)
 exact Su
 replace c13:=dF c13
 rw[List.take_of_length_le (by omega)] at hJ
 subst hJ
 refine kQ0 [7] ?_
 refine kQ2 [6] ?_
 refine WC.ret (wR (.row (.slice a7 (D3 sep f l).length c7) 106 4 (D3 sep f l).length (fl B4 (D3 sep f l))::h) ?_)
 exact⟨_,_,_,rfl,rfl,rfl⟩
theorem a9V {m:View} (q:FuncId) (f:Int→List Tok) (sep:B) (a:Option Addr) (k c:Nat) (l:List Int) (h:List Res) (hs:Rd m h a k c 1 (fl M5 l)) (hk:k≤3000) (hb:∀ x ∈ l,(f x).length≤3000)
   (ht:∀ x ∈ l,∀ h',h.Sublist h'→CT Tryz.prog q [.int .u8 x] h' m (fun v _ h2=>OwT h' (f x) v h2)) :
   CT Tryz.prog 63 [.slice a k c,str sep,.func (.func q) #[] #[]] h m (fun v _ h'=>OwT h (D3 sep f l) v h'):=by
 have hlen:=hs.lenF D6 (by decide)
 subst hlen
 refine CT.body Tryz.call63 Tryz.func63 rfl Tryz.ntmps63 Lb rfl ?_
 refine kQ1 [0,1,2] ?_
 refine WL.addNil 106 4 ?_
 refine kQ1 [0,1,2,7] ?_
 refine kQ3 [1,2,7,10,11,12] ?_
 refine B1 [1,2,10,11] rfl (fun μ F' h'=>∃ a7:Option Addr,∃ c7:Nat,∃ r:List Tok,∃ j:Nat,((j≤l.length∧r.length≤j * 3001)∧r=D3 sep f (l.take j))∧l.length - j=μ∧F'=[(7,.slice a7 r.length c7),(12,.int .i64 j)]∧.row (.slice a7 r.length c7) 106 4 r.length (fl B4 r)::h=h') (l.length - 0) [(7,.slice none ([]).length 0),(12,.int .i64 0)] (h0:=.row (.slice none ([]).length 0) 106 4 ([]).length (fl B4 ([]))::h) ?_ Sb ⟨none,0,[],0,⟨⟨by omega,by simp⟩,rfl⟩,rfl,rfl,rfl⟩ ?_
 exact Su
 rintro _ _ _ ⟨a7,c7,r,j,⟨⟨hj,hr⟩,hJ⟩,rfl,rfl,rfl⟩
 refine B3 rfl ?_
 refine kQ1 [1,2,7,10,11,12,13] ?_
 refine wc (fun c13=>?_) fun c13=>?_
 replace c13:=dT c13
 obtain⟨x,hx⟩:=A5 (l:=l) (k:=j) (by omega)
 have hxm:=List.mem_of_getElem? hx
 have hfx:=hb x hxm
 have htk:=a2h hx
 have h3:j * 3001≤9000000:=by omega
 refine kQ0 [1,2,7,10,11,12] ?_
 refine kQ5 [1,2,7,8,9,10,11,12] ?_
 refine kP2 [1,2,7,9,10,11,12,18] ?_
 refine H7 KKh [1,2,9,10,11,12] rfl (fun F' h'=>∃ a8:Option Addr,∃ c8:Nat,∃ r2:List Tok,(r2.length≤r.length+1∧r2++f x=D3 sep f (l.take (j+1)))∧F'=[(7,.slice a8 r2.length c8)]∧.row (.slice a8 r2.length c8) 106 4 r2.length (fl B4 r2)::h=h') ?_ ?_
 refine jE ?_
 refine wc (fun c18=>?_) fun c18=>?_
 replace c18:=dT c18
 have hln:(r++[(⟨5,0,sep,0⟩:Tok)]).length=r.length+1:=List.length_append
 refine kA2 ?_
 refine xf (E1 Et) (H0 _ _ _) ?_
 refine xY A9 (EvP.cons Et EvP.nil) fun b22=>?_
 refine xD A9 (Ev.tmp rfl) (Ev.tmp rfl) (show r.length+1=(r++[(⟨5,0,sep,0⟩:Tok)]).length by simp) (F7 (enc:=B4) _ (⟨5,0,sep,0⟩)) fun a23 c23=>?_
 refine kA1 ?_
 refine WL.nil (D0 [(7,.slice a23 (r++[(⟨5,0,sep,0⟩:Tok)]).length c23)] (h'':=.row (.slice a23 (r++[(⟨5,0,sep,0⟩:Tok)]).length c23) 106 4 (r++[(⟨5,0,sep,0⟩:Tok)]).length (fl B4 (r++[(⟨5,0,sep,0⟩:Tok)]))::h) ?_ Su Sb ⟨a23,c23,r++[(⟨5,0,sep,0⟩:Tok)],⟨by omega,by rw[htk,a1u sep f _ x (by intro q;have:=congrArg List.length q;rw[List.length_take] at this;simp only[List.length_nil] at this;omega),← hJ,List.append_assoc];rfl⟩,rfl,rfl⟩)
 exact Su
 replace c18:=dF c18
 have hj0:j=0:=by omega
 subst hj0
 have hr0:r=[]:=hJ
 subst hr0
 refine WC.skip (D0 [(7,.slice a7 ([]).length c7)] (h'':=.row (.slice a7 ([]).length c7) 106 4 ([]).length (fl B4 ([]))::h) ?_ Su Sb ⟨a7,c7,[],⟨by simp,by rw[htk];rfl⟩,rfl,rfl⟩)
 exact Su
 rintro _ _ ⟨a8,c8,r2,⟨hr2,hJ2⟩,rfl,rfl⟩
 refine B3 rfl ?_
 refine kA3 ?_
 refine G0 (Ev.tmp rfl) (E1 (Ev.tmp rfl)) (ht x hxm _ Sb) Lb ?_
 rintro _ _ ⟨a27,c27,k27,e27,rfl,rfl⟩
 refine A0 (a:=a27) Me fun p27 q27 r27=>?_
 have hln:(r2++f x).length=r2.length+k27:=by rw[List.length_append,e27]
 refine xD A9 (Ev.tmp rfl) (Ev.tmp rfl) (show r2.length+k27=(r2++f x).length from hln.symm) (a3F (enc:=B4) r2 (f x)).symm fun a28 c28=>?_
 refine kQ1 [1,2,7,10,11,12] ?_
 refine kA2 ?_
 refine WL.nil (A6 (l.length - (j+1)) [(7,.slice a28 (r2++f x).length c28),(12,.int .i64 (j+1))] (h'':=.row (.slice a28 (r2++f x).length c28) 106 4 (r2++f x).length (fl B4 (r2++f x))::h) (by omega) ?_ Su Sb ⟨a28,c28,r2++f x,j+1,⟨⟨by omega,by omega⟩,hJ2⟩,rfl,rfl,rfl⟩)
 exact Su
 replace c13:=dF c13
 rw[List.take_of_length_le (by omega)] at hJ
 subst hJ
 refine kQ0 [7] ?_
 refine kQ2 [6] ?_
 refine WC.ret (wR (.row (.slice a7 (D3 sep f l).length c7) 106 4 (D3 sep f l).length (fl B4 (D3 sep f l))::h) ?_)
 exact⟨_,_,_,rfl,rfl,rfl⟩
theorem a5H {α:Type} {p:α→Prop} {x:α} (h:p x):∀ y ∈ [x],p y:=fun _ hy=>(List.mem_singleton.1 hy) ▸ h
theorem _root_.Go.Pc.EOk.fr {m:View} {h:List Res} {e:Ex} (q:EOk m h e) (fr:List Res):EOk m (fr++h) e:=q.mono (List.sublist_append_right fr h)
theorem H8 {α:Type} {p:α→Prop}:∀ y ∈ ([]:List α),p y:=fun _ hx=>(List.not_mem_nil hx).elim
theorem B6 {α:Type} {p:α→Prop} {x:α} {l:List α} (h:p x) (r:∀ y ∈ l,p y):∀ y ∈ x::l,p y:=fun y hy=>by
 rcases List.mem_cons.1 hy with rfl | hy
 · exact h
 · exact r y hy
theorem b1M {m:View} (hg:Glob m) (s:B) (hw:s.length≤1000) (a:Option Addr) (k c:Nat) (l:List Tok) (h:List Res) (hs:Rd m h a k c 4 (fl B4 l)) (hk:k≤9000000):CT Tryz.prog 65 [str s,.slice a k c] h m (fun v _ h'=>OwT h (a2d s l) v h'):=by
 have hlen:=hs.lenF B7 (by decide)
 subst hlen
 refine CT.body Tryz.call65 Tryz.func65 rfl Tryz.ntmps65 Lb rfl ?_
 refine j0 ?_
 refine WL.addNil 106 4 ?_
 refine kQ1 [0,1] ?_
 refine kQ3 [0,1,7] ?_
 refine wc (fun c7=>?_) fun c7=>?_
 replace c7:=G4 c7
 have e7:a2d s l=[]:=by unfold a2d;rw[if_pos (by omega)]
 refine j0 ?_
 refine WL.addNil 106 4 ?_
 refine kQ1 [4] ?_
 refine WC.ret (wR (.row (.slice none 0 0) 106 4 0 (fl B4 [])::h) ?_)
 rw[e7];exact⟨none,0,0,rfl,rfl,rfl⟩
 replace c7:=G3 c7
 have e7:a2d s l=A2 s::l:=by unfold a2d;rw[if_neg (by omega)]
 have hln:(A2 s::l).length=l.length+1:=rfl
 refine kQ0 [0,1] ?_
 refine kA1 ?_
 refine xY N3 (EvP.cons Et EvP.nil) fun b9=>?_
 refine xg (E1 Et) (C4 hg _ 1 _ [s] _ Rr (by decide) (a5H (Nat.le_trans hw (by decide)))) ?_
 rintro _ _ ⟨a10,c10,_,rfl,rfl,rfl⟩
 refine kA1 ?_
 refine xD A9 (Ev.tmp rfl) (Ev.tmp rfl) (show 1+l.length=(A2 s::l).length by rw[hln,Nat.add_comm]) (a3F (enc:=B4) [A2 s] l).symm fun a12 c12=>?_
 refine kQ1 [4] ?_
 refine WC.ret (wR (.row (.slice a12 (A2 s::l).length c12) 106 4 (A2 s::l).length (fl B4 (A2 s::l))::h) ?_)
 rw[e7];exact⟨_,_,_,rfl,rfl,rfl⟩
theorem c0z (n:Nat) (h:List Res) (m:View) (hn:n≤300000):CT Tryz.prog 133 [.slice none 0 0,.int .i64 n] h m (fun v _ h'=>OwT h [] v h'):=by
 refine CT.body Tryz.call133 Tryz.func133 rfl Tryz.ntmps133 Lb rfl ?_
 refine kQ1 [0,1] ?_
 refine kQ2 [0,1,6] ?_
 refine wc (fun c6=>?_) fun c6=>?_
 replace c6:=dT c6
 omega
 replace c6:=dF c6
 refine kQ0 [0,1] ?_
 refine kA2 ?_
 refine xG (b2h a05 Et) ?_
 refine kA2 ?_
 refine xG (P4 Et Et (by omega)) ?_
 refine xG (P4 Et Et (by omega)) ?_
 refine kQ1 [0,1] ?_
 refine kQ2 [0,1,16] ?_
 refine wc (fun c16=>?_) fun c16=>?_
 replace c16:=dT c16
 have hn0:0 < n:=by omega
 refine kA2 ?_
 refine xG (b2h a05 Et) ?_
 refine xG (a6m A9.und A9.size Et Et rfl (by omega)) ?_
 refine kA1 ?_
 refine b7D A9 uu3 Et Et (q:=n) (by omega) (by omega) (by omega) (by omega) Lb fun b22 c22 hq22 hc22=>?_
 refine kA2 ?_
 refine xG (a6m A9.und A9.size Et Et rfl (by omega)) ?_
 refine kQ1 [0] ?_
 refine kQ2 [4] ?_
 refine WC.ret (wR (.row (.slice (some ⟨b22,0,none⟩) 0 c22) 106 4 0 (fl B4 [])::h) ?_)
 exact⟨_,_,0,rfl,rfl,by rw[c5u _ _ _ (.inr ⟨_,_,rfl⟩)]⟩
 replace c16:=dF c16
 refine WC.addNil 106 4 ?_
 refine kQ0 [0] ?_
 refine kQ2 [4] ?_
 refine WC.ret (wR (.row (.slice none 0 0) 106 4 0 (fl B4 [])::h) ?_)
 exact⟨_,_,0,rfl,rfl,rfl⟩
def ptE (s:Sli Tok):List Value:=[.slice s.a s.l.length s.c]
theorem b4K (s:Sli Tok):(ptE s).length=1:=rfl
set_option linter.defProp false in
@[reducible,instance]def iptE_len:=Go.Eng.Ln.mk b4K (by decide)
theorem a4m (a:Option Addr) (k c:Nat) (ps:List (Sli Tok)) (h:List Res) (m:View) (hs:Rd m h a k c 1 (fl ptE ps)) (hp:∀ p ∈ ps,Rd m h p.a p.l.length p.c 4 (fl B4 p.l)) (hk:k≤10) (hb:∀ p ∈ ps,p.l.length≤30000) :
   CT Tryz.prog 70 [.slice a k c] h m (fun v _ h'=>OwT h (ps.flatMap (·.l)) v h'):=by
 have hlen:=hs.lenF b4K (by decide)
 subst hlen
 refine CT.body Tryz.call70 Tryz.func70 rfl Tryz.ntmps70 Lb rfl ?_
 refine kQ1 [0] ?_
 refine kQ1 [0,3] ?_
 refine kQ3 [0,3,9,10,11] ?_
 refine B1 [0,9,10] rfl (fun μ F' h'=>∃ s:Nat,∃ j:Nat,(j≤ps.length∧s≤j * 30000)∧ps.length - j=μ∧F'=[(3,.int .i64 s),(11,.int .i64 j)]∧h=h') (ps.length - 0) [(3,.int .i64 0),(11,.int .i64 0)] (h0:=h) ?_ Sb ⟨0,0,⟨by omega,by omega⟩,rfl,rfl,rfl⟩ ?_
 exact Su
 rintro _ _ _ ⟨s,j,⟨hj,hs1⟩,rfl,rfl,rfl⟩
 refine B3 rfl ?_
 refine kQ1 [0,3,9,10,11,12] ?_
 refine wc (fun c12=>?_) fun c12=>?_
 replace c12:=dT c12
 obtain⟨p,hx⟩:=A5 (l:=ps) (k:=j) (by omega)
 have hbp:=hb p (List.mem_of_getElem? hx)
 refine kQ0 [0,3,9,10,11] ?_
 refine kQ3 [0,3,5,9,10,11] ?_
 refine kA3 ?_
 refine xG (I7 Et Et (by omega)) ?_
 refine WL.val (v':=.int .i64 ((s+p.l.length:Nat):Int)) (congrArg (Value.int .i64) (by omega)) ?_
 refine kQ1 [0,3,9,10,11] ?_
 refine kQ2 [0,3,9,10,11,20] ?_
 refine wc (fun c20=>?_) fun c20=>?_
 replace c20:=dT c20
 omega
 replace c20:=dF c20
 refine kQ0 [0,3,9,10,11] ?_
 refine kA2 ?_
 refine WL.nil (A6 (ps.length - (j+1)) [(3,.int .i64 (s+p.l.length)),(11,.int .i64 (j+1))] (h'':=h) (by omega) ?_ Su Sb ⟨s+p.l.length,j+1,⟨by omega,by omega⟩,rfl,rfl,rfl⟩)
 exact Su
 replace c12:=dF c12
 refine kQ0 [0,3] ?_
 refine kA1 ?_
 refine xg (E2 Ev.const Et) (c0z s _ _ (by omega)) ?_
 rintro _ _ ⟨a24,c24,_,rfl,rfl,rfl⟩
 refine kQ1 [0,6] ?_
 refine kQ3 [6,25,26,27] ?_
 refine B1 [25,26] rfl (fun μ F' h'=>∃ a6:Option Addr,∃ c6:Nat,∃ r:List Tok,∃ j:Nat,((j≤ps.length∧r.length≤j * 30000)∧r=(ps.take j).flatMap (·.l))∧ps.length - j=μ∧F'=[(6,.slice a6 r.length c6),(27,.int .i64 j)]∧.row (.slice a6 r.length c6) 106 4 r.length (fl B4 r)::h=h') (ps.length - 0) [(6,.slice a24 ([]).length c24),(27,.int .i64 0)] (h0:=.row (.slice a24 ([]).length c24) 106 4 ([]).length (fl B4 ([]))::h) ?_ Sb ⟨a24,c24,[],0,⟨⟨by omega,by simp⟩,rfl⟩,rfl,rfl,rfl⟩ ?_
 exact Su
 rintro _ _ _ ⟨a6,c6,r,j,⟨⟨hj,hr⟩,hJ⟩,rfl,rfl,rfl⟩
 refine B3 rfl ?_
 refine kQ1 [6,25,26,27,28] ?_
 refine wc (fun c28=>?_) fun c28=>?_
 replace c28:=dT c28
 obtain⟨p,hx⟩:=A5 (l:=ps) (k:=j) (by omega)
 have hbp:=hb p (List.mem_of_getElem? hx)
 have hpr:=hp p (List.mem_of_getElem? hx)
 have htk:(ps.take (j+1)).flatMap (·.l)=(ps.take j).flatMap (·.l)++p.l:=by rw[a2h hx,List.flatMap_append];simp
 refine kQ0 [6,25,26,27] ?_
 refine kQ3 [6,8,25,26,27] ?_
 refine kA2 ?_
 have hln:(r++p.l).length=r.length+p.l.length:=List.length_append
 refine xD A9 (Ev.tmp rfl) (Ev.tmp rfl) (show r.length+p.l.length=(r++p.l).length from hln.symm) (a3F (enc:=B4) r p.l).symm fun a33 c33=>?_
 refine kQ1 [6,25,26,27] ?_
 refine kA2 ?_
 refine WL.nil (A6 (ps.length - (j+1)) [(6,.slice a33 (r++p.l).length c33),(27,.int .i64 (j+1))] (h'':=.row (.slice a33 (r++p.l).length c33) 106 4 (r++p.l).length (fl B4 (r++p.l))::h) (by omega) ?_ Su Sb ⟨a33,c33,r++p.l,j+1,⟨⟨by omega,by omega⟩,by rw[htk,hJ]⟩,rfl,rfl,rfl⟩)
 exact Su
 replace c28:=dF c28
 rw[List.take_of_length_le (by omega)] at hJ
 subst hJ
 refine kQ0 [6] ?_
 refine kQ2 [2] ?_
 refine WC.ret (wR (.row (.slice a6 (ps.flatMap (·.l)).length c6) 106 4 (ps.flatMap (·.l)).length (fl B4 (ps.flatMap (·.l)))::h) ?_)
 exact⟨_,_,_,rfl,rfl,rfl⟩
end Go.Proofs.YtkemgjnejlkkcaaGreatDoor
end
section
namespace Go.Proofs.YtkemgjnejlkkcaaGreatDoor
set_option maxRecDepth 100000
set_option maxHeartbeats 2000000
open Go.Eng Go.Pc Go.Sx Go
open Go.Xp hiding B D9
open Go.Ty (Ty Vr Tok eqT tyV J2 B4 B7 S1 zeroK M5 D6 encV E5)
open Go.Lx (encB D1 textO)
open Go.Ly (Rw I6 C7)
theorem a0T {d:Prop} {m:View} {R:Value→View→List Res→Prop} {c:List PanicEntry} {w:World} (h:d∧RQ m R (.panicked c) w):False:=by
 obtain⟨_,_,_,_,e,_⟩:=h
 cases e
theorem K7 (e:Ex):(E7 e).length≤2000:=by
 unfold E7
 split
 · rename_i hm
   obtain⟨hF,hc⟩:=a5J hm
   have:=a4i e hF
   omega
 · exact Nat.zero_le _
theorem a2C (t:Ty):(K4 t).length≤10:=by
 unfold K4 Go.Ty.tokens
 split
 · unfold Go.Ty.toks
   have h1:=Go.Ty.dimT_le t
   have h2:=Go.Ty.chanT_le t
   simp only[List.length_append,List.length_singleton]
   omega
 · exact Nat.zero_le _
theorem c0I {m:View} (hg:Glob m) (r:Rp) (h:List Res) (hr:Rs m h r):CT Tryz.prog 66 [rpV r] h m (fun v _ h'=>OwT h (a0V r) v h'):=by
 have hB:=hr.b
 have hC:=hr.c
 have t1:=K7 r.base
 have t2:=K7 r.count
 refine CT.body Tryz.call66 Tryz.func66 rfl Tryz.ntmps66 Lb rfl ?_
 refine j0 ?_
 refine xX fun b1=>?_
 refine kQ1 [1] ?_
 refine kA2 ?_
 refine xG (N1 Et Ev.const) ?_
 refine kQ0 [1,5] ?_
 refine wc (fun c5=>?_) fun c5=>?_
 have c5:r.name=[]:=by simpa using c5
 have e5:a0V r=[]:=by unfold a0V;rw[if_pos c5]
 refine WC.addNil 106 4 ?_
 refine kQ1 [2] ?_
 refine WC.ret (wR (.row (.slice none 0 0) 106 4 0 (fl B4 [])::h) ?_)
 rw[e5];exact⟨none,0,0,rfl,rfl,rfl⟩
 have c5:¬ (r.name=[]):=by simpa using c5
 have e5:a0V r=[O3 r.name]++([A2 [61]]++(E7 r.base++([A2 [70,79,82]]++(E7 r.count++[])))):=by unfold a0V;rw[if_neg c5];simp only[List.append_assoc,List.append_nil]
 refine kQ0 [1] ?_
 refine a09 [2,3,4,7,8,9,4096] (.op 0 (.op 1 (.op 5 (.op 6 (.op 10 (.op 11 (.op 2 (.op 3 (.op 4 (.op 7 (.op 8 (.op 9 .nil)))))))))))) [12,13,14,15] _ [] D8 (fun _ _ _ h=>a0T h) [] (by kernel_rfl) ?_
 refine kA6 ?_
 refine G8 rfl rfl Ev.func (E1 Et) (fun fr=>a1J r.name _ _) Lb fun a8 c8=>?_
 refine SR.buildSlice rfl rfl N3 rfl (EvP.cons Ev.const EvP.nil) rfl rfl (by decide) rfl Lb fun b9=>?_
 refine G8 rfl rfl Ev.func (E1 (Ev.tmp rfl)) (fun fr=>C4 hg _ 1 _ [[61]] _ (Rd.fr Rr fr) (by decide) (a5H (by decide))) Lb fun a10 c10=>?_
 refine G8 rfl rfl Ev.func (E1 Et) (fun fr=>J4 hg r.base _ ((hB.mono Sb).fr fr)) Lb fun a13 c13=>?_
 refine SR.buildSlice rfl rfl N3 rfl (EvP.cons Ev.const EvP.nil) rfl rfl (by decide) rfl Lb fun b14=>?_
 refine G8 rfl rfl Ev.func (E1 (Ev.tmp rfl)) (fun fr=>C4 hg _ 1 _ [[70,79,82]] _ (Rd.fr Rr fr) (by decide) (a5H (by decide))) Lb fun a15 c15=>?_
 refine SR.nil rfl rfl ?_
 refine xg (E1 Et) (J4 hg r.count _ (hC.mono Sb)) ?_
 rintro _ _ ⟨a18,c18,_,rfl,rfl,rfl⟩
 refine xY K9 (EvP.cons Et (EvP.cons Et (EvP.cons Et (EvP.cons Et (EvP.cons Et EvP.nil))))) fun b19=>?_
 refine A0 (a:=a8) Me fun p8 q8 r8=>?_
 refine A0 (a:=a10) Me fun p10 q10 r10=>?_
 refine A0 (a:=a13) Me fun p13 q13 r13=>?_
 refine A0 (a:=a15) Me fun p15 q15 r15=>?_
 refine A0 (a:=a18) Me fun p18 q18 r18=>?_
 refine xg (E1 Et) (a4m _ 5 _ [⟨a8,c8,[O3 r.name]⟩,⟨a10,c10,[A2 [61]]⟩,⟨a13,c13,E7 r.base⟩,⟨a15,c15,[A2 [70,79,82]]⟩,⟨a18,c18,E7 r.count⟩] _ _ (Rd.ofPt rfl (by decide) Me) (B6 (Rd.inRow Me r8 p8 q8) (B6 (Rd.inRow Me r10 p10 q10) (B6 (Rd.inRow Me r13 p13 q13) (B6 (Rd.inRow Me r15 p15 q15) (B6 (Rd.inRow Me r18 p18 q18) H8))))) (by decide) (B6 (by simp) (B6 (by simp) (B6 (by simp;omega) (B6 (by simp) (B6 (by simp;omega) H8)))))) ?_
 rintro _ _ ⟨a20,c20,_,rfl,rfl,rfl⟩
 refine kQ1 [2] ?_
 refine WC.ret (wR (.row (.slice a20 _ c20) 106 4 _ (fl B4 _)::h) ?_)
 exact⟨_,_,_,congrArg List.length e5.symm,rfl,by rw[e5];rfl⟩
theorem b3F {m:View} (hg:Glob m) (f:Fo) (h:List Res) (hw:FoW f):CT Tryz.prog 62 [foV f] h m (fun v _ h'=>OwT h (Q0 f) v h'):=by
 have t1:=a2C f.ty
 have hp2:f.ty.proto.length≤9223372036854775807:=Nat.le_trans hw.t.p (by decide)
 refine CT.body Tryz.call62 Tryz.func62 rfl Tryz.ntmps62 Lb rfl ?_
 refine j0 ?_
 refine xX fun b1=>?_
 refine kQ1 [1] ?_
 refine kQ1 [1,3] ?_
 refine kQ2 [1,3,5] ?_
 refine wc (fun c5=>?_) fun c5=>?_
 have e5:Q0 f=[A2 [86,65,76]]++(K4 f.ty++([O3 f.name]++[])):=by unfold Q0;rw[if_pos c5];simp only[List.append_assoc,List.append_nil]
 refine j0 ?_
 refine xY N3 (EvP.cons Ev.const EvP.nil) fun b6=>?_
 refine xg (E1 Et) (C4 hg _ 1 _ [[86,65,76]] _ Rr (by decide) (a5H (by decide))) ?_
 rintro _ _ ⟨a7,c7,_,rfl,rfl,rfl⟩
 refine kQ1 [1,3] ?_
 refine G1 [3] (.op 0 (.op 1 (.op 2 (.op 4 (.op 5 (.op 3 .nil)))))) [6,7,8,9] _ [] D8 (fun _ _ _ _ _ h=>h) [0] (by kernel_rfl) ?_
 refine kA5 ?_
 refine G8 rfl rfl Ev.func (E1 Et) (fun fr=>a1g hg f.ty _ hp2) Lb fun a11 c11=>?_
 refine SR.nil rfl rfl ?_
 refine xg (E1 Et) (a1J f.name _ _) ?_
 rintro _ _ ⟨a14,c14,_,rfl,rfl,rfl⟩
 refine xY K9 (EvP.cons Et (EvP.cons Et (EvP.cons Et EvP.nil))) fun b15=>?_
 refine A0 (a:=a7) Me fun p7 q7 r7=>?_
 refine A0 (a:=a11) Me fun p11 q11 r11=>?_
 refine A0 (a:=a14) Me fun p14 q14 r14=>?_
 refine xg (E1 Et) (a4m _ 3 _ [⟨a7,c7,[A2 [86,65,76]]⟩,⟨a11,c11,K4 f.ty⟩,⟨a14,c14,[O3 f.name]⟩] _ _ (Rd.ofPt rfl (by decide) Me) (B6 (Rd.inRow Me r7 p7 q7) (B6 (Rd.inRow Me r11 p11 q11) (B6 (Rd.inRow Me r14 p14 q14) H8))) (by decide) (B6 (by simp) (B6 (by simp;omega) (B6 (by simp) H8)))) ?_
 rintro _ _ ⟨a16,c16,_,rfl,rfl,rfl⟩
 refine kQ1 [2] ?_
 refine WC.ret (wR (.row (.slice a16 _ c16) 106 4 _ (fl B4 _)::h) ?_)
 exact⟨_,_,_,congrArg List.length e5.symm,rfl,by rw[e5];rfl⟩
 have e5:Q0 f=[]++(K4 f.ty++([O3 f.name]++[])):=by unfold Q0;rw[if_neg (H3 c5)];simp only[List.append_assoc,List.append_nil]
 refine kQ0 [1,3] ?_
 refine G1 [3] (.op 0 (.op 1 (.op 2 (.op 4 (.op 5 (.op 3 .nil)))))) [6,7,8,9] _ [] D8 (fun _ _ _ _ _ h=>h) [0] (by kernel_rfl) ?_
 refine kA5 ?_
 refine G8 rfl rfl Ev.func (E1 Et) (fun fr=>a1g hg f.ty _ hp2) Lb fun a11 c11=>?_
 refine SR.nil rfl rfl ?_
 refine xg (E1 Et) (a1J f.name _ _) ?_
 rintro _ _ ⟨a14,c14,_,rfl,rfl,rfl⟩
 refine xY K9 (EvP.cons Et (EvP.cons Et (EvP.cons Et EvP.nil))) fun b15=>?_
 refine A0 (a:=a11) Me fun p11 q11 r11=>?_
 refine A0 (a:=a14) Me fun p14 q14 r14=>?_
 refine xg (E1 Et) (a4m _ 3 _ [⟨none,0,[]⟩,⟨a11,c11,K4 f.ty⟩,⟨a14,c14,[O3 f.name]⟩] _ _ (Rd.ofPt rfl (by decide) Me) (B6 (Rd.nilF B4 4 _ _) (B6 (Rd.inRow Me r11 p11 q11) (B6 (Rd.inRow Me r14 p14 q14) H8))) (by decide) (B6 (by simp) (B6 (by simp;omega) (B6 (by simp) H8)))) ?_
 rintro _ _ ⟨a16,c16,_,rfl,rfl,rfl⟩
 refine kQ1 [2] ?_
 refine WC.ret (wR (.row (.slice a16 _ c16) 106 4 _ (fl B4 _)::h) ?_)
 exact⟨_,_,_,congrArg List.length e5.symm,rfl,by rw[e5];rfl⟩
abbrev prB (b:Nat) (a:Option Addr) (c:Nat) (st:Ps):Res:=.pt b (.cells [.slice a st.1.length c,.bool st.2].toArray 78 (0,0))
abbrev prW (a:Option Addr) (c:Nat) (st:Ps):Res:=.row (.slice a st.1.length c) 26 3 st.1.length (fl I6 st.1)
theorem S0 {st:Ps} {x:Ln} (h:st.1.length≤2049):(C5 st x).1.length≤2049:=by
 unfold C5
 split
 · exact h
 · rename_i q
   simp only[List.length_append,List.length_singleton]
   omega
theorem Z6:∀ (l:List Ln) {st:Ps},st.1.length≤2049→(B8 st l).1.length≤2049
 | [],_,h=>h
 | x::l,_,h=>Z6 l (S0 (x:=x) h)
abbrev PrR (b:Nat) (h:List Res) (st:Ps) (h':List Res):Prop:=∃ a c,h'=prB b a c st::prW a c st::h
theorem G5 {m:View} (hg:Glob m) (hp:Pow m) (b:Nat) (a:Option Addr) (c:Nat) (st:Ps) (d:Int) (pa:Option Addr) (pk pc:Nat) (ps:List (Sli Tok)) (toks:List Tok) (h:List Res) (hs:Rd m h pa pk pc 1 (fl ptE ps)) (hps:∀ p ∈ ps,Rd m h p.a p.l.length p.c 4 (fl B4 p.l)) (hk:pk≤10)
   (hb:∀ p ∈ ps,p.l.length≤30000) (he:ps.flatMap (·.l)=toks) (hT:TkL toks) (hn:st.1.length≤2049) :
   CT Tryz.prog 41 [ptV b,.int .i64 d,.slice pa pk pc] (prB b a c st::prW a c st::h) m (fun _ _ h'=>PrR b h (C5 st (d,toks)) h'):=by
 subst he
 refine CT.body Tryz.call41 Tryz.func41 rfl Tryz.ntmps41 Lb rfl ?_
 refine kA1 ?_
 refine xg (E1 Et) (a4m pa pk pc ps _ _ (hs.mono (View.le.refl m) Sb) (fun p hp=>(hps p hp).mono (View.le.refl m) Sb) hk hb) ?_
 rintro _ _ ⟨a10,c10,_,rfl,rfl,rfl⟩
 refine A0 (a:=a10) Me fun p10 q10 r10=>?_
 refine xf (E1 Et) (b5U a10 _ c10 _ _ m hg hp (Rd.inRow Me r10 p10 q10) hT) ?_
 refine kQ5 [0,1,6,7] ?_
 refine kA4 ?_
 refine zG (fun hc=>PO.nilCheck (Eg hc)) ?_
 refine kQ5 [0,1,6,23] ?_
 refine wc (fun c23=>?_) fun c23=>?_
 have e23:C5 st (d,ps.flatMap (·.l))=(st.1,true):=by
   unfold C5
   rw[if_pos]
   simp only[Bool.or_eq_true,bne_iff_ne,ne_eq,decide_eq_true_eq] at c23
   exact c23.imp id fun q=>by omega
 refine kQ4 [] ?_
 refine WC.ret (W1 (h':=prB b a c (st.1,true)::prW a c st::h) (.inl rfl) rfl  (View.le.refl m) Sb ?_)
 exact⟨a,c,by rw[e23]⟩
 have e23:C5 st (d,ps.flatMap (·.l))=(st.1++[⟨st.1.length+1,d,(textO (ps.flatMap (·.l))).1⟩],st.2):=by
   unfold C5
   rw[if_neg]
   intro q
   have:(((textO (ps.flatMap (·.l))).2 != 0)||decide ((st.1.length:Int) > 2048))=true:=by
     simp only[Bool.or_eq_true,bne_iff_ne,ne_eq,decide_eq_true_eq]
     exact q.imp id fun q=>by omega
   rw[this] at c23
   cases c23
 have hln:(st.1++[(⟨st.1.length+1,d,(textO (ps.flatMap (·.l))).1⟩:Rw)]).length=st.1.length+1:=List.length_append
 refine kQ0 [0,1,6] ?_
 refine G1 [14] (.op 0 (.op 1 (.op 2 (.op 3 (.op 4 (.op 5 (.op 6 (.op 7 (.op 8 (.op 9 (.op 10 (.op 11 (.op 12 (.op 13 (.op 14 .nil))))))))))))))) [15,16,17,18] _ [] D8 (fun _ _ _ _ _ h=>h) [0] (by kernel_rfl) ?_
 refine kA9 ?_
 refine yG rfl (U5 a6T Et) ?_
 refine yG rfl (I7 Et Ev.const (by omega)) ?_
 refine kA2 ?_
 refine yG rfl (PO.build a6R rfl rfl rfl (EvP.cons Et (EvP.cons Et (EvP.cons Et EvP.nil))) rfl) ?_
 refine SR.buildSlice rfl rfl S8 rfl (EvP.cons Et EvP.nil) rfl rfl (by decide) rfl Lb fun b41=>?_
 refine SR.nil rfl rfl ?_
 refine xD S8 (Ev.tmp rfl) (Ev.tmp rfl) (show st.1.length+1=(st.1++[(⟨st.1.length+1,d,(textO (ps.flatMap (·.l))).1⟩:Rw)]).length by simp) (F7 (enc:=I6) _ (⟨st.1.length+1,d,(textO (ps.flatMap (·.l))).1⟩)) fun a42 c42=>?_
 refine kA3 ?_
 refine WL.nil (W1 (h':=prB b a42 c42 (st.1++[⟨st.1.length+1,d,(textO (ps.flatMap (·.l))).1⟩],st.2)::prW a42 c42 (st.1++[⟨st.1.length+1,d,(textO (ps.flatMap (·.l))).1⟩],st.2)::h) (.inr rfl) rfl  (View.le.refl m) Sb ?_)
 exact⟨a42,c42,by rw[e23]⟩
end Go.Proofs.YtkemgjnejlkkcaaGreatDoor
end
section
namespace Go.Proofs.YtkemgjnejlkkcaaGreatDoor
set_option maxRecDepth 100000
set_option maxHeartbeats 2000000
open Go.Eng Go.Pc Go.Sx Go
open Go.Xp hiding B D9
open Go.Ty (Ty Vr Tok eqT tyV J2 B4 B7 S1 zeroK M5 D6 encV E5)
open Go.Lx (encB D1 textO)
open Go.Ly (Rw I6 C7)
theorem a2y {α:Type} (sep:B) (f:α→List Tok) (n:Nat):∀ (l:List α),(∀ x ∈ l,(f x).length≤n)→(D3 sep f l).length≤l.length * (n+1)
 | [],_=>Nat.zero_le _
 | [x],h=>by
   have:=h x (List.Mem.head _)
   show(f x).length≤1 * (n+1)
   omega
 | x::y::r,h=>by
   have h1:=h x (List.Mem.head _)
   have h2:=a2y sep f n (y::r) fun z hz=>h z (List.Mem.tail _ hz)
   show(f x++⟨5,0,sep,0⟩::D3 sep f (y::r)).length≤_
   rw[List.length_append,List.length_cons]
   simp only[List.length_cons] at h2 ⊢
   rw[Nat.add_mul (r.length+1) 1 (n+1)]
   omega
theorem a0c (sep:B) (l:List Ex) (h:l.length≤9):(D3 sep E7 l).length≤30000:=by
 have h1:=a2y sep E7 2000 l fun x _=>K7 x
 have h2:l.length * 2001≤9 * 2001:=Nat.mul_le_mul_right _ h
 omega
theorem a7B (r:Rp):(a0V r).length≤30000:=by
 unfold a0V
 split
 · exact Nat.zero_le _
 · have h1:=K7 r.base
   have h2:=K7 r.count
   simp only[List.length_append,List.length_singleton]
   omega
theorem a1b {m:View} (hg:Glob m) (b4:Nat) (p:Pr) (sep:B) (h:List Res) (hb:Res.pt b4 (.cells (prE p).toArray 52 (0,0)) ∈ h) (hL:LOk m h p.ex) (hE:p.ex.l.length≤9) :
   CT Tryz.prog 67 [str sep,ptV b4] h m (fun v _ h'=>OwT h (D3 sep E7 p.ex.l) v h'):=by
 refine CT.body Tryz.call67 Tryz.func67 rfl Tryz.ntmps67 Lb rfl ?_
 refine kQ1 [0,1] ?_
 refine kA1 ?_
 refine xG (D4 c5o rfl Et hb rfl) ?_
 refine kA1 ?_
 refine xg (E3 Et Et Ev.func) (a2u 60 E7 sep _ _ _ p.ex.l _ hL.rd (by omega) (fun x _=>Nat.le_trans (K7 x) (by decide)) (fun x hx h2 hh=>J4 hg x h2 ((hL.ok x hx).mono hh))) ?_
 rintro _ _ ⟨a7,c7,_,rfl,rfl,rfl⟩
 refine kQ1 [3] ?_
 refine WC.ret (wR (.row (.slice a7 (D3 sep E7 p.ex.l).length c7) 106 4 (D3 sep E7 p.ex.l).length (fl B4 (D3 sep E7 p.ex.l))::h) ?_)
 exact⟨_,_,_,rfl,rfl,rfl⟩
set_option maxHeartbeats 4000000 in
theorem b7A {m:View} (hg:Glob m) (hp:Pow m) (p:Pr) (b:Nat) (a:Option Addr) (c:Nat) (st:Ps) (d:Int) (h:List Res) (hO:P1 m h p) (hTg:p.tg.l.length≤9) (hEx:p.ex.l.length≤9) (hk:1≤p.k∧p.k≤17) (hT:TkL (B0 p.k p.name p.ch p.tg.l p.ex.l p.rep)) (hn:st.1.length≤2049) :
   CT Tryz.prog 40 [ptV b,prV p,.int .i64 d] (prB b a c st::prW a c st::h) m (fun _ _ h'=>PrR b h (C5 st (d,B0 p.k p.name p.ch p.tg.l p.ex.l p.rep)) h'):=by
 refine CT.body Tryz.call40 Tryz.func40 rfl Tryz.ntmps40 Lb rfl ?_
 refine j0 ?_
 refine xX fun b4=>?_
 refine kQ0 [0,2,4] ?_
 refine kA2 ?_
 refine xg (E1 Et) (c0I hg p.rep _ (Rs.mono (h:=h) ⟨hO.rn,hO.rb,hO.rc⟩ Sb)) ?_
 rintro _ _ ⟨a10,c10,_,rfl,rfl,rfl⟩
 refine kQ1 [0,2,4,6] ?_
 refine xG (PO.makeFunc Evs.nil (E1 Et)) ?_
 refine kQ1 [0,2,4,6,7] ?_
 refine kQ2 [0,2,4,6,7,13] ?_
 refine kQ2 [0,2,4,6,7,13,14] ?_
 refine wc (fun c14=>?_) fun c14=>?_
 replace c14:=G4 c14
 have e9:=B0.eq_1 p.k p.name p.ch p.tg.l p.ex.l p.rep
 rw[if_pos c14] at e9
 refine kA2 ?_
 refine xY N3 (EvP.cons Ev.const EvP.nil) fun b18=>?_
 refine xg (E1 Et) (C4 hg _ 1 _ [[83,75,73,80]] _ Rr (by decide) (by decide)) ?_
 rintro _ _ ⟨a19,c19,_,rfl,rfl,rfl⟩
 refine xY K9 (EvP.cons Et EvP.nil) fun b20=>?_
 refine A0 (a:=a19) Me fun p19 q19 r19=>?_
 refine WL.perm ((Del.perm (r:=prB b a c st) De).trans ((Del.perm (r:=prW a c st) De).cons _)) ?_
 refine xg (E3 Et Et Et) (G5 hg hp b a c st d _ 1 _ [⟨a19,c19,[A2 [83,75,73,80]]⟩] (B0 p.k p.name p.ch p.tg.l p.ex.l p.rep) _ (Rd.ofPt rfl (by decide) Me) (B6 (Rd.inRow Me r19 p19 q19) H8) (by decide) (B6 (by simp) H8) (by rw[e9];simp) (hT) hn) ?_
 rintro _ _ ⟨a21,c21,rfl⟩
 refine WL.nil (W1 (h':=prB b a21 c21 (C5 st (d,B0 p.k p.name p.ch p.tg.l p.ex.l p.rep))::prW a21 c21 (C5 st (d,B0 p.k p.name p.ch p.tg.l p.ex.l p.rep))::h) (.inr rfl) rfl  (View.le.refl m) Sb ?_)
 exact⟨a21,c21,rfl⟩
 replace c14:=G3 c14
 refine kQ2 [0,2,4,6,7,13,22] ?_
 refine wc (fun c22=>?_) fun c22=>?_
 replace c22:=G4 c22
 have e9:=B0.eq_1 p.k p.name p.ch p.tg.l p.ex.l p.rep
 rw[if_neg c14,if_pos c22] at e9
 refine kA2 ?_
 refine xY N3 (EvP.cons Ev.const EvP.nil) fun b26=>?_
 refine xg (E1 Et) (C4 hg _ 1 _ [[83,84,79,80]] _ Rr (by decide) (by decide)) ?_
 rintro _ _ ⟨a27,c27,_,rfl,rfl,rfl⟩
 refine xY K9 (EvP.cons Et EvP.nil) fun b28=>?_
 refine A0 (a:=a27) Me fun p27 q27 r27=>?_
 refine WL.perm ((Del.perm (r:=prB b a c st) De).trans ((Del.perm (r:=prW a c st) De).cons _)) ?_
 refine xg (E3 Et Et Et) (G5 hg hp b a c st d _ 1 _ [⟨a27,c27,[A2 [83,84,79,80]]⟩] (B0 p.k p.name p.ch p.tg.l p.ex.l p.rep) _ (Rd.ofPt rfl (by decide) Me) (B6 (Rd.inRow Me r27 p27 q27) H8) (by decide) (B6 (by simp) H8) (by rw[e9];simp) (hT) hn) ?_
 rintro _ _ ⟨a29,c29,rfl⟩
 refine WL.nil (W1 (h':=prB b a29 c29 (C5 st (d,B0 p.k p.name p.ch p.tg.l p.ex.l p.rep))::prW a29 c29 (C5 st (d,B0 p.k p.name p.ch p.tg.l p.ex.l p.rep))::h) (.inr rfl) rfl  (View.le.refl m) Sb ?_)
 exact⟨a29,c29,rfl⟩
 replace c22:=G3 c22
 refine kQ2 [0,2,4,6,7,13,30] ?_
 refine wc (fun c30=>?_) fun c30=>?_
 replace c30:=G4 c30
 have e9:=B0.eq_1 p.k p.name p.ch p.tg.l p.ex.l p.rep
 rw[if_neg c14,if_neg c22,if_pos c30] at e9
 refine kA4 ?_
 refine xg (E3 Et Ev.const Ev.func) (a2u 60 E7 [44] _ _ _ p.tg.l _ (hO.tg.rd.mono (View.le.refl m) Sb) (by omega) (fun x _=>Nat.le_trans (K7 x) (by decide)) (fun x hx h2 hh=>J4 hg x h2 ((hO.tg.ok x hx).mono (List.Sublist.trans Sb hh)))) ?_
 rintro _ _ ⟨a36,c36,_,rfl,rfl,rfl⟩
 refine xY N3 (EvP.cons Ev.const EvP.nil) fun b37=>?_
 refine xg (E1 Et) (C4 hg _ 1 _ [[58,61]] _ Rr (by decide) (by decide)) ?_
 rintro _ _ ⟨a38,c38,_,rfl,rfl,rfl⟩
 refine kA1 ?_
 refine G0 (Ev.tmp rfl) (E1 Ev.const) (a1b hg b4 p [44] _ Me (hO.ex.mono Sb) hEx) Lb ?_
 rintro _ _ ⟨a40,c40,_,rfl,rfl,rfl⟩
 refine xY K9 (EvP.cons Et (EvP.cons Et (EvP.cons Et EvP.nil))) fun b41=>?_
 refine A0 (a:=a36) Me fun p36 q36 r36=>?_
 refine A0 (a:=a38) Me fun p38 q38 r38=>?_
 refine A0 (a:=a40) Me fun p40 q40 r40=>?_
 refine WL.perm ((Del.perm (r:=prB b a c st) De).trans ((Del.perm (r:=prW a c st) De).cons _)) ?_
 refine xg (E3 Et Et Et) (G5 hg hp b a c st d _ 3 _ [⟨a36,c36,D3 [44] E7 p.tg.l⟩,⟨a38,c38,[A2 [58,61]]⟩,⟨a40,c40,D3 [44] E7 p.ex.l⟩] (B0 p.k p.name p.ch p.tg.l p.ex.l p.rep) _ (Rd.ofPt rfl (by decide) Me) (B6 (Rd.inRow Me r36 p36 q36) (B6 (Rd.inRow Me r38 p38 q38) (B6 (Rd.inRow Me r40 p40 q40) H8))) (by decide) (B6 (a0c [44] p.tg.l (by omega)) (B6 (by simp) (B6 (a0c [44] p.ex.l (by omega)) H8))) (by rw[e9];simp) (hT) hn) ?_
 rintro _ _ ⟨a42,c42,rfl⟩
 refine WL.nil (W1 (h':=prB b a42 c42 (C5 st (d,B0 p.k p.name p.ch p.tg.l p.ex.l p.rep))::prW a42 c42 (C5 st (d,B0 p.k p.name p.ch p.tg.l p.ex.l p.rep))::h) (.inr rfl) rfl  (View.le.refl m) Sb ?_)
 exact⟨a42,c42,rfl⟩
 replace c30:=G3 c30
 refine kQ2 [0,2,4,6,7,13,43] ?_
 refine wc (fun c43=>?_) fun c43=>?_
 replace c43:=G4 c43
 have e9:=B0.eq_1 p.k p.name p.ch p.tg.l p.ex.l p.rep
 rw[if_neg c14,if_neg c22,if_neg c30,if_pos c43] at e9
 refine jE ?_
 refine a09 [4,5,6,4096] (.op 0 (.op 1 (.op 2 (.op 3 (.op 7 (.op 8 (.op 4 (.op 5 (.op 6 .nil))))))))) [9,10,11] _ [] D8 (fun _ _ _ h=>a0T h) [0,1] (by kernel_rfl) ?_
 refine kA6 ?_
 refine G8 rfl rfl Ev.func (E1 Et) (fun fr=>J4 hg p.ch _ (hO.ch.mono Sb)) Lb fun a49 c49=>?_
 refine SR.buildSlice rfl rfl N3 rfl (EvP.cons Ev.const EvP.nil) rfl rfl (by decide) rfl Lb fun b50=>?_
 refine G8 rfl rfl Ev.func (E1 (Ev.tmp rfl)) (fun fr=>C4 hg _ 1 _ [[63]] _ (Rd.fr Rr fr) (by decide) (by decide)) Lb fun a51 c51=>?_
 refine SR.nil rfl rfl ?_
 refine xg (E3 Et Ev.const Ev.func) (a2u 60 E7 [59] _ _ _ p.tg.l _ (hO.tg.rd.mono (View.le.refl m) Sb) (by omega) (fun x _=>Nat.le_trans (K7 x) (by decide)) (fun x hx h2 hh=>J4 hg x h2 ((hO.tg.ok x hx).mono (List.Sublist.trans Sb hh)))) ?_
 rintro _ _ ⟨a54,c54,_,rfl,rfl,rfl⟩
 refine xY K9 (EvP.cons Et (EvP.cons Et (EvP.cons Et EvP.nil))) fun b55=>?_
 refine A0 (a:=a49) Me fun p49 q49 r49=>?_
 refine A0 (a:=a51) Me fun p51 q51 r51=>?_
 refine A0 (a:=a54) Me fun p54 q54 r54=>?_
 refine WL.perm ((Del.perm (r:=prB b a c st) De).trans ((Del.perm (r:=prW a c st) De).cons _)) ?_
 refine xg (E3 Et Et Et) (G5 hg hp b a c st d _ 3 _ [⟨a49,c49,E7 p.ch⟩,⟨a51,c51,[A2 [63]]⟩,⟨a54,c54,D3 [59] E7 p.tg.l⟩] (B0 p.k p.name p.ch p.tg.l p.ex.l p.rep) _ (Rd.ofPt rfl (by decide) Me) (B6 (Rd.inRow Me r49 p49 q49) (B6 (Rd.inRow Me r51 p51 q51) (B6 (Rd.inRow Me r54 p54 q54) H8))) (by decide) (B6 (Nat.le_trans (K7 _) (by decide)) (B6 (by simp) (B6 (a0c [59] p.tg.l (by omega)) H8))) (by rw[e9];simp) (hT) hn) ?_
 rintro _ _ ⟨a56,c56,rfl⟩
 refine WL.nil (W1 (h':=prB b a56 c56 (C5 st (d,B0 p.k p.name p.ch p.tg.l p.ex.l p.rep))::prW a56 c56 (C5 st (d,B0 p.k p.name p.ch p.tg.l p.ex.l p.rep))::h) (.inr rfl) rfl  (View.le.refl m) Sb ?_)
 exact⟨a56,c56,rfl⟩
 replace c43:=G3 c43
 refine kQ2 [0,2,4,6,7,13,57] ?_
 refine wc (fun c57=>?_) fun c57=>?_
 replace c57:=G4 c57
 have e9:=B0.eq_1 p.k p.name p.ch p.tg.l p.ex.l p.rep
 rw[if_neg c14,if_neg c22,if_neg c30,if_neg c43,if_pos c57] at e9
 refine kA4 ?_
 refine xg (E1 Et) (J4 hg p.ch _ (hO.ch.mono Sb)) ?_
 rintro _ _ ⟨a63,c63,_,rfl,rfl,rfl⟩
 refine xY N3 (EvP.cons Ev.const EvP.nil) fun b64=>?_
 refine xg (E1 Et) (C4 hg _ 1 _ [[33]] _ Rr (by decide) (by decide)) ?_
 rintro _ _ ⟨a65,c65,_,rfl,rfl,rfl⟩
 refine kA1 ?_
 refine G0 (Ev.tmp rfl) (E1 Ev.const) (a1b hg b4 p [59] _ Me (hO.ex.mono Sb) hEx) Lb ?_
 rintro _ _ ⟨a67,c67,_,rfl,rfl,rfl⟩
 refine xY K9 (EvP.cons Et (EvP.cons Et (EvP.cons Et EvP.nil))) fun b68=>?_
 refine A0 (a:=a63) Me fun p63 q63 r63=>?_
 refine A0 (a:=a65) Me fun p65 q65 r65=>?_
 refine A0 (a:=a67) Me fun p67 q67 r67=>?_
 refine WL.perm ((Del.perm (r:=prB b a c st) De).trans ((Del.perm (r:=prW a c st) De).cons _)) ?_
 refine xg (E3 Et Et Et) (G5 hg hp b a c st d _ 3 _ [⟨a63,c63,E7 p.ch⟩,⟨a65,c65,[A2 [33]]⟩,⟨a67,c67,D3 [59] E7 p.ex.l⟩] (B0 p.k p.name p.ch p.tg.l p.ex.l p.rep) _ (Rd.ofPt rfl (by decide) Me) (B6 (Rd.inRow Me r63 p63 q63) (B6 (Rd.inRow Me r65 p65 q65) (B6 (Rd.inRow Me r67 p67 q67) H8))) (by decide) (B6 (Nat.le_trans (K7 _) (by decide)) (B6 (by simp) (B6 (a0c [59] p.ex.l (by omega)) H8))) (by rw[e9];simp) (hT) hn) ?_
 rintro _ _ ⟨a69,c69,rfl⟩
 refine WL.nil (W1 (h':=prB b a69 c69 (C5 st (d,B0 p.k p.name p.ch p.tg.l p.ex.l p.rep))::prW a69 c69 (C5 st (d,B0 p.k p.name p.ch p.tg.l p.ex.l p.rep))::h) (.inr rfl) rfl  (View.le.refl m) Sb ?_)
 exact⟨a69,c69,rfl⟩
 replace c57:=G3 c57
 refine kQ2 [0,2,4,6,7,13,70] ?_
 refine wc (fun c70=>?_) fun c70=>?_
 replace c70:=G4 c70
 have e9:=B0.eq_1 p.k p.name p.ch p.tg.l p.ex.l p.rep
 rw[if_neg c14,if_neg c22,if_neg c30,if_neg c43,if_neg c57,if_pos c70] at e9
 refine kA4 ?_
 refine xg (E1 Et) (J4 hg p.ch _ (hO.ch.mono Sb)) ?_
 rintro _ _ ⟨a76,c76,_,rfl,rfl,rfl⟩
 refine xY N3 (EvP.cons Ev.const (EvP.cons Ev.const EvP.nil)) fun b77=>?_
 refine xg (E1 Et) (C4 hg _ 2 _ [[63],[65,70,84,69,82]] _ Rr (by decide) (by decide)) ?_
 rintro _ _ ⟨a78,c78,_,rfl,rfl,rfl⟩
 refine kA1 ?_
 refine G0 (Ev.tmp rfl) (E1 Ev.const) (a1b hg b4 p [] _ Me (hO.ex.mono Sb) hEx) Lb ?_
 rintro _ _ ⟨a80,c80,_,rfl,rfl,rfl⟩
 refine xY K9 (EvP.cons Et (EvP.cons Et (EvP.cons Et EvP.nil))) fun b81=>?_
 refine A0 (a:=a76) Me fun p76 q76 r76=>?_
 refine A0 (a:=a78) Me fun p78 q78 r78=>?_
 refine A0 (a:=a80) Me fun p80 q80 r80=>?_
 refine WL.perm ((Del.perm (r:=prB b a c st) De).trans ((Del.perm (r:=prW a c st) De).cons _)) ?_
 refine xg (E3 Et Et Et) (G5 hg hp b a c st d _ 3 _ [⟨a76,c76,E7 p.ch⟩,⟨a78,c78,[A2 [63],A2 [65,70,84,69,82]]⟩,⟨a80,c80,D3 [] E7 p.ex.l⟩] (B0 p.k p.name p.ch p.tg.l p.ex.l p.rep) _ (Rd.ofPt rfl (by decide) Me) (B6 (Rd.inRow Me r76 p76 q76) (B6 (Rd.inRow Me r78 p78 q78) (B6 (Rd.inRow Me r80 p80 q80) H8))) (by decide) (B6 (Nat.le_trans (K7 _) (by decide)) (B6 (by simp) (B6 (a0c [] p.ex.l (by omega)) H8))) (by rw[e9];simp) (hT) hn) ?_
 rintro _ _ ⟨a82,c82,rfl⟩
 refine WL.nil (W1 (h':=prB b a82 c82 (C5 st (d,B0 p.k p.name p.ch p.tg.l p.ex.l p.rep))::prW a82 c82 (C5 st (d,B0 p.k p.name p.ch p.tg.l p.ex.l p.rep))::h) (.inr rfl) rfl  (View.le.refl m) Sb ?_)
 exact⟨a82,c82,rfl⟩
 replace c70:=G3 c70
 refine kQ2 [0,2,4,6,7,13,83] ?_
 refine wc (fun c83=>?_) fun c83=>?_
 replace c83:=G4 c83
 have e9:=B0.eq_1 p.k p.name p.ch p.tg.l p.ex.l p.rep
 rw[if_neg c14,if_neg c22,if_neg c30,if_neg c43,if_neg c57,if_neg c70,if_pos c83] at e9
 refine kA4 ?_
 refine xg (E1 Et) (J4 hg p.ch _ (hO.ch.mono Sb)) ?_
 rintro _ _ ⟨a89,c89,_,rfl,rfl,rfl⟩
 refine xY N3 (EvP.cons Ev.const (EvP.cons Ev.const EvP.nil)) fun b90=>?_
 refine xg (E1 Et) (C4 hg _ 2 _ [[63],[67,65,83,69]] _ Rr (by decide) (by decide)) ?_
 rintro _ _ ⟨a91,c91,_,rfl,rfl,rfl⟩
 refine xY K9 (EvP.cons Et (EvP.cons Et EvP.nil)) fun b92=>?_
 refine A0 (a:=a89) Me fun p89 q89 r89=>?_
 refine A0 (a:=a91) Me fun p91 q91 r91=>?_
 refine WL.perm ((Del.perm (r:=prB b a c st) De).trans ((Del.perm (r:=prW a c st) De).cons _)) ?_
 refine xg (E3 Et Et Et) (G5 hg hp b a c st d _ 2 _ [⟨a89,c89,E7 p.ch⟩,⟨a91,c91,[A2 [63],A2 [67,65,83,69]]⟩] (B0 p.k p.name p.ch p.tg.l p.ex.l p.rep) _ (Rd.ofPt rfl (by decide) Me) (B6 (Rd.inRow Me r89 p89 q89) (B6 (Rd.inRow Me r91 p91 q91) H8)) (by decide) (B6 (Nat.le_trans (K7 _) (by decide)) (B6 (by simp) H8)) (by rw[e9];simp) (hT) hn) ?_
 rintro _ _ ⟨a93,c93,rfl⟩
 refine WL.nil (W1 (h':=prB b a93 c93 (C5 st (d,B0 p.k p.name p.ch p.tg.l p.ex.l p.rep))::prW a93 c93 (C5 st (d,B0 p.k p.name p.ch p.tg.l p.ex.l p.rep))::h) (.inr rfl) rfl  (View.le.refl m) Sb ?_)
 exact⟨a93,c93,rfl⟩
 replace c83:=G3 c83
 refine kQ2 [0,2,4,6,7,13,94] ?_
 refine wc (fun c94=>?_) fun c94=>?_
 replace c94:=G4 c94
 have e9:=B0.eq_1 p.k p.name p.ch p.tg.l p.ex.l p.rep
 rw[if_neg c14,if_neg c22,if_neg c30,if_neg c43,if_neg c57,if_neg c70,if_neg c83,if_pos c94] at e9
 refine kA2 ?_
 refine xY N3 (EvP.cons Ev.const EvP.nil) fun b98=>?_
 refine xg (E1 Et) (C4 hg _ 1 _ [[83,69,81]] _ Rr (by decide) (by decide)) ?_
 rintro _ _ ⟨a99,c99,_,rfl,rfl,rfl⟩
 refine kA1 ?_
 refine xY K9 (EvP.cons Et (EvP.cons Et EvP.nil)) fun b101=>?_
 refine A0 (a:=a99) Me fun p99 q99 r99=>?_
 refine A0 (a:=a10) Me fun p10 q10 r10=>?_
 refine WL.perm ((Del.perm (r:=prB b a c st) De).trans ((Del.perm (r:=prW a c st) De).cons _)) ?_
 refine xg (E3 Et Et Et) (G5 hg hp b a c st d _ 2 _ [⟨a99,c99,[A2 [83,69,81]]⟩,⟨a10,c10,a0V p.rep⟩] (B0 p.k p.name p.ch p.tg.l p.ex.l p.rep) _ (Rd.ofPt rfl (by decide) Me) (B6 (Rd.inRow Me r99 p99 q99) (B6 (Rd.inRow Me r10 p10 q10) H8)) (by decide) (B6 (by simp) (B6 (a7B p.rep) H8)) (by rw[e9];simp) (hT) hn) ?_
 rintro _ _ ⟨a102,c102,rfl⟩
 refine WL.nil (W1 (h':=prB b a102 c102 (C5 st (d,B0 p.k p.name p.ch p.tg.l p.ex.l p.rep))::prW a102 c102 (C5 st (d,B0 p.k p.name p.ch p.tg.l p.ex.l p.rep))::h) (.inr rfl) rfl  (View.le.refl m) Sb ?_)
 exact⟨a102,c102,rfl⟩
 replace c94:=G3 c94
 refine kQ2 [0,2,4,6,7,13,103] ?_
 refine wc (fun c103=>?_) fun c103=>?_
 replace c103:=G4 c103
 have e9:=B0.eq_1 p.k p.name p.ch p.tg.l p.ex.l p.rep
 rw[if_neg c14,if_neg c22,if_neg c30,if_neg c43,if_neg c57,if_neg c70,if_neg c83,if_neg c94,if_pos c103] at e9
 refine kA2 ?_
 refine xY N3 (EvP.cons Ev.const EvP.nil) fun b107=>?_
 refine xg (E1 Et) (C4 hg _ 1 _ [[80,65,82]] _ Rr (by decide) (by decide)) ?_
 rintro _ _ ⟨a108,c108,_,rfl,rfl,rfl⟩
 refine kA1 ?_
 refine xY K9 (EvP.cons Et (EvP.cons Et EvP.nil)) fun b110=>?_
 refine A0 (a:=a108) Me fun p108 q108 r108=>?_
 refine A0 (a:=a10) Me fun p10 q10 r10=>?_
 refine WL.perm ((Del.perm (r:=prB b a c st) De).trans ((Del.perm (r:=prW a c st) De).cons _)) ?_
 refine xg (E3 Et Et Et) (G5 hg hp b a c st d _ 2 _ [⟨a108,c108,[A2 [80,65,82]]⟩,⟨a10,c10,a0V p.rep⟩] (B0 p.k p.name p.ch p.tg.l p.ex.l p.rep) _ (Rd.ofPt rfl (by decide) Me) (B6 (Rd.inRow Me r108 p108 q108) (B6 (Rd.inRow Me r10 p10 q10) H8)) (by decide) (B6 (by simp) (B6 (a7B p.rep) H8)) (by rw[e9];simp) (hT) hn) ?_
 rintro _ _ ⟨a111,c111,rfl⟩
 refine WL.nil (W1 (h':=prB b a111 c111 (C5 st (d,B0 p.k p.name p.ch p.tg.l p.ex.l p.rep))::prW a111 c111 (C5 st (d,B0 p.k p.name p.ch p.tg.l p.ex.l p.rep))::h) (.inr rfl) rfl  (View.le.refl m) Sb ?_)
 exact⟨a111,c111,rfl⟩
 replace c103:=G3 c103
 refine kQ2 [0,2,4,6,7,13,112] ?_
 refine wc (fun c112=>?_) fun c112=>?_
 replace c112:=G4 c112
 have e9:=B0.eq_1 p.k p.name p.ch p.tg.l p.ex.l p.rep
 rw[if_neg c14,if_neg c22,if_neg c30,if_neg c43,if_neg c57,if_neg c70,if_neg c83,if_neg c94,if_neg c103,if_pos c112] at e9
 refine kA2 ?_
 refine xY N3 (EvP.cons Ev.const (EvP.cons Ev.const EvP.nil)) fun b116=>?_
 refine xg (E1 Et) (C4 hg _ 2 _ [[80,82,73],[80,65,82]] _ Rr (by decide) (by decide)) ?_
 rintro _ _ ⟨a117,c117,_,rfl,rfl,rfl⟩
 refine xY K9 (EvP.cons Et EvP.nil) fun b118=>?_
 refine A0 (a:=a117) Me fun p117 q117 r117=>?_
 refine WL.perm ((Del.perm (r:=prB b a c st) De).trans ((Del.perm (r:=prW a c st) De).cons _)) ?_
 refine xg (E3 Et Et Et) (G5 hg hp b a c st d _ 1 _ [⟨a117,c117,[A2 [80,82,73],A2 [80,65,82]]⟩] (B0 p.k p.name p.ch p.tg.l p.ex.l p.rep) _ (Rd.ofPt rfl (by decide) Me) (B6 (Rd.inRow Me r117 p117 q117) H8) (by decide) (B6 (by simp) H8) (by rw[e9];simp) (hT) hn) ?_
 rintro _ _ ⟨a119,c119,rfl⟩
 refine WL.nil (W1 (h':=prB b a119 c119 (C5 st (d,B0 p.k p.name p.ch p.tg.l p.ex.l p.rep))::prW a119 c119 (C5 st (d,B0 p.k p.name p.ch p.tg.l p.ex.l p.rep))::h) (.inr rfl) rfl  (View.le.refl m) Sb ?_)
 exact⟨a119,c119,rfl⟩
 replace c112:=G3 c112
 refine kQ2 [0,2,4,6,7,13,120] ?_
 refine wc (fun c120=>?_) fun c120=>?_
 replace c120:=G4 c120
 have e9:=B0.eq_1 p.k p.name p.ch p.tg.l p.ex.l p.rep
 rw[if_neg c14,if_neg c22,if_neg c30,if_neg c43,if_neg c57,if_neg c70,if_neg c83,if_neg c94,if_neg c103,if_neg c112,if_pos c120] at e9
 refine kA2 ?_
 refine xY N3 (EvP.cons Ev.const (EvP.cons Ev.const EvP.nil)) fun b124=>?_
 refine xg (E1 Et) (C4 hg _ 2 _ [[80,76,65,67,69,68],[80,65,82]] _ Rr (by decide) (by decide)) ?_
 rintro _ _ ⟨a125,c125,_,rfl,rfl,rfl⟩
 refine xY K9 (EvP.cons Et EvP.nil) fun b126=>?_
 refine A0 (a:=a125) Me fun p125 q125 r125=>?_
 refine WL.perm ((Del.perm (r:=prB b a c st) De).trans ((Del.perm (r:=prW a c st) De).cons _)) ?_
 refine xg (E3 Et Et Et) (G5 hg hp b a c st d _ 1 _ [⟨a125,c125,[A2 [80,76,65,67,69,68],A2 [80,65,82]]⟩] (B0 p.k p.name p.ch p.tg.l p.ex.l p.rep) _ (Rd.ofPt rfl (by decide) Me) (B6 (Rd.inRow Me r125 p125 q125) H8) (by decide) (B6 (by simp) H8) (by rw[e9];simp) (hT) hn) ?_
 rintro _ _ ⟨a127,c127,rfl⟩
 refine WL.nil (W1 (h':=prB b a127 c127 (C5 st (d,B0 p.k p.name p.ch p.tg.l p.ex.l p.rep))::prW a127 c127 (C5 st (d,B0 p.k p.name p.ch p.tg.l p.ex.l p.rep))::h) (.inr rfl) rfl  (View.le.refl m) Sb ?_)
 exact⟨a127,c127,rfl⟩
 replace c120:=G3 c120
 refine kQ2 [0,2,4,6,7,13,128] ?_
 refine wc (fun c128=>?_) fun c128=>?_
 replace c128:=G4 c128
 have e9:=B0.eq_1 p.k p.name p.ch p.tg.l p.ex.l p.rep
 rw[if_neg c14,if_neg c22,if_neg c30,if_neg c43,if_neg c57,if_neg c70,if_neg c83,if_neg c94,if_neg c103,if_neg c112,if_neg c120,if_pos c128] at e9
 refine kA2 ?_
 refine xY N3 (EvP.cons Ev.const EvP.nil) fun b132=>?_
 refine xg (E1 Et) (C4 hg _ 1 _ [[65,76,84]] _ Rr (by decide) (by decide)) ?_
 rintro _ _ ⟨a133,c133,_,rfl,rfl,rfl⟩
 refine kA1 ?_
 refine xY K9 (EvP.cons Et (EvP.cons Et EvP.nil)) fun b135=>?_
 refine A0 (a:=a133) Me fun p133 q133 r133=>?_
 refine A0 (a:=a10) Me fun p10 q10 r10=>?_
 refine WL.perm ((Del.perm (r:=prB b a c st) De).trans ((Del.perm (r:=prW a c st) De).cons _)) ?_
 refine xg (E3 Et Et Et) (G5 hg hp b a c st d _ 2 _ [⟨a133,c133,[A2 [65,76,84]]⟩,⟨a10,c10,a0V p.rep⟩] (B0 p.k p.name p.ch p.tg.l p.ex.l p.rep) _ (Rd.ofPt rfl (by decide) Me) (B6 (Rd.inRow Me r133 p133 q133) (B6 (Rd.inRow Me r10 p10 q10) H8)) (by decide) (B6 (by simp) (B6 (a7B p.rep) H8)) (by rw[e9];simp) (hT) hn) ?_
 rintro _ _ ⟨a136,c136,rfl⟩
 refine WL.nil (W1 (h':=prB b a136 c136 (C5 st (d,B0 p.k p.name p.ch p.tg.l p.ex.l p.rep))::prW a136 c136 (C5 st (d,B0 p.k p.name p.ch p.tg.l p.ex.l p.rep))::h) (.inr rfl) rfl  (View.le.refl m) Sb ?_)
 exact⟨a136,c136,rfl⟩
 replace c128:=G3 c128
 refine kQ2 [0,2,4,6,7,13,137] ?_
 refine wc (fun c137=>?_) fun c137=>?_
 replace c137:=G4 c137
 have e9:=B0.eq_1 p.k p.name p.ch p.tg.l p.ex.l p.rep
 rw[if_neg c14,if_neg c22,if_neg c30,if_neg c43,if_neg c57,if_neg c70,if_neg c83,if_neg c94,if_neg c103,if_neg c112,if_neg c120,if_neg c128,if_pos c137] at e9
 refine kA2 ?_
 refine xY N3 (EvP.cons Ev.const (EvP.cons Ev.const EvP.nil)) fun b141=>?_
 refine xg (E1 Et) (C4 hg _ 2 _ [[80,82,73],[65,76,84]] _ Rr (by decide) (by decide)) ?_
 rintro _ _ ⟨a142,c142,_,rfl,rfl,rfl⟩
 refine kA1 ?_
 refine xY K9 (EvP.cons Et (EvP.cons Et EvP.nil)) fun b144=>?_
 refine A0 (a:=a142) Me fun p142 q142 r142=>?_
 refine A0 (a:=a10) Me fun p10 q10 r10=>?_
 refine WL.perm ((Del.perm (r:=prB b a c st) De).trans ((Del.perm (r:=prW a c st) De).cons _)) ?_
 refine xg (E3 Et Et Et) (G5 hg hp b a c st d _ 2 _ [⟨a142,c142,[A2 [80,82,73],A2 [65,76,84]]⟩,⟨a10,c10,a0V p.rep⟩] (B0 p.k p.name p.ch p.tg.l p.ex.l p.rep) _ (Rd.ofPt rfl (by decide) Me) (B6 (Rd.inRow Me r142 p142 q142) (B6 (Rd.inRow Me r10 p10 q10) H8)) (by decide) (B6 (by simp) (B6 (a7B p.rep) H8)) (by rw[e9];simp) (hT) hn) ?_
 rintro _ _ ⟨a145,c145,rfl⟩
 refine WL.nil (W1 (h':=prB b a145 c145 (C5 st (d,B0 p.k p.name p.ch p.tg.l p.ex.l p.rep))::prW a145 c145 (C5 st (d,B0 p.k p.name p.ch p.tg.l p.ex.l p.rep))::h) (.inr rfl) rfl  (View.le.refl m) Sb ?_)
 exact⟨a145,c145,rfl⟩
 replace c137:=G3 c137
 refine kQ2 [0,2,4,6,7,13,146] ?_
 refine wc (fun c146=>?_) fun c146=>?_
 replace c146:=G4 c146
 have e9:=B0.eq_1 p.k p.name p.ch p.tg.l p.ex.l p.rep
 rw[if_neg c14,if_neg c22,if_neg c30,if_neg c43,if_neg c57,if_neg c70,if_neg c83,if_neg c94,if_neg c103,if_neg c112,if_neg c120,if_neg c128,if_neg c137,if_pos c146] at e9
 refine kA2 ?_
 refine xY N3 (EvP.cons Ev.const EvP.nil) fun b150=>?_
 refine xg (E1 Et) (C4 hg _ 1 _ [[73,70]] _ Rr (by decide) (by decide)) ?_
 rintro _ _ ⟨a151,c151,_,rfl,rfl,rfl⟩
 refine kA1 ?_
 refine xY K9 (EvP.cons Et (EvP.cons Et EvP.nil)) fun b153=>?_
 refine A0 (a:=a151) Me fun p151 q151 r151=>?_
 refine A0 (a:=a10) Me fun p10 q10 r10=>?_
 refine WL.perm ((Del.perm (r:=prB b a c st) De).trans ((Del.perm (r:=prW a c st) De).cons _)) ?_
 refine xg (E3 Et Et Et) (G5 hg hp b a c st d _ 2 _ [⟨a151,c151,[A2 [73,70]]⟩,⟨a10,c10,a0V p.rep⟩] (B0 p.k p.name p.ch p.tg.l p.ex.l p.rep) _ (Rd.ofPt rfl (by decide) Me) (B6 (Rd.inRow Me r151 p151 q151) (B6 (Rd.inRow Me r10 p10 q10) H8)) (by decide) (B6 (by simp) (B6 (a7B p.rep) H8)) (by rw[e9];simp) (hT) hn) ?_
 rintro _ _ ⟨a154,c154,rfl⟩
 refine WL.nil (W1 (h':=prB b a154 c154 (C5 st (d,B0 p.k p.name p.ch p.tg.l p.ex.l p.rep))::prW a154 c154 (C5 st (d,B0 p.k p.name p.ch p.tg.l p.ex.l p.rep))::h) (.inr rfl) rfl  (View.le.refl m) Sb ?_)
 exact⟨a154,c154,rfl⟩
 replace c146:=G3 c146
 refine kQ2 [0,2,4,7,13,155] ?_
 refine wc (fun c155=>?_) fun c155=>?_
 replace c155:=G4 c155
 have e9:=B0.eq_1 p.k p.name p.ch p.tg.l p.ex.l p.rep
 rw[if_neg c14,if_neg c22,if_neg c30,if_neg c43,if_neg c57,if_neg c70,if_neg c83,if_neg c94,if_neg c103,if_neg c112,if_neg c120,if_neg c128,if_neg c137,if_neg c146,if_pos c155] at e9
 refine kA2 ?_
 refine xY N3 (EvP.cons Ev.const EvP.nil) fun b159=>?_
 refine xg (E1 Et) (C4 hg _ 1 _ [[67,65,83,69]] _ Rr (by decide) (by decide)) ?_
 rintro _ _ ⟨a160,c160,_,rfl,rfl,rfl⟩
 refine kA1 ?_
 refine G0 (Ev.tmp rfl) (E1 Ev.const) (a1b hg b4 p [] _ Me (hO.ex.mono Sb) hEx) Lb ?_
 rintro _ _ ⟨a162,c162,_,rfl,rfl,rfl⟩
 refine xY K9 (EvP.cons Et (EvP.cons Et EvP.nil)) fun b163=>?_
 refine A0 (a:=a160) Me fun p160 q160 r160=>?_
 refine A0 (a:=a162) Me fun p162 q162 r162=>?_
 refine WL.perm ((Del.perm (r:=prB b a c st) De).trans ((Del.perm (r:=prW a c st) De).cons _)) ?_
 refine xg (E3 Et Et Et) (G5 hg hp b a c st d _ 2 _ [⟨a160,c160,[A2 [67,65,83,69]]⟩,⟨a162,c162,D3 [] E7 p.ex.l⟩] (B0 p.k p.name p.ch p.tg.l p.ex.l p.rep) _ (Rd.ofPt rfl (by decide) Me) (B6 (Rd.inRow Me r160 p160 q160) (B6 (Rd.inRow Me r162 p162 q162) H8)) (by decide) (B6 (by simp) (B6 (a0c [] p.ex.l (by omega)) H8)) (by rw[e9];simp) (hT) hn) ?_
 rintro _ _ ⟨a164,c164,rfl⟩
 refine WL.nil (W1 (h':=prB b a164 c164 (C5 st (d,B0 p.k p.name p.ch p.tg.l p.ex.l p.rep))::prW a164 c164 (C5 st (d,B0 p.k p.name p.ch p.tg.l p.ex.l p.rep))::h) (.inr rfl) rfl  (View.le.refl m) Sb ?_)
 exact⟨a164,c164,rfl⟩
 replace c155:=G3 c155
 refine kQ2 [0,2,4,7,13,165] ?_
 refine wc (fun c165=>?_) fun c165=>?_
 replace c165:=G4 c165
 have e9:=B0.eq_1 p.k p.name p.ch p.tg.l p.ex.l p.rep
 rw[if_neg c14,if_neg c22,if_neg c30,if_neg c43,if_neg c57,if_neg c70,if_neg c83,if_neg c94,if_neg c103,if_neg c112,if_neg c120,if_neg c128,if_neg c137,if_neg c146,if_neg c155,if_pos c165] at e9
 refine kA2 ?_
 refine xY N3 (EvP.cons Ev.const EvP.nil) fun b169=>?_
 refine xg (E1 Et) (C4 hg _ 1 _ [[87,72,73,76,69]] _ Rr (by decide) (by decide)) ?_
 rintro _ _ ⟨a170,c170,_,rfl,rfl,rfl⟩
 refine kA1 ?_
 refine G0 (Ev.tmp rfl) (E1 Ev.const) (a1b hg b4 p [] _ Me (hO.ex.mono Sb) hEx) Lb ?_
 rintro _ _ ⟨a172,c172,_,rfl,rfl,rfl⟩
 refine xY K9 (EvP.cons Et (EvP.cons Et EvP.nil)) fun b173=>?_
 refine A0 (a:=a170) Me fun p170 q170 r170=>?_
 refine A0 (a:=a172) Me fun p172 q172 r172=>?_
 refine WL.perm ((Del.perm (r:=prB b a c st) De).trans ((Del.perm (r:=prW a c st) De).cons _)) ?_
 refine xg (E3 Et Et Et) (G5 hg hp b a c st d _ 2 _ [⟨a170,c170,[A2 [87,72,73,76,69]]⟩,⟨a172,c172,D3 [] E7 p.ex.l⟩] (B0 p.k p.name p.ch p.tg.l p.ex.l p.rep) _ (Rd.ofPt rfl (by decide) Me) (B6 (Rd.inRow Me r170 p170 q170) (B6 (Rd.inRow Me r172 p172 q172) H8)) (by decide) (B6 (by simp) (B6 (a0c [] p.ex.l (by omega)) H8)) (by rw[e9];simp) (hT) hn) ?_
 rintro _ _ ⟨a174,c174,rfl⟩
 refine WL.nil (W1 (h':=prB b a174 c174 (C5 st (d,B0 p.k p.name p.ch p.tg.l p.ex.l p.rep))::prW a174 c174 (C5 st (d,B0 p.k p.name p.ch p.tg.l p.ex.l p.rep))::h) (.inr rfl) rfl  (View.le.refl m) Sb ?_)
 exact⟨a174,c174,rfl⟩
 replace c165:=G3 c165
 refine kQ2 [0,2,4,7,175] ?_
 refine wc (fun c175=>?_) fun c175=>?_
 replace c175:=G4 c175
 have e9:=B0.eq_1 p.k p.name p.ch p.tg.l p.ex.l p.rep
 rw[if_neg c14,if_neg c22,if_neg c30,if_neg c43,if_neg c57,if_neg c70,if_neg c83,if_neg c94,if_neg c103,if_neg c112,if_neg c120,if_neg c128,if_neg c137,if_neg c146,if_neg c155,if_neg c165] at e9
 refine kA4 ?_
 refine xg (E1 Et) (a1J p.name _ _) ?_
 rintro _ _ ⟨a181,c181,_,rfl,rfl,rfl⟩
 refine xY N3 (EvP.cons Ev.const EvP.nil) fun b182=>?_
 refine xg (E1 Et) (C4 hg _ 1 _ [[40]] _ Rr (by decide) (by decide)) ?_
 rintro _ _ ⟨a183,c183,_,rfl,rfl,rfl⟩
 refine kA1 ?_
 refine G0 (Ev.tmp rfl) (E1 Ev.const) (a1b hg b4 p [44] _ Me (hO.ex.mono Sb) hEx) Lb ?_
 rintro _ _ ⟨a185,c185,_,rfl,rfl,rfl⟩
 refine xY N3 (EvP.cons Ev.const EvP.nil) fun b186=>?_
 refine xg (E1 Et) (C4 hg _ 1 _ [[41]] _ Rr (by decide) (by decide)) ?_
 rintro _ _ ⟨a187,c187,_,rfl,rfl,rfl⟩
 refine xY K9 (EvP.cons Et (EvP.cons Et (EvP.cons Et (EvP.cons Et EvP.nil)))) fun b188=>?_
 refine A0 (a:=a181) Me fun p181 q181 r181=>?_
 refine A0 (a:=a183) Me fun p183 q183 r183=>?_
 refine A0 (a:=a185) Me fun p185 q185 r185=>?_
 refine A0 (a:=a187) Me fun p187 q187 r187=>?_
 refine WL.perm ((Del.perm (r:=prB b a c st) De).trans ((Del.perm (r:=prW a c st) De).cons _)) ?_
 refine xg (E3 Et Et Et) (G5 hg hp b a c st d _ 4 _ [⟨a181,c181,[O3 p.name]⟩,⟨a183,c183,[A2 [40]]⟩,⟨a185,c185,D3 [44] E7 p.ex.l⟩,⟨a187,c187,[A2 [41]]⟩] (B0 p.k p.name p.ch p.tg.l p.ex.l p.rep) _ (Rd.ofPt rfl (by decide) Me) (B6 (Rd.inRow Me r181 p181 q181) (B6 (Rd.inRow Me r183 p183 q183) (B6 (Rd.inRow Me r185 p185 q185) (B6 (Rd.inRow Me r187 p187 q187) H8)))) (by decide) (B6 (by simp) (B6 (by simp) (B6 (a0c [44] p.ex.l (by omega)) (B6 (by simp) H8)))) (by rw[e9];simp) (hT) hn) ?_
 rintro _ _ ⟨a189,c189,rfl⟩
 refine WL.nil (W1 (h':=prB b a189 c189 (C5 st (d,B0 p.k p.name p.ch p.tg.l p.ex.l p.rep))::prW a189 c189 (C5 st (d,B0 p.k p.name p.ch p.tg.l p.ex.l p.rep))::h) (.inr rfl) rfl  (View.le.refl m) Sb ?_)
 exact⟨a189,c189,rfl⟩
 replace c175:=G3 c175
 omega
end Go.Proofs.YtkemgjnejlkkcaaGreatDoor
end
section
namespace Go.Proofs.YtkemgjnejlkkcaaGreatDoor
set_option maxRecDepth 100000
set_option maxHeartbeats 2000000
open Go.Eng Go.Pc Go.Sx Go
open Go.Xp hiding B D9
open Go.Ty (Ty Vr Tok eqT tyV J2 B4 B7 S1 zeroK M5 D6 encV E5 prL prV PrOk VOk mayPr hdV)
open Go.Lx (encB D1 textO)
open Go.Ly (Rw I6 C7)
theorem a0Y:TkL []:=fun _ hx=>(List.not_mem_nil hx).elim
theorem G6 {a b:List Tok} (ha:TkL a) (hb:TkL b):TkL (a++b):=fun x hx=>(List.mem_append.1 hx).elim (ha x) (hb x)
theorem a6I {t:Tok} {b:List Tok} (ha:TkL [t]) (hb:TkL b):TkL (t::b):=fun x hx=>(List.mem_cons.1 hx).elim (fun e=>ha x (List.mem_singleton.2 e)) (hb x)
theorem a3a {k p:Int} {s:B} (h:s.length≤Big):TkL [⟨k,p.toNat,s,0⟩]:=fun x hx=>by
 rw[List.mem_singleton] at hx
 subst hx
 exact⟨(show(-2147483648:Int)≤0∧(0:Int)≤2147483647 by decide),h⟩
theorem U4 {s:B} (h:s.length≤Big):TkL [A2 s]:=by
 unfold A2
 split
 · exact a3a (p:=0) h
 · exact a3a (p:=0) h
theorem a9B {s:B} (h:s.length≤Big):TkL [O3 s]:=a3a (p:=0) h
theorem a1Z {m:View} {h:List Res} {e:Ex} (q:EOk m h e):TkL (E7 e):=by
 unfold E7
 split
 · rename_i hm
   exact fun x hx=>⟨(a9H e (a5J hm).1 q.w x hx).2,by have:=Go.Lx.may_len (a9H e (a5J hm).1 q.w x hx).1;omega⟩
 · exact a0Y
theorem b2t {α:Type} {sep:B} (hs:sep.length≤Big) {f:α→List Tok}:∀ {l:List α},(∀ x ∈ l,TkL (f x))→TkL (D3 sep f l)
 | [],_=>a0Y
 | [x],h=>h x (List.Mem.head _)
 | x::_::_,h=>G6 (h x (List.Mem.head _)) (a6I (a3a (p:=0) hs) (b2t hs fun z hz=>h z (List.Mem.tail _ hz)))
theorem a1o {m:View} {h:List Res} {sep:B} (hs:sep.length≤Big) {s:Sli Ex} (q:LOk m h s):TkL (D3 sep E7 s.l):=b2t hs fun x hx=>a1Z (q.ok x hx)
theorem c2U {s:B} (hs:s.length≤Big) {l:List Tok} (q:TkL l):TkL (a2d s l):=by
 unfold a2d
 split
 · exact a0Y
 · exact a6I (U4 hs) q
theorem c4M {m:View} {h:List Res} {r:Rp} (q:Rs m h r):TkL (a0V r):=by
 unfold a0V
 split
 · exact a0Y
 · exact G6 (G6 (G6 (G6 (a9B q.n) (U4 (by decide))) (a1Z q.b)) (U4 (by decide))) (a1Z q.c)
theorem N5 {c:Prop} [Decidable c] {a b:List Tok} (ha:TkL a) (hb:TkL b):TkL (if c then a else b):=by
 split
 · exact ha
 · exact hb
theorem b6x {m:View} {h:List Res} {p:Pr} (q:P1 m h p):TkL (B0 p.k p.name p.ch p.tg.l p.ex.l p.rep):=by
 have hr:TkL (a0V p.rep):=c4M (m:=m) (h:=h) ⟨q.rn,q.rb,q.rc⟩
 have w1:∀ {s:B},s.length≤1000→TkL [A2 s]:=fun h=>U4 (Nat.le_trans h (by decide))
 have w2:∀ {s t:B},s.length≤1000→t.length≤1000→TkL [A2 s,A2 t]:=fun h h2=>a6I (w1 h) (w1 h2)
 unfold B0
 exact N5 (w1 (by decide)) (N5 (w1 (by decide)) (N5 (G6 (G6 (a1o (by decide) q.tg) (w1 (by decide))) (a1o (by decide) q.ex)) (N5 (G6 (G6 (a1Z q.ch) (w1 (by decide))) (a1o (by decide) q.tg)) (N5 (G6 (G6 (a1Z q.ch) (w1 (by decide))) (a1o (by decide) q.ex)) (N5 (G6 (G6 (a1Z q.ch) (w2 (by decide) (by decide))) (a1o (by decide) q.ex)) (N5 (G6 (a1Z q.ch) (w2 (by decide) (by decide))) (N5 (G6 (w1 (by decide)) hr) (N5 (G6 (w1 (by decide)) hr) (N5 (w2 (by decide) (by decide)) (N5 (w2 (by decide) (by decide)) (N5 (G6 (w1 (by decide)) hr) (N5 (G6 (w2 (by decide) (by decide)) hr) (N5 (G6 (w1 (by decide)) hr) (N5 (G6 (w1 (by decide)) (a1o (by decide) q.ex)) (N5 (G6 (w1 (by decide)) (a1o (by decide) q.ex)) (G6 (G6 (G6 (a9B q.n) (w1 (by decide))) (a1o (by decide) q.ex)) (w1 (by decide))))))))))))))))))
theorem a8s {m:View} {h:List Res} {e:Ex} (q:EOk m h e):TkL (a0i e):=by
 unfold a0i
 split
 · exact a0Y
 · exact G6 (a1Z q) (a3a (p:=0) (by decide))
theorem b75 {m:View} {h:List Res} {g:Gu} (q:GOk m h g):TkL (H6 g.k g.name g.cond g.ch g.tg.l g.vl.l g.time):=by
 have w1:∀ {s:B},s.length≤1000→TkL [A2 s]:=fun h=>U4 (Nat.le_trans h (by decide))
 unfold H6
 exact N5 (a1Z q.cond) (N5 (G6 (a8s q.cond) (w1 (by decide))) (N5 (G6 (G6 (G6 (a8s q.cond) (a1Z q.ch)) (w1 (by decide))) (a1o (by decide) q.tg)) (N5 (G6 (G6 (G6 (a8s q.cond) (a1Z q.ch)) (a6I (w1 (by decide)) (w1 (by decide)))) (a1Z q.time)) (N5 (a1o (by decide) q.vl) (N5 (w1 (by decide)) (G6 (a9B q.n) (c2U (by decide) (a1o (by decide) q.tg))))))))
theorem b1h (e:Ex):(a0i e).length≤30000:=by
 unfold a0i
 have:=K7 e
 split
 · exact Nat.zero_le _
 · rw[List.length_append]
   simp only[List.length_singleton]
   omega
theorem b4Z (s:B) {l:List Tok} (h:l.length≤25000):(a2d s l).length≤30000:=by
 unfold a2d
 split
 · exact Nat.zero_le _
 · simp only[List.length_cons]
   omega
theorem a6p (sep:B) (l:List Ex) (h:l.length≤9):(D3 sep E7 l).length≤25000:=by
 have h1:=a2y sep E7 2000 l fun x _=>K7 x
 have h2:l.length * 2001≤9 * 2001:=Nat.mul_le_mul_right _ h
 omega
theorem c02 {g:Gu} (h:guP g=true) (h0:0≤g.k):(1≤g.k∧g.k≤7)∧g.bl.length=1∧g.tg.l.length≤8∧g.vl.l.length≤8:=by
 unfold guP at h
 simp only[Bool.and_eq_true,bne_iff_ne,ne_eq,decide_eq_true_eq,beq_iff_eq] at h
 obtain⟨⟨⟨⟨⟨⟨⟨⟨h1,h2⟩,h3⟩,-⟩,-⟩,-⟩,-⟩,h4⟩,h5⟩:=h
 have h4:=(U2 h4).2.2
 have h5:=(U2 h5).2.2
 refine⟨⟨by omega,h2⟩,by omega,?_,?_⟩
 · have:(if g.k=3 then (8:Int) else if g.k=7 then 8 else 0)≤8:=by repeat' split <;> omega
   omega
 · have:(if g.k=5 then (8:Int) else 0)≤8:=by split <;> omega
   omega
theorem b6c (g:Gu) (d:Int):Y1 g d=(d,H6 g.k g.name g.cond g.ch g.tg.l g.vl.l g.time)::a1K g.bl (d+1):=by cases g;rfl
abbrev PRC (m:View) (p:Pr):Prop:=∀ (b:Nat) (a:Option Addr) (c:Nat) (st:Ps) (d:Int) (h:List Res),POk m h p→Vld p→(0≤d∧d+2 * (N8 p:Int)≤100000)→st.1.length≤2049 →
 CT Tryz.prog 25 [ptV b,prV p,.int .i64 d] (prB b a c st::prW a c st::h) m (fun _ _ h'=>PrR b h (B8 st (H5 p d)) h')
set_option maxHeartbeats 4000000 in
theorem b5T {m:View} (hg:Glob m) (hp:Pow m) (g:Gu) (b:Nat) (a:Option Addr) (c:Nat) (st:Ps) (d:Int) (h:List Res) (hO:GOk m h g) (hu:guP g=true) (hS:∀ x ∈ g.bl,POk m h x∧Vld x∧PRC m x∧d+1+2 * (N8 x:Int)≤100000) (hd:0≤d∧d≤100000) (hn:st.1.length≤2049) :
   CT Tryz.prog 43 [ptV b,guV g,.int .i64 d] (prB b a c st::prW a c st::h) m (fun _ _ h'=>PrR b h (B8 st (Y1 g d)) h'):=by
 obtain⟨hk,hbl,hTg,hVl⟩:=c02 hu hO.k.1
 have hT:=b75 hO
 have hrb:=hO.b
 obtain⟨y,hy⟩:=A5 (l:=g.bl) (k:=0) (by omega)
 have hym:=List.mem_of_getElem? hy
 obtain⟨hy1,hy2,hy3,hy4⟩:=hS y hym
 have hcy:=a5u y
 have hlg:Y1 g d=(d,H6 g.k g.name g.cond g.ch g.tg.l g.vl.l g.time)::H5 y (d+1):=by
   have e:g.bl=[y]:=by
     cases hb:g.bl with
     | nil=>rw[hb] at hy;cases hy
     | cons z r=>
       rw[hb] at hy hbl
       cases hy
       cases r with
       | nil=>rfl
       | cons u v=>simp at hbl
   rw[b6c,e]
   rfl
 refine CT.body Tryz.call43 Tryz.func43 rfl Tryz.ntmps43 Lb rfl ?_
 refine j0 ?_
 refine xX fun b4=>?_
 refine kQ0 [0,2,4] ?_
 refine WL.addNil 106 4 ?_
 refine kQ1 [0,2,4,6] ?_
 refine kA2 ?_
 refine xf (E1 Et) (a1O g.cond (hO.cond.t.mono Sb)) ?_
 refine kP1 [0,2,4,6,11] ?_
 refine H7 KKh [0,2,4] rfl (fun F' h'=>∃ a6:Option Addr,∃ c6:Nat,∃ L:List Tok,(L=a0i g.cond)∧F'=[(6,.slice a6 L.length c6)]∧.row (.slice a6 L.length c6) 106 4 L.length (fl B4 L)::.pt b4 (.cells (guE g).toArray 86 (0,0))::prB b a c st::prW a c st::h=h') ?_ ?_
 refine jE ?_
 refine wc (fun c11=>?_) fun c11=>?_
 have e11:a0i g.cond=E7 g.cond++[⟨5,0,[38],0⟩]:=by unfold a0i;rw[if_neg (by simpa using c11)]
 have hln:(E7 g.cond++[(⟨5,0,[38],0⟩:Tok)]).length=(E7 g.cond).length+1:=List.length_append
 have htl:=K7 g.cond
 refine kA2 ?_
 refine xg (E1 Et) (J4 hg g.cond _ (hO.cond.mono Sb)) ?_
 rintro _ _ ⟨a14,c14,_,rfl,rfl,rfl⟩
 refine xf (E1 Ev.const) (H0 _ _ _) ?_
 refine xY A9 (EvP.cons Et EvP.nil) fun b16=>?_
 refine xD A9 (Ev.tmp rfl) (Ev.tmp rfl) (show(E7 g.cond).length+1=(E7 g.cond++[(⟨5,0,[38],0⟩:Tok)]).length from hln.symm) (F7 (enc:=B4) _ (⟨5,0,[38],0⟩)) fun a17 c17=>?_
 refine kA1 ?_
 refine WL.nil (D0 [(6,.slice a17 (E7 g.cond++[(⟨5,0,[38],0⟩:Tok)]).length c17)] (h'':=.row (.slice a17 (E7 g.cond++[(⟨5,0,[38],0⟩:Tok)]).length c17) 106 4 (E7 g.cond++[(⟨5,0,[38],0⟩:Tok)]).length (fl B4 (E7 g.cond++[(⟨5,0,[38],0⟩:Tok)]))::.pt b4 (.cells (guE g).toArray 86 (0,0))::prB b a c st::prW a c st::h) ?_ Su Sb ⟨a17,c17,E7 g.cond++[(⟨5,0,[38],0⟩:Tok)],e11.symm,rfl,rfl⟩)
 exact Su
 have e11:a0i g.cond=[]:=by unfold a0i;rw[if_pos (by simpa using c11)]
 refine WC.skip (D0 [(6,.slice none ([]).length 0)] (h'':=.row (.slice none ([]).length 0) 106 4 ([]).length (fl B4 ([]))::.pt b4 (.cells (guE g).toArray 86 (0,0))::prB b a c st::prW a c st::h) ?_ Su Sb ⟨none,0,[],e11.symm,rfl,rfl⟩)
 exact Su
 rintro _ _ ⟨a6,c6,L,hL,rfl,rfl⟩
 refine B3 rfl ?_
 subst hL
 refine kA2 ?_
 refine xg (E3 Et Ev.const Ev.func) (a2u 60 E7 [59] _ _ _ g.tg.l _ (hO.tg.rd.mono (View.le.refl m) Sb) (by omega) (fun x _=>Nat.le_trans (K7 x) (by decide)) (fun x hx h2 hh=>J4 hg x h2 ((hO.tg.ok x hx).mono (List.Sublist.trans Sb hh)))) ?_
 rintro _ _ ⟨a20,c20,_,rfl,rfl,rfl⟩
 refine kQ1 [0,2,4,6,7] ?_
 refine kP2 [0,2,4,6,7,22] ?_
 refine H7 KKh [0,2,4] rfl (fun F' h'=>∃ a9:Option Addr,∃ c9:Nat,(True)∧F'=[]∧prB b a9 c9 (C5 st (d,H6 g.k g.name g.cond g.ch g.tg.l g.vl.l g.time))::prW a9 c9 (C5 st (d,H6 g.k g.name g.cond g.ch g.tg.l g.vl.l g.time))::.pt b4 (.cells (guE g).toArray 86 (0,0))::h=h') ?_ ?_
 refine kQ2 [0,2,4,6,7,22,23] ?_
 refine wc (fun c23=>?_) fun c23=>?_
 replace c23:=G4 c23
 have e9:=H6.eq_1 g.k g.name g.cond g.ch g.tg.l g.vl.l g.time
 rw[if_pos c23] at e9
 refine kA4 ?_
 refine xg (E1 Et) (J4 hg g.cond _ (hO.cond.mono Sb)) ?_
 rintro _ _ ⟨a29,c29,_,rfl,rfl,rfl⟩
 refine xY K9 (EvP.cons Et EvP.nil) fun b30=>?_
 refine A0 (a:=a29) Me fun p29 q29 r29=>?_
 refine WL.perm ((Del.perm (r:=prB b a c st) De).trans ((Del.perm (r:=prW a c st) De).cons _)) ?_
 refine xg (E3 Et Et Et) (G5 hg hp b a c st d _ 1 _ [⟨a29,c29,E7 g.cond⟩] (H6 g.k g.name g.cond g.ch g.tg.l g.vl.l g.time) _ (Rd.ofPt rfl (by decide) Me) (B6 (Rd.inRow Me r29 p29 q29) H8) (by decide) (B6 (Nat.le_trans (K7 _) (by decide)) H8) (by rw[e9];simp) (hT) hn) ?_
 rintro _ _ ⟨a31,c31,rfl⟩
 refine WL.nil (D0 [] (h'':=prB b a31 c31 (C5 st (d,H6 g.k g.name g.cond g.ch g.tg.l g.vl.l g.time))::prW a31 c31 (C5 st (d,H6 g.k g.name g.cond g.ch g.tg.l g.vl.l g.time))::.pt b4 (.cells (guE g).toArray 86 (0,0))::h) ?_ Su Sb ⟨a31,c31,by trivial,rfl,rfl⟩)
 exact Su
 replace c23:=G3 c23
 refine kQ2 [0,2,4,6,7,22,32] ?_
 refine wc (fun c32=>?_) fun c32=>?_
 replace c32:=G4 c32
 have e9:=H6.eq_1 g.k g.name g.cond g.ch g.tg.l g.vl.l g.time
 rw[if_neg c23,if_pos c32] at e9
 refine kA3 ?_
 refine xY N3 (EvP.cons Ev.const EvP.nil) fun b37=>?_
 refine xg (E1 Et) (C4 hg _ 1 _ [[83,75,73,80]] _ Rr (by decide) (by decide)) ?_
 rintro _ _ ⟨a38,c38,_,rfl,rfl,rfl⟩
 refine xY K9 (EvP.cons Et (EvP.cons Et EvP.nil)) fun b39=>?_
 refine A0 (a:=a6) Me fun p6 q6 r6=>?_
 refine A0 (a:=a38) Me fun p38 q38 r38=>?_
 refine WL.perm ((Del.perm (r:=prB b a c st) De).trans ((Del.perm (r:=prW a c st) De).cons _)) ?_
 refine xg (E3 Et Et Et) (G5 hg hp b a c st d _ 2 _ [⟨a6,c6,a0i g.cond⟩,⟨a38,c38,[A2 [83,75,73,80]]⟩] (H6 g.k g.name g.cond g.ch g.tg.l g.vl.l g.time) _ (Rd.ofPt rfl (by decide) Me) (B6 (Rd.inRow Me r6 p6 q6) (B6 (Rd.inRow Me r38 p38 q38) H8)) (by decide) (B6 (b1h _) (B6 (by simp) H8)) (by rw[e9];simp) (hT) hn) ?_
 rintro _ _ ⟨a40,c40,rfl⟩
 refine WL.nil (D0 [] (h'':=prB b a40 c40 (C5 st (d,H6 g.k g.name g.cond g.ch g.tg.l g.vl.l g.time))::prW a40 c40 (C5 st (d,H6 g.k g.name g.cond g.ch g.tg.l g.vl.l g.time))::.pt b4 (.cells (guE g).toArray 86 (0,0))::h) ?_ Su Sb ⟨a40,c40,by trivial,rfl,rfl⟩)
 exact Su
 replace c32:=G3 c32
 refine kQ2 [0,2,4,6,7,22,41] ?_
 refine wc (fun c41=>?_) fun c41=>?_
 replace c41:=G4 c41
 have e9:=H6.eq_1 g.k g.name g.cond g.ch g.tg.l g.vl.l g.time
 rw[if_neg c23,if_neg c32,if_pos c41] at e9
 refine kA5 ?_
 refine xg (E1 Et) (J4 hg g.ch _ (hO.ch.mono Sb)) ?_
 rintro _ _ ⟨a48,c48,_,rfl,rfl,rfl⟩
 refine xY N3 (EvP.cons Ev.const EvP.nil) fun b49=>?_
 refine xg (E1 Et) (C4 hg _ 1 _ [[63]] _ Rr (by decide) (by decide)) ?_
 rintro _ _ ⟨a50,c50,_,rfl,rfl,rfl⟩
 refine kA1 ?_
 refine xY K9 (EvP.cons Et (EvP.cons Et (EvP.cons Et (EvP.cons Et EvP.nil)))) fun b52=>?_
 refine A0 (a:=a6) Me fun p6 q6 r6=>?_
 refine A0 (a:=a48) Me fun p48 q48 r48=>?_
 refine A0 (a:=a50) Me fun p50 q50 r50=>?_
 refine A0 (a:=a20) Me fun p20 q20 r20=>?_
 refine WL.perm ((Del.perm (r:=prB b a c st) De).trans ((Del.perm (r:=prW a c st) De).cons _)) ?_
 refine xg (E3 Et Et Et) (G5 hg hp b a c st d _ 4 _ [⟨a6,c6,a0i g.cond⟩,⟨a48,c48,E7 g.ch⟩,⟨a50,c50,[A2 [63]]⟩,⟨a20,c20,D3 [59] E7 g.tg.l⟩] (H6 g.k g.name g.cond g.ch g.tg.l g.vl.l g.time) _ (Rd.ofPt rfl (by decide) Me) (B6 (Rd.inRow Me r6 p6 q6) (B6 (Rd.inRow Me r48 p48 q48) (B6 (Rd.inRow Me r50 p50 q50) (B6 (Rd.inRow Me r20 p20 q20) H8)))) (by decide) (B6 (b1h _) (B6 (Nat.le_trans (K7 _) (by decide)) (B6 (by simp) (B6 (Nat.le_trans (a6p [59] g.tg.l (by omega)) (by decide)) H8)))) (by rw[e9];simp) (hT) hn) ?_
 rintro _ _ ⟨a53,c53,rfl⟩
 refine WL.nil (D0 [] (h'':=prB b a53 c53 (C5 st (d,H6 g.k g.name g.cond g.ch g.tg.l g.vl.l g.time))::prW a53 c53 (C5 st (d,H6 g.k g.name g.cond g.ch g.tg.l g.vl.l g.time))::.pt b4 (.cells (guE g).toArray 86 (0,0))::h) ?_ Su Sb ⟨a53,c53,by trivial,rfl,rfl⟩)
 exact Su
 replace c41:=G3 c41
 refine kQ2 [0,2,4,6,7,22,54] ?_
 refine wc (fun c54=>?_) fun c54=>?_
 replace c54:=G4 c54
 have e9:=H6.eq_1 g.k g.name g.cond g.ch g.tg.l g.vl.l g.time
 rw[if_neg c23,if_neg c32,if_neg c41,if_pos c54] at e9
 refine jE ?_
 refine a09 [5,6,7,4096] (.op 0 (.op 1 (.op 2 (.op 3 (.op 4 (.op 8 (.op 9 (.op 5 (.op 6 (.op 7 .nil)))))))))) [10,11,12] _ [] D8 (fun _ _ _ h=>a0T h) [0,1,2] (by kernel_rfl) ?_
 refine kA7 ?_
 refine G8 rfl rfl Ev.func (E1 Et) (fun fr=>J4 hg g.ch _ (hO.ch.mono Sb)) Lb fun a61 c61=>?_
 refine SR.buildSlice rfl rfl N3 rfl (EvP.cons Ev.const (EvP.cons Ev.const EvP.nil)) rfl rfl (by decide) rfl Lb fun b62=>?_
 refine G8 rfl rfl Ev.func (E1 (Ev.tmp rfl)) (fun fr=>C4 hg _ 2 _ [[63],[65,70,84,69,82]] _ (Rd.fr Rr fr) (by decide) (by decide)) Lb fun a63 c63=>?_
 refine SR.nil rfl rfl ?_
 refine xg (E1 Et) (J4 hg g.time _ (hO.time.mono Sb)) ?_
 rintro _ _ ⟨a66,c66,_,rfl,rfl,rfl⟩
 refine xY K9 (EvP.cons Et (EvP.cons Et (EvP.cons Et (EvP.cons Et EvP.nil)))) fun b67=>?_
 refine A0 (a:=a6) Me fun p6 q6 r6=>?_
 refine A0 (a:=a61) Me fun p61 q61 r61=>?_
 refine A0 (a:=a63) Me fun p63 q63 r63=>?_
 refine A0 (a:=a66) Me fun p66 q66 r66=>?_
 refine WL.perm ((Del.perm (r:=prB b a c st) De).trans ((Del.perm (r:=prW a c st) De).cons _)) ?_
 refine xg (E3 Et Et Et) (G5 hg hp b a c st d _ 4 _ [⟨a6,c6,a0i g.cond⟩,⟨a61,c61,E7 g.ch⟩,⟨a63,c63,[A2 [63],A2 [65,70,84,69,82]]⟩,⟨a66,c66,E7 g.time⟩] (H6 g.k g.name g.cond g.ch g.tg.l g.vl.l g.time) _ (Rd.ofPt rfl (by decide) Me) (B6 (Rd.inRow Me r6 p6 q6) (B6 (Rd.inRow Me r61 p61 q61) (B6 (Rd.inRow Me r63 p63 q63) (B6 (Rd.inRow Me r66 p66 q66) H8)))) (by decide) (B6 (b1h _) (B6 (Nat.le_trans (K7 _) (by decide)) (B6 (by simp) (B6 (Nat.le_trans (K7 _) (by decide)) H8)))) (by rw[e9];simp) (hT) hn) ?_
 rintro _ _ ⟨a68,c68,rfl⟩
 refine WL.nil (D0 [] (h'':=prB b a68 c68 (C5 st (d,H6 g.k g.name g.cond g.ch g.tg.l g.vl.l g.time))::prW a68 c68 (C5 st (d,H6 g.k g.name g.cond g.ch g.tg.l g.vl.l g.time))::.pt b4 (.cells (guE g).toArray 86 (0,0))::h) ?_ Su Sb ⟨a68,c68,by trivial,rfl,rfl⟩)
 exact Su
 replace c54:=G3 c54
 refine kQ2 [0,2,4,7,22,69] ?_
 refine wc (fun c69=>?_) fun c69=>?_
 replace c69:=G4 c69
 have e9:=H6.eq_1 g.k g.name g.cond g.ch g.tg.l g.vl.l g.time
 rw[if_neg c23,if_neg c32,if_neg c41,if_neg c54,if_pos c69] at e9
 refine kA4 ?_
 refine xg (E3 Et Ev.const Ev.func) (a2u 60 E7 [44] _ _ _ g.vl.l _ (hO.vl.rd.mono (View.le.refl m) Sb) (by omega) (fun x _=>Nat.le_trans (K7 x) (by decide)) (fun x hx h2 hh=>J4 hg x h2 ((hO.vl.ok x hx).mono (List.Sublist.trans Sb hh)))) ?_
 rintro _ _ ⟨a75,c75,_,rfl,rfl,rfl⟩
 refine xY K9 (EvP.cons Et EvP.nil) fun b76=>?_
 refine A0 (a:=a75) Me fun p75 q75 r75=>?_
 refine WL.perm ((Del.perm (r:=prB b a c st) De).trans ((Del.perm (r:=prW a c st) De).cons _)) ?_
 refine xg (E3 Et Et Et) (G5 hg hp b a c st d _ 1 _ [⟨a75,c75,D3 [44] E7 g.vl.l⟩] (H6 g.k g.name g.cond g.ch g.tg.l g.vl.l g.time) _ (Rd.ofPt rfl (by decide) Me) (B6 (Rd.inRow Me r75 p75 q75) H8) (by decide) (B6 (a0c [44] g.vl.l (by omega)) H8) (by rw[e9];simp) (hT) hn) ?_
 rintro _ _ ⟨a77,c77,rfl⟩
 refine WL.nil (D0 [] (h'':=prB b a77 c77 (C5 st (d,H6 g.k g.name g.cond g.ch g.tg.l g.vl.l g.time))::prW a77 c77 (C5 st (d,H6 g.k g.name g.cond g.ch g.tg.l g.vl.l g.time))::.pt b4 (.cells (guE g).toArray 86 (0,0))::h) ?_ Su Sb ⟨a77,c77,by trivial,rfl,rfl⟩)
 exact Su
 replace c69:=G3 c69
 refine kQ2 [0,2,4,7,22,78] ?_
 refine wc (fun c78=>?_) fun c78=>?_
 replace c78:=G4 c78
 have e9:=H6.eq_1 g.k g.name g.cond g.ch g.tg.l g.vl.l g.time
 rw[if_neg c23,if_neg c32,if_neg c41,if_neg c54,if_neg c69,if_pos c78] at e9
 refine kA2 ?_
 refine xY N3 (EvP.cons Ev.const EvP.nil) fun b82=>?_
 refine xg (E1 Et) (C4 hg _ 1 _ [[69,76,83,69]] _ Rr (by decide) (by decide)) ?_
 rintro _ _ ⟨a83,c83,_,rfl,rfl,rfl⟩
 refine xY K9 (EvP.cons Et EvP.nil) fun b84=>?_
 refine A0 (a:=a83) Me fun p83 q83 r83=>?_
 refine WL.perm ((Del.perm (r:=prB b a c st) De).trans ((Del.perm (r:=prW a c st) De).cons _)) ?_
 refine xg (E3 Et Et Et) (G5 hg hp b a c st d _ 1 _ [⟨a83,c83,[A2 [69,76,83,69]]⟩] (H6 g.k g.name g.cond g.ch g.tg.l g.vl.l g.time) _ (Rd.ofPt rfl (by decide) Me) (B6 (Rd.inRow Me r83 p83 q83) H8) (by decide) (B6 (by simp) H8) (by rw[e9];simp) (hT) hn) ?_
 rintro _ _ ⟨a85,c85,rfl⟩
 refine WL.nil (D0 [] (h'':=prB b a85 c85 (C5 st (d,H6 g.k g.name g.cond g.ch g.tg.l g.vl.l g.time))::prW a85 c85 (C5 st (d,H6 g.k g.name g.cond g.ch g.tg.l g.vl.l g.time))::.pt b4 (.cells (guE g).toArray 86 (0,0))::h) ?_ Su Sb ⟨a85,c85,by trivial,rfl,rfl⟩)
 exact Su
 replace c78:=G3 c78
 refine kQ2 [0,2,4,7,86] ?_
 refine wc (fun c86=>?_) fun c86=>?_
 replace c86:=G4 c86
 have e9:=H6.eq_1 g.k g.name g.cond g.ch g.tg.l g.vl.l g.time
 rw[if_neg c23,if_neg c32,if_neg c41,if_neg c54,if_neg c69,if_neg c78] at e9
 refine kA4 ?_
 refine xg (E1 Et) (a1J g.name _ _) ?_
 rintro _ _ ⟨a92,c92,_,rfl,rfl,rfl⟩
 refine kA1 ?_
 refine A0 (a:=a20) Me fun p20 q20 r20=>?_
 refine xg (E2 Ev.const Et) (b1M hg [59] (by decide) _ _ _ (D3 [59] E7 g.tg.l) _ (Rd.inRow Me r20 p20 q20) (Nat.le_trans (a6p [59] g.tg.l (by omega)) (by decide))) ?_
 rintro _ _ ⟨a94,c94,_,rfl,rfl,rfl⟩
 refine xY K9 (EvP.cons Et (EvP.cons Et EvP.nil)) fun b95=>?_
 refine A0 (a:=a92) Me fun p92 q92 r92=>?_
 refine A0 (a:=a94) Me fun p94 q94 r94=>?_
 refine WL.perm ((Del.perm (r:=prB b a c st) De).trans ((Del.perm (r:=prW a c st) De).cons _)) ?_
 refine xg (E3 Et Et Et) (G5 hg hp b a c st d _ 2 _ [⟨a92,c92,[O3 g.name]⟩,⟨a94,c94,a2d [59] (D3 [59] E7 g.tg.l)⟩] (H6 g.k g.name g.cond g.ch g.tg.l g.vl.l g.time) _ (Rd.ofPt rfl (by decide) Me) (B6 (Rd.inRow Me r92 p92 q92) (B6 (Rd.inRow Me r94 p94 q94) H8)) (by decide) (B6 (by simp) (B6 (b4Z [59] (a6p [59] g.tg.l (by omega))) H8)) (by rw[e9];simp) (hT) hn) ?_
 rintro _ _ ⟨a96,c96,rfl⟩
 refine WL.nil (D0 [] (h'':=prB b a96 c96 (C5 st (d,H6 g.k g.name g.cond g.ch g.tg.l g.vl.l g.time))::prW a96 c96 (C5 st (d,H6 g.k g.name g.cond g.ch g.tg.l g.vl.l g.time))::.pt b4 (.cells (guE g).toArray 86 (0,0))::h) ?_ Su Sb ⟨a96,c96,by trivial,rfl,rfl⟩)
 exact Su
 replace c86:=G3 c86
 omega
 rintro _ _ ⟨a9,c9,hJ,rfl,rfl⟩
 refine B3 rfl ?_
 refine kA3 ?_
 refine xG (F4 Z9.und Z9.size Z9.posz (Ev.tmp rfl) Ev.const Rr rfl (q:=0) (by omega)) ?_
 refine kA3 ?_
 refine xg (E3 Et Et Et) (hy3 b a9 c9 (C5 st (d,H6 g.k g.name g.cond g.ch g.tg.l g.vl.l g.time)) (d+1) _ (hy1.mono Sb) hy2 (by omega) (S0 hn)) ?_
 rintro _ _ ⟨a104,c104,rfl⟩
 rw[← X7,← hlg]
 refine WL.nil (W1 (h':=prB b a104 c104 (B8 st (Y1 g d))::prW a104 c104 (B8 st (Y1 g d))::h) (.inr rfl) rfl  (View.le.refl m) Sb ?_)
 exact⟨a104,c104,rfl⟩
end Go.Proofs.YtkemgjnejlkkcaaGreatDoor
end
section
namespace Go.Proofs.YtkemgjnejlkkcaaGreatDoor
set_option maxRecDepth 100000
set_option maxHeartbeats 2000000
open Go.Eng Go.Pc Go.Sx Go
open Go.Xp hiding B D9
open Go.Ty (Ty Vr Tok eqT tyV J2 B4 B7 S1 zeroK M5 D6 encV E5 prL prV PrOk VOk mayPr hdV)
open Go.Lx (encB D1 textO)
open Go.Ly (Rw I6 C7)
theorem a7k {t:Ty}:TkL (K4 t):=by
 unfold K4 Go.Ty.tokens
 split
 · rename_i hm
   have hw:=b4L hm
   have hd:=Go.Ty.may_dim hm
   have h1:TkL (Go.Ty.dimT t):=by
     unfold Go.Ty.dimT
     refine N5 (a6I (a3a (p:=0) (by decide)) (a6I (fun x hx=>?_) (a3a (p:=0) (by decide)))) a0Y
     rw[List.mem_singleton] at hx
     subst hx
     exact⟨(show -2147483648≤t.dim∧t.dim≤2147483647 by omega),Nat.zero_le _⟩
   have h2:TkL (Go.Ty.chanT t):=N5 (a6I (a3a (p:=0) (by decide)) (a3a (p:=0) (by decide))) a0Y
   have h3:TkL [Go.Ty.lastT t]:=by
     unfold Go.Ty.lastT
     split
     · refine a3a (p:=0) ?_
       have:∀ k,(Go.Ty.wordS k).1.length≤10:=fun k=>by
         unfold Go.Ty.wordS Go.Ty.prims Go.Ty.wordIn Go.Ty.wordIn Go.Ty.wordIn Go.Ty.wordIn
         repeat' split
         all_goals decide
       exact Nat.le_trans (this _) (by decide)
     · split
       · exact a3a (p:=0) hw.p
       · exact a3a (p:=0) (by decide)
   exact G6 (G6 h1 h2) h3
 · exact a0Y
theorem c3F {f:Fo} (h:FoW f):TkL (Q0 f):=G6 (G6 (N5 (U4 (by decide)) a0Y) a7k) (a9B h.n)
theorem a6c {l:List B} (h:∀ x ∈ l,x.length≤Big):TkL (J0 l):=b2t (by decide) fun x hx=>a9B (h x hx)
theorem b8N {l:List Int}:TkL (D3 [59] a0G l):=b2t (by decide) fun _ _=>a7k
theorem a2x (l:List B) (h:l.length≤9):(J0 l).length≤30000:=by
 have h1:=a2y [44] (fun s=>[O3 s]) 1 l fun x _=>Nat.le_refl _
 unfold J0
 omega
theorem b0G (k:Int):(a0G k).length≤10:=a2C _
theorem a7N (sep:B) (l:List Int) (h:l.length≤9):(D3 sep a0G l).length≤25000:=by
 have h1:=a2y sep a0G 10 l fun x _=>b0G x
 omega
theorem a9F (f:Fo):(Q0 f).length≤20:=by
 unfold Q0
 have:=a2C f.ty
 rw[List.length_append,List.length_append]
 split <;> simp only[List.length_singleton,List.length_nil] <;> omega
theorem c0d (sep:B) (l:List Fo) (h:l.length≤9):(D3 sep Q0 l).length≤30000:=by
 have h1:=a2y sep Q0 20 l fun x _=>a9F x
 omega
theorem b8O {s:Sp} (h:spP s=true):(1≤s.k∧s.k≤5)∧s.names.l.length≤8∧(s.k=5→s.bl.length=1∧s.fs.l.length≤8)∧(s.k=4→mayPr s.cs s.vs.l=true):=by
 unfold spP at h
 split at h
 · rename_i hk
   simp only[Bool.and_eq_true] at h
   obtain⟨⟨h1,h2⟩,-⟩:=h
   have h3:=(U2 h2).2.2
   refine⟨hk,by split at h3 <;> omega,fun h5=>?_,fun h4=>?_⟩
   · unfold a2D at h1
     rw[if_neg (by omega),if_neg (by omega),if_neg (by omega),if_neg (by omega)] at h1
     simp only[Bool.and_eq_true,beq_iff_eq] at h1
     have:=(U2 h1.2).2.2
     exact⟨by omega,by omega⟩
   · unfold a2D at h1
     rw[if_neg (by omega),if_neg (by omega),if_neg (by omega),if_pos h4] at h1
     exact h1
 · cases h
theorem b6F {cs:Bool} {l:List Vr} (h:mayPr cs l=true):1≤l.length∧l.length≤16:=by
 unfold Go.Ty.mayPr at h
 cases cs with
 | false=>
   simp only[Bool.not_false,if_true,Bool.and_eq_true,beq_iff_eq] at h
   omega
 | true=>
   simp only[Bool.not_true,Bool.false_eq_true,if_false] at h
   split at h
   · cases h
   · rename_i q
     simp only[Bool.or_eq_true,decide_eq_true_eq] at q
     omega
theorem a9A:∀ {l pre:List Vr},Go.Ty.mayIn pre l=true→∀ v ∈ l,v.tag.length≤Big
 | [],_,_,v,hv=>by cases hv
 | w::r,pre,h,v,hv=>by
   unfold Go.Ty.mayIn at h
   split at h
   · cases h
   · rename_i q
     cases hv with
     | head=>
       unfold Go.Ty.badV at q
       simp only[Bool.or_eq_true,Bool.not_eq_true',not_or,Bool.not_eq_false] at q
       have q1:=q.1.1
       unfold Go.Lx.name at q1
       simp only[Bool.and_eq_true,decide_eq_true_eq] at q1
       have q2:=q1.1.1.1.2
       unfold Big
       omega
     | tail _ hv=>exact a9A h v hv
theorem b6e {cs:Bool} {l:List Vr} (h:mayPr cs l=true):∀ v ∈ l,v.tag.length≤Big:=by
 unfold Go.Ty.mayPr at h
 cases cs with
 | false=>
   simp only[Bool.not_false,if_true,Bool.and_eq_true,beq_iff_eq] at h
   intro v hv
   match l,h.1.1,h.1.2,hv with
   | [w],_,h2,hv=>
     have:v=w:=by simpa using hv
     subst this
     have h3:v.tag=[]:=h2
     rw[h3]
     exact Nat.zero_le _
 | true=>
   simp only[Bool.not_true,Bool.false_eq_true,if_false] at h
   split at h
   · cases h
   · exact a9A h
theorem b6H (s:Sp) (d:Int):K3 s d=if s.k=1 then [(d,(K4 s.ty++J0 s.names.l)++[A2 [58]])]
   else if s.k=2 then [(d,(((([A2 [86,65,76]]++K4 s.ty)++J0 s.names.l)++[A2 [73,83]])++E7 s.e)++[A2 [58]])]
   else if s.k=3 then [(d,(((K4 s.ty++J0 s.names.l)++[A2 [73,83]])++E7 s.e)++[A2 [58]])]
   else if s.k=5 then (d,((([A2 [80,82,79,67]]++J0 s.names.l)++[A2 [40]])++D3 [44] Q0 s.fs.l)++[A2 [41]])::(a1K s.bl (d+1)++[(d,[A2 [58]])])
   else if s.cs=false then [(d,((([A2 [80,82,79,84,79,67,79,76]]++J0 s.names.l)++[A2 [73,83]])++D3 [59] a0G (hdV s.vs.l).items)++[A2 [58]])]
   else (d,[A2 [80,82,79,84,79,67,79,76]]++J0 s.names.l)::(d+1,[A2 [67,65,83,69]])::(s.vs.l.map (fun v=>((d+2,J7 v):Ln))++[(d,[A2 [58]])]):=by cases s;rfl
theorem c4A {l:List Vr} (h:1≤l.length):l[0]?=some (hdV l):=by cases l with | nil=>simp at h | cons v l=>rfl
theorem b3J (st:Ps) (l:List Ln) (x:Ln):C5 (B8 st l) x=B8 st (l++[x]):=by rw[Z0];rfl
set_option maxHeartbeats 4000000 in
theorem b9f {m:View} (hg:Glob m) (hp:Pow m) (s:Sp) (b:Nat) (a:Option Addr) (c:Nat) (st:Ps) (d:Int) (h:List Res) (hO:SOk m h s) (hu:spP s=true) (hS:∀ x ∈ s.bl,POk m h x∧Vld x∧PRC m x∧d+1+2 * (N8 x:Int)≤100000) (hd:0≤d∧d≤100000) (hn:st.1.length≤2049) :
   CT Tryz.prog 39 [ptV b,spV s,.int .i64 d] (prB b a c st::prW a c st::h) m (fun _ _ h'=>PrR b h (B8 st (K3 s d)) h'):=by
 obtain⟨hk,hnl,h5,h4⟩:=b8O hu
 have hty:s.ty.proto.length≤9223372036854775807:=Nat.le_trans hO.ty.p (by decide)
 have hls:=b6H s d
 have hfw:=hO.fw
 refine CT.body Tryz.call39 Tryz.func39 rfl Tryz.ntmps39 Lb rfl ?_
 refine j0 ?_
 refine xX fun b4=>?_
 refine kQ0 [0,2,4] ?_
 refine kA2 ?_
 refine xg (E3 Et Ev.const Ev.func) (b6U 58 (fun s=>[O3 s]) [44] _ _ _ s.names.l _ (hO.nr.mono (View.le.refl m) Sb) (by omega) (fun _ _=>(by decide:1≤3000)) (fun x _ h2 _=>a1J x h2 m)) ?_
 rintro _ _ ⟨a11,c11,_,rfl,rfl,rfl⟩
 refine kQ1 [0,2,4,6] ?_
 refine kQ2 [0,2,4,6,13] ?_
 refine kQ2 [0,2,4,6,13,14] ?_
 refine wc (fun c14=>?_) fun c14=>?_
 replace c14:=G4 c14
 obtain⟨T1,hT1⟩:∃ T,T=(K4 s.ty++J0 s.names.l)++[A2 [58]]:=⟨_,rfl⟩
 rw[if_pos c14,← hT1] at hls
 refine kA4 ?_
 refine xg (E1 Et) (a1g hg s.ty _ hty) ?_
 rintro _ _ ⟨a20,c20,_,rfl,rfl,rfl⟩
 refine kA1 ?_
 refine xY N3 (EvP.cons Ev.const EvP.nil) fun b22=>?_
 refine xg (E1 Et) (C4 hg _ 1 _ [[58]] _ Rr (by decide) (by decide)) ?_
 rintro _ _ ⟨a23,c23,_,rfl,rfl,rfl⟩
 refine xY K9 (EvP.cons Et (EvP.cons Et (EvP.cons Et EvP.nil))) fun b24=>?_
 refine A0 (a:=a20) Me fun p20 q20 r20=>?_
 refine A0 (a:=a11) Me fun p11 q11 r11=>?_
 refine A0 (a:=a23) Me fun p23 q23 r23=>?_
 refine WL.perm ((Del.perm (r:=prB b a c st) De).trans ((Del.perm (r:=prW a c st) De).cons _)) ?_
 refine xg (E3 Et Et Et) (G5 hg hp b a c st d _ 3 _ [⟨a20,c20,K4 s.ty⟩,⟨a11,c11,J0 s.names.l⟩,⟨a23,c23,[A2 [58]]⟩] (T1) _ (Rd.ofPt rfl (by decide) Me) (B6 (Rd.inRow Me r20 p20 q20) (B6 (Rd.inRow Me r11 p11 q11) (B6 (Rd.inRow Me r23 p23 q23) H8))) (by decide) (B6 (Nat.le_trans (a2C _) (by decide)) (B6 (a2x s.names.l (by omega)) (B6 (by simp) H8))) (by rw[hT1];simp) (by rw[hT1];exact G6 (G6 a7k (a6c hO.nw)) (U4 (by decide))) hn) ?_
 rintro _ _ ⟨a25,c25,rfl⟩
 rw[show C5 st (d,T1)=B8 st (K3 s d) by rw[hls];rfl]
 refine WL.nil (W1 (h':=prB b a25 c25 (B8 st (K3 s d))::prW a25 c25 (B8 st (K3 s d))::h) (.inr rfl) rfl  (View.le.refl m) Sb ?_)
 exact⟨a25,c25,rfl⟩
 replace c14:=G3 c14
 refine kQ2 [0,2,4,6,13,26] ?_
 refine wc (fun c26=>?_) fun c26=>?_
 replace c26:=G4 c26
 obtain⟨T2,hT2⟩:∃ T,T=(((([A2 [86,65,76]]++K4 s.ty)++J0 s.names.l)++[A2 [73,83]])++E7 s.e)++[A2 [58]]:=⟨_,rfl⟩
 rw[if_neg c14,if_pos c26,← hT2] at hls
 refine jE ?_
 refine a09 [2,3,6,8,9,12,13,4096] (.op 0 (.op 1 (.op 4 (.op 5 (.op 7 (.op 10 (.op 11 (.op 2 (.op 3 (.op 6 (.op 8 (.op 9 (.op 12 (.op 13 .nil)))))))))))))) [14,15,16] _ [] D8 (fun _ _ _ h=>a0T h) [0,1,7] (by kernel_rfl) ?_
 refine kA7 ?_
 refine SR.buildSlice rfl rfl N3 rfl (EvP.cons Ev.const EvP.nil) rfl rfl (by decide) rfl Lb fun b30=>?_
 refine G8 rfl rfl Ev.func (E1 (Ev.tmp rfl)) (fun fr=>C4 hg _ 1 _ [[86,65,76]] _ (Rd.fr Rr fr) (by decide) (by decide)) Lb fun a31 c31=>?_
 refine G8 rfl rfl Ev.func (E1 Et) (fun fr=>a1g hg s.ty _ hty) Lb fun a34 c34=>?_
 refine SR.buildSlice rfl rfl N3 rfl (EvP.cons Ev.const EvP.nil) rfl rfl (by decide) rfl Lb fun b36=>?_
 refine G8 rfl rfl Ev.func (E1 (Ev.tmp rfl)) (fun fr=>C4 hg _ 1 _ [[73,83]] _ (Rd.fr Rr fr) (by decide) (by decide)) Lb fun a37 c37=>?_
 refine G8 rfl rfl Ev.func (E1 Et) (fun fr=>J4 hg s.e _ (hO.e.mono Sb)) Lb fun a40 c40=>?_
 refine SR.buildSlice rfl rfl N3 rfl (EvP.cons Ev.const EvP.nil) rfl rfl (by decide) rfl Lb fun b41=>?_
 refine SR.nil rfl rfl ?_
 refine xg (E1 Et) (C4 hg _ 1 _ [[58]] _ Rr (by decide) (by decide)) ?_
 rintro _ _ ⟨a42,c42,_,rfl,rfl,rfl⟩
 refine xY K9 (EvP.cons Et (EvP.cons Et (EvP.cons Et (EvP.cons Et (EvP.cons Et (EvP.cons Et EvP.nil)))))) fun b43=>?_
 refine A0 (a:=a31) Me fun p31 q31 r31=>?_
 refine A0 (a:=a34) Me fun p34 q34 r34=>?_
 refine A0 (a:=a11) Me fun p11 q11 r11=>?_
 refine A0 (a:=a37) Me fun p37 q37 r37=>?_
 refine A0 (a:=a40) Me fun p40 q40 r40=>?_
 refine A0 (a:=a42) Me fun p42 q42 r42=>?_
 refine WL.perm ((Del.perm (r:=prB b a c st) De).trans ((Del.perm (r:=prW a c st) De).cons _)) ?_
 refine xg (E3 Et Et Et) (G5 hg hp b a c st d _ 6 _ [⟨a31,c31,[A2 [86,65,76]]⟩,⟨a34,c34,K4 s.ty⟩,⟨a11,c11,J0 s.names.l⟩,⟨a37,c37,[A2 [73,83]]⟩,⟨a40,c40,E7 s.e⟩,⟨a42,c42,[A2 [58]]⟩] (T2) _ (Rd.ofPt rfl (by decide) Me) (B6 (Rd.inRow Me r31 p31 q31) (B6 (Rd.inRow Me r34 p34 q34) (B6 (Rd.inRow Me r11 p11 q11) (B6 (Rd.inRow Me r37 p37 q37) (B6 (Rd.inRow Me r40 p40 q40) (B6 (Rd.inRow Me r42 p42 q42) H8)))))) (by decide) (B6 (by simp) (B6 (Nat.le_trans (a2C _) (by decide)) (B6 (a2x s.names.l (by omega)) (B6 (by simp) (B6 (Nat.le_trans (K7 _) (by decide)) (B6 (by simp) H8)))))) (by rw[hT2];simp) (by rw[hT2];exact G6 (G6 (G6 (G6 (G6 (U4 (by decide)) a7k) (a6c hO.nw)) (U4 (by decide))) (a1Z hO.e)) (U4 (by decide))) hn) ?_
 rintro _ _ ⟨a44,c44,rfl⟩
 rw[show C5 st (d,T2)=B8 st (K3 s d) by rw[hls];rfl]
 refine WL.nil (W1 (h':=prB b a44 c44 (B8 st (K3 s d))::prW a44 c44 (B8 st (K3 s d))::h) (.inr rfl) rfl  (View.le.refl m) Sb ?_)
 exact⟨a44,c44,rfl⟩
 replace c26:=G3 c26
 refine kQ2 [0,2,4,6,13,45] ?_
 refine wc (fun c45=>?_) fun c45=>?_
 replace c45:=G4 c45
 obtain⟨T3,hT3⟩:∃ T,T=(((K4 s.ty++J0 s.names.l)++[A2 [73,83]])++E7 s.e)++[A2 [58]]:=⟨_,rfl⟩
 rw[if_neg c14,if_neg c26,if_pos c45,← hT3] at hls
 refine jE ?_
 refine a09 [4,6,7,10,11,4096] (.op 0 (.op 1 (.op 2 (.op 3 (.op 5 (.op 8 (.op 9 (.op 4 (.op 6 (.op 7 (.op 10 (.op 11 .nil)))))))))))) [12,13,14] _ [] D8 (fun _ _ _ h=>a0T h) [0,1,5] (by kernel_rfl) ?_
 refine kA7 ?_
 refine G8 rfl rfl Ev.func (E1 Et) (fun fr=>a1g hg s.ty _ hty) Lb fun a51 c51=>?_
 refine SR.buildSlice rfl rfl N3 rfl (EvP.cons Ev.const EvP.nil) rfl rfl (by decide) rfl Lb fun b53=>?_
 refine G8 rfl rfl Ev.func (E1 (Ev.tmp rfl)) (fun fr=>C4 hg _ 1 _ [[73,83]] _ (Rd.fr Rr fr) (by decide) (by decide)) Lb fun a54 c54=>?_
 refine G8 rfl rfl Ev.func (E1 Et) (fun fr=>J4 hg s.e _ (hO.e.mono Sb)) Lb fun a57 c57=>?_
 refine SR.buildSlice rfl rfl N3 rfl (EvP.cons Ev.const EvP.nil) rfl rfl (by decide) rfl Lb fun b58=>?_
 refine SR.nil rfl rfl ?_
 refine xg (E1 Et) (C4 hg _ 1 _ [[58]] _ Rr (by decide) (by decide)) ?_
 rintro _ _ ⟨a59,c59,_,rfl,rfl,rfl⟩
 refine xY K9 (EvP.cons Et (EvP.cons Et (EvP.cons Et (EvP.cons Et (EvP.cons Et EvP.nil))))) fun b60=>?_
 refine A0 (a:=a51) Me fun p51 q51 r51=>?_
 refine A0 (a:=a11) Me fun p11 q11 r11=>?_
 refine A0 (a:=a54) Me fun p54 q54 r54=>?_
 refine A0 (a:=a57) Me fun p57 q57 r57=>?_
 refine A0 (a:=a59) Me fun p59 q59 r59=>?_
 refine WL.perm ((Del.perm (r:=prB b a c st) De).trans ((Del.perm (r:=prW a c st) De).cons _)) ?_
 refine xg (E3 Et Et Et) (G5 hg hp b a c st d _ 5 _ [⟨a51,c51,K4 s.ty⟩,⟨a11,c11,J0 s.names.l⟩,⟨a54,c54,[A2 [73,83]]⟩,⟨a57,c57,E7 s.e⟩,⟨a59,c59,[A2 [58]]⟩] (T3) _ (Rd.ofPt rfl (by decide) Me) (B6 (Rd.inRow Me r51 p51 q51) (B6 (Rd.inRow Me r11 p11 q11) (B6 (Rd.inRow Me r54 p54 q54) (B6 (Rd.inRow Me r57 p57 q57) (B6 (Rd.inRow Me r59 p59 q59) H8))))) (by decide) (B6 (Nat.le_trans (a2C _) (by decide)) (B6 (a2x s.names.l (by omega)) (B6 (by simp) (B6 (Nat.le_trans (K7 _) (by decide)) (B6 (by simp) H8))))) (by rw[hT3];simp) (by rw[hT3];exact G6 (G6 (G6 (G6 a7k (a6c hO.nw)) (U4 (by decide))) (a1Z hO.e)) (U4 (by decide))) hn) ?_
 rintro _ _ ⟨a61,c61,rfl⟩
 rw[show C5 st (d,T3)=B8 st (K3 s d) by rw[hls];rfl]
 refine WL.nil (W1 (h':=prB b a61 c61 (B8 st (K3 s d))::prW a61 c61 (B8 st (K3 s d))::h) (.inr rfl) rfl  (View.le.refl m) Sb ?_)
 exact⟨a61,c61,rfl⟩
 replace c45:=G3 c45
 refine kQ2 [0,2,4,6,13,62] ?_
 refine wc (fun c62=>?_) fun c62=>?_
 replace c62:=G4 c62
 obtain⟨T5,hT5⟩:∃ T,T=((([A2 [80,82,79,67]]++J0 s.names.l)++[A2 [40]])++D3 [44] Q0 s.fs.l)++[A2 [41]]:=⟨_,rfl⟩
 rw[if_neg c14,if_neg c26,if_neg c45,if_pos c62,← hT5] at hls
 obtain⟨hbl,hfl⟩:=h5 c62
 obtain⟨y,hy⟩:=A5 (l:=s.bl) (k:=0) (by omega)
 obtain⟨hy1,hy2,hy3,hy4⟩:=hS y (List.mem_of_getElem? hy)
 have hrb:=hO.b
 have hcy:=a5u y
 have hbe:s.bl=[y]:=by
   cases hb:s.bl with
   | nil=>rw[hb] at hy;cases hy
   | cons z r=>
     rw[hb] at hy hbl
     cases hy
     cases r with
     | nil=>rfl
     | cons u v=>simp at hbl
 refine jE ?_
 refine a09 [2,3,5,6,9,10,4096] (.op 0 (.op 1 (.op 4 (.op 7 (.op 8 (.op 2 (.op 3 (.op 5 (.op 6 (.op 9 (.op 10 .nil))))))))))) [11,12,13] _ [] D8 (fun _ _ _ h=>a0T h) [0,1,4] (by kernel_rfl) ?_
 refine kA5 ?_
 refine SR.buildSlice rfl rfl N3 rfl (EvP.cons Ev.const EvP.nil) rfl rfl (by decide) rfl Lb fun b66=>?_
 refine G8 rfl rfl Ev.func (E1 (Ev.tmp rfl)) (fun fr=>C4 hg _ 1 _ [[80,82,79,67]] _ (Rd.fr Rr fr) (by decide) (by decide)) Lb fun a67 c67=>?_
 refine SR.buildSlice rfl rfl N3 rfl (EvP.cons Ev.const EvP.nil) rfl rfl (by decide) rfl Lb fun b69=>?_
 refine G8 rfl rfl Ev.func (E1 (Ev.tmp rfl)) (fun fr=>C4 hg _ 1 _ [[40]] _ (Rd.fr Rr fr) (by decide) (by decide)) Lb fun a70 c70=>?_
 refine G8 rfl rfl Ev.func (E3 Et Ev.const Ev.func) (fun fr=>b7a 62 Q0 [44] _ _ _ s.fs.l _ (hO.fr.mono (View.le.refl m) Sb) (by omega) (fun x _=>Nat.le_trans (a9F x) (by decide)) (fun x hx h2 _=>b3F hg x h2 (hO.fw x hx))) Lb fun a73 c73=>?_
 refine SR.buildSlice rfl rfl N3 rfl (EvP.cons Ev.const EvP.nil) rfl rfl (by decide) rfl Lb fun b74=>?_
 refine SR.nil rfl rfl ?_
 refine xg (E1 Et) (C4 hg _ 1 _ [[41]] _ Rr (by decide) (by decide)) ?_
 rintro _ _ ⟨a75,c75,_,rfl,rfl,rfl⟩
 refine xY K9 (EvP.cons Et (EvP.cons Et (EvP.cons Et (EvP.cons Et (EvP.cons Et EvP.nil))))) fun b76=>?_
 refine A0 (a:=a67) Me fun p67 q67 r67=>?_
 refine A0 (a:=a11) Me fun p11 q11 r11=>?_
 refine A0 (a:=a70) Me fun p70 q70 r70=>?_
 refine A0 (a:=a73) Me fun p73 q73 r73=>?_
 refine A0 (a:=a75) Me fun p75 q75 r75=>?_
 refine WL.perm ((Del.perm (r:=prB b a c st) De).trans ((Del.perm (r:=prW a c st) De).cons _)) ?_
 refine xg (E3 Et Et Et) (G5 hg hp b a c st d _ 5 _ [⟨a67,c67,[A2 [80,82,79,67]]⟩,⟨a11,c11,J0 s.names.l⟩,⟨a70,c70,[A2 [40]]⟩,⟨a73,c73,D3 [44] Q0 s.fs.l⟩,⟨a75,c75,[A2 [41]]⟩] (T5) _ (Rd.ofPt rfl (by decide) Me) (B6 (Rd.inRow Me r67 p67 q67) (B6 (Rd.inRow Me r11 p11 q11) (B6 (Rd.inRow Me r70 p70 q70) (B6 (Rd.inRow Me r73 p73 q73) (B6 (Rd.inRow Me r75 p75 q75) H8))))) (by decide) (B6 (by simp) (B6 (a2x s.names.l (by omega)) (B6 (by simp) (B6 (c0d [44] s.fs.l (by omega)) (B6 (by simp) H8))))) (by rw[hT5];simp) (by rw[hT5];exact G6 (G6 (G6 (G6 (U4 (by decide)) (a6c hO.nw)) (U4 (by decide))) (b2t (by decide) fun x hx=>c3F (hO.fw x hx))) (U4 (by decide))) hn) ?_
 rintro _ _ ⟨a77,c77,rfl⟩
 refine kQ0 [0,2,4] ?_
 refine kA3 ?_
 refine xG (F4 Z9.und Z9.size Z9.posz (Ev.tmp rfl) Ev.const Rr rfl (q:=0) (by omega)) ?_
 refine kA3 ?_
 refine WL.perm ((Del.perm (r:=prB b a77 c77 (C5 st (d,T5))) De).trans ((Del.perm (r:=prW a77 c77 (C5 st (d,T5))) De).cons _)) ?_
 refine xg (E3 Et Et Et) (hy3 b a77 c77 (C5 st (d,T5)) (d+1) _ (hy1.mono Sb) hy2 (by omega) (S0 hn)) ?_
 rintro _ _ ⟨a85,c85,rfl⟩
 refine kQ0 [0,2] ?_
 refine kA2 ?_
 refine xY N3 (EvP.cons Ev.const EvP.nil) fun b88=>?_
 refine xg (E1 Et) (C4 hg _ 1 _ [[58]] _ Rr (by decide) (by decide)) ?_
 rintro _ _ ⟨a89,c89,_,rfl,rfl,rfl⟩
 refine xY K9 (EvP.cons Et EvP.nil) fun b90=>?_
 refine A0 (a:=a89) Me fun p89 q89 r89=>?_
 refine WL.perm ((Del.perm (r:=prB b a85 c85 (B8 (C5 st (d,T5)) (H5 y (d+1)))) De).trans ((Del.perm (r:=prW a85 c85 (B8 (C5 st (d,T5)) (H5 y (d+1)))) De).cons _)) ?_
 refine xg (E3 Et Et Et) (G5 hg hp b a85 c85 (B8 (C5 st (d,T5)) (H5 y (d+1))) d _ 1 _ [⟨a89,c89,[A2 [58]]⟩] ([A2 [58]]) _ (Rd.ofPt rfl (by decide) Me) (B6 (Rd.inRow Me r89 p89 q89) H8) (by decide) (B6 (by simp) H8) (by simp) ((U4 (by decide))) (Z6 _ (S0 hn))) ?_
 rintro _ _ ⟨a91,c91,rfl⟩
 rw[show C5 (B8 (C5 st (d,T5)) (H5 y (d+1))) (d,[A2 [58]])=B8 st (K3 s d) by rw[hls,X7,Z0,hbe];rfl]
 refine WL.nil (W1 (h':=prB b a91 c91 (B8 st (K3 s d))::prW a91 c91 (B8 st (K3 s d))::h) (.inr rfl) rfl  (View.le.refl m) Sb ?_)
 exact⟨a91,c91,rfl⟩
 replace c62:=G3 c62
 refine kQ2 [0,2,4,6,92] ?_
 refine wc (fun c92=>?_) fun c92=>?_
 replace c92:=G4 c92
 have hm:=h4 c92
 obtain⟨hv1,hv2⟩:=b6F hm
 have hv3:=Go.Ty.mayPr_items hm
 have hvg:=b6e hm
 have hg0:=c4A hv1
 have hgm:=List.mem_of_getElem? hg0
 have hvr:=hO.v.rd
 have hvi:=(hO.v.ok _ hgm).rd
 have hvn:=hO.vw _ hgm
 have hv3h:=hv3 _ hgm
 rw[if_neg c14,if_neg c26,if_neg c45,if_neg c62] at hls
 refine kQ4 [0,2,4,6,97] ?_
 refine wc (fun c97=>?_) fun c97=>?_
 have d97:s.cs=false:=by simpa using c97
 obtain⟨T4,hT4⟩:∃ T,T=((([A2 [80,82,79,84,79,67,79,76]]++J0 s.names.l)++[A2 [73,83]])++D3 [59] a0G (hdV s.vs.l).items)++[A2 [58]]:=⟨_,rfl⟩
 rw[if_pos d97,← hT4] at hls
 refine jE ?_
 refine a09 [2,3,5,6,13,14,4096] (.op 0 (.op 1 (.op 4 (.op 7 (.op 8 (.op 9 (.op 10 (.op 11 (.op 12 (.op 2 (.op 3 (.op 5 (.op 6 (.op 13 (.op 14 .nil))))))))))))))) [15,16,17] _ [] D8 (fun _ _ _ h=>a0T h) [0,1,4] (by kernel_rfl) ?_
 refine kA6 ?_
 refine yG rfl (F4 a2q.und a2q.size a2q.posz (Ev.tmp rfl) Ev.const Rr rfl (q:=0) (by omega)) ?_
 refine kA2 ?_
 refine SR.buildSlice rfl rfl N3 rfl (EvP.cons Ev.const EvP.nil) rfl rfl (by decide) rfl Lb fun b100=>?_
 refine G8 rfl rfl Ev.func (E1 (Ev.tmp rfl)) (fun fr=>C4 hg _ 1 _ [[80,82,79,84,79,67,79,76]] _ (Rd.fr Rr fr) (by decide) (by decide)) Lb fun a101 c101=>?_
 refine SR.buildSlice rfl rfl N3 rfl (EvP.cons Ev.const EvP.nil) rfl rfl (by decide) rfl Lb fun b103=>?_
 refine G8 rfl rfl Ev.func (E1 (Ev.tmp rfl)) (fun fr=>C4 hg _ 1 _ [[73,83]] _ (Rd.fr Rr fr) (by decide) (by decide)) Lb fun a104 c104=>?_
 refine G8 rfl rfl Ev.func (E3 Et Ev.const Ev.func) (fun fr=>a9V 64 a0G [59] _ _ _ (hdV s.vs.l).items _ (hvi.mono (View.le.refl m) Sb) (by omega) (fun x _=>Nat.le_trans (b0G x) (by decide)) (fun x _ h2 _=>b2U hg x h2)) Lb fun a111 c111=>?_
 refine SR.buildSlice rfl rfl N3 rfl (EvP.cons Ev.const EvP.nil) rfl rfl (by decide) rfl Lb fun b112=>?_
 refine SR.nil rfl rfl ?_
 refine xg (E1 Et) (C4 hg _ 1 _ [[58]] _ Rr (by decide) (by decide)) ?_
 rintro _ _ ⟨a113,c113,_,rfl,rfl,rfl⟩
 refine xY K9 (EvP.cons Et (EvP.cons Et (EvP.cons Et (EvP.cons Et (EvP.cons Et EvP.nil))))) fun b114=>?_
 refine A0 (a:=a101) Me fun p101 q101 r101=>?_
 refine A0 (a:=a11) Me fun p11 q11 r11=>?_
 refine A0 (a:=a104) Me fun p104 q104 r104=>?_
 refine A0 (a:=a111) Me fun p111 q111 r111=>?_
 refine A0 (a:=a113) Me fun p113 q113 r113=>?_
 refine WL.perm ((Del.perm (r:=prB b a c st) De).trans ((Del.perm (r:=prW a c st) De).cons _)) ?_
 refine xg (E3 Et Et Et) (G5 hg hp b a c st d _ 5 _ [⟨a101,c101,[A2 [80,82,79,84,79,67,79,76]]⟩,⟨a11,c11,J0 s.names.l⟩,⟨a104,c104,[A2 [73,83]]⟩,⟨a111,c111,D3 [59] a0G (hdV s.vs.l).items⟩,⟨a113,c113,[A2 [58]]⟩] (T4) _ (Rd.ofPt rfl (by decide) Me) (B6 (Rd.inRow Me r101 p101 q101) (B6 (Rd.inRow Me r11 p11 q11) (B6 (Rd.inRow Me r104 p104 q104) (B6 (Rd.inRow Me r111 p111 q111) (B6 (Rd.inRow Me r113 p113 q113) H8))))) (by decide) (B6 (by simp) (B6 (a2x s.names.l (by omega)) (B6 (by simp) (B6 (Nat.le_trans (a7N [59] (hdV s.vs.l).items (by omega)) (by decide)) (B6 (by simp) H8))))) (by rw[hT4];simp) (by rw[hT4];exact G6 (G6 (G6 (G6 (U4 (by decide)) (a6c hO.nw)) (U4 (by decide))) b8N) (U4 (by decide))) hn) ?_
 rintro _ _ ⟨a115,c115,rfl⟩
 rw[show C5 st (d,T4)=B8 st (K3 s d) by rw[hls];rfl]
 refine kQ0 [] ?_
 refine WC.ret (W1 (h':=prB b a115 c115 (B8 st (K3 s d))::prW a115 c115 (B8 st (K3 s d))::h) (.inl rfl) rfl  (View.le.refl m) Sb ?_)
 exact⟨a115,c115,rfl⟩
 have d97:¬ (s.cs=false):=by simpa using c97
 obtain⟨T6,hT6⟩:∃ T,T=[A2 [80,82,79,84,79,67,79,76]]++J0 s.names.l:=⟨_,rfl⟩
 rw[if_neg d97,← hT6] at hls
 refine kQ0 [0,2,4,6] ?_
 refine kA2 ?_
 refine xY N3 (EvP.cons Ev.const EvP.nil) fun b118=>?_
 refine xg (E1 Et) (C4 hg _ 1 _ [[80,82,79,84,79,67,79,76]] _ Rr (by decide) (by decide)) ?_
 rintro _ _ ⟨a119,c119,_,rfl,rfl,rfl⟩
 refine kA1 ?_
 refine xY K9 (EvP.cons Et (EvP.cons Et EvP.nil)) fun b121=>?_
 refine A0 (a:=a119) Me fun p119 q119 r119=>?_
 refine A0 (a:=a11) Me fun p11 q11 r11=>?_
 refine WL.perm ((Del.perm (r:=prB b a c st) De).trans ((Del.perm (r:=prW a c st) De).cons _)) ?_
 refine xg (E3 Et Et Et) (G5 hg hp b a c st d _ 2 _ [⟨a119,c119,[A2 [80,82,79,84,79,67,79,76]]⟩,⟨a11,c11,J0 s.names.l⟩] (T6) _ (Rd.ofPt rfl (by decide) Me) (B6 (Rd.inRow Me r119 p119 q119) (B6 (Rd.inRow Me r11 p11 q11) H8)) (by decide) (B6 (by simp) (B6 (a2x s.names.l (by omega)) H8)) (by rw[hT6];simp) (by rw[hT6];exact G6 (U4 (by decide)) (a6c hO.nw)) hn) ?_
 rintro _ _ ⟨a122,c122,rfl⟩
 refine kQ0 [0,2,4] ?_
 refine kA3 ?_
 refine xY N3 (EvP.cons Ev.const EvP.nil) fun b126=>?_
 refine xg (E1 Et) (C4 hg _ 1 _ [[67,65,83,69]] _ Rr (by decide) (by decide)) ?_
 rintro _ _ ⟨a127,c127,_,rfl,rfl,rfl⟩
 refine xY K9 (EvP.cons Et EvP.nil) fun b128=>?_
 refine A0 (a:=a127) Me fun p127 q127 r127=>?_
 refine WL.perm ((Del.perm (r:=prB b a122 c122 (C5 st (d,T6))) De).trans ((Del.perm (r:=prW a122 c122 (C5 st (d,T6))) De).cons _)) ?_
 refine xg (E3 Et Et Et) (G5 hg hp b a122 c122 (C5 st (d,T6)) (d+1) _ 1 _ [⟨a127,c127,[A2 [67,65,83,69]]⟩] ([A2 [67,65,83,69]]) _ (Rd.ofPt rfl (by decide) Me) (B6 (Rd.inRow Me r127 p127 q127) H8) (by decide) (B6 (by simp) H8) (by simp) ((U4 (by decide))) (S0 hn)) ?_
 rintro _ _ ⟨a129,c129,rfl⟩
 refine kQ0 [0,2,4] ?_
 refine kQ5 [0,2,132,133,134] ?_
 refine B1 [0,2,132,133] rfl (fun μ F' h'=>∃ a9:Option Addr,∃ c9:Nat,∃ j:Nat,(j≤s.vs.l.length)∧s.vs.l.length - j=μ∧F'=[(134,.int .i64 j)]∧prB b a9 c9 (B8 (C5 (C5 st (d,T6)) (d+1,[A2 [67,65,83,69]])) ((s.vs.l.take j).map fun v=>((d+2,J7 v):Ln)))::prW a9 c9 (B8 (C5 (C5 st (d,T6)) (d+1,[A2 [67,65,83,69]])) ((s.vs.l.take j).map fun v=>((d+2,J7 v):Ln)))::h=h') (s.vs.l.length - 0) [(134,.int .i64 0)] (h0:=prB b a129 c129 (B8 (C5 (C5 st (d,T6)) (d+1,[A2 [67,65,83,69]])) ((s.vs.l.take 0).map fun v=>((d+2,J7 v):Ln)))::prW a129 c129 (B8 (C5 (C5 st (d,T6)) (d+1,[A2 [67,65,83,69]])) ((s.vs.l.take 0).map fun v=>((d+2,J7 v):Ln)))::h) ?_ Sb ⟨a129,c129,0,Nat.zero_le _,rfl,rfl,rfl⟩ ?_
 exact Su
 rintro _ _ _ ⟨a9,c9,j,hj,rfl,rfl,rfl⟩
 refine B3 rfl ?_
 refine kQ1 [0,2,132,133,134,135] ?_
 refine wc (fun c135=>?_) fun c135=>?_
 replace c135:=dT c135
 obtain⟨v,hv⟩:=A5 (l:=s.vs.l) (k:=j) (by omega)
 have hvm:=List.mem_of_getElem? hv
 have hvi:=(hO.v.ok _ hvm).rd
 have hvn:=hO.vw _ hvm
 have hv3v:=hv3 _ hvm
 have hst:C5 (B8 (C5 (C5 st (d,T6)) (d+1,[A2 [67,65,83,69]])) ((s.vs.l.take j).map fun v=>((d+2,J7 v):Ln))) (d+2,J7 v)=(B8 (C5 (C5 st (d,T6)) (d+1,[A2 [67,65,83,69]])) ((s.vs.l.take (j+1)).map fun v=>((d+2,J7 v):Ln))):=by rw[a2h hv,List.map_append,List.map_singleton,← b3J]
 have hvt:J7 v=[O3 v.tag]++a2d [59] (D3 [59] a0G v.items):=rfl
 refine kQ0 [0,2,132,133,134] ?_
 refine kA2 ?_
 refine xW fun b8=>?_
 refine kQ1 [0,2,8,132,133,134] ?_
 refine a09 [5,8,9,10,4096] (.op 0 (.op 1 (.op 2 (.op 3 (.op 4 (.op 6 (.op 7 (.op 5 (.op 8 (.op 9 (.op 10 .nil))))))))))) [11] _ [] D8 (fun _ _ _ h=>a0T h) [] (by kernel_rfl) ?_
 refine kA2 ?_
 refine yG rfl (I7 Et Ev.const (by omega)) ?_
 refine kA4 ?_
 refine G8 rfl rfl Ev.func (E1 Et) (fun fr=>a1J v.tag _ _) Lb fun a143 c143=>?_
 refine G8 rfl rfl Ev.func (E3 Et Ev.const Ev.func) (fun fr=>a9V 64 a0G [59] _ _ _ v.items _ (hvi.mono (View.le.refl m) Sb) (by omega) (fun x _=>Nat.le_trans (b0G x) (by decide)) (fun x _ h2 _=>b2U hg x h2)) Lb fun a146 c146=>?_
 refine G8 rfl rfl Ev.func (E2 Ev.const Et) (fun fr=>CT.knowRow Tryz.call65 (a:=a146) (List.mem_append_right _ Me) (fun p9 q9 r9=>b1M hg [59] (by decide) _ _ _ (D3 [59] a0G v.items) _ (Rd.ofRow r9 p9 q9 (List.mem_append_right _ Me)) (Nat.le_trans (a7N [59] v.items (by omega)) (by decide)))) Lb fun a147 c147=>?_
 refine SR.buildSlice rfl rfl K9 rfl (EvP.cons Et (EvP.cons Et EvP.nil)) rfl rfl (by decide) rfl Lb fun b148=>?_
 refine SR.nil rfl rfl ?_
 refine A0 (a:=a143) Me fun p143 q143 r143=>?_
 refine A0 (a:=a147) Me fun p147 q147 r147=>?_
 refine WL.perm ((Del.perm (r:=prB b a9 c9 (B8 (C5 (C5 st (d,T6)) (d+1,[A2 [67,65,83,69]])) ((s.vs.l.take j).map fun v=>((d+2,J7 v):Ln)))) De).trans ((Del.perm (r:=prW a9 c9 (B8 (C5 (C5 st (d,T6)) (d+1,[A2 [67,65,83,69]])) ((s.vs.l.take j).map fun v=>((d+2,J7 v):Ln)))) De).cons _)) ?_
 refine xg (E3 Et Et Et) (G5 hg hp b a9 c9 (B8 (C5 (C5 st (d,T6)) (d+1,[A2 [67,65,83,69]])) ((s.vs.l.take j).map fun v=>((d+2,J7 v):Ln))) (d+2) _ 2 _ [⟨a143,c143,[O3 v.tag]⟩,⟨a147,c147,a2d [59] (D3 [59] a0G v.items)⟩] (J7 v) _ (Rd.ofPt rfl (by decide) Me) (B6 (Rd.inRow Me r143 p143 q143) (B6 (Rd.inRow Me r147 p147 q147) H8)) (by decide) (B6 (by simp) (B6 (b4Z [59] (a7N [59] v.items (by omega))) H8)) (by rw[hvt];simp) (by rw[hvt];exact G6 (a9B (hvg v hvm)) (c2U (by decide) b8N)) (Z6 _ (S0 (S0 hn)))) ?_
 rintro _ _ ⟨a149,c149,rfl⟩
 rw[hst]
 refine kQ0 [0,2,132,133,134] ?_
 refine kA2 ?_
 refine WL.nil (A6 (s.vs.l.length - (j+1)) [(134,.int .i64 (j+1))] (h'':=prB b a149 c149 (B8 (C5 (C5 st (d,T6)) (d+1,[A2 [67,65,83,69]])) ((s.vs.l.take (j+1)).map fun v=>((d+2,J7 v):Ln)))::prW a149 c149 (B8 (C5 (C5 st (d,T6)) (d+1,[A2 [67,65,83,69]])) ((s.vs.l.take (j+1)).map fun v=>((d+2,J7 v):Ln)))::h) (by omega) ?_ Su Sb ⟨a149,c149,j+1,by omega,rfl,rfl,rfl⟩)
 exact Su
 replace c135:=dF c135
 rw[List.take_of_length_le (by omega)]
 refine kQ0 [0,2] ?_
 refine kA2 ?_
 refine xY N3 (EvP.cons Ev.const EvP.nil) fun b153=>?_
 refine xg (E1 Et) (C4 hg _ 1 _ [[58]] _ Rr (by decide) (by decide)) ?_
 rintro _ _ ⟨a154,c154,_,rfl,rfl,rfl⟩
 refine xY K9 (EvP.cons Et EvP.nil) fun b155=>?_
 refine A0 (a:=a154) Me fun p154 q154 r154=>?_
 refine WL.perm ((Del.perm (r:=prB b a9 c9 (B8 (C5 (C5 st (d,T6)) (d+1,[A2 [67,65,83,69]])) (s.vs.l.map fun v=>((d+2,J7 v):Ln)))) De).trans ((Del.perm (r:=prW a9 c9 (B8 (C5 (C5 st (d,T6)) (d+1,[A2 [67,65,83,69]])) (s.vs.l.map fun v=>((d+2,J7 v):Ln)))) De).cons _)) ?_
 refine xg (E3 Et Et Et) (G5 hg hp b a9 c9 (B8 (C5 (C5 st (d,T6)) (d+1,[A2 [67,65,83,69]])) (s.vs.l.map fun v=>((d+2,J7 v):Ln))) d _ 1 _ [⟨a154,c154,[A2 [58]]⟩] ([A2 [58]]) _ (Rd.ofPt rfl (by decide) Me) (B6 (Rd.inRow Me r154 p154 q154) H8) (by decide) (B6 (by simp) H8) (by simp) ((U4 (by decide))) (Z6 _ (S0 (S0 hn)))) ?_
 rintro _ _ ⟨a156,c156,rfl⟩
 rw[show C5 (B8 (C5 (C5 st (d,T6)) (d+1,[A2 [67,65,83,69]])) (s.vs.l.map fun v=>((d+2,J7 v):Ln))) (d,[A2 [58]])=B8 st (K3 s d) by rw[hls,X7,X7,Z0];rfl]
 refine WL.nil (W1 (h':=prB b a156 c156 (B8 st (K3 s d))::prW a156 c156 (B8 st (K3 s d))::h) (.inr rfl) rfl  (View.le.refl m) Sb ?_)
 exact⟨a156,c156,rfl⟩
 replace c92:=G3 c92
 omega
end Go.Proofs.YtkemgjnejlkkcaaGreatDoor
end
section
namespace Go.Proofs.YtkemgjnejlkkcaaGreatDoor
set_option maxRecDepth 100000
set_option maxHeartbeats 2000000
open Go.Eng Go.Pc Go.Sx Go
open Go.Xp hiding B D9
open Go.Ty (Ty Vr Tok eqT tyV J2 B4 B7 S1 zeroK M5 D6 encV E5 prL prV PrOk VOk mayPr hdV)
open Go.Lx (encB D1 textO)
open Go.Ly (Rw I6 C7)
theorem a4G (k:Int):(C2 k).1.t1≤9∧(C2 k).1.e1≤9∧((C2 k).2=true→1≤k∧k≤18):=by
 by_cases h:1≤k∧k≤18
 · refine⟨?_,?_,fun _=>h⟩ <;>
   (obtain h | h | h | h | h | h | h | h | h | h | h | h | h | h | h | h | h | h:k=1∨k=2∨k=3∨k=4∨k=5∨k=6∨k=7∨k=8∨k=9∨k=10∨k=11∨k=12∨k=13∨k=14∨k=15∨k=16∨k=17∨k=18:=by omega) <;> (rw[h];decide)
 · have e:C2 k=(us0,false):=by
     unfold C2
     repeat rw[if_neg (by omega)]
   rw[e]
   exact⟨by decide,by decide,nofun⟩
theorem b9E {p:Pr} (h:M1 p=true) (hk:p.k=11):p.pn.l.length=p.ll.length:=by
 unfold M1 at h
 split at h
 · cases h
 · have key:W2 p (C2 p.k).1=true:=by
     split at h
     · rw[hk] at h;cases h
     · exact h
   rw[hk] at key
   unfold W2 at key
   simp only[Bool.and_eq_true] at key
   have:=(U2 key.1.2).2
   have e:((C2 11).1).procs=true:=rfl
   rw[e] at this
   simp only[if_true] at this
   omega
def c4p (k:Int) (n:Int) (x:Pr) (d:Int):List Ln:=if k=11 then (d+1,[A2 [80,82,79,67,69,83,83,79,82],⟨3,0,[],IntKind.i32.wrap n⟩])::H5 x (d+2) else H5 x (d+1)
theorem a6J {k:Int} {x:Pr} {d:Int}:∀ {ns:List Int} {l:List Pr} {j:Nat},l[j]?=some x→F6 k ns (l.take (j+1)) d=F6 k ns (l.take j) d++c4p k ((ns.drop j).headD 0) x d
 | ns,[],j,h=>by cases h
 | ns,y::l,0,h=>by
   cases h
   show(if k=11 then _ else _)++F6 k ns.tail [] d=[]++c4p k (ns.headD 0) x d
   rw[show F6 k ns.tail [] d=[] by cases ns.tail <;> rfl,List.append_nil,List.nil_append]
   rfl
 | ns,y::l,j+1,h=>by
   have ih:=a6J (k:=k) (d:=d) (ns:=ns.tail) (l:=l) (j:=j) (by simpa using h)
   show(if k=11 then _ else _)++F6 k ns.tail (l.take (j+1)) d=((if k=11 then _ else _)++F6 k ns.tail (l.take j) d)++_
   rw[ih,List.append_assoc]
   cases ns <;> simp
theorem a5l {d:Int} {g:Gu}:∀ {l:List Gu} {j:Nat},l[j]?=some g→J9 (l.take (j+1)) d=J9 (l.take j) d++Y1 g d
 | [],j,h=>by cases h
 | y::l,0,h=>by
   cases h
   exact List.append_nil _
 | y::l,j+1,h=>by
   have ih:=a5l (d:=d) (l:=l) (j:=j) (by simpa using h)
   show Y1 y d++J9 (l.take (j+1)) d=(Y1 y d++J9 (l.take j) d)++_
   rw[ih,List.append_assoc]
theorem b6p (p:Pr) (d:Int):H5 p d=if p.k=18 then K3 p.sp d++a1K p.ll d else (d,B0 p.k p.name p.ch p.tg.l p.ex.l p.rep)::(F6 p.k p.pn.l p.ll d++J9 p.gl (d+1)):=by cases p;rfl
theorem c1u {l:List Int} {j:Nat} {y:Int} (h:l[j]?=some y):(l.drop j).headD 0=y:=by
 have h1:=(List.getElem?_eq_some_iff.1 h)
 rw[List.drop_eq_getElem_cons h1.1]
 exact h1.2
theorem c3w (v:Int):-2147483648≤IntKind.i32.wrap v∧IntKind.i32.wrap v≤2147483647:=by
 unfold IntKind.wrap
 simp[IntKind.bits,IntKind.signed]
 omega
theorem c3z (y:Int):TkL [A2 [80,82,79,67,69,83,83,79,82],⟨3,0,[],IntKind.i32.wrap y⟩]:=a6I (U4 (by decide)) (fun x hx=>by
 rw[List.mem_singleton] at hx
 subst hx
 exact⟨c3w y,Nat.zero_le _⟩)
set_option maxHeartbeats 4000000 in
theorem b7T {m:View} (hg:Glob m) (hp:Pow m) (p:Pr):PRC m p:=by
 refine Pr.ind (q:=fun p=>PRC m p) (fun p ih b a c st d h hP hv hd hn=>?_) p
 have hV:=hv.own
 have hO:=hP.own
 have hkk:=(a4G p.k).2.2 hV.kd
 have hls:=b6p p d
 have hrl:=hO.l
 have hrn:=hO.pn
 have hrg:=hO.g
 have hlx:=Nat.le_trans hrl.le hrl.mx
 have hgx:=Nat.le_trans hrg.le hrg.mx
 have hpl:M1 p=true:=by cases hv with | mk q _=>exact q
 refine CT.body Tryz.call25 Tryz.func25 rfl Tryz.ntmps25 Lb rfl ?_
 refine j0 ?_
 refine xX fun b4=>?_
 refine kQ0 [0,2,4] ?_
 refine kQ3 [0,2,4,12] ?_
 refine wc (fun c12=>?_) fun c12=>?_
 replace c12:=G4 c12
 have hrp:p.rep.name=[]:=by
   by_cases e:p.rep.name=[]
   · exact e
   · have:=hV.rp e;rw[c12] at this;cases this
 have hpn:=hV.pn hrp
 rw[c12] at hpn
 have hl1:p.ll.length=1:=by
   have e1:(C2 18).1.p0=1:=rfl
   have e2:(C2 18).1.p1=1:=rfl
   rw[e1,e2] at hpn
   omega
 obtain⟨y,hy⟩:=A5 (l:=p.ll) (k:=0) (by omega)
 have hin:In y p:=.l (List.mem_of_getElem? hy)
 have hle:p.ll=[y]:=by
   cases hb:p.ll with
   | nil=>rw[hb] at hy;cases hy
   | cons z r=>
     rw[hb] at hy hl1
     cases hy
     cases r with
     | nil=>rfl
     | cons u v=>simp at hl1
 have hlt:=hin.lt
 rw[if_pos c12] at hls
 refine kA4 ?_
 refine WL.perm ((Del.perm (r:=prB b a c st) De).trans ((Del.perm (r:=prW a c st) De).cons _)) ?_
 refine xg (E3 Et Et Et) (b9f hg hp p.sp b a c st d _ (hO.sp.mono Sb) (hV.sp (by rw[c12];rfl)) (fun x hx=>⟨(hP.sub (.s hx)).mono Sb,hv.sub (.s hx),ih x (.s hx),by have:=(In.s hx).lt;omega⟩) (by omega) hn) ?_
 rintro _ _ ⟨a17,c17,rfl⟩
 refine kQ0 [0,2,4] ?_
 refine kA3 ?_
 refine xG (F4 Z9.und Z9.size Z9.posz (Ev.tmp rfl) Ev.const Rr rfl (q:=0) (by omega)) ?_
 refine kA2 ?_
 refine WL.perm ((Del.perm (r:=prB b a17 c17 (B8 st (K3 p.sp d))) De).trans ((Del.perm (r:=prW a17 c17 (B8 st (K3 p.sp d))) De).cons _)) ?_
 refine xg (E3 Et Et Et) (ih y hin b a17 c17 (B8 st (K3 p.sp d)) d _ ((hP.sub hin).mono Sb) (hv.sub hin) (by omega) (Z6 _ hn)) ?_
 rintro _ _ ⟨a24,c24,rfl⟩
 rw[show B8 (B8 st (K3 p.sp d)) (H5 y d)=B8 st (H5 p d) by rw[hls,Z0,hle];rfl]
 refine kQ0 [] ?_
 refine WC.ret (W1 (h':=prB b a24 c24 (B8 st (H5 p d))::prW a24 c24 (B8 st (H5 p d))::h) (.inl rfl) rfl  (View.le.refl m) Sb ?_)
 exact⟨a24,c24,rfl⟩
 replace c12:=G3 c12
 rw[if_neg c12] at hls
 have hTg:p.tg.l.length≤9:=by
   have h1:=hV.tn.2
   have h2:=(a4G p.k).1
   omega
 have hEx:p.ex.l.length≤9:=by
   have h1:=hV.en.2
   have h2:=(a4G p.k).2.1
   omega
 refine kQ0 [0,2,4] ?_
 refine kA3 ?_
 refine WL.perm ((Del.perm (r:=prB b a c st) De).trans ((Del.perm (r:=prW a c st) De).cons _)) ?_
 refine xg (E3 Et Et Et) (b7A hg hp p b a c st d _ (hO.mono Sb) hTg hEx (by omega) (b6x hO) hn) ?_
 rintro _ _ ⟨a28,c28,rfl⟩
 refine kQ0 [0,2,4] ?_
 refine kQ4 [0,2,4,30,31,32] ?_
 refine B1 [0,2,4,30,31] rfl (fun μ F' h'=>∃ a9:Option Addr,∃ c9:Nat,∃ j:Nat,(j≤p.ll.length)∧p.ll.length - j=μ∧F'=[(32,.int .i64 j)]∧prB b a9 c9 (B8 (C5 st (d,B0 p.k p.name p.ch p.tg.l p.ex.l p.rep)) (F6 p.k p.pn.l (p.ll.take j) d))::prW a9 c9 (B8 (C5 st (d,B0 p.k p.name p.ch p.tg.l p.ex.l p.rep)) (F6 p.k p.pn.l (p.ll.take j) d))::.pt b4 (.cells (prE p).toArray 52 (0,0))::h=h') (p.ll.length - 0) [(32,.int .i64 0)] (h0:=prB b a28 c28 (B8 (C5 st (d,B0 p.k p.name p.ch p.tg.l p.ex.l p.rep)) (F6 p.k p.pn.l (p.ll.take 0) d))::prW a28 c28 (B8 (C5 st (d,B0 p.k p.name p.ch p.tg.l p.ex.l p.rep)) (F6 p.k p.pn.l (p.ll.take 0) d))::.pt b4 (.cells (prE p).toArray 52 (0,0))::h) ?_ Sb ⟨a28,c28,0,Nat.zero_le _,rfl,rfl,rfl⟩ ?_
 exact Su
 rintro _ _ _ ⟨a9,c9,j,hj,rfl,rfl,rfl⟩
 refine B3 rfl ?_
 refine kQ1 [0,2,4,30,31,32,33] ?_
 refine wc (fun c33=>?_) fun c33=>?_
 replace c33:=dT c33
 obtain⟨x,hx⟩:=A5 (l:=p.ll) (k:=j) (by omega)
 have hin:In x p:=.l (List.mem_of_getElem? hx)
 have hlt:=hin.lt
 have htk:=a6J (k:=p.k) (d:=d) (ns:=p.pn.l) hx
 unfold c4p at htk
 have hnj:(B8 (C5 st (d,B0 p.k p.name p.ch p.tg.l p.ex.l p.rep)) (F6 p.k p.pn.l (p.ll.take j) d)).1.length≤2049:=Z6 _ (S0 hn)
 refine kQ0 [0,2,4,30,31,32] ?_
 refine kA3 ?_
 refine xW fun b7=>?_
 refine kQ2 [0,2,4,6,7,30,31,32] ?_
 refine kQ3 [0,2,4,6,7,30,31,32,39] ?_
 refine wc (fun c39=>?_) fun c39=>?_
 replace c39:=G4 c39
 have hpk:=b9E hpl c39
 obtain⟨y,hy⟩:=A5 (l:=p.pn.l) (k:=j) (by omega)
 rw[if_pos c39,c1u hy] at htk
 refine jE ?_
 refine a09 [3,4,12,13,4096] (.op 0 (.op 1 (.op 2 (.op 5 (.op 6 (.op 7 (.op 8 (.op 9 (.op 10 (.op 11 (.op 3 (.op 4 (.op 12 (.op 13 .nil)))))))))))))) [14] _ [] D8 (fun _ _ _ h=>a0T h) [] (by kernel_rfl) ?_
 refine kA2 ?_
 refine yG rfl (I7 Et Ev.const (by omega)) ?_
 refine kA5 ?_
 refine yG rfl (PO.conv uu3 a2U Et) ?_
 refine yG rfl (PO.build H9 rfl rfl rfl (EvP.cons Ev.const (EvP.cons Et EvP.nil)) rfl) ?_
 refine SR.buildSlice rfl rfl N3 rfl (EvP.cons Ev.const EvP.nil) rfl rfl (by decide) rfl Lb fun b43=>?_
 refine G8 rfl rfl Ev.func (E1 (Ev.tmp rfl)) (fun fr=>C4 hg _ 1 _ [[80,82,79,67,69,83,83,79,82]] _ (Rd.fr Rr fr) (by decide) (by decide)) Lb fun a44 c44=>?_
 refine SR.buildSlice rfl rfl A9 rfl (EvP.cons Et EvP.nil) rfl rfl (by decide) rfl Lb fun b52=>?_
 refine SR.buildSlice rfl rfl K9 rfl (EvP.cons Et (EvP.cons Et EvP.nil)) rfl rfl (by decide) rfl Lb fun b53=>?_
 refine SR.nil rfl rfl ?_
 refine A0 (a:=a44) Me fun p44 q44 r44=>?_
 refine WL.perm ((Del.perm (r:=prB b a9 c9 (B8 (C5 st (d,B0 p.k p.name p.ch p.tg.l p.ex.l p.rep)) (F6 p.k p.pn.l (p.ll.take j) d))) De).trans ((Del.perm (r:=prW a9 c9 (B8 (C5 st (d,B0 p.k p.name p.ch p.tg.l p.ex.l p.rep)) (F6 p.k p.pn.l (p.ll.take j) d))) De).cons _)) ?_
 refine xg (E3 Et Et Et) (G5 hg hp b a9 c9 (B8 (C5 st (d,B0 p.k p.name p.ch p.tg.l p.ex.l p.rep)) (F6 p.k p.pn.l (p.ll.take j) d)) (d+1) _ 2 _ [⟨a44,c44,[A2 [80,82,79,67,69,83,83,79,82]]⟩,⟨some ⟨b52,0,none⟩,1,[⟨3,0,[],IntKind.i32.wrap y⟩]⟩] [A2 [80,82,79,67,69,83,83,79,82],⟨3,0,[],IntKind.i32.wrap y⟩] _ (Rd.ofPt rfl (by decide) Me) (B6 (Rd.inRow Me r44 p44 q44) (B6 (Rd.ofPt rfl (show 1≤9223372036854775807 by decide) Me) H8)) (by decide) (B6 (by simp) (B6 (by simp) H8)) rfl (c3z y) hnj) ?_
 rintro _ _ ⟨a54,c54,rfl⟩
 refine kQ0 [0,2,4,7,30,31,32] ?_
 refine kA4 ?_
 refine WL.perm ((Del.perm (r:=prB b a54 c54 (C5 (B8 (C5 st (d,B0 p.k p.name p.ch p.tg.l p.ex.l p.rep)) (F6 p.k p.pn.l (p.ll.take j) d)) (d+1,[A2 [80,82,79,67,69,83,83,79,82],⟨3,0,[],IntKind.i32.wrap y⟩]))) De).trans ((Del.perm (r:=prW a54 c54 (C5 (B8 (C5 st (d,B0 p.k p.name p.ch p.tg.l p.ex.l p.rep)) (F6 p.k p.pn.l (p.ll.take j) d)) (d+1,[A2 [80,82,79,67,69,83,83,79,82],⟨3,0,[],IntKind.i32.wrap y⟩]))) De).cons _)) ?_
 refine xg (E3 Et Et Et) (ih x hin b a54 c54 (C5 (B8 (C5 st (d,B0 p.k p.name p.ch p.tg.l p.ex.l p.rep)) (F6 p.k p.pn.l (p.ll.take j) d)) (d+1,[A2 [80,82,79,67,69,83,83,79,82],⟨3,0,[],IntKind.i32.wrap y⟩])) (d+2) _ ((hP.sub hin).mono Sb) (hv.sub hin) (by omega) (S0 hnj)) ?_
 rintro _ _ ⟨a59,c59,rfl⟩
 rw[show B8 (C5 (B8 (C5 st (d,B0 p.k p.name p.ch p.tg.l p.ex.l p.rep)) (F6 p.k p.pn.l (p.ll.take j) d)) (d+1,[A2 [80,82,79,67,69,83,83,79,82],⟨3,0,[],IntKind.i32.wrap y⟩])) (H5 x (d+2))=(B8 (C5 st (d,B0 p.k p.name p.ch p.tg.l p.ex.l p.rep)) (F6 p.k p.pn.l (p.ll.take (j+1)) d)) by rw[htk,Z0,X7]]
 refine kQ0 [0,2,4,30,31,32] ?_
 refine kQ0 [0,2,4,30,31,32] ?_
 refine kA2 ?_
 refine WL.nil (A6 (p.ll.length - (j+1)) [(32,.int .i64 (j+1))] (h'':=prB b a59 c59 (B8 (C5 st (d,B0 p.k p.name p.ch p.tg.l p.ex.l p.rep)) (F6 p.k p.pn.l (p.ll.take (j+1)) d))::prW a59 c59 (B8 (C5 st (d,B0 p.k p.name p.ch p.tg.l p.ex.l p.rep)) (F6 p.k p.pn.l (p.ll.take (j+1)) d))::.pt b4 (.cells (prE p).toArray 52 (0,0))::h) (by omega) ?_ Su Sb ⟨a59,c59,j+1,by omega,rfl,rfl,rfl⟩)
 exact Su
 replace c39:=G3 c39
 rw[if_neg c39] at htk
 refine kQ0 [0,2,4,7,30,31,32] ?_
 refine kA4 ?_
 refine WL.perm ((Del.perm (r:=prB b a9 c9 (B8 (C5 st (d,B0 p.k p.name p.ch p.tg.l p.ex.l p.rep)) (F6 p.k p.pn.l (p.ll.take j) d))) De).trans ((Del.perm (r:=prW a9 c9 (B8 (C5 st (d,B0 p.k p.name p.ch p.tg.l p.ex.l p.rep)) (F6 p.k p.pn.l (p.ll.take j) d))) De).cons _)) ?_
 refine xg (E3 Et Et Et) (ih x hin b a9 c9 (B8 (C5 st (d,B0 p.k p.name p.ch p.tg.l p.ex.l p.rep)) (F6 p.k p.pn.l (p.ll.take j) d)) (d+1) _ ((hP.sub hin).mono Sb) (hv.sub hin) (by omega) hnj) ?_
 rintro _ _ ⟨a64,c64,rfl⟩
 rw[show B8 (B8 (C5 st (d,B0 p.k p.name p.ch p.tg.l p.ex.l p.rep)) (F6 p.k p.pn.l (p.ll.take j) d)) (H5 x (d+1))=(B8 (C5 st (d,B0 p.k p.name p.ch p.tg.l p.ex.l p.rep)) (F6 p.k p.pn.l (p.ll.take (j+1)) d)) by rw[htk,Z0]]
 refine kQ0 [0,2,4,30,31,32] ?_
 refine kA2 ?_
 refine WL.nil (A6 (p.ll.length - (j+1)) [(32,.int .i64 (j+1))] (h'':=prB b a64 c64 (B8 (C5 st (d,B0 p.k p.name p.ch p.tg.l p.ex.l p.rep)) (F6 p.k p.pn.l (p.ll.take (j+1)) d))::prW a64 c64 (B8 (C5 st (d,B0 p.k p.name p.ch p.tg.l p.ex.l p.rep)) (F6 p.k p.pn.l (p.ll.take (j+1)) d))::.pt b4 (.cells (prE p).toArray 52 (0,0))::h) (by omega) ?_ Su Sb ⟨a64,c64,j+1,by omega,rfl,rfl,rfl⟩)
 exact Su
 replace c33:=dF c33
 rw[List.take_of_length_le (by omega)]
 refine kQ0 [0,2,4] ?_
 refine kQ4 [0,2,67,68,69] ?_
 refine B1 [0,2,67,68] rfl (fun μ F' h'=>∃ a9:Option Addr,∃ c9:Nat,∃ j:Nat,(j≤p.gl.length)∧p.gl.length - j=μ∧F'=[(69,.int .i64 j)]∧prB b a9 c9 (B8 (B8 (C5 st (d,B0 p.k p.name p.ch p.tg.l p.ex.l p.rep)) (F6 p.k p.pn.l p.ll d)) (J9 (p.gl.take j) (d+1)))::prW a9 c9 (B8 (B8 (C5 st (d,B0 p.k p.name p.ch p.tg.l p.ex.l p.rep)) (F6 p.k p.pn.l p.ll d)) (J9 (p.gl.take j) (d+1)))::.pt b4 (.cells (prE p).toArray 52 (0,0))::h=h') (p.gl.length - 0) [(69,.int .i64 0)] (h0:=prB b a9 c9 (B8 (B8 (C5 st (d,B0 p.k p.name p.ch p.tg.l p.ex.l p.rep)) (F6 p.k p.pn.l p.ll d)) (J9 (p.gl.take 0) (d+1)))::prW a9 c9 (B8 (B8 (C5 st (d,B0 p.k p.name p.ch p.tg.l p.ex.l p.rep)) (F6 p.k p.pn.l p.ll d)) (J9 (p.gl.take 0) (d+1)))::.pt b4 (.cells (prE p).toArray 52 (0,0))::h) ?_ Sb ⟨a9,c9,0,Nat.zero_le _,rfl,rfl,rfl⟩ ?_
 exact Su
 rintro _ _ _ ⟨a9,c9,j,hj,rfl,rfl,rfl⟩
 refine B3 rfl ?_
 refine kQ1 [0,2,67,68,69,70] ?_
 refine wc (fun c70=>?_) fun c70=>?_
 replace c70:=dT c70
 obtain⟨g,hg1⟩:=A5 (l:=p.gl) (k:=j) (by omega)
 have hgm:=List.mem_of_getElem? hg1
 have hnj:(B8 (B8 (C5 st (d,B0 p.k p.name p.ch p.tg.l p.ex.l p.rep)) (F6 p.k p.pn.l p.ll d)) (J9 (p.gl.take j) (d+1))).1.length≤2049:=Z6 _ (Z6 _ (S0 hn))
 refine kQ0 [0,2,67,68,69] ?_
 refine kA2 ?_
 refine xW fun b9=>?_
 refine kQ1 [0,2,9,67,68,69] ?_
 refine kA4 ?_
 refine WL.perm ((Del.perm (r:=prB b a9 c9 (B8 (B8 (C5 st (d,B0 p.k p.name p.ch p.tg.l p.ex.l p.rep)) (F6 p.k p.pn.l p.ll d)) (J9 (p.gl.take j) (d+1)))) De).trans ((Del.perm (r:=prW a9 c9 (B8 (B8 (C5 st (d,B0 p.k p.name p.ch p.tg.l p.ex.l p.rep)) (F6 p.k p.pn.l p.ll d)) (J9 (p.gl.take j) (d+1)))) De).cons _)) ?_
 refine xg (E3 Et Et Et) (b5T hg hp g b a9 c9 (B8 (B8 (C5 st (d,B0 p.k p.name p.ch p.tg.l p.ex.l p.rep)) (F6 p.k p.pn.l p.ll d)) (J9 (p.gl.take j) (d+1))) (d+1) _ ((hO.gs g hgm).mono Sb) (hV.gs g hgm).1 (fun x hx=>⟨(hP.sub (.g hgm hx)).mono Sb,hv.sub (.g hgm hx),ih x (.g hgm hx),by have:=(In.g hgm hx).lt;omega⟩) (by have:=a5u p;omega) hnj) ?_
 rintro _ _ ⟨a77,c77,rfl⟩
 rw[show B8 (B8 (B8 (C5 st (d,B0 p.k p.name p.ch p.tg.l p.ex.l p.rep)) (F6 p.k p.pn.l p.ll d)) (J9 (p.gl.take j) (d+1))) (Y1 g (d+1))=(B8 (B8 (C5 st (d,B0 p.k p.name p.ch p.tg.l p.ex.l p.rep)) (F6 p.k p.pn.l p.ll d)) (J9 (p.gl.take (j+1)) (d+1))) by rw[a5l hg1,Z0]]
 refine kQ0 [0,2,67,68,69] ?_
 refine kA2 ?_
 refine WL.nil (A6 (p.gl.length - (j+1)) [(69,.int .i64 (j+1))] (h'':=prB b a77 c77 (B8 (B8 (C5 st (d,B0 p.k p.name p.ch p.tg.l p.ex.l p.rep)) (F6 p.k p.pn.l p.ll d)) (J9 (p.gl.take (j+1)) (d+1)))::prW a77 c77 (B8 (B8 (C5 st (d,B0 p.k p.name p.ch p.tg.l p.ex.l p.rep)) (F6 p.k p.pn.l p.ll d)) (J9 (p.gl.take (j+1)) (d+1)))::.pt b4 (.cells (prE p).toArray 52 (0,0))::h) (by omega) ?_ Su Sb ⟨a77,c77,j+1,by omega,rfl,rfl,rfl⟩)
 exact Su
 replace c70:=dF c70
 rw[List.take_of_length_le (by omega),show B8 (B8 (C5 st (d,B0 p.k p.name p.ch p.tg.l p.ex.l p.rep)) (F6 p.k p.pn.l p.ll d)) (J9 p.gl (d+1))=B8 st (H5 p d) by rw[hls,X7,Z0]]
 refine WC.exit (W1 (h':=prB b a9 c9 (B8 st (H5 p d))::prW a9 c9 (B8 st (H5 p d))::h) (.inr rfl) rfl  (View.le.refl m) Sb ?_)
 exact⟨a9,c9,rfl⟩
end Go.Proofs.YtkemgjnejlkkcaaGreatDoor
end
section
namespace Go.Proofs.YtkemgjnejlkkcaaGreatDoor
set_option maxRecDepth 100000
set_option maxHeartbeats 2000000
open Go.Eng Go.Pc Go.Sx Go
open Go.Xp hiding B D9
open Go.Ty (Ty Vr Tok eqT tyV J2 B4 B7 S1 zeroK M5 D6 encV E5)
open Go.Lx (encB D1 textO)
open Go.Ly (Rw I6 C7)
theorem b97 (l:List Tok):(textO l).1.length≤256:=by
 unfold Go.Lx.textO
 split
 · exact Nat.zero_le _
 · split
   · exact Nat.zero_le _
   · rename_i h
     simp only[decide_eq_true_eq] at h
     show(Go.Lx.textL none l).length≤256
     omega
theorem b3j {st:Ps} {x:Ln} (h:∀ y ∈ st.1,y.text.length≤256):∀ y ∈ (C5 st x).1,y.text.length≤256:=by
 unfold C5
 split
 · exact h
 · intro y hy
   rcases List.mem_append.1 hy with q | q
   · exact h y q
   · rw[List.mem_singleton] at q
     subst q
     exact b97 _
theorem a6z:∀ (l:List Ln) {st:Ps},(∀ y ∈ st.1,y.text.length≤256)→∀ y ∈ (B8 st l).1,y.text.length≤256
 | [],_,h=>h
 | x::l,_,h=>a6z l (b3j (x:=x) h)
abbrev c6m (m:View) (p:Pr) (h:List Res) (v:Value) (h':List Res):Prop:=
 ∃ a c bl,v=.tuple #[.slice a (M8 p).1.length c,.int .i64 (M8 p).2]∧Rd m bl a (M8 p).1.length c 3 (fl I6 (M8 p).1)∧h'=bl++h∧((M8 p).2=0→bl=[.row (.slice a (M8 p).1.length c) 26 3 (M8 p).1.length (fl I6 (M8 p).1)])
set_option maxHeartbeats 4000000 in
theorem b2G {m:View} (hg:Glob m) (hp:Pow m) (p:Pr) (h:List Res) (hO:POk m h p) :
   CT Tryz.prog 12 [prV p] h m (fun v _ h'=>c6m m p h v h'):=by
 have hq:M8 p=if mayP p then (if (B8 ([],false) (H5 p 0)).2||!Go.Ly.mayP (B8 ([],false) (H5 p 0)).1 then ([],3) else ((B8 ([],false) (H5 p 0)).1,0)) else ([],2):=rfl
 have hsh:=a6z (H5 p 0) (st:=([],false)) nofun
 obtain⟨ST,hST⟩:∃ S,S=B8 ([],false) (H5 p 0):=⟨_,rfl⟩
 rw[← hST] at hq hsh
 refine CT.body Tryz.call12 Tryz.func12 rfl Tryz.ntmps12 Lb rfl ?_
 refine j0 ?_
 refine xX fun b1=>?_
 refine kQ2 [1] ?_
 refine kA1 ?_
 refine xf (E1 Et) (a5L hg p (hO.mono Sb)) ?_
 refine kQ1 [1,7] ?_
 refine wc (fun c7=>?_) fun c7=>?_
 have d7:mayP p=false:=by simpa using c7
 rw[if_neg (H3 d7)] at hq
 refine kQ2 [2,3] ?_
 refine WC.ret (J3 (h':=h) (.inl rfl) rfl (RV.tmp rfl) (RV.tmp rfl) (View.le.refl m) Sb ?_)
 exact⟨none,0,[],by rw[hq];rfl,by rw[hq];exact Rd.nilF I6 3 _ _,rfl,by rw[hq];intro e;cases e⟩
 have d7:mayP p=true:=by simpa using c7
 rw[if_pos d7] at hq
 obtain⟨hv,hc⟩:=b9n d7
 refine kQ0 [1] ?_
 refine kA1 ?_
 refine xX fun b9=>?_
 refine kQ1 [1,4] ?_
 refine kA2 ?_
 refine WL.addNil 26 3 ?_
 refine WL.perm ((Del.perm (r:=prB b9 none 0 ([],false)) De).trans ((Del.perm (r:=prW none 0 ([],false)) De).cons _)) ?_
 refine xg (E3 Et Et Ev.const) (b7T hg hp p b9 none 0 ([],false) 0 _ (hO.mono Sb) hv ⟨by omega,by omega⟩ (Nat.zero_le _)) ?_
 rintro _ _ ⟨a12,c12,rfl⟩
 rw[← hST]
 refine A0 (a:=a12) Me fun p12 q12 r12=>?_
 refine kQ0 [4] ?_
 refine kA6 ?_
 refine zG (fun hc=>PO.nilCheck (Eg hc)) ?_
 refine kA2 ?_
 refine A8 (GU.f rfl rfl) (fun hc=>⟨Ev.func,(E1 (Eg hc)),Ly7.may_ct hg a12 _ c12 ST.1 _ (Rd.inRow Me r12 p12 q12) (fun x hx=>by have:=hsh x hx;omega)⟩) Lb ?_
 refine kQ2 [4,24] ?_
 refine wc (fun c24=>?_) fun c24=>?_
 rw[if_pos (by simpa using c24)] at hq
 refine kQ2 [2,3] ?_
 refine WC.ret (J3 (h':=h) (.inl rfl) rfl (RV.tmp rfl) (RV.tmp rfl) (View.le.refl m) Sb ?_)
 exact⟨none,0,[],by rw[hq];rfl,by rw[hq];exact Rd.nilF I6 3 _ _,rfl,by rw[hq];intro e;cases e⟩
 rw[if_neg (by simpa using c24)] at hq
 refine kQ0 [4] ?_
 refine kQ6 [2,3] ?_
 refine WC.ret (J3 (h':=prW a12 c12 ST::h) (.inl rfl) rfl (RV.tmp rfl) (RV.tmp rfl) (View.le.refl m) Sb ?_)
 exact⟨a12,c12,[prW a12 c12 ST],by rw[hq],by rw[hq];exact Rd.ofRow r12 p12 q12 (List.mem_singleton.2 rfl),rfl,fun _=>by rw[hq]⟩
end Go.Proofs.YtkemgjnejlkkcaaGreatDoor
end
section
namespace Go.Proofs.YtkemgjnejlkkcaaGreatDoor
set_option maxRecDepth 100000
set_option maxHeartbeats 2000000
open Go.Eng Go.Xp Go
open Go.Lx (encB D1)
end Go.Proofs.YtkemgjnejlkkcaaGreatDoor
end
section
namespace Go.Proofs.YtkemgjnejlkkcaaGreatDoor
set_option maxRecDepth 100000
set_option maxHeartbeats 2000000
open Go.Eng Go.Pc Go
open Go.Xp hiding B D9
open Go.Ty (Ty Vr eqT tyV J2 PrOk VOk prL encV E5 M5 D6)
open Go.Lx (encB D1)
end Go.Proofs.YtkemgjnejlkkcaaGreatDoor
end

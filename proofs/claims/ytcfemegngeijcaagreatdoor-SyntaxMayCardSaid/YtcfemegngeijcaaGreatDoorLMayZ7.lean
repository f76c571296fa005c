import Derived.Test.YtcfemegngeijcaaGreatDoorLMayZ6
import Derived.Lib.SplitLaws
section
namespace Go.Proofs.YtcfemegngeijcaaGreatDoor
set_option maxRecDepth 100000
set_option maxHeartbeats 2000000
open Go.Eng Go.Pc Go
open Go.Xp hiding B F1
open Go.Ty (Ty Vr eqT tyV K0 PrOk VOk prL encV D3 N6 D9)
open Go.Lx (encB C9)
theorem b1n {α:Type} {l:List α} {i:Nat} {x:α} (h:l[i]?=some x) (q:α→Bool):(l.drop i).any q=(q x||(l.drop (i+1)).any q):=by
 obtain⟨hi,rfl⟩:=List.getElem?_eq_some_iff.1 h
 rw[List.drop_eq_getElem_cons hi,List.any_cons]
theorem a5L {α:Type} {l:List α} {lo hi:Int} {q:α→Bool} (h:(decide ((l.length:Int) < lo)||decide ((l.length:Int) > hi))=true):D4 l lo hi q=false:=by
 unfold D4 a2q
 simp only[Bool.or_eq_true,decide_eq_true_eq] at h
 by_cases h1:(l.length:Int) ≥ lo
 · have h2:¬ (l.length:Int)≤hi:=by omega
   simp[h2]
 · simp[h1]
theorem a4T {α:Type} {l:List α} {lo hi:Int} {q:α→Bool} (h:(decide ((l.length:Int) < lo)||decide ((l.length:Int) > hi))=false):D4 l lo hi q=!(l.any fun x=>!q x):=by
 unfold D4 a2q
 simp only[Bool.or_eq_false_iff,decide_eq_false_iff_not] at h
 have h1:(l.length:Int) ≥ lo:=by omega
 have h2:(l.length:Int)≤hi:=by omega
 simp[h1,h2]
theorem b7e (m:View) (h:List Res):TOk m h A2:=.mk (Rd.nilF exE 6 m h) (fun _ hx=>by cases hx)
theorem a0T {m:View} {h:List Res} (e:Ex) (hE:EOk m h e):CT Tryz.prog 58 [exV e] h m (A6 h (.bool (E7 e))):=by
 have hT:=hE.t
 have hW:=hE.w
 refine CT.body Tryz.call58 Tryz.func58 rfl Tryz.ntmps58 Lb rfl ?_
 refine j0 ?_
 refine xX fun b1=>?_
 refine kQ1 [1] ?_
 refine kA9 ?_
 refine zG (fun _=>pA a1k) ?_
 refine A3 (GU.t rfl rfl) (fun hc=>⟨Ev.func,(E1 (Eg hc)),mayR_ct e _ (hT.mono Sb) hW⟩) Lb ?_
 refine kQ2 [2] ?_
 refine WC.ret (wR (h) ?_)
 exact⟨rfl,rfl⟩
theorem a8W {m:View} {h:List Res} (e:Ex) (hT:TOk m h e):CT Tryz.prog 106 [exV e] h m (A6 h (.bool (G4 e))):=by
 refine CT.body Tryz.call106 Tryz.func106 rfl Tryz.ntmps106 Lb rfl ?_
 refine j0 ?_
 refine xX fun b1=>?_
 refine kQ1 [1] ?_
 refine kA2 ?_
 refine xf (E2 Et Et) (a0j e A2 _ _ (hT.mono Sb) (b7e _ _)) ?_
 refine kQ1 [2] ?_
 refine WC.ret (wR (h) ?_)
 exact⟨rfl,rfl⟩
theorem a6i (a:Option Addr) (k c:Nat) (l:List Ex) (lo hi:Int) (h:List Res) (m:View) (hL:Rd m h a k c 6 (fl exE l)) (hok:∀ x ∈ l,EOk m h x) :
   CT Tryz.prog 56 [.slice a k c,.int .i64 lo,.int .i64 hi] h m (A6 h (.bool (D4 l lo hi E7))):=by
 have hl:=hL.lenF a0Q (by decide)
 subst hl
 have hmx:=hL.mx
 have hle:=hL.le
 refine CT.body Tryz.call56 Tryz.func56 rfl Tryz.ntmps56 Lb rfl ?_
 refine kQ1 [0,1,2] ?_
 refine a9D [0,17] ?_
 refine wc (fun c17=>?_) fun c17=>?_
 refine kQ1 [6] ?_
 refine WC.ret (wR (h) ?_)
 exact⟨by rw[a5L c17],rfl⟩
 have d17:=a4T (q:=E7) c17
 refine kQ0 [0] ?_
 refine kQ1 [0,7] ?_
 refine B0 [0] rfl (fun μ F' h'=>∃ i:Nat,(i≤l.length∧D4 l lo hi E7=!((l.drop i).any fun x=>!E7 x))∧l.length - i=μ∧F'=[(7,.int .i64 i)]∧h=h') (l.length - 0) [(7,.int .i64 0)] (h0:=h) ?_ Sb ⟨0,⟨by omega,d17⟩,rfl,rfl,rfl⟩ ?_
 exact Su
 rintro _ _ _ ⟨i,⟨hk,hJ⟩,rfl,rfl,rfl⟩
 refine B2 rfl ?_
 refine kQ4 [0,7,21] ?_
 refine wc (fun c21=>?_) fun c21=>?_
 replace c21:=dT c21
 obtain⟨x,hx⟩:=A5 (l:=l) (k:=i) (by omega)
 rw[b1n hx] at hJ
 have hxo:=hok x (List.mem_of_getElem? hx)
 refine kQ0 [0,7] ?_
 refine kA4 ?_
 refine xf (E1 Et) (a0T x ⟨hxo.t.mono Sb,hxo.w⟩) ?_
 refine kQ1 [0,7,29] ?_
 refine wc (fun c29=>?_) fun c29=>?_
 have d29:(!E7 x)=true:=c29
 rw[d29] at hJ
 refine kQ1 [6] ?_
 refine WC.ret (wR (h) ?_)
 exact⟨by rw[hJ];rfl,rfl⟩
 have d29:(!E7 x)=false:=c29
 rw[d29] at hJ
 refine kQ0 [0,7] ?_
 refine kA3 ?_
 refine WL.nil (A8 (l.length - (i+1)) [(7,.int .i64 (i+1))] (h'':=h) (by omega) ?_ Su Sb ⟨i+1,⟨by omega,by simpa using hJ⟩,rfl,rfl,rfl⟩)
 exact Su
 replace c21:=dF c21
 rw[List.drop_eq_nil_of_le (by omega)] at hJ
 refine kQ0 [] ?_
 refine kQ1 [6] ?_
 refine WC.ret (wR (h) ?_)
 exact⟨by rw[hJ];rfl,rfl⟩
theorem a3K (a:Option Addr) (k c:Nat) (l:List Ex) (lo hi:Int) (h:List Res) (m:View) (hL:Rd m h a k c 6 (fl exE l)) (hok:∀ x ∈ l,EOk m h x) :
   CT Tryz.prog 57 [.slice a k c,.int .i64 lo,.int .i64 hi] h m (A6 h (.bool (D4 l lo hi E9))):=by
 have hl:=hL.lenF a0Q (by decide)
 subst hl
 have hmx:=hL.mx
 have hle:=hL.le
 refine CT.body Tryz.call57 Tryz.func57 rfl Tryz.ntmps57 Lb rfl ?_
 refine kQ1 [0,1,2] ?_
 refine a9D [0,17] ?_
 refine wc (fun c17=>?_) fun c17=>?_
 refine kQ1 [6] ?_
 refine WC.ret (wR (h) ?_)
 exact⟨by rw[a5L c17],rfl⟩
 have d17:=a4T (q:=E9) c17
 refine kQ0 [0] ?_
 refine kQ1 [0,7] ?_
 refine B0 [0] rfl (fun μ F' h'=>∃ i:Nat,(i≤l.length∧D4 l lo hi E9=!((l.drop i).any fun x=>!E9 x))∧l.length - i=μ∧F'=[(7,.int .i64 i)]∧h=h') (l.length - 0) [(7,.int .i64 0)] (h0:=h) ?_ Sb ⟨0,⟨by omega,d17⟩,rfl,rfl,rfl⟩ ?_
 exact Su
 rintro _ _ _ ⟨i,⟨hk,hJ⟩,rfl,rfl,rfl⟩
 refine B2 rfl ?_
 refine kQ4 [0,7,21] ?_
 refine wc (fun c21=>?_) fun c21=>?_
 replace c21:=dT c21
 obtain⟨x,hx⟩:=A5 (l:=l) (k:=i) (by omega)
 rw[b1n hx] at hJ
 have hxo:=hok x (List.mem_of_getElem? hx)
 refine kQ0 [0,7] ?_
 refine kA4 ?_
 refine xf (E1 Et) (mayR_ct x _ (hxo.t.mono Sb) hxo.w) ?_
 refine kQ1 [0,7,29] ?_
 refine wc (fun c29=>?_) fun c29=>?_
 have d29:(!E9 x)=true:=c29
 rw[d29] at hJ
 refine kQ1 [6] ?_
 refine WC.ret (wR (h) ?_)
 exact⟨by rw[hJ];rfl,rfl⟩
 have d29:(!E9 x)=false:=c29
 rw[d29] at hJ
 refine kQ0 [0,7] ?_
 refine kA3 ?_
 refine WL.nil (A8 (l.length - (i+1)) [(7,.int .i64 (i+1))] (h'':=h) (by omega) ?_ Su Sb ⟨i+1,⟨by omega,by simpa using hJ⟩,rfl,rfl,rfl⟩)
 exact Su
 replace c21:=dF c21
 rw[List.drop_eq_nil_of_le (by omega)] at hJ
 refine kQ0 [] ?_
 refine kQ1 [6] ?_
 refine WC.ret (wR (h) ?_)
 exact⟨by rw[hJ];rfl,rfl⟩
theorem a6f (a:Option Addr) (k c:Nat) (l:List B) (lo hi:Int) (h:List Res) (m:View) (hL:Rd m h a k c 1 (fl encB l)) (hok:∀ x ∈ l,x.length≤Big) :
   CT Tryz.prog 102 [.slice a k c,.int .i64 lo,.int .i64 hi] h m (A6 h (.bool (D4 l lo hi Go.Lx.name))):=by
 have hl:=hL.lenF C9 (by decide)
 subst hl
 have hmx:=hL.mx
 have hle:=hL.le
 refine CT.body Tryz.call102 Tryz.func102 rfl Tryz.ntmps102 Lb rfl ?_
 refine kQ1 [0,1,2] ?_
 refine a9D [0,17] ?_
 refine wc (fun c17=>?_) fun c17=>?_
 refine kQ1 [6] ?_
 refine WC.ret (wR (h) ?_)
 exact⟨by rw[a5L c17],rfl⟩
 have d17:=a4T (q:=Go.Lx.name) c17
 refine kQ0 [0] ?_
 refine kQ1 [0,7] ?_
 refine B0 [0] rfl (fun μ F' h'=>∃ i:Nat,(i≤l.length∧D4 l lo hi Go.Lx.name=!((l.drop i).any fun x=>!Go.Lx.name x))∧l.length - i=μ∧F'=[(7,.int .i64 i)]∧h=h') (l.length - 0) [(7,.int .i64 0)] (h0:=h) ?_ Sb ⟨0,⟨by omega,d17⟩,rfl,rfl,rfl⟩ ?_
 exact Su
 rintro _ _ _ ⟨i,⟨hk,hJ⟩,rfl,rfl,rfl⟩
 refine B2 rfl ?_
 refine kQ4 [0,7,21] ?_
 refine wc (fun c21=>?_) fun c21=>?_
 replace c21:=dT c21
 obtain⟨x,hx⟩:=A5 (l:=l) (k:=i) (by omega)
 rw[b1n hx] at hJ
 have hxo:=hok x (List.mem_of_getElem? hx)
 refine kQ0 [0,7] ?_
 refine kA4 ?_
 refine xf (E1 Et) (CT.val (X8 x _ _ (Nat.le_trans hxo (by decide))) (congrArg Value.bool (Go.Lx.name_eq x).symm)) ?_
 refine kQ1 [0,7,29] ?_
 refine wc (fun c29=>?_) fun c29=>?_
 have d29:(!Go.Lx.name x)=true:=c29
 rw[d29] at hJ
 refine kQ1 [6] ?_
 refine WC.ret (wR (h) ?_)
 exact⟨by rw[hJ];rfl,rfl⟩
 have d29:(!Go.Lx.name x)=false:=c29
 rw[d29] at hJ
 refine kQ0 [0,7] ?_
 refine kA3 ?_
 refine WL.nil (A8 (l.length - (i+1)) [(7,.int .i64 (i+1))] (h'':=h) (by omega) ?_ Su Sb ⟨i+1,⟨by omega,by simpa using hJ⟩,rfl,rfl,rfl⟩)
 exact Su
 replace c21:=dF c21
 rw[List.drop_eq_nil_of_le (by omega)] at hJ
 refine kQ0 [] ?_
 refine kQ1 [6] ?_
 refine WC.ret (wR (h) ?_)
 exact⟨by rw[hJ];rfl,rfl⟩
theorem b8t {t:Ty} (h:Go.Ty.mayR t=true):decide (t.kind≤3)=Go.Ty.prim t.kind:=by
 cases hp:Go.Ty.prim t.kind with
 | true=>
   unfold Go.Ty.prim at hp
   simp only[Bool.or_eq_true,beq_iff_eq] at hp
   simp only[decide_eq_true_eq]
   omega
 | false=>
   unfold Go.Ty.mayR at h
   rw[hp] at h
   by_cases hf:Go.Ty.far t=true
   · rw[if_pos hf] at h;cases h
   rw[if_neg hf,if_neg (by decide)] at h
   by_cases h4:(t.kind==4)=true
   · rw[beq_iff_eq] at h4
     rw[h4]
     rfl
   · rw[if_neg h4] at h
     have:=(Go.Ty.eqT_iff t Go.Ty.timer).1 h
     rw[this]
     rfl
theorem b9o (t:Ty):U4 t=(Go.Ty.mayR t&&Go.Ty.prim t.kind&&(t.dim==0)):=by
 unfold U4
 rw[Go.Ty.may_eq]
 cases hm:Go.Ty.mayR t with
 | false=>rfl
 | true=>
   rw[b8t hm,Bool.true_and,Bool.true_and]
   exact Bool.and_comm _ _
theorem a6v (t:Ty) (h:List Res) (m:View) (hs:t.proto.length≤9223372036854775807):CT Tryz.prog 103 [tyV t] h m (A6 h (.bool (U4 t))):=by
 refine CT.body Tryz.call103 Tryz.func103 rfl Tryz.ntmps103 Lb rfl ?_
 refine j0 ?_
 refine xX fun b1=>?_
 refine kQ1 [1] ?_
 refine kA1 ?_
 refine xf (E1 Et) (Ty9.mayR_ct t _ _ hs) ?_
 refine kA3 ?_
 refine A3 (GU.t rfl rfl) (fun hc=>⟨Ev.func,(E1 (Eg hc)),Ty9.prim_ct t.kind _ _⟩) Lb ?_
 refine kQ7 [2] ?_
 refine WC.ret (wR (h) ?_)
 exact⟨by rw[b9o],rfl⟩
theorem c4y {m:View} {h:List Res} (f:Fo) (hw:FoW f):CT Tryz.prog 105 [foV f] h m (A6 h (.bool (foP f))):=by
 have hn2:f.name.length≤9223372036854775807:=Nat.le_trans hw.n (by decide)
 have hp2:f.ty.proto.length≤9223372036854775807:=Nat.le_trans hw.t.p (by decide)
 refine CT.body Tryz.call105 Tryz.func105 rfl Tryz.ntmps105 Lb rfl ?_
 refine j0 ?_
 refine xX fun b1=>?_
 refine kQ1 [1] ?_
 refine kA2 ?_
 refine xf (E1 Et) (X8 f.name _ _ hn2) ?_
 refine kA3 ?_
 refine A3 (GU.t rfl rfl) (fun hc=>⟨Ev.func,(E1 (Eg hc)),Ty9.mayR_ct f.ty _ _ hp2⟩) Lb ?_
 refine kA8 ?_
 refine A3 (a3N rfl rfl) (fun hc=>⟨Ev.func,(E1 (Eg hc)),a6v f.ty _ _ hp2⟩) Lb ?_
 refine zG (fun hc=>a2a hc rfl rfl) ?_
 refine kQ2 [2] ?_
 refine WC.ret (wR (h) ?_)
 exact⟨by unfold foP;rw[Go.Lx.name_eq,Go.Ty.may_eq],rfl⟩
theorem c2n {m:View} {h:List Res} (r:Rp) (hn:r.name.length≤Big) (hb:EOk m h r.base) (hcn:EOk m h r.count):CT Tryz.prog 62 [rpV r] h m (A6 h (.bool (N5 r))):=by
 have hn2:r.name.length≤9223372036854775807:=Nat.le_trans hn (by decide)
 refine CT.body Tryz.call62 Tryz.func62 rfl Tryz.ntmps62 Lb rfl ?_
 refine j0 ?_
 refine xX fun b1=>?_
 refine kQ1 [1] ?_
 refine kA2 ?_
 refine xG (K4 Et Ev.const) ?_
 refine kQ0 [1,5] ?_
 refine wc (fun c5=>?_) fun c5=>?_
 have hR:N5 r=(G4 r.base&&G4 r.count):=by unfold N5;rw[if_pos c5]
 refine kA2 ?_
 refine xf (E1 Et) (a8W r.base (hb.t.mono Sb)) ?_
 refine kA3 ?_
 refine A3 (GU.t rfl rfl) (fun hc=>⟨Ev.func,(E1 (Eg hc)),a8W r.count (hcn.t.mono Sb)⟩) Lb ?_
 refine kQ2 [2] ?_
 refine WC.ret (wR (h) ?_)
 exact⟨by rw[hR],rfl⟩
 have hR:N5 r=(Go.Lx.nameR r.name&&E9 r.base&&E9 r.count):=by unfold N5;rw[if_neg (by rw[c5];decide),Go.Lx.name_eq]
 refine kQ0 [1] ?_
 refine kA2 ?_
 refine xf (E1 Et) (X8 r.name _ _ hn2) ?_
 refine kA3 ?_
 refine A3 (GU.t rfl rfl) (fun hc=>⟨Ev.func,(E1 (Eg hc)),mayR_ct r.base _ (hb.t.mono Sb) hb.w⟩) Lb ?_
 refine kA4 ?_
 refine A3 (GU.t rfl rfl) (fun hc=>⟨Ev.func,(E1 (Eg hc)),mayR_ct r.count _ (hcn.t.mono Sb) hcn.w⟩) Lb ?_
 refine kQ2 [2] ?_
 refine WC.ret (wR (h) ?_)
 exact⟨by rw[hR],rfl⟩
end Go.Proofs.YtcfemegngeijcaaGreatDoor
end
section
namespace Go.Proofs.YtcfemegngeijcaaGreatDoor
set_option maxRecDepth 100000
set_option maxHeartbeats 2000000
open Go.Eng Go.Pc Go
open Go.Xp hiding B F1
open Go.Ty (Ty Vr eqT tyV K0 PrOk VOk encV D3 N6 D9 eqI a2Q a2U)
open Go.Lx (encB C9)
def eqB (x y:B):Bool:=x==y
theorem c3z {x y:B} (h:(!(x==y))=true):eqB x y=false:=by simpa [eqB] using h
theorem c5g {x y:B} (h:(!(x==y))=false):eqB x y=true:=by simpa [eqB] using h
theorem b48 (s1 s2:Option Addr) (n1 c1 n2 c2:Nat) (xs ys:List _) (h:List Res) (m:View) (h1:Rd m h s1 n1 c1 1 (fl encB xs)) (h2:Rd m h s2 n2 c2 1 (fl encB ys)) :
   CT Tryz.prog 39 [.slice s1 n1 c1,.slice s2 n2 c2] h m (A6 h (.bool (eqL eqB xs ys))):=by
 have l1:=h1.lenF C9 (by decide)
 have l2:=h2.lenF C9 (by decide)
 have m1:=h1.mx
 have m2:=h2.mx
 have k1:=h1.le
 have k2:=h2.le
 refine CT.body Tryz.call39 Tryz.func39 rfl Tryz.ntmps39 Lb rfl ?_
 refine kQ1 [0,1] ?_
 refine kQ5 [0,1,10] ?_
 refine wc (fun c10=>?_) fun c10=>?_
 replace c10:=a1U c10
 refine kQ1 [4] ?_
 refine WC.ret (wR (h) ?_)
 exact⟨by rw[R8 _ _ _ (by omega)],rfl⟩
 replace c10:=a1V c10
 refine kQ0 [0,1] ?_
 refine kQ1 [0,1,5] ?_
 refine B0 [0,1] rfl (fun μ F' h'=>∃ k:Nat,(k≤n1∧eqL eqB xs ys=eqL eqB (xs.drop k) (ys.drop k))∧n1 - k=μ∧F'=[(5,.int .i64 k)]∧h=h') (n1 - 0) [(5,.int .i64 0)] (h0:=h) ?_ Sb ⟨0,⟨by omega,by simp⟩,rfl,rfl,rfl⟩ ?_
 exact Su
 rintro _ _ _ ⟨k,⟨hk,hJ⟩,rfl,rfl,rfl⟩
 refine B2 rfl ?_
 refine kQ4 [0,1,5,14] ?_
 refine wc (fun c14=>?_) fun c14=>?_
 replace c14:=dT c14
 obtain⟨x,hx⟩:=A5 (l:=xs) (k:=k) (by omega)
 obtain⟨y,hy⟩:=A5 (l:=ys) (k:=k) (by omega)
 rw[P7 _ hx hy] at hJ
 refine kQ0 [0,1,5] ?_
 refine dS [] (.op 0 (.op 1 (.op 2 (.op 3 (.op 4 (.op 5 (.op 6 (.op 7 .nil)))))))) [8] E8 ?_
 refine kA8 ?_
 refine SR.nil rfl rfl ?_
 refine xG (Q7 Et Et) ?_
 refine kQ0 [0,1,5,25] ?_
 refine wc (fun c25=>?_) fun c25=>?_
 refine kQ1 [4] ?_
 refine WC.ret (wR (h) ?_)
 exact⟨by rw[hJ,c3z c25];rfl,rfl⟩
 rw[c5g c25,Bool.true_and] at hJ
 refine kQ0 [0,1,5] ?_
 refine kA3 ?_
 refine WL.nil (A8 (n1 - (k+1)) [(5,.int .i64 (k+1))] (h'':=h) (by omega) ?_ Su Sb ⟨k+1,⟨by omega,hJ⟩,rfl,rfl,rfl⟩)
 exact Su
 replace c14:=dF c14
 refine kQ0 [] ?_
 refine kQ1 [4] ?_
 refine WC.ret (wR (h) ?_)
 exact⟨by rw[hJ,List.drop_eq_nil_of_le (by omega),List.drop_eq_nil_of_le (by omega)];rfl,rfl⟩
theorem a8R (s1 s2:Option Addr) (n1 c1 n2 c2:Nat) (xs ys:List _) (h:List Res) (m:View) (h1:Rd m h s1 n1 c1 1 (fl N6 xs)) (h2:Rd m h s2 n2 c2 1 (fl N6 ys)) :
   CT Tryz.prog 76 [.slice s1 n1 c1,.slice s2 n2 c2] h m (A6 h (.bool (eqL eqI xs ys))):=by
 have l1:=h1.lenF D9 (by decide)
 have l2:=h2.lenF D9 (by decide)
 have m1:=h1.mx
 have m2:=h2.mx
 have k1:=h1.le
 have k2:=h2.le
 refine CT.body Tryz.call76 Tryz.func76 rfl Tryz.ntmps76 Lb rfl ?_
 refine kQ1 [0,1] ?_
 refine kQ5 [0,1,10] ?_
 refine wc (fun c10=>?_) fun c10=>?_
 replace c10:=a1U c10
 refine kQ1 [4] ?_
 refine WC.ret (wR (h) ?_)
 exact⟨by rw[R8 _ _ _ (by omega)],rfl⟩
 replace c10:=a1V c10
 refine kQ0 [0,1] ?_
 refine kQ1 [0,1,5] ?_
 refine B0 [0,1] rfl (fun μ F' h'=>∃ k:Nat,(k≤n1∧eqL eqI xs ys=eqL eqI (xs.drop k) (ys.drop k))∧n1 - k=μ∧F'=[(5,.int .i64 k)]∧h=h') (n1 - 0) [(5,.int .i64 0)] (h0:=h) ?_ Sb ⟨0,⟨by omega,by simp⟩,rfl,rfl,rfl⟩ ?_
 exact Su
 rintro _ _ _ ⟨k,⟨hk,hJ⟩,rfl,rfl,rfl⟩
 refine B2 rfl ?_
 refine kQ4 [0,1,5,14] ?_
 refine wc (fun c14=>?_) fun c14=>?_
 replace c14:=dT c14
 obtain⟨x,hx⟩:=A5 (l:=xs) (k:=k) (by omega)
 obtain⟨y,hy⟩:=A5 (l:=ys) (k:=k) (by omega)
 rw[P7 _ hx hy] at hJ
 refine kQ0 [0,1,5] ?_
 refine dS [] (.op 0 (.op 1 (.op 2 (.op 3 (.op 4 (.op 5 (.op 6 (.op 7 .nil)))))))) [8] E8 ?_
 refine kA8 ?_
 refine SR.nil rfl rfl ?_
 refine kQ1 [0,1,5,25] ?_
 refine wc (fun c25=>?_) fun c25=>?_
 refine kQ1 [4] ?_
 refine WC.ret (wR (h) ?_)
 exact⟨by rw[hJ,a2U c25];rfl,rfl⟩
 rw[a2Q c25,Bool.true_and] at hJ
 refine kQ0 [0,1,5] ?_
 refine kA3 ?_
 refine WL.nil (A8 (n1 - (k+1)) [(5,.int .i64 (k+1))] (h'':=h) (by omega) ?_ Su Sb ⟨k+1,⟨by omega,hJ⟩,rfl,rfl,rfl⟩)
 exact Su
 replace c14:=dF c14
 refine kQ0 [] ?_
 refine kQ1 [4] ?_
 refine WC.ret (wR (h) ?_)
 exact⟨by rw[hJ,List.drop_eq_nil_of_le (by omega),List.drop_eq_nil_of_le (by omega)];rfl,rfl⟩
structure GK (m:View) (h:List Res) (g:Gu):Prop where
 o:GOk m h g
 b:∀ x ∈ g.bl,POk m h x
theorem GK.mono {m:View} {h h':List Res} {g:Gu} (q:GK m h g) (r:h.Sublist h'):GK m h' g:=⟨q.o.mono r,fun x hx=>(q.b x hx).mono r⟩
theorem a2M (xs:List Ex) (ys:List Ex) (s1 s2:Option Addr) (n1 c1 n2 c2:Nat) (h:List Res) (m:View) (h1:Rd m h s1 n1 c1 6 (fl exE xs)) (h2:Rd m h s2 n2 c2 6 (fl exE ys)) (o1:∀ x ∈ xs,TOk m h x) (o2:∀ x ∈ ys,TOk m h x) :
   CT Tryz.prog 25 [.slice s1 n1 c1,.slice s2 n2 c2] h m (A6 h (.bool (eqL D6 xs ys))):=by
 have l1:=h1.lenF a0Q (by decide)
 have l2:=h2.lenF a0Q (by decide)
 have m1:=h1.mx
 have m2:=h2.mx
 have k1:=h1.le
 have k2:=h2.le
 refine CT.body Tryz.call25 Tryz.func25 rfl Tryz.ntmps25 Lb rfl ?_
 refine kQ1 [0,1] ?_
 refine kQ5 [0,1,10] ?_
 refine wc (fun c10=>?_) fun c10=>?_
 replace c10:=a1U c10
 refine kQ1 [4] ?_
 refine WC.ret (wR (h) ?_)
 exact⟨by rw[R8 _ _ _ (by omega)],rfl⟩
 replace c10:=a1V c10
 refine kQ0 [0,1] ?_
 refine kQ1 [0,1,5] ?_
 refine B0 [0,1] rfl (fun μ F' h'=>∃ k:Nat,(k≤n1∧eqL D6 xs ys=eqL D6 (xs.drop k) (ys.drop k))∧n1 - k=μ∧F'=[(5,.int .i64 k)]∧h=h') (n1 - 0) [(5,.int .i64 0)] (h0:=h) ?_ Sb ⟨0,⟨by omega,by simp⟩,rfl,rfl,rfl⟩ ?_
 exact Su
 rintro _ _ _ ⟨k,⟨hk,hJ⟩,rfl,rfl,rfl⟩
 refine B2 rfl ?_
 refine kQ4 [0,1,5,14] ?_
 refine wc (fun c14=>?_) fun c14=>?_
 replace c14:=dT c14
 obtain⟨x,hx⟩:=A5 (l:=xs) (k:=k) (by omega)
 obtain⟨y,hy⟩:=A5 (l:=ys) (k:=k) (by omega)
 rw[P7 _ hx hy] at hJ
 have hxm:=List.mem_of_getElem? hx
 have hxo:=o1 x hxm
 have hyo:=o2 y (List.mem_of_getElem? hy)
 refine kQ0 [0,1,5] ?_
 refine dS [] (.op 0 (.op 1 (.op 2 (.op 3 (.op 4 (.op 5 (.op 6 (.op 7 .nil)))))))) [8,9] E8 ?_
 refine kA8 ?_
 refine SR.nil rfl rfl ?_
 refine xf (E2 Et Et) (a0j x y _ _ (hxo.mono Sb) (hyo.mono Sb)) ?_
 refine kQ1 [0,1,5,26] ?_
 refine wc (fun c26=>?_) fun c26=>?_
 have d26:D6 x y=false:=by simpa using c26
 rw[d26] at hJ
 refine kQ1 [4] ?_
 refine WC.ret (wR (h) ?_)
 exact⟨by rw[hJ];rfl,rfl⟩
 have d26:D6 x y=true:=by simpa using c26
 rw[d26,Bool.true_and] at hJ
 refine kQ0 [0,1,5] ?_
 refine kA3 ?_
 refine WL.nil (A8 (n1 - (k+1)) [(5,.int .i64 (k+1))] (h'':=h) (by omega) ?_ Su Sb ⟨k+1,⟨by omega,hJ⟩,rfl,rfl,rfl⟩)
 exact Su
 replace c14:=dF c14
 refine kQ0 [] ?_
 refine kQ1 [4] ?_
 refine WC.ret (wR (h) ?_)
 exact⟨by rw[hJ,List.drop_eq_nil_of_le (by omega),List.drop_eq_nil_of_le (by omega)];rfl,rfl⟩
theorem a3Y (xs:List Pr) (ih:∀ x ∈ xs,∀ (y:Pr) (h:List Res) (m:View),POk m h x→POk m h y→CT Tryz.prog 11 [prV x,prV y] h m (A6 h (.bool (H2 x y)))) (ys:List Pr) (s1 s2:Option Addr) (n1 c1 n2 c2:Nat) (h:List Res) (m:View) (h1:Rd m h s1 n1 c1 42 (fl prE xs)) (h2:Rd m h s2 n2 c2 42 (fl prE ys)) (o1:∀ x ∈ xs,POk m h x) (o2:∀ x ∈ ys,POk m h x) :
   CT Tryz.prog 27 [.slice s1 n1 c1,.slice s2 n2 c2] h m (A6 h (.bool (eqL H2 xs ys))):=by
 have l1:=h1.lenF a1z (by decide)
 have l2:=h2.lenF a1z (by decide)
 have m1:=h1.mx
 have m2:=h2.mx
 have k1:=h1.le
 have k2:=h2.le
 refine CT.body Tryz.call27 Tryz.func27 rfl Tryz.ntmps27 Lb rfl ?_
 refine kQ1 [0,1] ?_
 refine kQ5 [0,1,10] ?_
 refine wc (fun c10=>?_) fun c10=>?_
 replace c10:=a1U c10
 refine kQ1 [4] ?_
 refine WC.ret (wR (h) ?_)
 exact⟨by rw[R8 _ _ _ (by omega)],rfl⟩
 replace c10:=a1V c10
 refine kQ0 [0,1] ?_
 refine kQ1 [0,1,5] ?_
 refine B0 [0,1] rfl (fun μ F' h'=>∃ k:Nat,(k≤n1∧eqL H2 xs ys=eqL H2 (xs.drop k) (ys.drop k))∧n1 - k=μ∧F'=[(5,.int .i64 k)]∧h=h') (n1 - 0) [(5,.int .i64 0)] (h0:=h) ?_ Sb ⟨0,⟨by omega,by simp⟩,rfl,rfl,rfl⟩ ?_
 exact Su
 rintro _ _ _ ⟨k,⟨hk,hJ⟩,rfl,rfl,rfl⟩
 refine B2 rfl ?_
 refine kQ4 [0,1,5,14] ?_
 refine wc (fun c14=>?_) fun c14=>?_
 replace c14:=dT c14
 obtain⟨x,hx⟩:=A5 (l:=xs) (k:=k) (by omega)
 obtain⟨y,hy⟩:=A5 (l:=ys) (k:=k) (by omega)
 rw[P7 _ hx hy] at hJ
 have hxm:=List.mem_of_getElem? hx
 have hxo:=o1 x hxm
 have hyo:=o2 y (List.mem_of_getElem? hy)
 refine kQ0 [0,1,5] ?_
 refine dS [] (.op 0 (.op 1 (.op 2 (.op 3 (.op 4 (.op 5 (.op 6 (.op 7 .nil)))))))) [8,9] E8 ?_
 refine kA8 ?_
 refine SR.nil rfl rfl ?_
 refine xf (E2 Et Et) (ih x hxm y _ _ (hxo.mono Sb) (hyo.mono Sb)) ?_
 refine kQ1 [0,1,5,26] ?_
 refine wc (fun c26=>?_) fun c26=>?_
 have d26:H2 x y=false:=by simpa using c26
 rw[d26] at hJ
 refine kQ1 [4] ?_
 refine WC.ret (wR (h) ?_)
 exact⟨by rw[hJ];rfl,rfl⟩
 have d26:H2 x y=true:=by simpa using c26
 rw[d26,Bool.true_and] at hJ
 refine kQ0 [0,1,5] ?_
 refine kA3 ?_
 refine WL.nil (A8 (n1 - (k+1)) [(5,.int .i64 (k+1))] (h'':=h) (by omega) ?_ Su Sb ⟨k+1,⟨by omega,hJ⟩,rfl,rfl,rfl⟩)
 exact Su
 replace c14:=dF c14
 refine kQ0 [] ?_
 refine kQ1 [4] ?_
 refine WC.ret (wR (h) ?_)
 exact⟨by rw[hJ,List.drop_eq_nil_of_le (by omega),List.drop_eq_nil_of_le (by omega)];rfl,rfl⟩
theorem b7P (x y:Int):eqI x y=true↔x=y:=by simp[eqI]
theorem c0u (xs ys:List Int):eqL eqI xs ys=(xs==ys):=by
 rw[Bool.eq_iff_iff,b1F b7P]
 simp
theorem b9W {m:View} {h:List Res} {v:Vr} (q:VOk m h v):Rd m h v.a v.n v.c 1 (fl N6 v.items):=q.rd
theorem a9v (u1 u2:Bool) (s1 s2:Option Addr) (n1 c1 n2 c2:Nat) (xs ys:List Vr) (h:List Res) (m:View) (p1:PrOk m h s1 n1 c1 xs) (p2:PrOk m h s2 n2 c2 ys) :
   CT Tryz.prog 40 [.agg #[.bool u1,.slice s1 n1 c1],.agg #[.bool u2,.slice s2 n2 c2]] h m (A6 h (.bool (a1Z u1 xs u2 ys))):=by
 have h1:=p1.rd
 have h2:=p2.rd
 have l1:=h1.lenF D3 (by decide)
 have l2:=h2.lenF D3 (by decide)
 have m1:=h1.mx
 have m2:=h2.mx
 have k1:=h1.le
 have k2:=h2.le
 have e0:a1Z u1 xs u2 ys=((u1==u2)&&eqL P3 xs ys):=rfl
 refine CT.body Tryz.call40 Tryz.func40 rfl Tryz.ntmps40 Lb rfl ?_
 refine j0 ?_
 refine xX fun b2=>?_
 refine xX fun b3=>?_
 refine kQ1 [2,3] ?_
 refine kA4 ?_
 refine xG (c1A uu4 Et Et) ?_
 refine kQ9 [2,3,19] ?_
 refine wc (fun c19=>?_) fun c19=>?_
 have d19:a1Z u1 xs u2 ys=false:=by
   rw[e0]
   rcases Bool.or_eq_true_iff.1 c19 with c | c
   · have:(u1==u2)=false:=by simpa using c
     rw[this];rfl
   · rw[R8 P3 xs ys (by simp at c;omega),Bool.and_false]
 refine kQ1 [4] ?_
 refine WC.ret (wR (h) ?_)
 exact⟨by rw[d19],rfl⟩
 have d19:(u1==u2)=true∧n1=n2:=by
   have:=Bool.or_eq_false_iff.1 c19
   exact⟨by simpa using this.1,by have:=this.2;simp at this;omega⟩
 rw[d19.1,Bool.true_and] at e0
 refine kQ0 [2,3] ?_
 refine kQ1 [2,3,5] ?_
 refine B0 [2,3] rfl (fun μ F' h'=>∃ k:Nat,(k≤n1∧a1Z u1 xs u2 ys=eqL P3 (xs.drop k) (ys.drop k))∧n1 - k=μ∧F'=[(5,.int .i64 k)]∧.pt b3 (.cells [.bool u2,.slice s2 n2 c2].toArray 40 (0,0))::.pt b2 (.cells [.bool u1,.slice s1 n1 c1].toArray 40 (0,0))::h=h') (n1 - 0) [(5,.int .i64 0)] (h0:=.pt b3 (.cells [.bool u2,.slice s2 n2 c2].toArray 40 (0,0))::.pt b2 (.cells [.bool u1,.slice s1 n1 c1].toArray 40 (0,0))::h) ?_ Sb ⟨0,⟨by omega,by rw[e0];simp⟩,rfl,rfl,rfl⟩ ?_
 exact Su
 rintro _ _ _ ⟨k,⟨hk,hJ⟩,rfl,rfl,rfl⟩
 refine B2 rfl ?_
 refine kQ5 [2,3,5,24] ?_
 refine wc (fun c24=>?_) fun c24=>?_
 replace c24:=dT c24
 obtain⟨x,hx⟩:=A5 (l:=xs) (k:=k) (by omega)
 obtain⟨y,hy⟩:=A5 (l:=ys) (k:=k) (by omega)
 rw[P7 _ hx hy] at hJ
 have hxo:=b9W (p1.ok x (List.mem_of_getElem? hx))
 have hyo:=b9W (p2.ok y (List.mem_of_getElem? hy))
 have hi:=c0u x.items y.items
 refine kQ0 [2,3,5] ?_
 refine dS [] (.op 0 (.op 1 (.op 2 (.op 3 (.op 4 (.op 5 (.op 6 (.op 7 (.op 8 (.op 9 (.op 10 (.op 11 (.op 12 (.op 13 (.op 14 (.op 15 (.op 16 (.op 17 (.op 18 (.op 19 (.op 20 (.op 21 (.op 22 (.op 23 (.op 24 (.op 25 .nil)))))))))))))))))))))))))) [26,27,28] E8 ?_
 refine a4k ?_
 refine yG rfl (Q7 Et Et) ?_
 refine kA1 ?_
 refine C0 rfl rfl (GU.f rfl rfl) (fun hc=>PO.fieldAddr b7u rfl (Nat.ne_of_beq_eq_false rfl) Et) Lb ?_
 refine C0 rfl rfl (GU.f rfl rfl) (fun hc=>D8 c2y rfl (Eg hc) Me rfl) Lb ?_
 refine C0 rfl rfl (GU.f rfl rfl) (fun hc=>PO.move Et) Lb ?_
 refine C0 rfl rfl (GU.f rfl rfl) (fun hc=>F6 a0b.und a0b.size a0b.posz (Eg hc) (Eg hc) (h1.mono (View.le.refl _) Sb) rfl (by omega)) Lb ?_
 refine C0 rfl rfl (GU.f rfl rfl) (fun hc=>H4 a6s rfl (Nat.ne_of_beq_eq_false rfl) D3 (Nat.succ_pos _) (h1.mono (View.le.refl _) Sb) (by assumption) (Eg hc)) Lb ?_
 refine C0 rfl rfl (GU.f rfl rfl) (fun hc=>H5 a8x rfl D3 (h1.mono (View.le.refl _) Sb) (Eg hc) (by assumption) rfl) Lb ?_
 refine C0 rfl rfl (GU.f rfl rfl) (fun hc=>PO.fieldAddr b7u rfl (Nat.ne_of_beq_eq_false rfl) Et) Lb ?_
 refine C0 rfl rfl (GU.f rfl rfl) (fun hc=>D8 c2y rfl (Eg hc) Me rfl) Lb ?_
 refine C0 rfl rfl (GU.f rfl rfl) (fun hc=>PO.move Et) Lb ?_
 refine C0 rfl rfl (GU.f rfl rfl) (fun hc=>F6 a0b.und a0b.size a0b.posz (Eg hc) (Eg hc) (h2.mono (View.le.refl _) Sb) rfl (by omega)) Lb ?_
 refine C0 rfl rfl (GU.f rfl rfl) (fun hc=>H4 a6s rfl (Nat.ne_of_beq_eq_false rfl) D3 (Nat.succ_pos _) (h2.mono (View.le.refl _) Sb) (by assumption) (Eg hc)) Lb ?_
 refine C0 rfl rfl (GU.f rfl rfl) (fun hc=>H5 a8x rfl D3 (h2.mono (View.le.refl _) Sb) (Eg hc) (by assumption) rfl) Lb ?_
 refine SR.nil rfl rfl ?_
 refine A3 (GU.f rfl rfl) (fun hc=>⟨Ev.func,(E2 (Eg hc) (Eg hc)),a8R _ _ _ _ _ _ x.items y.items _ _ (hxo.mono (View.le.refl _) Sb) (hyo.mono (View.le.refl _) Sb)⟩) Lb ?_
 refine kQ2 [2,3,5,55] ?_
 refine wc (fun c55=>?_) fun c55=>?_
 replace c55:((!(x.tag==y.tag))||!(eqL eqI x.items y.items))=true:=c55
 have d55:P3 x y=false:=by
   unfold P3
   rw[← hi]
   cases hq:(x.tag==y.tag) <;> cases hr:eqL eqI x.items y.items <;> simp_all
 rw[d55] at hJ
 refine kQ1 [4] ?_
 refine WC.ret (wR (h) ?_)
 exact⟨by rw[hJ];rfl,rfl⟩
 replace c55:((!(x.tag==y.tag))||!(eqL eqI x.items y.items))=false:=c55
 have d55:P3 x y=true:=by
   unfold P3
   rw[← hi]
   cases hq:(x.tag==y.tag) <;> cases hr:eqL eqI x.items y.items <;> simp_all
 rw[d55,Bool.true_and] at hJ
 refine kQ0 [2,3,5] ?_
 refine kA3 ?_
 refine WL.nil (A8 (n1 - (k+1)) [(5,.int .i64 (k+1))] (h'':=.pt b3 (.cells [.bool u2,.slice s2 n2 c2].toArray 40 (0,0))::.pt b2 (.cells [.bool u1,.slice s1 n1 c1].toArray 40 (0,0))::h) (by omega) ?_ Su Sb ⟨k+1,⟨by omega,hJ⟩,rfl,rfl,rfl⟩)
 exact Su
 replace c24:=dF c24
 refine kQ0 [] ?_
 refine kQ1 [4] ?_
 refine WC.ret (wR (h) ?_)
 exact⟨by rw[hJ,List.drop_eq_nil_of_le (by omega),List.drop_eq_nil_of_le (by omega)];rfl,rfl⟩
theorem a5l (x:Gu) (ih:∀ z ∈ x.bl,∀ (y:Pr) (h:List Res) (m:View),POk m h z→POk m h y→CT Tryz.prog 11 [prV z,prV y] h m (A6 h (.bool (H2 z y)))) (y:Gu) (h:List Res) (m:View) (hx:GK m h x) (hy:GK m h y) :
   CT Tryz.prog 38 [guV x,guV y] h m (A6 h (.bool (R3 x y))):=by
 have v0:=View.le.refl m
 refine CT.body Tryz.call38 Tryz.func38 rfl Tryz.ntmps38 Lb rfl ?_
 refine j0 ?_
 refine xX fun b2=>?_
 refine xX fun b3=>?_
 refine kQ1 [2,3] ?_
 refine a6I ?_
 refine zG (fun hc=>K4 (Eg hc) (Eg hc)) ?_
 refine kA6 ?_
 refine A3 (GU.t rfl rfl) (fun hc=>⟨Ev.func,(E2 (Eg hc) (Eg hc)),a0j x.cond y.cond _ _ (hx.o.cond.t.mono Sb) (hy.o.cond.t.mono Sb)⟩) Lb ?_
 refine kA6 ?_
 refine A3 (GU.t rfl rfl) (fun hc=>⟨Ev.func,(E2 (Eg hc) (Eg hc)),a0j x.ch y.ch _ _ (hx.o.ch.t.mono Sb) (hy.o.ch.t.mono Sb)⟩) Lb ?_
 refine kA6 ?_
 refine A3 (GU.t rfl rfl) (fun hc=>⟨Ev.func,(E2 (Eg hc) (Eg hc)),a0j x.time y.time _ _ (hx.o.time.t.mono Sb) (hy.o.time.t.mono Sb)⟩) Lb ?_
 refine kA6 ?_
 refine A3 (GU.t rfl rfl) (fun hc=>⟨Ev.func,(E2 (Eg hc) (Eg hc)),a2M x.tg.l y.tg.l _ _ _ _ _ _ _ _ (hx.o.tg.rd.mono v0 Sb) (hy.o.tg.rd.mono v0 Sb) (fun z hz=>(hx.o.tg.ok z hz).t.mono Sb) (fun z hz=>(hy.o.tg.ok z hz).t.mono Sb)⟩) Lb ?_
 refine kA6 ?_
 refine A3 (GU.t rfl rfl) (fun hc=>⟨Ev.func,(E2 (Eg hc) (Eg hc)),a2M x.vl.l y.vl.l _ _ _ _ _ _ _ _ (hx.o.vl.rd.mono v0 Sb) (hy.o.vl.rd.mono v0 Sb) (fun z hz=>(hx.o.vl.ok z hz).t.mono Sb) (fun z hz=>(hy.o.vl.ok z hz).t.mono Sb)⟩) Lb ?_
 refine kA6 ?_
 refine A3 (GU.t rfl rfl) (fun hc=>⟨Ev.func,(E2 (Eg hc) (Eg hc)),a3Y x.bl ih y.bl _ _ _ _ _ _ _ _ (hx.o.b.mono v0 Sb) (hy.o.b.mono v0 Sb) (fun z hz=>(hx.b z hz).mono Sb) (fun z hz=>(hy.b z hz).mono Sb)⟩) Lb ?_
 refine kQ2 [4] ?_
 refine WC.ret (wR (h) ?_)
 exact⟨by rw[b3t],rfl⟩
theorem a9g (xs:List Gu) (ih:∀ x ∈ xs,∀ z ∈ x.bl,∀ (y:Pr) (h:List Res) (m:View),POk m h z→POk m h y→CT Tryz.prog 11 [prV z,prV y] h m (A6 h (.bool (H2 z y)))) (ys:List Gu) (s1 s2:Option Addr) (n1 c1 n2 c2:Nat) (h:List Res) (m:View) (h1:Rd m h s1 n1 c1 23 (fl guE xs)) (h2:Rd m h s2 n2 c2 23 (fl guE ys)) (o1:∀ x ∈ xs,GK m h x) (o2:∀ x ∈ ys,GK m h x) :
   CT Tryz.prog 26 [.slice s1 n1 c1,.slice s2 n2 c2] h m (A6 h (.bool (eqL R3 xs ys))):=by
 have l1:=h1.lenF a0O (by decide)
 have l2:=h2.lenF a0O (by decide)
 have m1:=h1.mx
 have m2:=h2.mx
 have k1:=h1.le
 have k2:=h2.le
 refine CT.body Tryz.call26 Tryz.func26 rfl Tryz.ntmps26 Lb rfl ?_
 refine kQ1 [0,1] ?_
 refine kQ5 [0,1,10] ?_
 refine wc (fun c10=>?_) fun c10=>?_
 replace c10:=a1U c10
 refine kQ1 [4] ?_
 refine WC.ret (wR (h) ?_)
 exact⟨by rw[R8 _ _ _ (by omega)],rfl⟩
 replace c10:=a1V c10
 refine kQ0 [0,1] ?_
 refine kQ1 [0,1,5] ?_
 refine B0 [0,1] rfl (fun μ F' h'=>∃ k:Nat,(k≤n1∧eqL R3 xs ys=eqL R3 (xs.drop k) (ys.drop k))∧n1 - k=μ∧F'=[(5,.int .i64 k)]∧h=h') (n1 - 0) [(5,.int .i64 0)] (h0:=h) ?_ Sb ⟨0,⟨by omega,by simp⟩,rfl,rfl,rfl⟩ ?_
 exact Su
 rintro _ _ _ ⟨k,⟨hk,hJ⟩,rfl,rfl,rfl⟩
 refine B2 rfl ?_
 refine kQ4 [0,1,5,14] ?_
 refine wc (fun c14=>?_) fun c14=>?_
 replace c14:=dT c14
 obtain⟨x,hx⟩:=A5 (l:=xs) (k:=k) (by omega)
 obtain⟨y,hy⟩:=A5 (l:=ys) (k:=k) (by omega)
 rw[P7 _ hx hy] at hJ
 have hxm:=List.mem_of_getElem? hx
 have hxo:=o1 x hxm
 have hyo:=o2 y (List.mem_of_getElem? hy)
 refine kQ0 [0,1,5] ?_
 refine dS [] (.op 0 (.op 1 (.op 2 (.op 3 (.op 4 (.op 5 (.op 6 (.op 7 .nil)))))))) [8,9] E8 ?_
 refine kA8 ?_
 refine SR.nil rfl rfl ?_
 refine xf (E2 Et Et) (a5l x (ih x hxm) y _ _ (hxo.mono Sb) (hyo.mono Sb)) ?_
 refine kQ1 [0,1,5,26] ?_
 refine wc (fun c26=>?_) fun c26=>?_
 have d26:R3 x y=false:=by simpa using c26
 rw[d26] at hJ
 refine kQ1 [4] ?_
 refine WC.ret (wR (h) ?_)
 exact⟨by rw[hJ];rfl,rfl⟩
 have d26:R3 x y=true:=by simpa using c26
 rw[d26,Bool.true_and] at hJ
 refine kQ0 [0,1,5] ?_
 refine kA3 ?_
 refine WL.nil (A8 (n1 - (k+1)) [(5,.int .i64 (k+1))] (h'':=h) (by omega) ?_ Su Sb ⟨k+1,⟨by omega,hJ⟩,rfl,rfl,rfl⟩)
 exact Su
 replace c14:=dF c14
 refine kQ0 [] ?_
 refine kQ1 [4] ?_
 refine WC.ret (wR (h) ?_)
 exact⟨by rw[hJ,List.drop_eq_nil_of_le (by omega),List.drop_eq_nil_of_le (by omega)];rfl,rfl⟩
structure SK (m:View) (h:List Res) (s:Sp):Prop where
 o:SOk m h s
 b:∀ x ∈ s.bl,POk m h x
theorem SK.mono {m:View} {h h':List Res} {s:Sp} (q:SK m h s) (r:h.Sublist h'):SK m h' s:=⟨q.o.mono r,fun x hx=>(q.b x hx).mono r⟩
theorem b9Y {x y:Fo} (h:(!(a0g x y))=true):a0g x y=false:=by simpa using h
theorem b9d {x y:Fo} (h:(!(a0g x y))=false):a0g x y=true:=by simpa using h
set_option maxHeartbeats 1000000 in
theorem a5T (x:Sp) (ih:∀ z ∈ x.bl,∀ (y:Pr) (h:List Res) (m:View),POk m h z→POk m h y→CT Tryz.prog 11 [prV z,prV y] h m (A6 h (.bool (H2 z y)))) (y:Sp) (h:List Res) (m:View) (hx:SK m h x) (hy:SK m h y) :
   CT Tryz.prog 28 [spV x,spV y] h m (A6 h (.bool (X9 x y))):=by
 have v0:=View.le.refl m
 have f1:=hx.o.fr
 have f2:=hy.o.fr
 have m1:=f1.mx
 have m2:=f2.mx
 have k1:=f1.le
 have k2:=f2.le
 refine CT.body Tryz.call28 Tryz.func28 rfl Tryz.ntmps28 Lb rfl ?_
 refine j0 ?_
 refine xX fun b2=>?_
 refine xX fun b3=>?_
 refine kQ1 [2,3] ?_
 refine a6I ?_
 refine F3 (GU.f rfl rfl) (fun hc=>b1j a7M (by kernel_rfl) (by kernel_rfl) (Eg hc) (Eg hc) rfl) Lb ?_
 refine a9D [2,3,26] ?_
 refine wc (fun c26=>?_) fun c26=>?_
 have d26:X9 x y=false:=b7z c26
 refine kQ1 [4] ?_
 refine WC.ret (wR (h) ?_)
 exact⟨by rw[d26],rfl⟩
 have d26:=b4s (x:=x) (y:=y) c26
 obtain⟨hlen,e0⟩:=d26
 refine kQ0 [2,3] ?_
 refine kQ1 [2,3,5] ?_
 refine B0 [2,3] rfl (fun μ F' h'=>∃ k:Nat,(k≤x.fs.l.length∧eqL a0g x.fs.l y.fs.l=eqL a0g (x.fs.l.drop k) (y.fs.l.drop k))∧x.fs.l.length - k=μ∧F'=[(5,.int .i64 k)]∧.pt b3 (.cells (spE y).toArray 43 (0,0))::.pt b2 (.cells (spE x).toArray 43 (0,0))::h=h') (x.fs.l.length - 0) [(5,.int .i64 0)] (h0:=.pt b3 (.cells (spE y).toArray 43 (0,0))::.pt b2 (.cells (spE x).toArray 43 (0,0))::h) ?_ Sb ⟨0,⟨by omega,by simp⟩,rfl,rfl,rfl⟩ ?_
 exact Su
 rintro _ _ _ ⟨k,⟨hk,hJ⟩,rfl,rfl,rfl⟩
 refine B2 rfl ?_
 refine kQ5 [2,3,5,31] ?_
 refine wc (fun c31=>?_) fun c31=>?_
 replace c31:=dT c31
 obtain⟨u,hu⟩:=A5 (l:=x.fs.l) (k:=k) (by omega)
 obtain⟨v,hv⟩:=A5 (l:=y.fs.l) (k:=k) (by omega)
 rw[P7 _ hu hv] at hJ
 refine kQ0 [2,3,5] ?_
 refine dS [] (.op 0 (.op 1 (.op 2 (.op 3 (.op 4 (.op 5 (.op 6 (.op 7 (.op 8 (.op 9 .nil)))))))))) [10] E8 ?_
 refine a6I ?_
 refine SR.nil rfl rfl ?_
 refine xG (b2G (o:=36) b5R (by kernel_rfl) (by kernel_rfl) Et Et (by kernel_rfl) rfl) ?_
 refine kQ0 [2,3,5,44] ?_
 refine wc (fun c44=>?_) fun c44=>?_
 rw[b9Y (x:=u) (y:=v) c44] at hJ
 refine kQ1 [4] ?_
 refine WC.ret (wR (h) ?_)
 exact⟨by rw[e0,hJ];rfl,rfl⟩
 rw[b9d (x:=u) (y:=v) c44,Bool.true_and] at hJ
 refine kQ0 [2,3,5] ?_
 refine kA3 ?_
 refine WL.nil (A8 (x.fs.l.length - (k+1)) [(5,.int .i64 (k+1))] (h'':=.pt b3 (.cells (spE y).toArray 43 (0,0))::.pt b2 (.cells (spE x).toArray 43 (0,0))::h) (by omega) ?_ Su Sb ⟨k+1,⟨by omega,hJ⟩,rfl,rfl,rfl⟩)
 exact Su
 replace c31:=dF c31
 rw[List.drop_eq_nil_of_le (by omega),List.drop_eq_nil_of_le (by omega)] at hJ
 refine kQ0 [2,3] ?_
 refine kA4 ?_
 refine xf (E2 Et Et) (b48 _ _ _ _ _ _ x.names.l y.names.l _ _ (hx.o.nr.mono v0 Sb) (hy.o.nr.mono v0 Sb)) ?_
 refine kA5 ?_
 refine A3 (GU.t rfl rfl) (fun hc=>⟨Ev.func,(E2 (Eg hc) (Eg hc)),a0j x.e y.e _ _ (hx.o.e.t.mono Sb) (hy.o.e.t.mono Sb)⟩) Lb ?_
 refine kA6 ?_
 refine A3 (GU.t rfl rfl) (fun hc=>⟨Ev.func,(E2 (Eg hc) (Eg hc)),a9v x.cs y.cs _ _ _ _ _ _ x.vs.l y.vs.l _ _ (hx.o.v.mono v0 Sb) (hy.o.v.mono v0 Sb)⟩) Lb ?_
 refine kA6 ?_
 refine A3 (GU.t rfl rfl) (fun hc=>⟨Ev.func,(E2 (Eg hc) (Eg hc)),a3Y x.bl ih y.bl _ _ _ _ _ _ _ _ (hx.o.b.mono v0 Sb) (hy.o.b.mono v0 Sb) (fun z hz=>(hx.b z hz).mono Sb) (fun z hz=>(hy.b z hz).mono Sb)⟩) Lb ?_
 refine kQ2 [4] ?_
 refine WC.ret (wR (h) ?_)
 exact⟨by rw[e0,hJ];rfl,rfl⟩
theorem b03 {m:View} {h:List Res} {p:Pr} (q:POk m h p):∀ g ∈ p.gl,GK m h g:=fun g hg=>⟨q.own.gs g hg,fun _ hx=>q.sub (.g hg hx)⟩
theorem c0q {m:View} {h:List Res} {p:Pr} (q:POk m h p):SK m h p.sp:=⟨q.own.sp,fun _ hx=>q.sub (.s hx)⟩
set_option maxHeartbeats 2000000 in
theorem a8n (p:Pr):∀ (q:Pr) (h:List Res) (m:View),POk m h p→POk m h q→CT Tryz.prog 11 [prV p,prV q] h m (A6 h (.bool (H2 p q))):=by
 refine Pr.ind (q:=fun p=>∀ (q:Pr) (h:List Res) (m:View),POk m h p→POk m h q→CT Tryz.prog 11 [prV p,prV q] h m (A6 h (.bool (H2 p q)))) (fun p ih q h m hp hq=>?_) p
 have v0:=View.le.refl m
 have e0:=b2o p q
 have x1:=hp.own
 have y1:=hq.own
 have f1:=x1.pn
 have f2:=y1.pn
 have m1:=f1.mx
 have m2:=f2.mx
 have k1:=f1.le
 have k2:=f2.le
 refine CT.body Tryz.call11 Tryz.func11 rfl Tryz.ntmps11 Lb rfl ?_
 refine j0 ?_
 refine xX fun b2=>?_
 refine xX fun b3=>?_
 refine kQ1 [2,3] ?_
 refine kQ7 [2,3,13] ?_
 refine wc (fun c13=>?_) fun c13=>?_
 replace c13:=a1U c13
 rw[R8 _ p.pn.l q.pn.l (by omega),Bool.false_and] at e0
 refine kQ1 [4] ?_
 refine WC.ret (wR (h) ?_)
 exact⟨by rw[e0],rfl⟩
 replace c13:=a1V c13
 refine kQ0 [2,3] ?_
 refine kQ1 [2,3,5] ?_
 refine B0 [2,3] rfl (fun μ F' h'=>∃ k:Nat,(k≤p.pn.l.length∧eqL (fun a b:Int=>a==b) p.pn.l q.pn.l=eqL (fun a b:Int=>a==b) (p.pn.l.drop k) (q.pn.l.drop k))∧p.pn.l.length - k=μ∧F'=[(5,.int .i64 k)]∧.pt b3 (.cells (prE q).toArray 45 (0,0))::.pt b2 (.cells (prE p).toArray 45 (0,0))::h=h') (p.pn.l.length - 0) [(5,.int .i64 0)] (h0:=.pt b3 (.cells (prE q).toArray 45 (0,0))::.pt b2 (.cells (prE p).toArray 45 (0,0))::h) ?_ Sb ⟨0,⟨by omega,by simp⟩,rfl,rfl,rfl⟩ ?_
 exact Su
 rintro _ _ _ ⟨k,⟨hk,hJ⟩,rfl,rfl,rfl⟩
 refine B2 rfl ?_
 refine kQ5 [2,3,5,18] ?_
 refine wc (fun c18=>?_) fun c18=>?_
 replace c18:=dT c18
 obtain⟨u,hu⟩:=A5 (l:=p.pn.l) (k:=k) (by omega)
 obtain⟨v,hv⟩:=A5 (l:=q.pn.l) (k:=k) (by omega)
 rw[P7 _ hu hv] at hJ
 refine kQ0 [2,3,5] ?_
 refine dS [] (.op 0 (.op 1 (.op 2 (.op 3 (.op 4 (.op 5 (.op 6 (.op 7 (.op 8 (.op 9 .nil)))))))))) [10] E8 ?_
 refine a6I ?_
 refine SR.nil rfl rfl ?_
 refine kQ1 [2,3,5,31] ?_
 refine wc (fun c31=>?_) fun c31=>?_
 replace c31:=a1U c31
 rw[show(u==v)=false by simpa using c31] at hJ
 refine kQ1 [4] ?_
 refine WC.ret (wR (h) ?_)
 exact⟨by rw[e0,hJ];rfl,rfl⟩
 replace c31:=a1V c31
 rw[show(u==v)=true by simpa using c31,Bool.true_and] at hJ
 refine kQ0 [2,3,5] ?_
 refine kA3 ?_
 refine WL.nil (A8 (p.pn.l.length - (k+1)) [(5,.int .i64 (k+1))] (h'':=.pt b3 (.cells (prE q).toArray 45 (0,0))::.pt b2 (.cells (prE p).toArray 45 (0,0))::h) (by omega) ?_ Su Sb ⟨k+1,⟨by omega,hJ⟩,rfl,rfl,rfl⟩)
 exact Su
 replace c18:=dF c18
 rw[List.drop_eq_nil_of_le (by omega),List.drop_eq_nil_of_le (by omega)] at hJ
 refine kQ0 [2,3] ?_
 refine kA6 ?_
 refine xG (K4 Et Et) ?_
 refine kA7 ?_
 refine A3 (GU.t rfl rfl) (fun hc=>⟨Ev.func,(E2 (Eg hc) (Eg hc)),a0j p.rep.base q.rep.base _ _ (x1.rb.t.mono Sb) (y1.rb.t.mono Sb)⟩) Lb ?_
 refine kA8 ?_
 refine A3 (GU.t rfl rfl) (fun hc=>⟨Ev.func,(E2 (Eg hc) (Eg hc)),a0j p.rep.count q.rep.count _ _ (x1.rc.t.mono Sb) (y1.rc.t.mono Sb)⟩) Lb ?_
 refine kQ2 [2,3,6] ?_
 refine a6I ?_
 refine zG (fun hc=>K4 (Eg hc) (Eg hc)) ?_
 refine kA9 ?_
 refine A3 (GU.t rfl rfl) (fun hc=>⟨Ev.func,(E2 (Eg hc) (Eg hc)),a0j p.ch q.ch _ _ (x1.ch.t.mono Sb) (y1.ch.t.mono Sb)⟩) Lb ?_
 refine kA6 ?_
 refine A3 (GU.t rfl rfl) (fun hc=>⟨Ev.func,(E2 (Eg hc) (Eg hc)),a2M p.tg.l q.tg.l _ _ _ _ _ _ _ _ (x1.tg.rd.mono v0 Sb) (y1.tg.rd.mono v0 Sb) (fun z hz=>(x1.tg.ok z hz).t.mono Sb) (fun z hz=>(y1.tg.ok z hz).t.mono Sb)⟩) Lb ?_
 refine kA6 ?_
 refine A3 (GU.t rfl rfl) (fun hc=>⟨Ev.func,(E2 (Eg hc) (Eg hc)),a2M p.ex.l q.ex.l _ _ _ _ _ _ _ _ (x1.ex.rd.mono v0 Sb) (y1.ex.rd.mono v0 Sb) (fun z hz=>(x1.ex.ok z hz).t.mono Sb) (fun z hz=>(y1.ex.ok z hz).t.mono Sb)⟩) Lb ?_
 refine kA6 ?_
 refine A3 (GU.t rfl rfl) (fun hc=>⟨Ev.func,(E2 (Eg hc) (Eg hc)),a9g p.gl (fun g hg z hz=>ih z (.g hg hz)) q.gl _ _ _ _ _ _ _ _ (x1.g.mono v0 Sb) (y1.g.mono v0 Sb) (fun z hz=>(b03 hp z hz).mono Sb) (fun z hz=>(b03 hq z hz).mono Sb)⟩) Lb ?_
 refine kA6 ?_
 refine A3 (GU.t rfl rfl) (fun hc=>⟨Ev.func,(E2 (Eg hc) (Eg hc)),a3Y p.ll (fun z hz=>ih z (.l hz)) q.ll _ _ _ _ _ _ _ _ (x1.l.mono v0 Sb) (y1.l.mono v0 Sb) (fun z hz=>(hp.sub (.l hz)).mono Sb) (fun z hz=>(hq.sub (.l hz)).mono Sb)⟩) Lb ?_
 refine kA6 ?_
 refine A3 (GU.t rfl rfl) (fun hc=>⟨Ev.func,(E2 (Eg hc) (Eg hc)),a5T p.sp (fun z hz=>ih z (.s hz)) q.sp _ _ ((c0q hp).mono Sb) ((c0q hq).mono Sb)⟩) Lb ?_
 refine kQ2 [4] ?_
 refine WC.ret (wR (h) ?_)
 exact⟨by rw[e0,hJ];rfl,rfl⟩
end Go.Proofs.YtcfemegngeijcaaGreatDoor
end
section
namespace Go.Proofs.YtcfemegngeijcaaGreatDoor
set_option maxRecDepth 100000
set_option maxHeartbeats 2000000
open Go.Eng Go.Pc Go.Sx Go
open Go.Xp hiding B F1
open Go.Ty (Ty Vr Tok eqT tyV K0 B7 B9 T9 zeroK N6 D9 encV D3 VOk PrOk)
open Go.Lx (encB C9 textO)
open Go.Ly (Rw T7 J8 eqR b0W b1a b1C)
theorem b5Z {m m':View} (g:Glob m) (h:m.le m'):Glob m':=
 ⟨by obtain⟨x,hx⟩:=g.max;exact⟨x,h.cell hx⟩,fun j v e=>h.cell (g.prim j v e),fun j v e=>h.cell (g.sOne j v e),fun j v e=>h.cell (g.sSome j v e),fun j v e=>h.cell (g.sAll j v e)⟩
section
variable {m m':View} {h h':List Res}
theorem c4K (V:Vw m' h' m h) {e:Ex} (q:TOk m' h' e):TOk m h e:=by
 induction q with
 | mk hr _ ih=>exact .mk (V _ _ _ _ _ hr) ih
theorem a3T (V:Vw m' h' m h) {e:Ex} (q:EOk m' h' e):EOk m h e:=⟨c4K V q.t,q.w⟩
theorem b0C (V:Vw m' h' m h) {s:Sli Ex} (q:LOk m' h' s):LOk m h s:=⟨V _ _ _ _ _ q.rd,fun x hx=>a3T V (q.ok x hx)⟩
theorem c4N (V:Vw m' h' m h) {a:Option Addr} {k c:Nat} {l:List Vr} (q:PrOk m' h' a k c l):PrOk m h a k c l:=⟨V _ _ _ _ _ q.rd,fun v hv=>⟨V _ _ _ _ _ (q.ok v hv).rd⟩,q.tag⟩
theorem c3P (V:Vw m' h' m h) {s:Sp} (q:SOk m' h' s):SOk m h s:=⟨q.k,q.ty,V _ _ _ _ _ q.nr,q.nw,a3T V q.e,c4N V q.v,q.vw,V _ _ _ _ _ q.fr,q.fw,V _ _ _ _ _ q.b⟩
theorem c3L (V:Vw m' h' m h) {g:Gu} (q:GOk m' h' g):GOk m h g:=⟨q.k,q.n,a3T V q.cond,a3T V q.ch,b0C V q.tg,b0C V q.vl,a3T V q.time,V _ _ _ _ _ q.b⟩
theorem c6I (V:Vw m' h' m h) {p:Pr} (q:P1 m' h' p):P1 m h p:=⟨q.k,q.n,a3T V q.ch,b0C V q.tg,b0C V q.ex,q.rn,a3T V q.rb,a3T V q.rc,V _ _ _ _ _ q.g,fun x hx=>c3L V (q.gs x hx),V _ _ _ _ _ q.l,V _ _ _ _ _ q.pn,q.pw,c3P V q.sp⟩
theorem c3Q (V:Vw m' h' m h) {p:Pr} (q:POk m' h' p):POk m h p:=by
 induction q with
 | mk o _ ih=>exact .mk (c6I V o) ih
end
theorem a9Y {m:View} (hg:Glob m) (ra:Option Addr) (rc:Nat) (R:List Rw) (h:List Res) (ht:∀ x ∈ R,x.text.length < 4294967281) :
   CT Tryz.prog 16 [.slice ra R.length rc] (.row (.slice ra R.length rc) 78 3 R.length (fl T7 R)::h) m (fun v _ h'=>∃ x hh,v=.tuple #[prV x,.int .i64 ((U7 R).2.1:Nat),.int .i64 (U7 R).2.2]∧stP x=(U7 R).1∧POk m (hh++h) x∧h'=hh++h):=
 (CT.lendRow Tryz.call16 fun m' hle hr=>b2q (b5Z hg hle) ra rc R h hr ht).mono (by
   rintro v m2 h2 - ⟨m',hx,h3,⟨x,bl,h1,h4,h5,rfl⟩,rfl,V,-⟩
   exact⟨x,hx++bl,h1,h4,by rw[List.append_assoc];exact c3Q V (h5.mono (List.sublist_append_left _ _)),by rw[List.append_assoc]⟩)
theorem b5Y (s:B):(Lib.splitB ⟨#[47]⟩ 0 (Lib.countB ⟨s.toArray⟩ ⟨#[47]⟩) ⟨s.toArray⟩).map (·.data.toList)=N4 s:=by
 rw[Lib.splitB_data]
 rfl
theorem b4o {m:View} (hg:Glob m) (s:B) (hs:s.length < 4294967281) (h:List Res):CT Tryz.prog 63 [str s,str [47]] h m
   (fun v _ h'=>∃ b,v=.slice (some ⟨b,0,none⟩) (N4 s).length (N4 s).length∧h'=.pt b (.cells (fl encB (N4 s)).toArray 9 (0,0))::h):=by
 obtain⟨x,hx⟩:=hg.max
 refine⟨Tryz.call63,fun w st=>Calls.mono (Tryz.strings_Split ⟨s.toArray⟩ ⟨#[47]⟩ x w hs (st.cell hx) (by decide)) ?_⟩
 rintro e w' ⟨rfl,rfl⟩
 have h1:=b5Y s
 have h2:Lib.countB ⟨s.toArray⟩ ⟨#[47]⟩+1=(N4 s).length:=by
   rw[← h1,List.length_map,Lib.splitB_all ⟨#[47]⟩ (by decide) 0 _ ⟨s.toArray⟩ rfl]
 have h3:(Lib.splitB ⟨#[47]⟩ 0 (Lib.countB ⟨s.toArray⟩ ⟨#[47]⟩) ⟨s.toArray⟩).map Value.string=fl encB (N4 s):=by
   rw[← h1]
   generalize Lib.splitB ⟨#[47]⟩ 0 (Lib.countB ⟨s.toArray⟩ ⟨#[47]⟩) ⟨s.toArray⟩=l
   induction l with
   | nil=>rfl
   | cons y l ih=>
     rw[List.map_cons,List.map_cons,ih]
     rfl
 rw[h2,h3]
 exact⟨_,m,_,rfl,View.le.refl m,st.alloc _,w.heap.size,rfl,rfl⟩
theorem b6a (s:B) (h:List Res) (m:View):CT Tryz.prog 64 [str s,str [46]] h m (A6 h (str (Lib.trimLeftB s 46))):=
 CT.ofCalls Tryz.call64 fun w _=>Tryz.strings_TrimLeft_one ⟨s.toArray⟩ 46 (by decide) w
theorem b1z {m:View} (hg:Glob m) (s:B) (hs:s.length < 4294967281) (hl:(N4 s).length≤1000) (hp:∀ x ∈ N4 s,x.length≤100000) (h:List Res) :
   CT Tryz.prog 31 [str s] h m (fun v _ h'=>b6F T7 78 3 h (a03 s) v h'):=by
 refine CT.body Tryz.call31 Tryz.func31 rfl Tryz.ntmps31 Lb rfl ?_
 refine kQ1 [0] ?_
 refine WL.addNil 78 3 ?_
 refine kQ1 [0,3] ?_
 refine kA1 ?_
 refine xg (E2 Et Ev.const) (b4o hg s hs _) ?_
 rintro _ _ ⟨b8,rfl,rfl⟩
 refine kQ2 [3,8,9,10] ?_
 refine B0 [8,9] rfl (fun μ F' h'=>∃ a3:Option Addr,∃ c3:Nat,∃ j:Nat,∃ r:List Rw,((j≤(N4 s).length∧r.length=j)∧r=a6h 0 ((N4 s).take j))∧(N4 s).length - j=μ∧F'=[(3,.slice a3 r.length c3),(10,.int .i64 j)]∧.pt b8 (.cells (fl encB (N4 s)).toArray 9 (0,0))::.row (.slice a3 r.length c3) 78 3 r.length (fl T7 r)::h=h') ((N4 s).length - 0) [(3,.slice none ([]).length 0),(10,.int .i64 0)] (h0:=.pt b8 (.cells (fl encB (N4 s)).toArray 9 (0,0))::.row (.slice none ([]).length 0) 78 3 ([]).length (fl T7 ([]))::h) ?_ Sb ⟨none,0,0,[],⟨⟨by omega,rfl⟩,rfl⟩,rfl,rfl,rfl⟩ ?_
 exact Su
 rintro _ _ _ ⟨a3,c3,j,r,⟨⟨hj,hr⟩,hJ⟩,rfl,rfl,rfl⟩
 refine B2 rfl ?_
 refine kQ1 [3,8,9,10,11] ?_
 refine wc (fun c11=>?_) fun c11=>?_
 replace c11:=dT c11
 obtain⟨x,hx⟩:=A5 (l:=N4 s) (k:=j) (by omega)
 have hxl:=hp x (List.mem_of_getElem? hx)
 have htl:(Lib.trimLeftB x 46).length≤x.length:=(List.dropWhile_sublist _).length_le
 have htk:a6h 0 ((N4 s).take (j+1))=a6h 0 ((N4 s).take j)++[a5U j x]:=by rw[a7Z hx,Nat.zero_add]
 have hln:(r++[a5U j x]).length=r.length+1:=List.length_append
 have hrd:Rd m (.pt b8 (.cells (fl encB (N4 s)).toArray 9 (0,0))::.row (.slice a3 r.length c3) 78 3 r.length (fl T7 r)::h) (some ⟨b8,0,none⟩) (N4 s).length (N4 s).length 1 (fl encB (N4 s)):=Rd.ofPt (by rw[a7V C9]) (by omega) Me
 refine kQ0 [3,8,9,10] ?_
 refine kQ5 [3,4,5,8,9,10] ?_
 refine kA1 ?_
 refine xf (E2 Et Ev.const) (b6a x _ _) ?_
 refine kQ1 [3,4,5,6,8,9,10] ?_
 refine kA4 ?_
 refine xG (K9 uu9 Et) ?_
 refine kA1 ?_
 refine xG (K9 uu9 Et) ?_
 refine xG (S8 Et Et (by omega)) ?_
 refine kA2 ?_
 refine xY a6n (EvP.cons Et EvP.nil) fun b27=>?_
 refine xD a6n (Ev.tmp rfl) (Ev.tmp rfl) (show r.length+1=(r++[a5U j x]).length by simp) (G3 (enc:=T7) _ (a5U j x)) fun a28 c28=>?_
 refine kQ1 [3,8,9,10] ?_
 refine kA2 ?_
 refine WL.nil (A8 ((N4 s).length - (j+1)) [(3,.slice a28 (r++[a5U j x]).length c28),(10,.int .i64 (j+1))] (h'':=.pt b8 (.cells (fl encB (N4 s)).toArray 9 (0,0))::.row (.slice a28 (r++[a5U j x]).length c28) 78 3 (r++[a5U j x]).length (fl T7 (r++[a5U j x]))::h) (by omega) ?_ Su Sb ⟨a28,c28,j+1,r++[a5U j x],⟨⟨by omega,by omega⟩,by rw[htk,hJ]⟩,rfl,rfl,rfl⟩)
 exact Su
 replace c11:=dF c11
 rw[List.take_of_length_le (by omega)] at hJ
 subst hJ
 refine kQ0 [3] ?_
 refine kQ2 [2] ?_
 refine WC.ret (wR (.row (.slice a3 (a03 s).length c3) 78 3 (a03 s).length (fl T7 (a03 s))::h) ?_)
 exact⟨_,_,_,rfl,rfl,rfl⟩
theorem b4v (s1 s2:Option Addr) (n1 c1 n2 c2:Nat) (xs ys:List _) (h:List Res) (m:View) (h1:Rd m h s1 n1 c1 3 (fl T7 xs)) (h2:Rd m h s2 n2 c2 3 (fl T7 ys)) :
   CT Tryz.prog 33 [.slice s1 n1 c1,.slice s2 n2 c2] h m (A6 h (.bool (eqL eqR xs ys))):=by
 have l1:=h1.lenF J8 (by decide)
 have l2:=h2.lenF J8 (by decide)
 have m1:=h1.mx
 have m2:=h2.mx
 have k1:=h1.le
 have k2:=h2.le
 refine CT.body Tryz.call33 Tryz.func33 rfl Tryz.ntmps33 Lb rfl ?_
 refine kQ1 [0,1] ?_
 refine kQ5 [0,1,10] ?_
 refine wc (fun c10=>?_) fun c10=>?_
 replace c10:=a1U c10
 refine kQ1 [4] ?_
 refine WC.ret (wR (h) ?_)
 exact⟨by rw[R8 _ _ _ (by omega)],rfl⟩
 replace c10:=a1V c10
 refine kQ0 [0,1] ?_
 refine kQ3 [0,1,12,13] ?_
 refine B0 [0,1,12] rfl (fun μ F' h'=>∃ k:Nat,(k≤n1∧eqL eqR xs ys=eqL eqR (xs.drop k) (ys.drop k))∧n1 - k=μ∧F'=[(13,.int .i64 k)]∧h=h') (n1 - 0) [(13,.int .i64 0)] (h0:=h) ?_ Sb ⟨0,⟨by omega,by simp⟩,rfl,rfl,rfl⟩ ?_
 exact Su
 rintro _ _ _ ⟨k,⟨hk,hJ⟩,rfl,rfl,rfl⟩
 refine B2 rfl ?_
 refine kQ1 [0,1,12,13,14] ?_
 refine wc (fun c14=>?_) fun c14=>?_
 replace c14:=dT c14
 obtain⟨x,hx⟩:=A5 (l:=xs) (k:=k) (by omega)
 obtain⟨y,hy⟩:=A5 (l:=ys) (k:=k) (by omega)
 rw[P7 _ hx hy] at hJ
 refine kQ0 [0,1,12,13] ?_
 refine kQ2 [0,1,5,12,13] ?_
 refine dS [] (.op 0 (.op 1 (.op 2 (.op 3 (.op 4 (.op 5 (.op 6 (.op 7 .nil)))))))) [8] E8 ?_
 refine kA8 ?_
 refine SR.nil rfl rfl ?_
 refine xG (b1j c1r (by kernel_rfl) (by kernel_rfl) Et Et rfl) ?_
 refine kQ0 [0,1,12,13,24] ?_
 refine wc (fun c24=>?_) fun c24=>?_
 refine kQ1 [4] ?_
 refine WC.ret (wR (h) ?_)
 exact⟨by rw[hJ,b1a c24];rfl,rfl⟩
 rw[b0W c24,Bool.true_and] at hJ
 refine kQ0 [0,1,12,13] ?_
 refine kA2 ?_
 refine WL.nil (A8 (n1 - (k+1)) [(13,.int .i64 (k+1))] (h'':=h) (by omega) ?_ Su Sb ⟨k+1,⟨by omega,hJ⟩,rfl,rfl,rfl⟩)
 exact Su
 replace c14:=dF c14
 refine kQ0 [] ?_
 refine kQ1 [4] ?_
 refine WC.ret (wR (h) ?_)
 exact⟨by rw[hJ,List.drop_eq_nil_of_le (by omega),List.drop_eq_nil_of_le (by omega)];rfl,rfl⟩
end Go.Proofs.YtcfemegngeijcaaGreatDoor
end
section
namespace Go.Proofs.YtcfemegngeijcaaGreatDoor
set_option maxRecDepth 100000
set_option maxHeartbeats 2000000
open Go.Eng Go.Pc Go.Sx Go
open Go.Xp hiding B F1
open Go.Ty (Ty Vr Tok eqT tyV K0 B7 B9 T9 zeroK N6 D9 encV D3 VOk PrOk)
open Go.Lx (encB C9 textO)
open Go.Ly (Rw T7 J8 eqR b0W b1a b1C)
structure TxtOk (s:B):Prop where
 n:s.length < 4294967281
 l:(N4 s).length≤1000
 p:∀ x ∈ N4 s,x.length≤100000
 t:∀ x ∈ a03 s,x.text.length < 4294967281
def a5D (s:B):Bool:=decide (s.length < 1000)&&decide ((N4 s).length≤1000)&&(N4 s).all (fun x=>decide (x.length≤1000))&&(a03 s).all (fun x=>decide (x.text.length≤1000))
theorem a0L {s:B} (h:a5D s=true):TxtOk s:=by
 unfold a5D at h
 simp only[Bool.and_eq_true,decide_eq_true_eq,List.all_eq_true] at h
 obtain⟨⟨⟨h1,h2⟩,h3⟩,h4⟩:=h
 exact⟨by omega,h2,fun x hx=>by have:=h3 x hx;omega,fun x hx=>by have:=h4 x hx;omega⟩
theorem a2V {m:View} (hg:Glob m) (hp:Pow m) (s:B) (k:Int) (hT:TxtOk s) (hM:a3B s k=true) (h:List Res) :
   CT Tryz.prog 14 [str s,.int .u8 k] h m (A6 h (.bool true)):=by
 unfold a3B at hM
 simp only[Bool.and_eq_true,beq_iff_eq] at hM
 obtain⟨⟨⟨⟨hM1,hM2⟩,hM3⟩,hM4⟩,hM5⟩:=hM
 refine CT.body Tryz.call14 Tryz.func14 rfl Tryz.ntmps14 Lb rfl ?_
 refine kQ1 [0,1] ?_
 refine kA1 ?_
 refine xg (E1 Et) (b1z hg s hT.n hT.l hT.p _) ?_
 rintro _ _ ⟨a12,c12,_,rfl,rfl,rfl⟩
 refine xg (E1 Et) (a9Y hg _ _ (a03 s) _ hT.t) ?_
 rintro _ _ ⟨x,hh,rfl,hst,hok,rfl⟩
 rw[hM2,hM3]
 have hxk:x.k=k:=by rw[← (a8L x).1,hst];exact hM1
 have hpx:a0N x=a0N (U7 (a03 s)).1:=by rw[← hst,c0C]
 refine kA4 ?_
 refine xW fun b5=>?_
 refine kQ3 [0,1,5,6,7] ?_
 refine kA1 ?_
 refine xg (E1 Et) (b9p hg hp x _ (hok.mono Sb)) ?_
 rintro _ _ ⟨a19,c19,bl2,rfl,hrd,rfl⟩
 rw[hpx,hM4]
 rw[hpx] at hrd
 refine WL.perm List.perm_middle ?_
 refine kQ5 [0,1,5,6,7,8,9] ?_
 refine kA4 ?_
 refine wV (b':=true) (by simpa using hxk) ?_
 refine kA1 ?_
 refine zU ?_
 refine kA1 ?_
 refine zU ?_
 refine kA3 ?_
 refine zU ?_
 refine kA1 ?_
 refine zU ?_
 refine kA3 ?_
 refine zU ?_
 refine kA1 ?_
 refine zU ?_
 refine kA3 ?_
 refine zU ?_
 refine kA1 ?_
 refine zU ?_
 refine kA1 ?_
 refine zU ?_
 refine xg (E1 Et) (b1z hg s hT.n hT.l hT.p _) ?_
 rintro _ _ ⟨a41,c41,_,rfl,rfl,rfl⟩
 refine A0 (a:=a41) Me fun p41 q41 r41=>?_
 refine zU ?_
 refine xf (E2 Et Et) ((b4v _ _ _ _ _ _ (a0N (U7 (a03 s)).1).1 (a03 s) _ _ (hrd.mono (View.le.refl m) (((List.sublist_append_left _ _).cons _).cons _)) (Rd.inRow Me r41 p41 q41)).val (congrArg Value.bool hM5)) ?_
 refine kQ2 [4] ?_
 refine WC.ret (wR (h) ?_)
 exact⟨rfl,rfl⟩
end Go.Proofs.YtcfemegngeijcaaGreatDoor
end
section
namespace Go.Proofs.YtcfemegngeijcaaGreatDoor
set_option maxRecDepth 100000
set_option maxHeartbeats 2000000
open Go.Eng Go.Pc Go
open Go.Xp hiding B F1
open Go.Ty (Ty Vr eqT tyV K0 PrOk VOk encV D3 N6 D9 eqI a2Q a2U)
open Go.Lx (encB C9)
theorem b6M {P:Program} {n:Cx} {F:Fm} {h:List Res} {m:View} {ty:TypeId} {pos:String} {after:Array Edge} {dst:Option Tmp} {g:Option (Nat × Bool)} {x y:Operand} {i j:Int} {t t':TypeId} (ex:Ev n F x (.int .i64 i)) (ey:Ev n F y (.int .i64 j)) (_:(0:Int)≤1) :
   PO P ⟨dst,.binOp .add t x y t',ty,pos,after,g⟩ n F h m (.int .i64 (IntKind.i64.wrap (i+j))):=P4 ex ey (by simp[iop])
abbrev W64 (v:Int):Int:=IntKind.i64.wrap v
theorem c5n (a b:Int):W64 (W64 a+W64 b)=W64 (a+b):=by
 unfold W64
 rw[IntKind.wrap_i64,IntKind.wrap_i64,IntKind.wrap_i64,IntKind.wrap_i64]
 omega
theorem Z4 {x:Pr}:∀ {l:List Pr} {j:Nat},l[j]?=some x→N1 (l.take (j+1))=N1 (l.take j)+Q1 x
 | [],_,h=>by cases h
 | y::l,0,h=>by
   cases h
   show Q1 _+N1 (l.take 0)=N1 []+_
   rw[List.take_zero]
   unfold N1
   omega
 | y::l,j+1,h=>by
   have ih:=Z4 (l:=l) (j:=j) (by simpa using h)
   show Q1 y+N1 (l.take (j+1))=(Q1 y+N1 (l.take j))+_
   omega
theorem a5C {g:Gu}:∀ {l:List Gu} {j:Nat},l[j]?=some g→a08 (l.take (j+1))=a08 (l.take j)+N1 g.bl
 | [],_,h=>by cases h
 | y::l,0,h=>by
   cases h
   show b3U _+a08 (l.take 0)=a08 []+_
   rw[List.take_zero,b0N]
   unfold a08
   omega
 | y::l,j+1,h=>by
   have ih:=a5C (l:=l) (j:=j) (by simpa using h)
   show b3U y+a08 (l.take (j+1))=(b3U y+a08 (l.take j))+_
   omega
theorem a6K {v:Int} {a b:Nat} {c:Int} {x:Pr} (hv:v=W64 (c+(a:Int))) (hb:b=a+Q1 x):W64 (v+W64 (Q1 x))=W64 (c+(b:Int)):=by
 subst hv hb
 rw[c5n]
 congr 1
 omega
set_option maxHeartbeats 4000000 in
theorem b5P (p:Pr):∀ (h:List Res) (m:View),POk m h p→CT Tryz.prog 7 [prV p] h m (A6 h (.int .i64 (W64 (Q1 p)))):=by
 refine Pr.ind (q:=fun p=>∀ (h:List Res) (m:View),POk m h p→CT Tryz.prog 7 [prV p] h m (A6 h (.int .i64 (W64 (Q1 p))))) (fun p ih h m hP=>?_) p
 have hO:=hP.own
 have hrl:=hO.l
 have hrg:=hO.g
 have hrb:=hO.sp.b
 have hlx:=Nat.le_trans hrl.le hrl.mx
 have hgx:=Nat.le_trans hrg.le hrg.mx
 have hbx:=Nat.le_trans hrb.le hrb.mx
 have hce:=a6g p
 rw[a5X] at hce
 refine CT.body Tryz.call7 Tryz.func7 rfl Tryz.ntmps7 Lb rfl ?_
 refine j0 ?_
 refine xX fun b1=>?_
 refine kQ1 [1] ?_
 refine kQ1 [1,3] ?_
 refine kQ4 [1,3,13,14,15] ?_
 refine B0 [1,13,14] rfl (fun μ F' h'=>∃ v:Int,∃ j:Nat,(j≤p.ll.length∧v=W64 (1+(N1 (p.ll.take j):Nat)))∧p.ll.length - j=μ∧F'=[(3,.int .i64 v),(15,.int .i64 j)]∧.pt b1 (.cells (prE p).toArray 45 (0,0))::h=h') (p.ll.length - 0) [(3,.int .i64 1),(15,.int .i64 0)] (h0:=.pt b1 (.cells (prE p).toArray 45 (0,0))::h) ?_ Sb ⟨1,0,⟨Nat.zero_le _,rfl⟩,rfl,rfl,rfl⟩ ?_
 exact Su
 rintro _ _ _ ⟨v,j,⟨hj,hv⟩,rfl,rfl,rfl⟩
 refine B2 rfl ?_
 refine kQ1 [1,3,13,14,15,16] ?_
 refine wc (fun c16=>?_) fun c16=>?_
 replace c16:=dT c16
 obtain⟨x,hx⟩:=A5 (l:=p.ll) (k:=j) (by omega)
 have hin:In x p:=.l (List.mem_of_getElem? hx)
 refine kQ0 [1,3,13,14,15] ?_
 refine kA2 ?_
 refine xW fun b5=>?_
 refine kQ1 [1,3,5,13,14,15] ?_
 refine kA2 ?_
 refine xf (E1 Et) (ih x hin _ m ((hP.sub hin).mono Sb)) ?_
 refine xG (b6M Et Et (by omega)) ?_
 refine kQ1 [1,3,13,14,15] ?_
 refine kA2 ?_
 refine WL.nil (A8 (p.ll.length - (j+1)) [(3,.int .i64 (W64 (v+W64 (Q1 x)))),(15,.int .i64 (j+1))] (h'':=.pt b1 (.cells (prE p).toArray 45 (0,0))::h) (by omega) ?_ Su Sb ⟨W64 (v+W64 (Q1 x)),j+1,⟨by omega,a6K hv (Z4 (l:=p.ll) hx)⟩,rfl,rfl,rfl⟩)
 exact Su
 replace c16:=dF c16
 rw[List.take_of_length_le (by omega)] at hv
 refine kQ0 [1,3] ?_
 refine kQ5 [1,3,26,27,28] ?_
 refine B0 [1,26,27] rfl (fun μ F' h'=>∃ v:Int,∃ j:Nat,(j≤p.sp.bl.length∧v=W64 ((1+(N1 p.ll:Int))+(N1 (p.sp.bl.take j):Nat)))∧p.sp.bl.length - j=μ∧F'=[(3,.int .i64 v),(28,.int .i64 j)]∧.pt b1 (.cells (prE p).toArray 45 (0,0))::h=h') (p.sp.bl.length - 0) [(3,.int .i64 v),(28,.int .i64 0)] (h0:=.pt b1 (.cells (prE p).toArray 45 (0,0))::h) ?_ Sb ⟨v,0,⟨Nat.zero_le _,by rw[hv,List.take_zero];congr 1⟩,rfl,rfl,rfl⟩ ?_
 exact Su
 rintro _ _ _ ⟨v,j,⟨hj,hv⟩,rfl,rfl,rfl⟩
 refine B2 rfl ?_
 refine kQ1 [1,3,26,27,28,29] ?_
 refine wc (fun c29=>?_) fun c29=>?_
 replace c29:=dT c29
 obtain⟨x,hx⟩:=A5 (l:=p.sp.bl) (k:=j) (by omega)
 have hin:In x p:=.s (List.mem_of_getElem? hx)
 refine kQ0 [1,3,26,27,28] ?_
 refine kA2 ?_
 refine xW fun b7=>?_
 refine kQ1 [1,3,7,26,27,28] ?_
 refine kA2 ?_
 refine xf (E1 Et) (ih x hin _ m ((hP.sub hin).mono Sb)) ?_
 refine xG (b6M Et Et (by omega)) ?_
 refine kQ1 [1,3,26,27,28] ?_
 refine kA2 ?_
 refine WL.nil (A8 (p.sp.bl.length - (j+1)) [(3,.int .i64 (W64 (v+W64 (Q1 x)))),(28,.int .i64 (j+1))] (h'':=.pt b1 (.cells (prE p).toArray 45 (0,0))::h) (by omega) ?_ Su Sb ⟨W64 (v+W64 (Q1 x)),j+1,⟨by omega,a6K hv (Z4 (l:=p.sp.bl) hx)⟩,rfl,rfl,rfl⟩)
 exact Su
 replace c29:=dF c29
 rw[List.take_of_length_le (by omega)] at hv
 refine kQ0 [1,3] ?_
 refine kQ4 [3,38,39,40] ?_
 refine B0 [38,39] rfl (fun μ F' h'=>∃ v:Int,∃ j:Nat,(j≤p.gl.length∧v=W64 (((1+(N1 p.ll:Int))+(N1 p.sp.bl:Nat))+(a08 (p.gl.take j):Nat)))∧p.gl.length - j=μ∧F'=[(3,.int .i64 v),(40,.int .i64 j)]∧.pt b1 (.cells (prE p).toArray 45 (0,0))::h=h') (p.gl.length - 0) [(3,.int .i64 v),(40,.int .i64 0)] (h0:=.pt b1 (.cells (prE p).toArray 45 (0,0))::h) ?_ Sb ⟨v,0,⟨Nat.zero_le _,by rw[hv,List.take_zero];congr 1⟩,rfl,rfl,rfl⟩ ?_
 exact Su
 rintro _ _ _ ⟨v,j,⟨hj,hv⟩,rfl,rfl,rfl⟩
 refine B2 rfl ?_
 refine kQ1 [3,38,39,40,41] ?_
 refine wc (fun c41=>?_) fun c41=>?_
 replace c41:=dT c41
 obtain⟨g,hg1⟩:=A5 (l:=p.gl) (k:=j) (by omega)
 have hgm:=List.mem_of_getElem? hg1
 have hgb:=(hO.gs g hgm).b
 have hgbx:=Nat.le_trans hgb.le hgb.mx
 refine kQ0 [3,38,39,40] ?_
 refine kA2 ?_
 refine xW fun b9=>?_
 refine kQ1 [3,9,38,39,40] ?_
 refine kQ4 [3,38,39,40,45,46,47] ?_
 refine B0 [38,39,40,45,46] rfl (fun μ F' h'=>∃ w:Int,∃ i:Nat,(i≤g.bl.length∧w=W64 ((((1+(N1 p.ll:Int))+(N1 p.sp.bl:Nat))+(a08 (p.gl.take j):Nat))+(N1 (g.bl.take i):Nat)))∧g.bl.length - i=μ∧F'=[(3,.int .i64 w),(47,.int .i64 i)]∧.pt b1 (.cells (prE p).toArray 45 (0,0))::h=h') (g.bl.length - 0) [(3,.int .i64 v),(47,.int .i64 0)] (h0:=.pt b1 (.cells (prE p).toArray 45 (0,0))::h) ?_ Sb ⟨v,0,⟨Nat.zero_le _,by rw[hv,List.take_zero];congr 1⟩,rfl,rfl,rfl⟩ ?_
 exact Su
 rintro _ _ _ ⟨w,i,⟨hi,hw⟩,rfl,rfl,rfl⟩
 refine B2 rfl ?_
 refine kQ1 [3,38,39,40,45,46,47,48] ?_
 refine wc (fun c48=>?_) fun c48=>?_
 replace c48:=dT c48
 obtain⟨x,hx⟩:=A5 (l:=g.bl) (k:=i) (by omega)
 have hin:In x p:=.g hgm (List.mem_of_getElem? hx)
 refine kQ0 [3,38,39,40,45,46,47] ?_
 refine kA2 ?_
 refine xW fun b11=>?_
 refine kQ1 [3,11,38,39,40,45,46,47] ?_
 refine kA2 ?_
 refine xf (E1 Et) (ih x hin _ m ((hP.sub hin).mono Sb)) ?_
 refine xG (b6M Et Et (by omega)) ?_
 refine kQ1 [3,38,39,40,45,46,47] ?_
 refine kA2 ?_
 refine WL.nil (A8 (g.bl.length - (i+1)) [(3,.int .i64 (W64 (w+W64 (Q1 x)))),(47,.int .i64 (i+1))] (h'':=.pt b1 (.cells (prE p).toArray 45 (0,0))::h) (by omega) ?_ Su Sb ⟨W64 (w+W64 (Q1 x)),i+1,⟨by omega,a6K hw (Z4 (l:=g.bl) hx)⟩,rfl,rfl,rfl⟩)
 exact Su
 replace c48:=dF c48
 rw[List.take_of_length_le (l:=g.bl) (by omega)] at hw
 refine kQ0 [3,38,39,40] ?_
 refine kA2 ?_
 refine WL.nil (A8 (p.gl.length - (j+1)) [(3,.int .i64 w),(40,.int .i64 (j+1))] (h'':=.pt b1 (.cells (prE p).toArray 45 (0,0))::h) (by omega) ?_ Su Sb ⟨w,j+1,⟨by omega,by rw[hw,a5C hg1];congr 1;omega⟩,rfl,rfl,rfl⟩)
 exact Su
 replace c41:=dF c41
 rw[List.take_of_length_le (by omega)] at hv
 refine kQ0 [3] ?_
 refine kQ2 [2] ?_
 refine WC.ret (wR (h) ?_)
 exact⟨by rw[hv,hce];congr 2;omega,rfl⟩
set_option maxHeartbeats 4000000 in
theorem c0a (p:Pr):∀ (h:List Res) (m:View),POk m h p→CT Tryz.prog 8 [prV p] h m (A6 h (.int .i64 (W64 (Q1 p)))):=by
 refine Pr.ind (q:=fun p=>∀ (h:List Res) (m:View),POk m h p→CT Tryz.prog 8 [prV p] h m (A6 h (.int .i64 (W64 (Q1 p))))) (fun p ih h m hP=>?_) p
 have hO:=hP.own
 have hrl:=hO.l
 have hrg:=hO.g
 have hrb:=hO.sp.b
 have hlx:=Nat.le_trans hrl.le hrl.mx
 have hgx:=Nat.le_trans hrg.le hrg.mx
 have hbx:=Nat.le_trans hrb.le hrb.mx
 have hce:=a6g p
 rw[a5X] at hce
 refine CT.body Tryz.call8 Tryz.func8 rfl Tryz.ntmps8 Lb rfl ?_
 refine j0 ?_
 refine xX fun b1=>?_
 refine kQ1 [1] ?_
 refine kQ1 [1,3] ?_
 refine kQ1 [1,3,4] ?_
 refine B0 [1] rfl (fun μ F' h'=>∃ v:Int,∃ j:Nat,(j≤p.ll.length∧v=W64 (1+(N1 (p.ll.take j):Nat)))∧p.ll.length - j=μ∧F'=[(3,.int .i64 v),(4,.int .i64 j)]∧.pt b1 (.cells (prE p).toArray 45 (0,0))::h=h') (p.ll.length - 0) [(3,.int .i64 1),(4,.int .i64 0)] (h0:=.pt b1 (.cells (prE p).toArray 45 (0,0))::h) ?_ Sb ⟨1,0,⟨Nat.zero_le _,rfl⟩,rfl,rfl,rfl⟩ ?_
 exact Su
 rintro _ _ _ ⟨v,j,⟨hj,hv⟩,rfl,rfl,rfl⟩
 refine B2 rfl ?_
 refine kQ5 [1,3,4,12] ?_
 refine wc (fun c12=>?_) fun c12=>?_
 replace c12:=dT c12
 obtain⟨x,hx⟩:=A5 (l:=p.ll) (k:=j) (by omega)
 have hin:In x p:=.l (List.mem_of_getElem? hx)
 refine kQ0 [1,3,4] ?_
 refine kA6 ?_
 refine xf (E1 Et) (ih x hin _ m ((hP.sub hin).mono Sb)) ?_
 refine xG (b6M Et Et (by omega)) ?_
 refine kQ1 [1,3,4] ?_
 refine kA3 ?_
 refine WL.nil (A8 (p.ll.length - (j+1)) [(3,.int .i64 (W64 (v+W64 (Q1 x)))),(4,.int .i64 (j+1))] (h'':=.pt b1 (.cells (prE p).toArray 45 (0,0))::h) (by omega) ?_ Su Sb ⟨W64 (v+W64 (Q1 x)),j+1,⟨by omega,a6K hv (Z4 (l:=p.ll) hx)⟩,rfl,rfl,rfl⟩)
 exact Su
 replace c12:=dF c12
 rw[List.take_of_length_le (by omega)] at hv
 refine kQ0 [1,3] ?_
 refine kQ1 [1,3,5] ?_
 refine B0 [1] rfl (fun μ F' h'=>∃ v:Int,∃ j:Nat,(j≤p.gl.length∧v=W64 ((1+(N1 p.ll:Int))+(a08 (p.gl.take j):Nat)))∧p.gl.length - j=μ∧F'=[(3,.int .i64 v),(5,.int .i64 j)]∧.pt b1 (.cells (prE p).toArray 45 (0,0))::h=h') (p.gl.length - 0) [(3,.int .i64 v),(5,.int .i64 0)] (h0:=.pt b1 (.cells (prE p).toArray 45 (0,0))::h) ?_ Sb ⟨v,0,⟨Nat.zero_le _,by rw[hv,List.take_zero];congr 1⟩,rfl,rfl,rfl⟩ ?_
 exact Su
 rintro _ _ _ ⟨v,j,⟨hj,hv⟩,rfl,rfl,rfl⟩
 refine B2 rfl ?_
 refine kQ5 [1,3,5,27] ?_
 refine wc (fun c27=>?_) fun c27=>?_
 replace c27:=dT c27
 obtain⟨g,hg1⟩:=A5 (l:=p.gl) (k:=j) (by omega)
 have hgm:=List.mem_of_getElem? hg1
 have hgb:=(hO.gs g hgm).b
 have hgbx:=Nat.le_trans hgb.le hgb.mx
 refine kQ0 [1,3,5] ?_
 refine kQ1 [1,3,5,6] ?_
 refine B0 [1,5] rfl (fun μ F' h'=>∃ w:Int,∃ i:Nat,(i≤g.bl.length∧w=W64 (((1+(N1 p.ll:Int))+(a08 (p.gl.take j):Nat))+(N1 (g.bl.take i):Nat)))∧g.bl.length - i=μ∧F'=[(3,.int .i64 w),(6,.int .i64 i)]∧.pt b1 (.cells (prE p).toArray 45 (0,0))::h=h') (g.bl.length - 0) [(3,.int .i64 v),(6,.int .i64 0)] (h0:=.pt b1 (.cells (prE p).toArray 45 (0,0))::h) ?_ Sb ⟨v,0,⟨Nat.zero_le _,by rw[hv,List.take_zero];congr 1⟩,rfl,rfl,rfl⟩ ?_
 exact Su
 rintro _ _ _ ⟨w,i,⟨hi,hw⟩,rfl,rfl,rfl⟩
 refine B2 rfl ?_
 refine kQ9 [1,3,5,6,38] ?_
 refine wc (fun c38=>?_) fun c38=>?_
 replace c38:=dT c38
 obtain⟨x,hx⟩:=A5 (l:=g.bl) (k:=i) (by omega)
 have hin:In x p:=.g hgm (List.mem_of_getElem? hx)
 refine kQ0 [1,3,5,6] ?_
 refine a6I ?_
 refine xf (E1 Et) (ih x hin _ m ((hP.sub hin).mono Sb)) ?_
 refine xG (b6M Et Et (by omega)) ?_
 refine kQ1 [1,3,5,6] ?_
 refine kA3 ?_
 refine WL.nil (A8 (g.bl.length - (i+1)) [(3,.int .i64 (W64 (w+W64 (Q1 x)))),(6,.int .i64 (i+1))] (h'':=.pt b1 (.cells (prE p).toArray 45 (0,0))::h) (by omega) ?_ Su Sb ⟨W64 (w+W64 (Q1 x)),i+1,⟨by omega,a6K hw (Z4 (l:=g.bl) hx)⟩,rfl,rfl,rfl⟩)
 exact Su
 replace c38:=dF c38
 rw[List.take_of_length_le (l:=g.bl) (by omega)] at hw
 refine kQ0 [1,3,5] ?_
 refine kA3 ?_
 refine WL.nil (A8 (p.gl.length - (j+1)) [(3,.int .i64 w),(5,.int .i64 (j+1))] (h'':=.pt b1 (.cells (prE p).toArray 45 (0,0))::h) (by omega) ?_ Su Sb ⟨w,j+1,⟨by omega,by rw[hw,a5C hg1];congr 1;omega⟩,rfl,rfl,rfl⟩)
 exact Su
 replace c27:=dF c27
 rw[List.take_of_length_le (by omega)] at hv
 refine kQ0 [1,3] ?_
 refine kQ1 [1,3,7] ?_
 refine B0 [1] rfl (fun μ F' h'=>∃ v:Int,∃ j:Nat,(j≤p.sp.bl.length∧v=W64 (((1+(N1 p.ll:Int))+(a08 p.gl:Nat))+(N1 (p.sp.bl.take j):Nat)))∧p.sp.bl.length - j=μ∧F'=[(3,.int .i64 v),(7,.int .i64 j)]∧.pt b1 (.cells (prE p).toArray 45 (0,0))::h=h') (p.sp.bl.length - 0) [(3,.int .i64 v),(7,.int .i64 0)] (h0:=.pt b1 (.cells (prE p).toArray 45 (0,0))::h) ?_ Sb ⟨v,0,⟨Nat.zero_le _,by rw[hv,List.take_zero];congr 1⟩,rfl,rfl,rfl⟩ ?_
 exact Su
 rintro _ _ _ ⟨v,j,⟨hj,hv⟩,rfl,rfl,rfl⟩
 refine B2 rfl ?_
 refine kQ6 [1,3,7,58] ?_
 refine wc (fun c58=>?_) fun c58=>?_
 replace c58:=dT c58
 obtain⟨x,hx⟩:=A5 (l:=p.sp.bl) (k:=j) (by omega)
 have hin:In x p:=.s (List.mem_of_getElem? hx)
 refine kQ0 [1,3,7] ?_
 refine kA7 ?_
 refine xf (E1 Et) (ih x hin _ m ((hP.sub hin).mono Sb)) ?_
 refine xG (b6M Et Et (by omega)) ?_
 refine kQ1 [1,3,7] ?_
 refine kA3 ?_
 refine WL.nil (A8 (p.sp.bl.length - (j+1)) [(3,.int .i64 (W64 (v+W64 (Q1 x)))),(7,.int .i64 (j+1))] (h'':=.pt b1 (.cells (prE p).toArray 45 (0,0))::h) (by omega) ?_ Su Sb ⟨W64 (v+W64 (Q1 x)),j+1,⟨by omega,a6K hv (Z4 (l:=p.sp.bl) hx)⟩,rfl,rfl,rfl⟩)
 exact Su
 replace c58:=dF c58
 rw[List.take_of_length_le (by omega)] at hv
 refine kQ0 [3] ?_
 refine kQ2 [2] ?_
 refine WC.ret (wR (h) ?_)
 exact⟨by rw[hv,hce];congr 2;omega,rfl⟩
end Go.Proofs.YtcfemegngeijcaaGreatDoor
end
section
namespace Go.Proofs.YtcfemegngeijcaaGreatDoor
set_option maxRecDepth 100000
set_option maxHeartbeats 2000000
open Go.Eng Go.Pc Go
open Go.Xp hiding B F1
open Go.Ty (Ty Vr eqT tyV K0 PrOk VOk encV D3 N6 D9 eqI a2Q a2U)
open Go.Lx (encB C9)
theorem a1r (m:View) (h:List Res):EOk m h A2:=⟨.mk (Rd.nilF exE 6 m h) (fun _ hx=>(List.not_mem_nil hx).elim),.mk (by decide) (by decide) (by decide) (by decide) (by decide) fun _ hx=>(List.not_mem_nil hx).elim⟩
theorem a7i (m:View) (h:List Res):LOk m h A9:=⟨Rd.nilF exE 6 m h,fun _ hx=>(List.not_mem_nil hx).elim⟩
theorem a7j {m:View} {h:List Res} {nm:B} {c ch tm:Ex} {tg vl:Sli Ex} (hn:nm.length≤Big) (hc:EOk m h c) (hch:EOk m h ch) (ht:LOk m h tg) (hv:LOk m h vl) (htm:EOk m h tm):GK m h (.mk 0 nm c ch tg vl tm none 0 []):=
 ⟨⟨by show 0≤(0:Int)∧(0:Int)≤255;decide,hn,hc,hch,ht,hv,htm,Rd.nilF prE 42 m h⟩,fun _ hx=>(List.not_mem_nil hx).elim⟩
theorem c7n (m:View) (h:List Res):GK m h a5o:=a7j (by decide) (a1r m h) (a1r m h) (a7i m h) (a7i m h) (a1r m h)
theorem c3V {u w:Int} {x:Gu} (h:((decide (x.k < u)||decide (x.k > w))||!(guP x))=true):(!gQ u w x)=true:=by
 show(!((decide (x.k ≥ u)&&decide (x.k≤w))&&guP x))=true
 cases hg:guP x with
 | false=>simp
 | true=>
   rw[hg] at h
   simp only[Bool.not_true,Bool.or_false,Bool.or_eq_true,decide_eq_true_eq] at h
   simp only[Bool.and_true,Bool.not_eq_true',Bool.and_eq_false_iff,decide_eq_false_iff_not]
   omega
theorem c1Z {u w:Int} {x:Gu} (h:((decide (x.k < u)||decide (x.k > w))||!(guP x))=false):(!gQ u w x)=false:=by
 show(!((decide (x.k ≥ u)&&decide (x.k≤w))&&guP x))=false
 simp only[Bool.or_eq_false_iff,decide_eq_false_iff_not,Bool.not_eq_false'] at h
 obtain⟨⟨h1,h2⟩,h3⟩:=h
 have a1:x.k ≥ u:=by omega
 have a2:x.k≤w:=by omega
 simp[a1,a2,h3]
theorem b8K {α:Type} {l:List α} {i:Nat} {x:α} (h:l[i]?=some x) (q:α→Bool):(l.drop i).all q=(q x&&(l.drop (i+1)).all q):=by
 obtain⟨hi,rfl⟩:=List.getElem?_eq_some_iff.1 h
 rw[List.drop_eq_getElem_cons hi,List.all_cons]
set_option maxHeartbeats 2000000 in
theorem b6D (g:Gu) (h:List Res) (m:View) (hG:GK m h g):CT Tryz.prog 97 [guV g] h m (A6 h (.bool (guP g))):=by
 have hO:=hG.o
 have v0:=View.le.refl m
 have hn2:g.name.length≤9223372036854775807:=Nat.le_trans hO.n (by decide)
 refine CT.body Tryz.call97 Tryz.func97 rfl Tryz.ntmps97 Lb rfl ?_
 refine j0 ?_
 refine xX fun b1=>?_
 refine kQ1 [1] ?_
 refine kA1 ?_
 refine xW fun b3=>?_
 refine kQ1 [1,3] ?_
 refine kQ2 [1,3] ?_
 refine kQ2 [1,3] ?_
 refine kQ1 [1,3,4] ?_
 refine kA2 ?_
 refine xf (E1 Et) (a8W g.cond (hO.cond.t.mono Sb)) ?_
 refine kA3 ?_
 refine A3 (GU.f rfl rfl) (fun hc=>⟨Ev.func,(E1 (Eg hc)),mayR_ct g.cond _ (hO.cond.t.mono Sb) hO.cond.w⟩) Lb ?_
 refine kQ2 [1,3,4,5] ?_
 refine kP2 [1,3,4,5,18] ?_
 refine F8 KKh [1,3] rfl (fun F' h'=>∃ fb:Bool,∃ xg:Gu,((GK m h xg∧xg.bl=[])∧guP g=((fb&&((g.bl.length:Int)==1))&&R3 xg a5o))∧F'=[(4,.bool fb)]∧.pt b3 (.cells (guE xg).toArray 57 (0,0))::.pt b1 (.cells (guE g).toArray 57 (0,0))::h=h') ?_ ?_
 refine kP2 [1,3,4,5,18,19] ?_
 refine F8 KKh [1,3,4,5,18] rfl (fun F' h'=>∃ b9:Bool,((b9=true↔(g.k=1∨g.k=2)))∧F'=[(19,.bool b9)]∧.pt b3 (.cells (guE (.mk 0 g.name g.cond g.ch g.tg g.vl g.time none 0 [])).toArray 57 (0,0))::.pt b1 (.cells (guE g).toArray 57 (0,0))::h=h') ?_ ?_
 refine jE ?_
 refine wc (fun c19=>?_) fun c19=>?_
 replace c19:=E5 c19
 refine WC.skip (B6 [(19,.bool ((g.k==1)))] (h'':=.pt b3 (.cells (guE (.mk 0 g.name g.cond g.ch g.tg g.vl g.time none 0 [])).toArray 57 (0,0))::.pt b1 (.cells (guE g).toArray 57 (0,0))::h) ?_ Su Sb ⟨(g.k==1),⟨fun _=>.inl c19,fun _=>by simpa using c19⟩,rfl,rfl⟩)
 exact Su
 replace c19:=D7 c19
 refine kA2 ?_
 refine WL.nil (B6 [(19,.bool ((g.k==2)))] (h'':=.pt b3 (.cells (guE (.mk 0 g.name g.cond g.ch g.tg g.vl g.time none 0 [])).toArray 57 (0,0))::.pt b1 (.cells (guE g).toArray 57 (0,0))::h) ?_ Su Sb ⟨(g.k==2),⟨fun hk=>.inr (by simpa using hk),fun hk=>hk.elim (fun h1=>absurd h1 c19) (fun h1=>by simpa using h1)⟩,rfl,rfl⟩)
 exact Su
 rintro _ _ ⟨b9,hb9,rfl,rfl⟩
 refine B2 rfl ?_
 refine jE ?_
 refine wc (fun c19=>?_) fun c19=>?_
 have hk:=hb9.1 c19
 refine kA2 ?_
 refine xf (E1 Et) (mayR_ct g.cond _ (hO.cond.t.mono Sb) hO.cond.w) ?_
 refine kQ1 [1,3,4] ?_
 refine kA3 ?_
 refine WL.nil (B6 [(4,.bool (E9 g.cond))] (h'':=.pt b3 (.cells (guE (Gu.mk 0 g.name A2 g.ch g.tg g.vl g.time none 0 [])).toArray 57 (0,0))::.pt b1 (.cells (guE g).toArray 57 (0,0))::h) ?_ Su Sb ⟨E9 g.cond,Gu.mk 0 g.name A2 g.ch g.tg g.vl g.time none 0 [],⟨⟨a7j hO.n (a1r m h) hO.ch hO.tg hO.vl hO.time,rfl⟩,c6y hk⟩,rfl,rfl⟩)
 exact Su
 have hk12:¬ (g.k=1∨g.k=2):=fun q=>by rw[hb9.2 q] at c19;cases c19
 refine kQ2 [1,3,4,5,18,27] ?_
 refine wc (fun c27=>?_) fun c27=>?_
 replace c27:=E5 c27
 refine kA4 ?_
 refine A3 (GU.t rfl rfl) (fun hc=>⟨Ev.func,(E1 (Eg hc)),a0T g.ch ⟨hO.ch.t.mono Sb,hO.ch.w⟩⟩) Lb ?_
 refine kA4 ?_
 refine A3 (GU.t rfl rfl) (fun hc=>⟨Ev.func,(E3 (Eg hc) Ev.const Ev.const),a6i _ _ _ g.tg.l 1 8 _ _ (hO.tg.rd.mono v0 Sb) (fun x hx=>⟨(hO.tg.ok x hx).t.mono Sb,(hO.tg.ok x hx).w⟩)⟩) Lb ?_
 refine kQ2 [1,3,4] ?_
 refine kQ3 [1,3,4] ?_
 refine kQ3 [1,3,4] ?_
 refine kA2 ?_
 refine WL.nil (B6 [(4,.bool ((((G4 g.cond||E9 g.cond)&&E7 g.ch)&&D4 g.tg.l 1 8 E7)))] (h'':=.pt b3 (.cells (guE (Gu.mk 0 g.name A2 A2 A9 g.vl g.time none 0 [])).toArray 57 (0,0))::.pt b1 (.cells (guE g).toArray 57 (0,0))::h) ?_ Su Sb ⟨(((G4 g.cond||E9 g.cond)&&E7 g.ch)&&D4 g.tg.l 1 8 E7),Gu.mk 0 g.name A2 A2 A9 g.vl g.time none 0 [],⟨⟨a7j hO.n (a1r m h) (a1r m h) (a7i m h) hO.vl hO.time,rfl⟩,c7m c27⟩,rfl,rfl⟩)
 exact Su
 replace c27:=D7 c27
 refine kQ2 [1,3,4,5,18,45] ?_
 refine wc (fun c45=>?_) fun c45=>?_
 replace c45:=E5 c45
 refine kA4 ?_
 refine A3 (GU.t rfl rfl) (fun hc=>⟨Ev.func,(E1 (Eg hc)),a0T g.ch ⟨hO.ch.t.mono Sb,hO.ch.w⟩⟩) Lb ?_
 refine kA4 ?_
 refine A3 (GU.t rfl rfl) (fun hc=>⟨Ev.func,(E1 (Eg hc)),mayR_ct g.time _ (hO.time.t.mono Sb) hO.time.w⟩) Lb ?_
 refine kQ2 [1,3,4] ?_
 refine kQ3 [1,3,4] ?_
 refine kQ3 [1,3,4] ?_
 refine kA3 ?_
 refine WL.nil (B6 [(4,.bool ((((G4 g.cond||E9 g.cond)&&E7 g.ch)&&E9 g.time)))] (h'':=.pt b3 (.cells (guE (Gu.mk 0 g.name A2 A2 g.tg g.vl A2 none 0 [])).toArray 57 (0,0))::.pt b1 (.cells (guE g).toArray 57 (0,0))::h) ?_ Su Sb ⟨(((G4 g.cond||E9 g.cond)&&E7 g.ch)&&E9 g.time),Gu.mk 0 g.name A2 A2 g.tg g.vl A2 none 0 [],⟨⟨a7j hO.n (a1r m h) (a1r m h) hO.tg hO.vl (a1r m h),rfl⟩,c7k c45⟩,rfl,rfl⟩)
 exact Su
 replace c45:=D7 c45
 refine kQ2 [1,3,4,18,64] ?_
 refine wc (fun c64=>?_) fun c64=>?_
 replace c64:=E5 c64
 refine kA2 ?_
 refine xf (E3 Et Ev.const Ev.const) (a3K _ _ _ g.vl.l 1 8 _ _ (hO.vl.rd.mono v0 Sb) (fun x hx=>⟨(hO.vl.ok x hx).t.mono Sb,(hO.vl.ok x hx).w⟩)) ?_
 refine kQ1 [1,3,4] ?_
 refine kA2 ?_
 refine WL.nil (B6 [(4,.bool (D4 g.vl.l 1 8 E9))] (h'':=.pt b3 (.cells (guE (Gu.mk 0 g.name g.cond g.ch g.tg A9 g.time none 0 [])).toArray 57 (0,0))::.pt b1 (.cells (guE g).toArray 57 (0,0))::h) ?_ Su Sb ⟨D4 g.vl.l 1 8 E9,Gu.mk 0 g.name g.cond g.ch g.tg A9 g.time none 0 [],⟨⟨a7j hO.n hO.cond hO.ch hO.tg (a7i m h) hO.time,rfl⟩,c7b c64⟩,rfl,rfl⟩)
 exact Su
 replace c64:=D7 c64
 refine kQ2 [1,3,4,18,70] ?_
 refine wc (fun c70=>?_) fun c70=>?_
 replace c70:=E5 c70
 refine kA1 ?_
 refine WL.nil (B6 [(4,.bool true)] (h'':=.pt b3 (.cells (guE (Gu.mk 0 g.name g.cond g.ch g.tg g.vl g.time none 0 [])).toArray 57 (0,0))::.pt b1 (.cells (guE g).toArray 57 (0,0))::h) ?_ Su Sb ⟨true,Gu.mk 0 g.name g.cond g.ch g.tg g.vl g.time none 0 [],⟨⟨a7j hO.n hO.cond hO.ch hO.tg hO.vl hO.time,rfl⟩,c6T c70⟩,rfl,rfl⟩)
 exact Su
 replace c70:=D7 c70
 refine kQ2 [1,3,4,72] ?_
 refine wc (fun c72=>?_) fun c72=>?_
 replace c72:=E5 c72
 refine kA2 ?_
 refine xf (E1 Et) (CT.val (X8 g.name _ _ hn2) (congrArg Value.bool (Go.Lx.name_eq g.name).symm)) ?_
 refine kA3 ?_
 refine A3 (GU.t rfl rfl) (fun hc=>⟨Ev.func,(E3 (Eg hc) Ev.const Ev.const),a6i _ _ _ g.tg.l 0 8 _ _ (hO.tg.rd.mono v0 Sb) (fun x hx=>⟨(hO.tg.ok x hx).t.mono Sb,(hO.tg.ok x hx).w⟩)⟩) Lb ?_
 refine kQ2 [1,3,4] ?_
 refine kQ2 [1,3,4] ?_
 refine kA2 ?_
 refine WL.nil (B6 [(4,.bool ((Go.Lx.name g.name&&D4 g.tg.l 0 8 E7)))] (h'':=.pt b3 (.cells (guE (Gu.mk 0 [] g.cond g.ch A9 g.vl g.time none 0 [])).toArray 57 (0,0))::.pt b1 (.cells (guE g).toArray 57 (0,0))::h) ?_ Su Sb ⟨(Go.Lx.name g.name&&D4 g.tg.l 0 8 E7),Gu.mk 0 [] g.cond g.ch A9 g.vl g.time none 0 [],⟨⟨a7j (by decide) hO.cond hO.ch (a7i m h) hO.vl hO.time,rfl⟩,c7j c72⟩,rfl,rfl⟩)
 exact Su
 replace c72:=D7 c72
 refine WC.skip (B6 [(4,.bool false)] (h'':=.pt b3 (.cells (guE (Gu.mk 0 g.name g.cond g.ch g.tg g.vl g.time none 0 [])).toArray 57 (0,0))::.pt b1 (.cells (guE g).toArray 57 (0,0))::h) ?_ Su Sb ⟨false,Gu.mk 0 g.name g.cond g.ch g.tg g.vl g.time none 0 [],⟨⟨a7j hO.n hO.cond hO.ch hO.tg hO.vl hO.time,rfl⟩,c5o hO.k.1 hk12 c27 c45 c64 c70 c72 _⟩,rfl,rfl⟩)
 exact Su
 rintro _ _ ⟨fb,xg,hfb,rfl,rfl⟩
 refine B2 rfl ?_
 refine kA8 ?_
 refine zG (fun _=>pA a6m) ?_
 refine zG (fun _=>PO.build a6m rfl rfl rfl EvP.nil rfl) ?_
 refine A3 (GU.t rfl rfl) (fun hc=>⟨Ev.func,(E2 (Eg hc) (Eg hc)),a5l xg (fun z hz=>by rw[hfb.1.2] at hz;cases hz) a5o _ _ (hfb.1.1.mono Sb) ((c7n m h).mono Sb)⟩) Lb ?_
 refine kQ2 [2] ?_
 refine WC.ret (wR (h) ?_)
 exact⟨by rw[hfb.2],rfl⟩
theorem a3z (a:Option Addr) (k c:Nat) (l:List Gu) (lo hi u w:Int) (h:List Res) (m:View) (hL:Rd m h a k c 23 (fl guE l)) (hok:∀ x ∈ l,GK m h x) :
   CT Tryz.prog 59 [.slice a k c,.int .i64 lo,.int .i64 hi,.int .u8 u,.int .u8 w] h m (A6 h (.bool (D4 l lo hi (gQ u w)))):=by
 have hl:=hL.lenF a0O (by decide)
 subst hl
 have hmx:=hL.mx
 have hle:=hL.le
 refine CT.body Tryz.call59 Tryz.func59 rfl Tryz.ntmps59 Lb rfl ?_
 refine kQ1 [0,1,2,3,4] ?_
 refine a9D [0,3,4,21] ?_
 refine wc (fun c21=>?_) fun c21=>?_
 refine kQ1 [10] ?_
 refine WC.ret (wR (h) ?_)
 exact⟨by rw[a5L c21],rfl⟩
 have d21:=a4T (q:=gQ u w) c21
 refine kQ0 [0,3,4] ?_
 refine kQ1 [0,3,4,11] ?_
 refine B0 [0,3,4] rfl (fun μ F' h'=>∃ i:Nat,(i≤l.length∧D4 l lo hi (gQ u w)=!((l.drop i).any fun x=>!gQ u w x))∧l.length - i=μ∧F'=[(11,.int .i64 i)]∧h=h') (l.length - 0) [(11,.int .i64 0)] (h0:=h) ?_ Sb ⟨0,⟨by omega,d21⟩,rfl,rfl,rfl⟩ ?_
 exact Su
 rintro _ _ _ ⟨i,⟨hk,hJ⟩,rfl,rfl,rfl⟩
 refine B2 rfl ?_
 refine kQ4 [0,3,4,11,25] ?_
 refine wc (fun c25=>?_) fun c25=>?_
 replace c25:=dT c25
 obtain⟨x,hx⟩:=A5 (l:=l) (k:=i) (by omega)
 rw[b1n hx] at hJ
 have hxo:=hok x (List.mem_of_getElem? hx)
 refine kQ0 [0,3,4,11] ?_
 refine a6I ?_
 refine F3 (GU.f rfl rfl) (fun hc=>F6 b1b.und b1b.size b1b.posz (Eg hc) (Eg hc) Rr rfl (by omega)) Lb ?_
 refine zG (fun hc=>H4 a6m rfl (Nat.ne_of_beq_eq_false rfl) a0O (Nat.succ_pos _) Rr (by assumption) (Eg hc)) ?_
 refine zG (fun hc=>H5 b7a rfl a0O Rr (Eg hc) (by assumption) rfl) ?_
 refine kA6 ?_
 refine F3 (GU.f rfl rfl) (fun hc=>F6 b1b.und b1b.size b1b.posz (Eg hc) (Eg hc) Rr rfl (by omega)) Lb ?_
 refine zG (fun hc=>a1B a6m rfl rfl a0O Rr (Eg hc) (by assumption) rfl rfl (Nat.succ_pos _)) ?_
 refine A3 (GU.f rfl rfl) (fun hc=>⟨Ev.func,(E1 (Eg hc)),b6D x _ _ (hxo.mono Sb)⟩) Lb ?_
 refine kQ2 [0,3,4,11,51] ?_
 refine wc (fun c51=>?_) fun c51=>?_
 have d51:(!gQ u w x)=true:=c3V c51
 rw[d51] at hJ
 refine kQ1 [10] ?_
 refine WC.ret (wR (h) ?_)
 exact⟨by rw[hJ];rfl,rfl⟩
 have d51:(!gQ u w x)=false:=c1Z c51
 rw[d51] at hJ
 refine kQ0 [0,3,4,11] ?_
 refine kA3 ?_
 refine WL.nil (A8 (l.length - (i+1)) [(11,.int .i64 (i+1))] (h'':=h) (by omega) ?_ Su Sb ⟨i+1,⟨by omega,by simpa using hJ⟩,rfl,rfl,rfl⟩)
 exact Su
 replace c25:=dF c25
 rw[List.drop_eq_nil_of_le (by omega)] at hJ
 refine kQ0 [] ?_
 refine kQ1 [10] ?_
 refine WC.ret (wR (h) ?_)
 exact⟨by rw[hJ];rfl,rfl⟩
theorem c3p (m:View) (h:List Res):PrOk m h none 0 0 []:=⟨Rd.nilF encV 2 m h,fun _ hx=>(List.not_mem_nil hx).elim,fun _ hx=>(List.not_mem_nil hx).elim⟩
theorem b4J:TyW Go.Ty.zeroT:=⟨by decide,by decide,by decide,by decide⟩
structure SpF (m:View) (h:List Res) (ty:Ty) (e:Ex) (vs:Sli Vr) (fs:Sli Fo):Prop where
 t:TyW ty
 e:EOk m h e
 v:PrOk m h vs.a vs.l.length vs.c vs.l
 vw:∀ x ∈ vs.l,x.items.length=x.n
 f:Rd m h fs.a fs.l.length fs.c 6 (fl foE fs.l)
 fw:∀ x ∈ fs.l,FoW x
theorem a9e {m:View} {h:List Res} {k:Int} {ty:Ty} {nm:Sli B} {e:Ex} {cs:Bool} {vs:Sli Vr} {fs:Sli Fo} {ba:Option Addr} {bc:Nat} {bl:List Pr} (hk:0≤k∧k≤255) (q:SpF m h ty e vs fs) (hn:Rd m h nm.a nm.l.length nm.c 1 (fl encB nm.l)) (hw:∀ x ∈ nm.l,x.length≤Big)
   (hb:Rd m h ba bl.length bc 42 (fl prE bl)) (hp:∀ x ∈ bl,POk m h x):SK m h (.mk k ty nm e cs vs fs ba bc bl):=⟨⟨hk,q.t,hn,hw,q.e,q.v,q.vw,q.f,q.fw,hb⟩,hp⟩
theorem a3f {α:Type} {p:α→Prop}:∀ x ∈ (A9:Sli α).l,p x:=fun _ hx=>(List.not_mem_nil hx).elim
theorem c3S (m:View) (h:List Res):SK m h C2:=a9e (by decide) ⟨b4J,a1r m h,c3p m h,a3f,Rd.nilF foE 6 m h,a3f⟩ (Rd.nilF encB 1 m h) a3f (Rd.nilF prE 42 m h) (fun _ hx=>(List.not_mem_nil hx).elim)
abbrev spX (b:Nat) (s:Sp):Res:=.pt b (.cells (spE s).toArray 43 (0,0))
set_option maxHeartbeats 2000000 in
theorem b7R (s:Sp) (h:List Res) (m:View) (hS:SK m h s):CT Tryz.prog 61 [spV s] h m (A6 h (.bool (spP s))):=by
 have hO:=hS.o
 have v0:=View.le.refl m
 have hp2:s.ty.proto.length≤9223372036854775807:=Nat.le_trans hO.ty.p (by decide)
 have hzk:(0:Int)≤0∧(0:Int)≤255:=by decide
 have f1:=hO.fr
 have fm:=f1.mx
 have fl1:=f1.le
 refine CT.body Tryz.call61 Tryz.func61 rfl Tryz.ntmps61 Lb rfl ?_
 refine j0 ?_
 refine xX fun b1=>?_
 refine kQ1 [1] ?_
 refine kA1 ?_
 refine xW fun b3=>?_
 refine kQ1 [1,3] ?_
 refine kQ2 [1,3] ?_
 refine kQ1 [1,3,4] ?_
 refine kP2 [1,3,4,9] ?_
 refine F8 KKh [3] rfl (fun F' h'=>∃ fb:Bool,∃ xs:Sp,(SK m h (.mk 0 xs.ty A9 xs.e xs.cs xs.vs xs.fs xs.ba xs.bc xs.bl)∧spP s=(fb&&X9 (.mk 0 xs.ty A9 xs.e xs.cs xs.vs xs.fs xs.ba xs.bc xs.bl) C2))∧F'=[(4,.bool fb)]∧spX b3 (.mk 0 xs.ty s.names xs.e xs.cs xs.vs xs.fs xs.ba xs.bc xs.bl)::spX b1 s::h=h') ?_ ?_
 refine kQ2 [1,3,4,9,10] ?_
 refine wc (fun c10=>?_) fun c10=>?_
 replace c10:=E5 c10
 refine kA2 ?_
 refine xf (E1 Et) (CT.val (Ty9.mayR_ct s.ty _ _ hp2) (congrArg Value.bool (Go.Ty.may_eq s.ty).symm)) ?_
 refine kA3 ?_
 refine A3 (GU.t rfl rfl) (fun hc=>⟨Ev.func,(E3 (Eg hc) Ev.const Ev.const),a6f _ _ _ s.names.l 1 8 _ _ (hO.nr.mono v0 Sb) hO.nw⟩) Lb ?_
 refine kQ2 [3,4] ?_
 refine kA3 ?_
 refine WL.nil (B6 [(4,.bool ((Go.Ty.may s.ty&&D4 s.names.l 1 8 Go.Lx.name)))] (h'':=spX b3 (.mk 0 (Sp.mk 0 Go.Ty.zeroT A9 s.e s.cs s.vs s.fs s.ba s.bc s.bl).ty s.names (Sp.mk 0 Go.Ty.zeroT A9 s.e s.cs s.vs s.fs s.ba s.bc s.bl).e (Sp.mk 0 Go.Ty.zeroT A9 s.e s.cs s.vs s.fs s.ba s.bc s.bl).cs (Sp.mk 0 Go.Ty.zeroT A9 s.e s.cs s.vs s.fs s.ba s.bc s.bl).vs (Sp.mk 0 Go.Ty.zeroT A9 s.e s.cs s.vs s.fs s.ba s.bc s.bl).fs (Sp.mk 0 Go.Ty.zeroT A9 s.e s.cs s.vs s.fs s.ba s.bc s.bl).ba (Sp.mk 0 Go.Ty.zeroT A9 s.e s.cs s.vs s.fs s.ba s.bc s.bl).bc (Sp.mk 0 Go.Ty.zeroT A9 s.e s.cs s.vs s.fs s.ba s.bc s.bl).bl)::spX b1 s::h) ?_ Su Sb ⟨(Go.Ty.may s.ty&&D4 s.names.l 1 8 Go.Lx.name),Sp.mk 0 Go.Ty.zeroT A9 s.e s.cs s.vs s.fs s.ba s.bc s.bl,⟨a9e hzk ⟨b4J,hO.e,hO.v,hO.vw,hO.fr,hO.fw⟩ (Rd.nilF encB 1 m h) a3f hO.b hS.b,c7d c10⟩,rfl,rfl⟩)
 exact Su
 replace c10:=D7 c10
 refine kQ2 [1,3,4,9,22] ?_
 refine wc (fun c22=>?_) fun c22=>?_
 replace c22:=E5 c22
 refine kA2 ?_
 refine xf (E1 Et) (a6v s.ty _ _ hp2) ?_
 refine kA3 ?_
 refine A3 (GU.t rfl rfl) (fun hc=>⟨Ev.func,(E3 (Eg hc) Ev.const Ev.const),a6f _ _ _ s.names.l 1 1 _ _ (hO.nr.mono v0 Sb) hO.nw⟩) Lb ?_
 refine kA4 ?_
 refine A3 (GU.t rfl rfl) (fun hc=>⟨Ev.func,(E1 (Eg hc)),mayR_ct s.e _ (hO.e.t.mono Sb) hO.e.w⟩) Lb ?_
 refine kQ2 [3,4] ?_
 refine kQ3 [3,4] ?_
 refine kA3 ?_
 refine WL.nil (B6 [(4,.bool (((U4 s.ty&&D4 s.names.l 1 1 Go.Lx.name)&&E9 s.e)))] (h'':=spX b3 (.mk 0 (Sp.mk 0 Go.Ty.zeroT A9 A2 s.cs s.vs s.fs s.ba s.bc s.bl).ty s.names (Sp.mk 0 Go.Ty.zeroT A9 A2 s.cs s.vs s.fs s.ba s.bc s.bl).e (Sp.mk 0 Go.Ty.zeroT A9 A2 s.cs s.vs s.fs s.ba s.bc s.bl).cs (Sp.mk 0 Go.Ty.zeroT A9 A2 s.cs s.vs s.fs s.ba s.bc s.bl).vs (Sp.mk 0 Go.Ty.zeroT A9 A2 s.cs s.vs s.fs s.ba s.bc s.bl).fs (Sp.mk 0 Go.Ty.zeroT A9 A2 s.cs s.vs s.fs s.ba s.bc s.bl).ba (Sp.mk 0 Go.Ty.zeroT A9 A2 s.cs s.vs s.fs s.ba s.bc s.bl).bc (Sp.mk 0 Go.Ty.zeroT A9 A2 s.cs s.vs s.fs s.ba s.bc s.bl).bl)::spX b1 s::h) ?_ Su Sb ⟨((U4 s.ty&&D4 s.names.l 1 1 Go.Lx.name)&&E9 s.e),Sp.mk 0 Go.Ty.zeroT A9 A2 s.cs s.vs s.fs s.ba s.bc s.bl,⟨a9e hzk ⟨b4J,a1r m h,hO.v,hO.vw,hO.fr,hO.fw⟩ (Rd.nilF encB 1 m h) a3f hO.b hS.b,c6S c22⟩,rfl,rfl⟩)
 exact Su
 replace c22:=D7 c22
 refine kQ2 [1,3,4,9,41] ?_
 refine wc (fun c41=>?_) fun c41=>?_
 replace c41:=E5 c41
 refine kA2 ?_
 refine xf (E1 Et) (a6v s.ty _ _ hp2) ?_
 refine kA3 ?_
 refine A3 (GU.t rfl rfl) (fun hc=>⟨Ev.func,(E3 (Eg hc) Ev.const Ev.const),a6f _ _ _ s.names.l 1 1 _ _ (hO.nr.mono v0 Sb) hO.nw⟩) Lb ?_
 refine kA4 ?_
 refine A3 (GU.t rfl rfl) (fun hc=>⟨Ev.func,(E1 (Eg hc)),a0T s.e ⟨hO.e.t.mono Sb,hO.e.w⟩⟩) Lb ?_
 refine kQ2 [3,4] ?_
 refine kQ3 [3,4] ?_
 refine kA3 ?_
 refine WL.nil (B6 [(4,.bool (((U4 s.ty&&D4 s.names.l 1 1 Go.Lx.name)&&E7 s.e)))] (h'':=spX b3 (.mk 0 (Sp.mk 0 Go.Ty.zeroT A9 A2 s.cs s.vs s.fs s.ba s.bc s.bl).ty s.names (Sp.mk 0 Go.Ty.zeroT A9 A2 s.cs s.vs s.fs s.ba s.bc s.bl).e (Sp.mk 0 Go.Ty.zeroT A9 A2 s.cs s.vs s.fs s.ba s.bc s.bl).cs (Sp.mk 0 Go.Ty.zeroT A9 A2 s.cs s.vs s.fs s.ba s.bc s.bl).vs (Sp.mk 0 Go.Ty.zeroT A9 A2 s.cs s.vs s.fs s.ba s.bc s.bl).fs (Sp.mk 0 Go.Ty.zeroT A9 A2 s.cs s.vs s.fs s.ba s.bc s.bl).ba (Sp.mk 0 Go.Ty.zeroT A9 A2 s.cs s.vs s.fs s.ba s.bc s.bl).bc (Sp.mk 0 Go.Ty.zeroT A9 A2 s.cs s.vs s.fs s.ba s.bc s.bl).bl)::spX b1 s::h) ?_ Su Sb ⟨((U4 s.ty&&D4 s.names.l 1 1 Go.Lx.name)&&E7 s.e),Sp.mk 0 Go.Ty.zeroT A9 A2 s.cs s.vs s.fs s.ba s.bc s.bl,⟨a9e hzk ⟨b4J,a1r m h,hO.v,hO.vw,hO.fr,hO.fw⟩ (Rd.nilF encB 1 m h) a3f hO.b hS.b,c7i c41⟩,rfl,rfl⟩)
 exact Su
 replace c41:=D7 c41
 refine kQ2 [1,3,4,9,60] ?_
 refine wc (fun c60=>?_) fun c60=>?_
 replace c60:=E5 c60
 refine kA2 ?_
 refine xf (E3 Et Ev.const Ev.const) (a6f _ _ _ s.names.l 1 1 _ _ (hO.nr.mono v0 Sb) hO.nw) ?_
 refine kA3 ?_
 refine A3 (GU.t rfl rfl) (fun hc=>⟨Ev.func,(E1 (Eg hc)),Ty9.mayProtoR_ct s.cs _ _ _ s.vs.l _ _ (hO.v.mono v0 Sb)⟩) Lb ?_
 refine kQ2 [3,4] ?_
 refine kA3 ?_
 refine WL.nil (B6 [(4,.bool ((D4 s.names.l 1 1 Go.Lx.name&&Go.Ty.mayPr s.cs s.vs.l)))] (h'':=spX b3 (.mk 0 (Sp.mk 0 s.ty A9 s.e false A9 s.fs s.ba s.bc s.bl).ty s.names (Sp.mk 0 s.ty A9 s.e false A9 s.fs s.ba s.bc s.bl).e (Sp.mk 0 s.ty A9 s.e false A9 s.fs s.ba s.bc s.bl).cs (Sp.mk 0 s.ty A9 s.e false A9 s.fs s.ba s.bc s.bl).vs (Sp.mk 0 s.ty A9 s.e false A9 s.fs s.ba s.bc s.bl).fs (Sp.mk 0 s.ty A9 s.e false A9 s.fs s.ba s.bc s.bl).ba (Sp.mk 0 s.ty A9 s.e false A9 s.fs s.ba s.bc s.bl).bc (Sp.mk 0 s.ty A9 s.e false A9 s.fs s.ba s.bc s.bl).bl)::spX b1 s::h) ?_ Su Sb ⟨(D4 s.names.l 1 1 Go.Lx.name&&Go.Ty.mayPr s.cs s.vs.l),Sp.mk 0 s.ty A9 s.e false A9 s.fs s.ba s.bc s.bl,⟨a9e hzk ⟨hO.ty,hO.e,c3p m h,a3f,hO.fr,hO.fw⟩ (Rd.nilF encB 1 m h) a3f hO.b hS.b,c6V c60⟩,rfl,rfl⟩)
 exact Su
 replace c60:=D7 c60
 refine kQ2 [1,3,4,72] ?_
 refine wc (fun c72=>?_) fun c72=>?_
 replace c72:=E5 c72
 refine kA2 ?_
 refine xf (E3 Et Ev.const Ev.const) (a6f _ _ _ s.names.l 1 1 _ _ (hO.nr.mono v0 Sb) hO.nw) ?_
 refine a4k ?_
 refine kQ1 [1,3,4] ?_
 refine kQ1 [1,3,4,5] ?_
 refine B0 [1,3] rfl (fun μ F' h'=>∃ i:Nat,∃ v:Bool,(i≤s.fs.l.length∧((((D4 s.names.l 1 1 Go.Lx.name&&decide ((s.fs.l.length:Int)≤8))&&((s.bl.length:Int)==1))&&s.fs.l.all foP)=(v&&(s.fs.l.drop i).all foP)))∧s.fs.l.length - i=μ∧F'=[(4,.bool v),(5,.int .i64 i)]∧spX b3 (.mk 0 s.ty s.names s.e s.cs s.vs s.fs s.ba s.bc s.bl)::spX b1 s::h=h') (s.fs.l.length - 0) [(4,.bool (((D4 s.names.l 1 1 Go.Lx.name&&decide ((s.fs.l.length:Int)≤8))&&((s.bl.length:Int)==1)))),(5,.int .i64 0)] (h0:=spX b3 (.mk 0 s.ty s.names s.e s.cs s.vs s.fs s.ba s.bc s.bl)::spX b1 s::h) ?_ Sb ⟨0,((D4 s.names.l 1 1 Go.Lx.name&&decide ((s.fs.l.length:Int)≤8))&&((s.bl.length:Int)==1)),⟨by omega,rfl⟩,rfl,rfl,rfl⟩ ?_
 exact Su
 rintro _ _ _ ⟨i,v,⟨hi,hJ⟩,rfl,rfl,rfl⟩
 refine B2 rfl ?_
 refine kQ5 [1,3,4,5,93] ?_
 refine wc (fun c93=>?_) fun c93=>?_
 replace c93:=dT c93
 obtain⟨x,hx⟩:=A5 (l:=s.fs.l) (k:=i) (by omega)
 have hxw:=hO.fw x (List.mem_of_getElem? hx)
 refine kQ0 [1,3,4,5] ?_
 refine kA5 ?_
 refine F3 (GU.t rfl rfl) (fun hc=>F6 b3C.und b3C.size b3C.posz (Eg hc) (Eg hc) Rr rfl (by omega)) Lb ?_
 refine zG (fun hc=>a1B b5R rfl rfl a2t Rr (Eg hc) (by assumption) rfl rfl (Nat.succ_pos _)) ?_
 refine A3 (GU.t rfl rfl) (fun hc=>⟨Ev.func,(E1 (Eg hc)),c4y x hxw⟩) Lb ?_
 refine kQ2 [1,3,4,5] ?_
 refine kA3 ?_
 refine WL.nil (A8 (s.fs.l.length - (i+1)) [(4,.bool ((v&&foP x))),(5,.int .i64 (i+1))] (h'':=spX b3 (.mk 0 s.ty s.names s.e s.cs s.vs s.fs s.ba s.bc s.bl)::spX b1 s::h) (by omega) ?_ Su Sb ⟨i+1,(v&&foP x),⟨by omega,by rw[hJ,b8K hx,Bool.and_assoc]⟩,rfl,rfl,rfl⟩)
 exact Su
 replace c93:=dF c93
 rw[List.drop_eq_nil_of_le (by omega),List.all_nil,Bool.and_true] at hJ
 refine kQ0 [3,4] ?_
 refine kQ2 [3,4] ?_
 refine kA2 ?_
 refine WL.nil (B6 [(4,.bool v)] (h'':=spX b3 (.mk 0 (Sp.mk 0 s.ty A9 s.e s.cs s.vs A9 none 0 []).ty s.names (Sp.mk 0 s.ty A9 s.e s.cs s.vs A9 none 0 []).e (Sp.mk 0 s.ty A9 s.e s.cs s.vs A9 none 0 []).cs (Sp.mk 0 s.ty A9 s.e s.cs s.vs A9 none 0 []).vs (Sp.mk 0 s.ty A9 s.e s.cs s.vs A9 none 0 []).fs (Sp.mk 0 s.ty A9 s.e s.cs s.vs A9 none 0 []).ba (Sp.mk 0 s.ty A9 s.e s.cs s.vs A9 none 0 []).bc (Sp.mk 0 s.ty A9 s.e s.cs s.vs A9 none 0 []).bl)::spX b1 s::h) ?_ Su Sb ⟨v,Sp.mk 0 s.ty A9 s.e s.cs s.vs A9 none 0 [],⟨a9e hzk ⟨hO.ty,hO.e,hO.v,hO.vw,Rd.nilF foE 6 m h,a3f⟩ (Rd.nilF encB 1 m h) a3f (Rd.nilF prE 42 m h) (fun _ hx=>(List.not_mem_nil hx).elim),by rw[c71 c72,hJ];rfl⟩,rfl,rfl⟩)
 exact Su
 replace c72:=D7 c72
 refine WC.skip (B6 [(4,.bool false)] (h'':=spX b3 (.mk 0 (Sp.mk 0 s.ty A9 s.e s.cs s.vs s.fs s.ba s.bc s.bl).ty s.names (Sp.mk 0 s.ty A9 s.e s.cs s.vs s.fs s.ba s.bc s.bl).e (Sp.mk 0 s.ty A9 s.e s.cs s.vs s.fs s.ba s.bc s.bl).cs (Sp.mk 0 s.ty A9 s.e s.cs s.vs s.fs s.ba s.bc s.bl).vs (Sp.mk 0 s.ty A9 s.e s.cs s.vs s.fs s.ba s.bc s.bl).fs (Sp.mk 0 s.ty A9 s.e s.cs s.vs s.fs s.ba s.bc s.bl).ba (Sp.mk 0 s.ty A9 s.e s.cs s.vs s.fs s.ba s.bc s.bl).bc (Sp.mk 0 s.ty A9 s.e s.cs s.vs s.fs s.ba s.bc s.bl).bl)::spX b1 s::h) ?_ Su Sb ⟨false,Sp.mk 0 s.ty A9 s.e s.cs s.vs s.fs s.ba s.bc s.bl,⟨a9e hzk ⟨hO.ty,hO.e,hO.v,hO.vw,hO.fr,hO.fw⟩ (Rd.nilF encB 1 m h) a3f hO.b hS.b,c6u c10 c22 c41 c60 c72 _⟩,rfl,rfl⟩)
 exact Su
 rintro _ _ ⟨fb,xs,hfb,rfl,rfl⟩
 refine B2 rfl ?_
 refine kQ2 [3,4] ?_
 refine kA2 ?_
 refine zG (fun _=>pA a6E) ?_
 refine zG (fun _=>PO.build a6E rfl rfl rfl EvP.nil rfl) ?_
 refine A3 (GU.t rfl rfl) (fun hc=>⟨Ev.func,(E2 (Eg hc) (Eg hc)),a5T (.mk 0 xs.ty A9 xs.e xs.cs xs.vs xs.fs xs.ba xs.bc xs.bl) (fun z hz y h m p1 p2=>a8n z y h m p1 p2) C2 _ _ (hfb.1.mono Sb) ((c3S m h).mono Sb)⟩) Lb ?_
 refine kQ2 [2] ?_
 refine WC.ret (wR (h) ?_)
 exact⟨by rw[hfb.2],rfl⟩
end Go.Proofs.YtcfemegngeijcaaGreatDoor
end
section
namespace Go.Proofs.YtcfemegngeijcaaGreatDoor
set_option maxRecDepth 100000
set_option maxHeartbeats 2000000
open Go.Eng Go.Pc Go
open Go.Xp hiding B F1
open Go.Ty (Ty Vr eqT tyV K0 PrOk VOk encV D3 N6 D9 eqI a2Q a2U)
open Go.Lx (encB C9)
abbrev prX (b:Nat) (p:Pr):Res:=.pt b (.cells (prE p).toArray 45 (0,0))
theorem Q6 {m:View} {h:List Res} {nm:B} {ch:Ex} {tg ex:Sli Ex} {pn:Sli Int} {sp:Sp} (hn:nm.length≤Big) (hc:EOk m h ch) (ht:LOk m h tg) (he:LOk m h ex) (hpn:Rd m h pn.a pn.l.length pn.c 1 (fl a2O pn.l)) (hpw:∀ x ∈ pn.l,-9223372036854775808≤x∧x≤9223372036854775807) (hs:SK m h sp) :
   POk m h (I1 nm ch tg ex pn sp):=
 .mk ⟨by show 0≤(0:Int)∧(0:Int)≤255;decide,hn,hc,ht,he,Nat.zero_le _,a1r m h,a1r m h,Rd.nilF guE 23 m h,fun _ hx=>(List.not_mem_nil hx).elim,Rd.nilF prE 42 m h,hpn,hpw,hs.o⟩ fun x hx=>by cases hx with
   | l q=>exact(List.not_mem_nil q).elim
   | s q=>exact hs.b x q
   | g q _=>exact(List.not_mem_nil q).elim
theorem b9s (m:View) (h:List Res):POk m h P2:=Q6 (by decide) (a1r m h) (a7i m h) (a7i m h) (Rd.nilF a2O 1 m h) a3f (c3S m h)
set_option maxHeartbeats 4000000 in
theorem b5S (p:Pr) (h:List Res) (m:View) (hP:POk m h p):CT Tryz.prog 30 [prV p] h m (A6 h (.bool (Y6 p))):=by
 have hO:=hP.own
 have v0:=View.le.refl m
 have hn2:p.name.length≤9223372036854775807:=Nat.le_trans hO.n (by decide)
 have hsk:=c0q hP
 have lz:=a7i m h
 have ez:=a1r m h
 have pz:Rd m h (A9:Sli Int).a (A9:Sli Int).l.length (A9:Sli Int).c 1 (fl a2O (A9:Sli Int).l):=Rd.nilF a2O 1 m h
 have pf:=hO.pn
 have pfm:=pf.mx
 have pfl:=pf.le
 have chE:∀ h',h.Sublist h'→EOk m h' p.ch:=fun h' hs=>hO.ch.mono hs
 refine CT.body Tryz.call30 Tryz.func30 rfl Tryz.ntmps30 Lb rfl ?_
 refine j0 ?_
 refine xX fun b1=>?_
 refine kQ1 [1] ?_
 refine kA1 ?_
 refine xW fun b3=>?_
 refine kQ1 [1,3] ?_
 refine kQ2 [1,3] ?_
 refine kQ2 [1,3] ?_
 refine kQ2 [1,3] ?_
 refine kQ3 [1,3] ?_
 refine kQ1 [1,3,4] ?_
 refine kA3 ?_
 refine xG (Q7 Et Ev.const) ?_
 refine kQ1 [1,3,4,5] ?_
 refine kQ1 [1,3,4,5,6] ?_
 refine kQ1 [1,3,4,5,6,7] ?_
 refine kP1 [1,3,4,5,6,7,21] ?_
 refine F8 KKh [1,3,4,5] rfl (fun F' h'=>∃ mo:Int,∃ le:Int,(mo=(if (p.rep.name==[])=true then 16 else 1)∧le=(if (p.rep.name==[])=true then 0 else 1))∧F'=[(6,.int .i64 mo),(7,.int .i64 le)]∧prX b3 (I1 p.name p.ch p.tg p.ex p.pn p.sp)::prX b1 p::h=h') ?_ ?_
 refine jE ?_
 refine wc (fun c21=>?_) fun c21=>?_
 have c21n:(p.rep.name==[])=false:=by simpa using c21
 refine kQ1 [1,3,4,5,6] ?_
 refine kA1 ?_
 refine WL.nil (B6 [(6,.int .i64 1),(7,.int .i64 1)] (h'':=prX b3 (I1 p.name p.ch p.tg p.ex p.pn p.sp)::prX b1 p::h) ?_ Su Sb ⟨1,1,(by rw[c21n];exact⟨rfl,rfl⟩),rfl,rfl⟩)
 exact Su
 have c21n:(p.rep.name==[])=true:=by simpa using c21
 refine WC.skip (B6 [(6,.int .i64 16),(7,.int .i64 0)] (h'':=prX b3 (I1 p.name p.ch p.tg p.ex p.pn p.sp)::prX b1 p::h) ?_ Su Sb ⟨16,0,(by rw[c21n];exact⟨rfl,rfl⟩),rfl,rfl⟩)
 exact Su
 rintro _ _ ⟨mo,le,hml,rfl,rfl⟩
 refine B2 rfl ?_
 refine kQ5 [1,3,4,5,6,7,8] ?_
 refine kQ5 [1,3,4,5,6,7,8,9] ?_
 refine kP2 [1,3,4,5,6,7,8,9,31] ?_
 refine F8 KKh [1,3] rfl (fun F' h'=>∃ fb:Bool,∃ pb:Bool,∃ gb:Bool,∃ xp:Pr,(POk m h xp∧Y6 p=((((fb&&pb)&&gb)&&N5 p.rep)&&H2 xp P2))∧F'=[(4,.bool fb),(8,.bool pb),(9,.bool gb)]∧prX b3 xp::prX b1 p::h=h') ?_ ?_
 refine kP2 [1,3,4,5,6,7,8,9,31,32] ?_
 refine F8 KKh [1,3,4,5,6,7,8,9,31] rfl (fun F' h'=>∃ b18:Bool,((b18=true↔(p.k=1∨p.k=2)))∧F'=[(32,.bool b18)]∧prX b3 (I1 p.name p.ch p.tg p.ex p.pn p.sp)::prX b1 p::h=h') ?_ ?_
 refine jE ?_
 refine wc (fun c32=>?_) fun c32=>?_
 replace c32:=E5 c32
 refine WC.skip (B6 [(32,.bool ((p.k==1)))] (h'':=prX b3 (I1 p.name p.ch p.tg p.ex p.pn p.sp)::prX b1 p::h) ?_ Su Sb ⟨(p.k==1),⟨fun _=>.inl c32,fun _=>by simpa using c32⟩,rfl,rfl⟩)
 exact Su
 replace c32:=D7 c32
 refine kA2 ?_
 refine WL.nil (B6 [(32,.bool ((p.k==2)))] (h'':=prX b3 (I1 p.name p.ch p.tg p.ex p.pn p.sp)::prX b1 p::h) ?_ Su Sb ⟨(p.k==2),⟨fun hk=>.inr (by simpa using hk),fun hk=>hk.elim (fun h1=>absurd h1 c32) (fun h1=>by simpa using h1)⟩,rfl,rfl⟩)
 exact Su
 rintro _ _ ⟨b18,hb18,rfl,rfl⟩
 refine B2 rfl ?_
 refine jE ?_
 refine wc (fun c32=>?_) fun c32=>?_
 have hk32:=hb18.1 c32
 refine kA3 ?_
 refine WL.nil (B6 [(4,.bool ((!(!(p.rep.name==[]))))),(8,.bool (((p.ll.length:Int)==0))),(9,.bool (((p.gl.length:Int)==0)))] (h'':=prX b3 (I1 p.name p.ch p.tg p.ex p.pn p.sp)::prX b1 p::h) ?_ Su Sb ⟨(!(!(p.rep.name==[]))),((p.ll.length:Int)==0),((p.gl.length:Int)==0),I1 p.name p.ch p.tg p.ex p.pn p.sp,⟨Q6 hO.n hO.ch hO.tg hO.ex hO.pn hO.pw hsk,c4L hk32⟩,rfl,rfl⟩)
 exact Su
 have nk32:¬ (p.k=1∨p.k=2):=fun q=>by rw[hb18.2 q] at c32;cases c32
 refine kQ2 [1,3,4,5,6,7,8,9,31,37] ?_
 refine wc (fun c37=>?_) fun c37=>?_
 replace c37:=E5 c37
 refine kA5 ?_
 refine A3 (GU.t rfl rfl) (fun hc=>⟨Ev.func,(E3 (Eg hc) Ev.const Ev.const),a6i _ _ _ p.tg.l 1 8 _ _ (hO.tg.rd.mono v0 Sb) (fun x hx=>(hO.tg.ok x hx).mono Sb)⟩) Lb ?_
 refine kA4 ?_
 refine A3 (GU.t rfl rfl) (fun hc=>⟨Ev.func,(E3 (Eg hc) Ev.const Ev.const),a3K _ _ _ p.ex.l 1 8 _ _ (hO.ex.rd.mono v0 Sb) (fun x hx=>(hO.ex.ok x hx).mono Sb)⟩) Lb ?_
 refine kQ2 [1,3,4,8,9] ?_
 refine kQ2 [1,3,4,8,9] ?_
 refine kA2 ?_
 refine WL.nil (B6 [(4,.bool ((((!(!(p.rep.name==[])))&&D4 p.tg.l 1 8 E7)&&D4 p.ex.l 1 8 E9))),(8,.bool (((p.ll.length:Int)==0))),(9,.bool (((p.gl.length:Int)==0)))] (h'':=prX b3 (I1 p.name p.ch A9 A9 p.pn p.sp)::prX b1 p::h) ?_ Su Sb ⟨(((!(!(p.rep.name==[])))&&D4 p.tg.l 1 8 E7)&&D4 p.ex.l 1 8 E9),((p.ll.length:Int)==0),((p.gl.length:Int)==0),I1 p.name p.ch A9 A9 p.pn p.sp,⟨Q6 hO.n hO.ch lz lz hO.pn hO.pw hsk,c6e c37⟩,rfl,rfl⟩)
 exact Su
 replace c37:=D7 c37
 refine kQ2 [1,3,4,5,6,7,8,9,31,53] ?_
 refine wc (fun c53=>?_) fun c53=>?_
 replace c53:=E5 c53
 refine kA5 ?_
 refine A3 (GU.t rfl rfl) (fun hc=>⟨Ev.func,(E1 (Eg hc)),a0T p.ch (chE _ Sb)⟩) Lb ?_
 refine kA4 ?_
 refine A3 (GU.t rfl rfl) (fun hc=>⟨Ev.func,(E3 (Eg hc) Ev.const Ev.const),a6i _ _ _ p.tg.l 1 8 _ _ (hO.tg.rd.mono v0 Sb) (fun x hx=>(hO.tg.ok x hx).mono Sb)⟩) Lb ?_
 refine kQ2 [1,3,4,8,9] ?_
 refine kQ3 [1,3,4,8,9] ?_
 refine kA2 ?_
 refine WL.nil (B6 [(4,.bool ((((!(!(p.rep.name==[])))&&E7 p.ch)&&D4 p.tg.l 1 8 E7))),(8,.bool (((p.ll.length:Int)==0))),(9,.bool (((p.gl.length:Int)==0)))] (h'':=prX b3 (I1 p.name A2 A9 p.ex p.pn p.sp)::prX b1 p::h) ?_ Su Sb ⟨(((!(!(p.rep.name==[])))&&E7 p.ch)&&D4 p.tg.l 1 8 E7),((p.ll.length:Int)==0),((p.gl.length:Int)==0),I1 p.name A2 A9 p.ex p.pn p.sp,⟨Q6 hO.n ez lz hO.ex hO.pn hO.pw hsk,c6i c53⟩,rfl,rfl⟩)
 exact Su
 replace c53:=D7 c53
 refine kQ2 [1,3,4,5,6,7,8,9,31,70] ?_
 refine wc (fun c70=>?_) fun c70=>?_
 replace c70:=E5 c70
 refine kA5 ?_
 refine A3 (GU.t rfl rfl) (fun hc=>⟨Ev.func,(E1 (Eg hc)),a0T p.ch (chE _ Sb)⟩) Lb ?_
 refine kA4 ?_
 refine A3 (GU.t rfl rfl) (fun hc=>⟨Ev.func,(E3 (Eg hc) Ev.const Ev.const),a3K _ _ _ p.ex.l 1 9 _ _ (hO.ex.rd.mono v0 Sb) (fun x hx=>(hO.ex.ok x hx).mono Sb)⟩) Lb ?_
 refine kQ2 [1,3,4,8,9] ?_
 refine kQ3 [1,3,4,8,9] ?_
 refine kA2 ?_
 refine WL.nil (B6 [(4,.bool ((((!(!(p.rep.name==[])))&&E7 p.ch)&&D4 p.ex.l 1 9 E9))),(8,.bool (((p.ll.length:Int)==0))),(9,.bool (((p.gl.length:Int)==0)))] (h'':=prX b3 (I1 p.name A2 p.tg A9 p.pn p.sp)::prX b1 p::h) ?_ Su Sb ⟨(((!(!(p.rep.name==[])))&&E7 p.ch)&&D4 p.ex.l 1 9 E9),((p.ll.length:Int)==0),((p.gl.length:Int)==0),I1 p.name A2 p.tg A9 p.pn p.sp,⟨Q6 hO.n ez hO.tg lz hO.pn hO.pw hsk,c5K c70⟩,rfl,rfl⟩)
 exact Su
 replace c70:=D7 c70
 refine kQ2 [1,3,4,5,6,7,8,9,31,87] ?_
 refine wc (fun c87=>?_) fun c87=>?_
 replace c87:=E5 c87
 refine kA5 ?_
 refine A3 (GU.t rfl rfl) (fun hc=>⟨Ev.func,(E1 (Eg hc)),a0T p.ch (chE _ Sb)⟩) Lb ?_
 refine kA4 ?_
 refine A3 (GU.t rfl rfl) (fun hc=>⟨Ev.func,(E3 (Eg hc) Ev.const Ev.const),a3K _ _ _ p.ex.l 1 1 _ _ (hO.ex.rd.mono v0 Sb) (fun x hx=>(hO.ex.ok x hx).mono Sb)⟩) Lb ?_
 refine kQ2 [1,3,4,8,9] ?_
 refine kQ3 [1,3,4,8,9] ?_
 refine kA2 ?_
 refine WL.nil (B6 [(4,.bool ((((!(!(p.rep.name==[])))&&E7 p.ch)&&D4 p.ex.l 1 1 E9))),(8,.bool (((p.ll.length:Int)==0))),(9,.bool (((p.gl.length:Int)==0)))] (h'':=prX b3 (I1 p.name A2 p.tg A9 p.pn p.sp)::prX b1 p::h) ?_ Su Sb ⟨(((!(!(p.rep.name==[])))&&E7 p.ch)&&D4 p.ex.l 1 1 E9),((p.ll.length:Int)==0),((p.gl.length:Int)==0),I1 p.name A2 p.tg A9 p.pn p.sp,⟨Q6 hO.n ez hO.tg lz hO.pn hO.pw hsk,c5t c87⟩,rfl,rfl⟩)
 exact Su
 replace c87:=D7 c87
 refine kQ2 [1,3,4,5,6,7,8,9,31,104] ?_
 refine wc (fun c104=>?_) fun c104=>?_
 replace c104:=E5 c104
 refine kA5 ?_
 refine A3 (GU.t rfl rfl) (fun hc=>⟨Ev.func,(E1 (Eg hc)),a0T p.ch (chE _ Sb)⟩) Lb ?_
 refine kQ2 [1,3,4,8] ?_
 refine kA2 ?_
 refine L4 Ev.func (Evs.cons Et (Evs.cons Ev.const (Evs.cons Ev.const (Evs.cons Ev.const (Evs.cons Ev.const Evs.nil))))) (a3z _ _ _ p.gl 1 16 7 7 _ _ (hO.g.mono v0 Sb) (fun x hx=>(b03 hP x hx).mono Sb)) Lb ?_
 refine kQ1 [1,3,4,8,9] ?_
 refine kA3 ?_
 refine WL.nil (B6 [(4,.bool (((!(!(p.rep.name==[])))&&E7 p.ch))),(8,.bool (((p.ll.length:Int)==0))),(9,.bool (D4 p.gl 1 16 (gQ 7 7)))] (h'':=prX b3 (I1 p.name A2 p.tg p.ex p.pn p.sp)::prX b1 p::h) ?_ Su Sb ⟨((!(!(p.rep.name==[])))&&E7 p.ch),((p.ll.length:Int)==0),D4 p.gl 1 16 (gQ 7 7),I1 p.name A2 p.tg p.ex p.pn p.sp,⟨Q6 hO.n ez hO.tg hO.ex hO.pn hO.pw hsk,c6w c104⟩,rfl,rfl⟩)
 exact Su
 replace c104:=D7 c104
 refine kP2 [1,3,4,5,6,7,8,9,31,118] ?_
 refine F8 KKh [1,3,4,5,6,7,8,9,31] rfl (fun F' h'=>∃ b41:Bool,((b41=true↔(p.k=8∨p.k=9)))∧F'=[(118,.bool b41)]∧prX b3 (I1 p.name p.ch p.tg p.ex p.pn p.sp)::prX b1 p::h=h') ?_ ?_
 refine jE ?_
 refine wc (fun c118=>?_) fun c118=>?_
 replace c118:=E5 c118
 refine WC.skip (B6 [(118,.bool ((p.k==8)))] (h'':=prX b3 (I1 p.name p.ch p.tg p.ex p.pn p.sp)::prX b1 p::h) ?_ Su Sb ⟨(p.k==8),⟨fun _=>.inl c118,fun _=>by simpa using c118⟩,rfl,rfl⟩)
 exact Su
 replace c118:=D7 c118
 refine kA2 ?_
 refine WL.nil (B6 [(118,.bool ((p.k==9)))] (h'':=prX b3 (I1 p.name p.ch p.tg p.ex p.pn p.sp)::prX b1 p::h) ?_ Su Sb ⟨(p.k==9),⟨fun hk=>.inr (by simpa using hk),fun hk=>hk.elim (fun h1=>absurd h1 c118) (fun h1=>by simpa using h1)⟩,rfl,rfl⟩)
 exact Su
 rintro _ _ ⟨b41,hb41,rfl,rfl⟩
 refine B2 rfl ?_
 refine jE ?_
 refine wc (fun c118=>?_) fun c118=>?_
 have hk118:=hb41.1 c118
 refine kQ1 [1,3,4,5,9] ?_
 refine kA9 ?_
 refine WL.nil (B6 [(4,.bool true),(8,.bool ((((!(!(p.rep.name==[]))))||((p.ll.length:Int)==1)))),(9,.bool (((p.gl.length:Int)==0)))] (h'':=prX b3 (I1 p.name p.ch p.tg p.ex p.pn p.sp)::prX b1 p::h) ?_ Su Sb ⟨true,(((!(!(p.rep.name==[]))))||((p.ll.length:Int)==1)),((p.gl.length:Int)==0),I1 p.name p.ch p.tg p.ex p.pn p.sp,⟨Q6 hO.n hO.ch hO.tg hO.ex hO.pn hO.pw hsk,c4c hk118⟩,rfl,rfl⟩)
 exact Su
 have nk118:¬ (p.k=8∨p.k=9):=fun q=>by rw[hb41.2 q] at c118;cases c118
 refine kQ2 [1,3,4,5,6,7,8,9,31,129] ?_
 refine wc (fun c129=>?_) fun c129=>?_
 replace c129:=E5 c129
 refine kQ3 [1,3,4,9] ?_
 refine kA5 ?_
 refine WL.nil (B6 [(4,.bool ((!(!(p.rep.name==[]))))),(8,.bool (((p.ll.length:Int)==2))),(9,.bool (((p.gl.length:Int)==0)))] (h'':=prX b3 (I1 p.name p.ch p.tg p.ex p.pn p.sp)::prX b1 p::h) ?_ Su Sb ⟨(!(!(p.rep.name==[]))),((p.ll.length:Int)==2),((p.gl.length:Int)==0),I1 p.name p.ch p.tg p.ex p.pn p.sp,⟨Q6 hO.n hO.ch hO.tg hO.ex hO.pn hO.pw hsk,c5j c129⟩,rfl,rfl⟩)
 exact Su
 replace c129:=D7 c129
 refine kQ2 [1,3,4,5,6,7,8,9,31,137] ?_
 refine wc (fun c137=>?_) fun c137=>?_
 replace c137:=E5 c137
 refine c7c [1,3,4,9] ?_
 refine kQ1 [1,3,4,9,10] ?_
 refine B0 [1,3,9] rfl (fun μ F' h'=>∃ i:Nat,∃ v:Bool,(i≤p.pn.l.length∧((p.pn.l.length≤8→(((!(!(p.rep.name==[])))&&((p.pn.l.length:Int)==(p.ll.length:Int)))&&p.pn.l.all okN)=(v&&(p.pn.l.drop i).all okN))∧(¬ p.pn.l.length≤8→v=((!(!(p.rep.name==[])))&&((p.pn.l.length:Int)==(p.ll.length:Int))))))∧p.pn.l.length - i=μ∧F'=[(4,.bool v),(10,.int .i64 i)]∧prX b3 (I1 p.name p.ch p.tg p.ex p.pn p.sp)::prX b1 p::h=h') (p.pn.l.length - 0) [(4,.bool (((!(!(p.rep.name==[])))&&((p.pn.l.length:Int)==(p.ll.length:Int))))),(10,.int .i64 0)] (h0:=prX b3 (I1 p.name p.ch p.tg p.ex p.pn p.sp)::prX b1 p::h) ?_ Sb ⟨0,((!(!(p.rep.name==[])))&&((p.pn.l.length:Int)==(p.ll.length:Int))),⟨by omega,fun _=>rfl,fun _=>rfl⟩,rfl,rfl,rfl⟩ ?_
 exact Su
 rintro _ _ _ ⟨i,v,⟨hi,hJ,hN⟩,rfl,rfl,rfl⟩
 refine B2 rfl ?_
 refine b1K [1,3,4,9,10,160] ?_
 refine wc (fun c160=>?_) fun c160=>?_
 have d160:i < p.pn.l.length∧p.pn.l.length≤8:=by simp at c160;omega
 obtain⟨x,hx⟩:=A5 (l:=p.pn.l) (k:=i) (by omega)
 refine kQ0 [1,3,4,9,10] ?_
 refine kA5 ?_
 refine F3 (GU.t rfl rfl) (fun hc=>F6 b1E.und b1E.size b1E.posz (Eg hc) (Eg hc) Rr rfl (by omega)) Lb ?_
 refine zG (fun hc=>a6Z uu3 rfl a3r Rr (Eg hc) (by assumption) rfl) ?_
 refine kA6 ?_
 refine F3 (GU.t rfl rfl) (fun hc=>F6 b1E.und b1E.size b1E.posz (Eg hc) (Eg hc) Rr rfl (by omega)) Lb ?_
 refine zG (fun hc=>a6Z uu3 rfl a3r Rr (Eg hc) (by assumption) rfl) ?_
 refine kQ3 [1,3,4,9,10] ?_
 refine kA3 ?_
 refine WL.nil (A8 (p.pn.l.length - (i+1)) [(4,.bool (((v&&decide (x ≥ 0))&&decide (x≤7)))),(10,.int .i64 (i+1))] (h'':=prX b3 (I1 p.name p.ch p.tg p.ex p.pn p.sp)::prX b1 p::h) (by omega) ?_ Su Sb ⟨i+1,((v&&decide (x ≥ 0))&&decide (x≤7)),⟨by omega,fun h8=>by rw[hJ h8,b8K hx];unfold okN;rw[Bool.and_assoc,Bool.and_assoc,Bool.and_assoc],fun h8=>absurd d160.2 h8⟩,rfl,rfl,rfl⟩)
 exact Su
 have d160:¬ (i < p.pn.l.length∧p.pn.l.length≤8):=fun q=>by
   have q1:(i:Int) < (p.pn.l.length:Int):=by omega
   have q2:(p.pn.l.length:Int)≤8:=by omega
   simp[q1,q2] at c160
 have hJ2:p.pn.l.length≤8→v=(((!(!(p.rep.name==[])))&&((p.pn.l.length:Int)==(p.ll.length:Int)))&&p.pn.l.all okN):=fun h8=>by rw[hJ h8,List.drop_eq_nil_of_le (by omega)];simp
 refine kQ0 [1,3,4,9] ?_
 refine b1K [1,3,4,8,9] ?_
 refine kA2 ?_
 refine WL.nil (B6 [(4,.bool v),(8,.bool ((decide ((p.ll.length:Int) ≥ 1)&&decide ((p.ll.length:Int)≤8)))),(9,.bool (((p.gl.length:Int)==0)))] (h'':=prX b3 (I1 p.name p.ch p.tg p.ex A9 p.sp)::prX b1 p::h) ?_ Su Sb ⟨v,(decide ((p.ll.length:Int) ≥ 1)&&decide ((p.ll.length:Int)≤8)),((p.gl.length:Int)==0),I1 p.name p.ch p.tg p.ex A9 p.sp,⟨Q6 hO.n hO.ch hO.tg hO.ex pz a3f hsk,c4O c137 hJ2 hN⟩,rfl,rfl⟩)
 exact Su
 replace c137:=D7 c137
 refine kP2 [1,3,4,5,6,7,8,9,31,191] ?_
 refine F8 KKh [1,3,4,5,6,7,8,9,31] rfl (fun F' h'=>∃ b56:Bool,((b56=true↔(p.k=12∨p.k=13)))∧F'=[(191,.bool b56)]∧prX b3 (I1 p.name p.ch p.tg p.ex p.pn p.sp)::prX b1 p::h=h') ?_ ?_
 refine jE ?_
 refine wc (fun c191=>?_) fun c191=>?_
 replace c191:=E5 c191
 refine WC.skip (B6 [(191,.bool ((p.k==12)))] (h'':=prX b3 (I1 p.name p.ch p.tg p.ex p.pn p.sp)::prX b1 p::h) ?_ Su Sb ⟨(p.k==12),⟨fun _=>.inl c191,fun _=>by simpa using c191⟩,rfl,rfl⟩)
 exact Su
 replace c191:=D7 c191
 refine kA2 ?_
 refine WL.nil (B6 [(191,.bool ((p.k==13)))] (h'':=prX b3 (I1 p.name p.ch p.tg p.ex p.pn p.sp)::prX b1 p::h) ?_ Su Sb ⟨(p.k==13),⟨fun hk=>.inr (by simpa using hk),fun hk=>hk.elim (fun h1=>absurd h1 c191) (fun h1=>by simpa using h1)⟩,rfl,rfl⟩)
 exact Su
 rintro _ _ ⟨b56,hb56,rfl,rfl⟩
 refine B2 rfl ?_
 refine jE ?_
 refine wc (fun c191=>?_) fun c191=>?_
 have hk191:=hb56.1 c191
 refine kQ1 [1,3,4,6,7,8] ?_
 refine kA4 ?_
 refine L4 Ev.func (Evs.cons Et (Evs.cons Et (Evs.cons Et (Evs.cons Ev.const (Evs.cons Ev.const Evs.nil))))) (a3z _ _ _ p.gl le mo 2 4 _ _ (hO.g.mono v0 Sb) (fun x hx=>(b03 hP x hx).mono Sb)) Lb ?_
 refine kA1 ?_
 refine WL.nil (B6 [(4,.bool true),(8,.bool (((p.ll.length:Int)==0))),(9,.bool (D4 p.gl le mo (gQ 2 4)))] (h'':=prX b3 (I1 p.name p.ch p.tg p.ex p.pn p.sp)::prX b1 p::h) ?_ Su Sb ⟨true,((p.ll.length:Int)==0),D4 p.gl le mo (gQ 2 4),I1 p.name p.ch p.tg p.ex p.pn p.sp,⟨Q6 hO.n hO.ch hO.tg hO.ex hO.pn hO.pw hsk,b7X hk191 hml⟩,rfl,rfl⟩)
 exact Su
 have nk191:¬ (p.k=12∨p.k=13):=fun q=>by rw[hb56.2 q] at c191;cases c191
 refine kQ2 [1,3,4,5,6,7,8,9,31,199] ?_
 refine wc (fun c199=>?_) fun c199=>?_
 replace c199:=E5 c199
 refine kQ1 [1,3,4,6,7,8] ?_
 refine kA4 ?_
 refine L4 Ev.func (Evs.cons Et (Evs.cons Et (Evs.cons Et (Evs.cons Ev.const (Evs.cons Ev.const Evs.nil))))) (a3z _ _ _ p.gl le mo 1 1 _ _ (hO.g.mono v0 Sb) (fun x hx=>(b03 hP x hx).mono Sb)) Lb ?_
 refine kA1 ?_
 refine WL.nil (B6 [(4,.bool true),(8,.bool (((p.ll.length:Int)==0))),(9,.bool (D4 p.gl le mo (gQ 1 1)))] (h'':=prX b3 (I1 p.name p.ch p.tg p.ex p.pn p.sp)::prX b1 p::h) ?_ Su Sb ⟨true,((p.ll.length:Int)==0),D4 p.gl le mo (gQ 1 1),I1 p.name p.ch p.tg p.ex p.pn p.sp,⟨Q6 hO.n hO.ch hO.tg hO.ex hO.pn hO.pw hsk,c4o c199 hml⟩,rfl,rfl⟩)
 exact Su
 replace c199:=D7 c199
 refine kQ2 [1,3,4,5,8,9,31,206] ?_
 refine wc (fun c206=>?_) fun c206=>?_
 replace c206:=E5 c206
 refine kA5 ?_
 refine A3 (GU.t rfl rfl) (fun hc=>⟨Ev.func,(E3 (Eg hc) Ev.const Ev.const),a3K _ _ _ p.ex.l 1 1 _ _ (hO.ex.rd.mono v0 Sb) (fun x hx=>(hO.ex.ok x hx).mono Sb)⟩) Lb ?_
 refine kQ2 [1,3,4,8] ?_
 refine kA2 ?_
 refine L4 Ev.func (Evs.cons Et (Evs.cons Ev.const (Evs.cons Ev.const (Evs.cons Ev.const (Evs.cons Ev.const Evs.nil))))) (a3z _ _ _ p.gl 0 16 5 6 _ _ (hO.g.mono v0 Sb) (fun x hx=>(b03 hP x hx).mono Sb)) Lb ?_
 refine kQ1 [1,3,4,8,9] ?_
 refine kA2 ?_
 refine WL.nil (B6 [(4,.bool (((!(!(p.rep.name==[])))&&D4 p.ex.l 1 1 E9))),(8,.bool (((p.ll.length:Int)==0))),(9,.bool (D4 p.gl 0 16 (gQ 5 6)))] (h'':=prX b3 (I1 p.name p.ch p.tg A9 p.pn p.sp)::prX b1 p::h) ?_ Su Sb ⟨((!(!(p.rep.name==[])))&&D4 p.ex.l 1 1 E9),((p.ll.length:Int)==0),D4 p.gl 0 16 (gQ 5 6),I1 p.name p.ch p.tg A9 p.pn p.sp,⟨Q6 hO.n hO.ch hO.tg lz hO.pn hO.pw hsk,c5e c206⟩,rfl,rfl⟩)
 exact Su
 replace c206:=D7 c206
 refine kQ2 [1,3,4,5,8,9,31,219] ?_
 refine wc (fun c219=>?_) fun c219=>?_
 replace c219:=E5 c219
 refine kA5 ?_
 refine A3 (GU.t rfl rfl) (fun hc=>⟨Ev.func,(E3 (Eg hc) Ev.const Ev.const),a3K _ _ _ p.ex.l 1 1 _ _ (hO.ex.rd.mono v0 Sb) (fun x hx=>(hO.ex.ok x hx).mono Sb)⟩) Lb ?_
 refine kQ2 [1,3,4,9] ?_
 refine kQ5 [1,3,4,8,9] ?_
 refine kA2 ?_
 refine WL.nil (B6 [(4,.bool (((!(!(p.rep.name==[])))&&D4 p.ex.l 1 1 E9))),(8,.bool (((p.ll.length:Int)==1))),(9,.bool (((p.gl.length:Int)==0)))] (h'':=prX b3 (I1 p.name p.ch p.tg A9 p.pn p.sp)::prX b1 p::h) ?_ Su Sb ⟨((!(!(p.rep.name==[])))&&D4 p.ex.l 1 1 E9),((p.ll.length:Int)==1),((p.gl.length:Int)==0),I1 p.name p.ch p.tg A9 p.pn p.sp,⟨Q6 hO.n hO.ch hO.tg lz hO.pn hO.pw hsk,c5c c219⟩,rfl,rfl⟩)
 exact Su
 replace c219:=D7 c219
 refine kQ2 [1,3,4,5,8,9,31,233] ?_
 refine wc (fun c233=>?_) fun c233=>?_
 replace c233:=E5 c233
 refine kA5 ?_
 refine A3 (GU.t rfl rfl) (fun hc=>⟨Ev.func,(E1 (Eg hc)),CT.val (X8 p.name _ _ hn2) (congrArg Value.bool (Go.Lx.name_eq p.name).symm)⟩) Lb ?_
 refine kA4 ?_
 refine A3 (GU.t rfl rfl) (fun hc=>⟨Ev.func,(E3 (Eg hc) Ev.const Ev.const),a3K _ _ _ p.ex.l 0 8 _ _ (hO.ex.rd.mono v0 Sb) (fun x hx=>(hO.ex.ok x hx).mono Sb)⟩) Lb ?_
 refine kQ2 [1,3,4,8,9] ?_
 refine kQ2 [1,3,4,8,9] ?_
 refine kA2 ?_
 refine WL.nil (B6 [(4,.bool ((((!(!(p.rep.name==[])))&&Go.Lx.name p.name)&&D4 p.ex.l 0 8 E9))),(8,.bool (((p.ll.length:Int)==0))),(9,.bool (((p.gl.length:Int)==0)))] (h'':=prX b3 (I1 [] p.ch p.tg A9 p.pn p.sp)::prX b1 p::h) ?_ Su Sb ⟨(((!(!(p.rep.name==[])))&&Go.Lx.name p.name)&&D4 p.ex.l 0 8 E9),((p.ll.length:Int)==0),((p.gl.length:Int)==0),I1 [] p.ch p.tg A9 p.pn p.sp,⟨Q6 (by decide) hO.ch hO.tg lz hO.pn hO.pw hsk,c5k c233⟩,rfl,rfl⟩)
 exact Su
 replace c233:=D7 c233
 refine kQ2 [1,3,4,5,8,9,249] ?_
 refine wc (fun c249=>?_) fun c249=>?_
 replace c249:=E5 c249
 refine kA5 ?_
 refine A3 (GU.t rfl rfl) (fun hc=>⟨Ev.func,(E1 (Eg hc)),b7R p.sp _ _ (hsk.mono Sb)⟩) Lb ?_
 refine kQ2 [1,3,4,9] ?_
 refine kQ5 [1,3,4,8,9] ?_
 refine kA3 ?_
 refine WL.nil (B6 [(4,.bool (((!(!(p.rep.name==[])))&&spP p.sp))),(8,.bool (((p.ll.length:Int)==1))),(9,.bool (((p.gl.length:Int)==0)))] (h'':=prX b3 (I1 p.name p.ch p.tg p.ex p.pn C2)::prX b1 p::h) ?_ Su Sb ⟨((!(!(p.rep.name==[])))&&spP p.sp),((p.ll.length:Int)==1),((p.gl.length:Int)==0),I1 p.name p.ch p.tg p.ex p.pn C2,⟨Q6 hO.n hO.ch hO.tg hO.ex hO.pn hO.pw (c3S m h),c4D c249⟩,rfl,rfl⟩)
 exact Su
 replace c249:=D7 c249
 refine WC.skip (B6 [(4,.bool false),(8,.bool (((p.ll.length:Int)==0))),(9,.bool (((p.gl.length:Int)==0)))] (h'':=prX b3 (I1 p.name p.ch p.tg p.ex p.pn p.sp)::prX b1 p::h) ?_ Su Sb ⟨false,((p.ll.length:Int)==0),((p.gl.length:Int)==0),I1 p.name p.ch p.tg p.ex p.pn p.sp,⟨Q6 hO.n hO.ch hO.tg hO.ex hO.pn hO.pw hsk,c3K nk32 c37 c53 c70 c87 c104 nk118 c129 c137 nk191 c199 c206 c219 c233 c249 _ _ _⟩,rfl,rfl⟩)
 exact Su
 rintro _ _ ⟨fb,pb,gb,xp,hfb,rfl,rfl⟩
 refine B2 rfl ?_
 refine a6I ?_
 refine A3 (GU.t rfl rfl) (fun hc=>⟨Ev.func,(E1 (Eg hc)),c2n p.rep hO.rn (hO.rb.mono Sb) (hO.rc.mono Sb)⟩) Lb ?_
 refine kA2 ?_
 refine zG (fun _=>pA R0) ?_
 refine zG (fun _=>PO.build R0 rfl rfl rfl EvP.nil rfl) ?_
 refine A3 (GU.t rfl rfl) (fun hc=>⟨Ev.func,(E2 (Eg hc) (Eg hc)),a8n xp P2 _ _ (hfb.1.mono Sb) ((b9s m h).mono Sb)⟩) Lb ?_
 refine kQ2 [2] ?_
 refine WC.ret (wR (h) ?_)
 exact⟨by rw[hfb.2],rfl⟩
end Go.Proofs.YtcfemegngeijcaaGreatDoor
end
section
namespace Go.Proofs.YtcfemegngeijcaaGreatDoor
set_option maxRecDepth 100000
set_option maxHeartbeats 2000000
open Go.Eng Go.Pc Go.Sx Go
open Go.Xp hiding B F1
open Go.Ty (Ty Vr Tok eqT tyV K0 B7 B9 T9 zeroK N6 D9 encV D3 VOk PrOk)
open Go.Lx (encB C9 textO)
open Go.Ly (Rw T7 J8 eqR b0W b1a b1C)
theorem pt0:a5D [120,44,32,121,32,58,61,32,49,44,32,118,91,105,93]=true:=by decide +kernel
theorem pm0:a3B [120,44,32,121,32,58,61,32,49,44,32,118,91,105,93] 3=true:=by decide +kernel
theorem pt1:a5D [73,78,84,32,120,58,47,83,69,81,32,105,32,61,32,48,32,70,79,82,32,52,47,46,99,32,33,32,120]=true:=by decide +kernel
theorem pm1:a3B [73,78,84,32,120,58,47,83,69,81,32,105,32,61,32,48,32,70,79,82,32,52,47,46,99,32,33,32,120] 18=true:=by decide +kernel
theorem pt2:a5D [65,76,84,47,46,110,32,62,32,48,32,38,32,99,32,63,32,120,47,46,46,83,75,73,80,47,46,116,32,63,32,65,70,84,69,82,32,110,47,46,46,83,84,79,80]=true:=by decide +kernel
theorem pm2:a3B [65,76,84,47,46,110,32,62,32,48,32,38,32,99,32,63,32,120,47,46,46,83,75,73,80,47,46,116,32,63,32,65,70,84,69,82,32,110,47,46,46,83,84,79,80] 12=true:=by decide +kernel
theorem pt3:a5D [80,82,79,84,79,67,79,76,32,112,47,46,67,65,83,69,47,46,46,112,117,116,59,32,73,78,84,47,46,46,101,110,100,47,58,47,83,75,73,80]=true:=by decide +kernel
theorem pm3:a3B [80,82,79,84,79,67,79,76,32,112,47,46,67,65,83,69,47,46,46,112,117,116,59,32,73,78,84,47,46,46,101,110,100,47,58,47,83,75,73,80] 18=true:=by decide +kernel
theorem pt4:a5D [87,72,73,76,69,32,84,82,85,69,47,46,83,75,73,80]=true:=by decide +kernel
theorem pm4:a3B [87,72,73,76,69,32,84,82,85,69,47,46,83,75,73,80] 16=true:=by decide +kernel
theorem ft0:a5D [83,69,81,47,46,120,32,58,61,32,49,47,46,46,83,75,73,80]=true:=by decide +kernel
theorem fm0:a2R [83,69,81,47,46,120,32,58,61,32,49,47,46,46,83,75,73,80] 2 110=true:=by decide +kernel
theorem ft1:a5D [83,69,81,32,105,32,61,32,48,32,70,79,82,32,51,47,46,83,75,73,80,47,46,83,75,73,80]=true:=by decide +kernel
theorem fm1:a2R [83,69,81,32,105,32,61,32,48,32,70,79,82,32,51,47,46,83,75,73,80,47,46,83,75,73,80] 2 110=true:=by decide +kernel
theorem ft2:a5D [83,75,73,80,47,83,75,73,80]=true:=by decide +kernel
theorem fm2:a2R [83,75,73,80,47,83,75,73,80] 1 110=true:=by decide +kernel
theorem ft3:a5D [40,120,41,32,58,61,32,49]=true:=by decide +kernel
theorem fm3:a2R [40,120,41,32,58,61,32,49] 0 110=true:=by decide +kernel
theorem ft4:a5D [120,32,58,61,32,49,32,43,32,50,32,43,32,51]=true:=by decide +kernel
theorem fm4:a2R [120,32,58,61,32,49,32,43,32,50,32,43,32,51] 0 110=true:=by decide +kernel
theorem ft5:a5D [83,69,81,47,46,120,32,58,61,32,36]=true:=by decide +kernel
theorem fm5:a2R [83,69,81,47,46,120,32,58,61,32,36] 1 80=true:=by decide +kernel
theorem ft6:a5D [73,78,84,32,120,58]=true:=by decide +kernel
theorem fm6:a2R [73,78,84,32,120,58] 1 110=true:=by decide +kernel
theorem ft7:a5D [80,82,73,32,80,65,82,47,46,83,75,73,80]=true:=by decide +kernel
theorem fm7:a2R [80,82,73,32,80,65,82,47,46,83,75,73,80] 2 110=true:=by decide +kernel
theorem a0Z {m:View} (hg:Glob m) (s:B) (n e:Int) (hT:TxtOk s) (hM:a2R s n e=true) (h:List Res) :
   CT Tryz.prog 15 [str s,.int .i64 n,.int .i64 e] h m (A6 h (.bool true)):=by
 unfold a2R at hM
 simp only[Bool.and_eq_true,beq_iff_eq] at hM
 obtain⟨⟨hM1,hM2⟩,hM3⟩:=hM
 refine CT.body Tryz.call15 Tryz.func15 rfl Tryz.ntmps15 Lb rfl ?_
 refine kQ1 [0,1,2] ?_
 refine kA1 ?_
 refine xg (E1 Et) (b1z hg s hT.n hT.l hT.p _) ?_
 rintro _ _ ⟨a12,c12,_,rfl,rfl,rfl⟩
 refine xg (E1 Et) (a9Y hg _ _ (a03 s) _ hT.t) ?_
 rintro _ _ ⟨x,hh,rfl,hst,hok,rfl⟩
 rw[hM2,hM3]
 have hsx:H2 x P2=true:=by rw[← c2r,hst];exact hM1
 refine kA4 ?_
 refine xW fun b7=>?_
 refine kQ3 [1,2,7,8,9] ?_
 refine kA2 ?_
 refine xf (E2 Et Et) ((a8n x P2 _ _ (hok.mono Sb) (b9s m _)).val (congrArg Value.bool hsx)) ?_
 refine kA1 ?_
 refine zU ?_
 refine kA1 ?_
 refine zU ?_
 refine kA1 ?_
 refine zU ?_
 refine kA1 ?_
 refine wV (b':=true) (by simp) ?_
 refine kA2 ?_
 refine zU ?_
 refine kA1 ?_
 refine zU ?_
 refine kA1 ?_
 refine zU ?_
 refine kA1 ?_
 refine wV (b':=true) (by simp) ?_
 refine kQ2 [6] ?_
 refine WC.ret (wR (h) ?_)
 exact⟨rfl,rfl⟩
def skP:Pr:=.mk 1 [] A2 A9 A9 a3v none 0 [] none 0 [] A9 C2
def unP (k:Int) (b:Nat):Pr:=.mk k [] A2 A9 A9 a3v none 0 [] (some ⟨b,0,none⟩) 1 [skP] A9 C2
theorem c3h (m:View) (h:List Res):POk m h skP:=b6l m h (k:=1) (by decide)
theorem c3j {m:View} {h:List Res} {k:Int} {b:Nat} (hk:0≤k∧k≤255) (hb:Res.pt b (.cells (prE skP).toArray 45 (0,0)) ∈ h):POk m h (unP k b):=
 a5j hk (Nat.zero_le _) (G1 _ _) (H0 _ _) (H0 _ _) (X0 _ _) (a0J _ _) ⟨Rd.ofPt rfl (show 1≤9223372036854775807 by decide) hb,fun x hx=>by rw[List.mem_singleton] at hx;subst hx;exact c3h m h⟩ (a00 _ _) (S9 _ _)
theorem c4Y (b:Nat):mayP (unP 10 b)=false:=by kernel_rfl
theorem c3G:mayP skP=true:=by kernel_rfl
theorem c5f (b:Nat):W64 (Q1 (unP 16 b))=2:=by kernel_rfl
theorem c6P:(U7 []).2=(0,110):=by kernel_rfl
set_option maxHeartbeats 2000000 in
theorem c0H {m:View} (hg:Glob m) (hp:Pow m) (h:List Res):CT Tryz.prog 9 [] h m (A6 h (.bool true)):=by
 refine CT.body Tryz.call9 Tryz.func9 rfl Tryz.ntmps9 Lb rfl ?_
 refine kQ1 [] ?_
 refine xf (E2 Ev.const Ev.const) (a2V hg hp _ _ (a0L pt0) pm0 _) ?_
 refine kA1 ?_
 refine zU ?_
 refine xf (E2 Ev.const Ev.const) (a2V hg hp _ _ (a0L pt1) pm1 _) ?_
 refine kA2 ?_
 refine zU ?_
 refine xf (E2 Ev.const Ev.const) (a2V hg hp _ _ (a0L pt2) pm2 _) ?_
 refine kA2 ?_
 refine zU ?_
 refine xf (E2 Ev.const Ev.const) (a2V hg hp _ _ (a0L pt3) pm3 _) ?_
 refine kA2 ?_
 refine zU ?_
 refine xf (E2 Ev.const Ev.const) (a2V hg hp _ _ (a0L pt4) pm4 _) ?_
 refine kQ2 [1] ?_
 refine xf (E3 Ev.const Ev.const Ev.const) (a0Z hg _ _ _ (a0L ft0) fm0 _) ?_
 refine kA1 ?_
 refine zU ?_
 refine xf (E3 Ev.const Ev.const Ev.const) (a0Z hg _ _ _ (a0L ft1) fm1 _) ?_
 refine kA2 ?_
 refine zU ?_
 refine xf (E3 Ev.const Ev.const Ev.const) (a0Z hg _ _ _ (a0L ft2) fm2 _) ?_
 refine kA2 ?_
 refine zU ?_
 refine xf (E3 Ev.const Ev.const Ev.const) (a0Z hg _ _ _ (a0L ft3) fm3 _) ?_
 refine kA2 ?_
 refine zU ?_
 refine xf (E3 Ev.const Ev.const Ev.const) (a0Z hg _ _ _ (a0L ft4) fm4 _) ?_
 refine kA2 ?_
 refine zU ?_
 refine xf (E3 Ev.const Ev.const Ev.const) (a0Z hg _ _ _ (a0L ft5) fm5 _) ?_
 refine kA2 ?_
 refine zU ?_
 refine xf (E3 Ev.const Ev.const Ev.const) (a0Z hg _ _ _ (a0L ft6) fm6 _) ?_
 refine kA2 ?_
 refine zU ?_
 refine xf (E3 Ev.const Ev.const Ev.const) (a0Z hg _ _ _ (a0L ft7) fm7 _) ?_
 refine kQ2 [1,2] ?_
 refine xg (E1 Ev.const) (b2q hg none 0 [] _ (Rd.nilF T7 3 m []) nofun) ?_
 rintro _ _ ⟨x,hh,rfl,hst,hok,rfl⟩
 rw[c6P]
 refine kA4 ?_
 refine xW fun b3=>?_
 refine kQ3 [1,2,4,5] ?_
 refine kA1 ?_
 refine xW fun b6=>?_
 refine kQ1 [1,2,4,5,6] ?_
 refine kA2 ?_
 refine zU ?_
 refine kA3 ?_
 refine zU ?_
 refine kA1 ?_
 refine zU ?_
 refine kA3 ?_
 refine zU ?_
 refine kA1 ?_
 refine zU ?_
 refine kA3 ?_
 refine zU ?_
 refine kA1 ?_
 refine zU ?_
 refine xY W4 (EvP.cons Et EvP.nil) fun b62=>?_
 refine zU ?_
 refine kA1 ?_
 refine zU ?_
 refine xf (E1 Et) ((a7A hg (unP 10 b62) (c3j (by decide) Me)).val (congrArg Value.bool (c4Y _))) ?_
 refine zU ?_
 refine kA3 ?_
 refine zU ?_
 refine kA1 ?_
 refine zU ?_
 refine xf (E1 Et) ((a7A hg skP (c3h m _)).val (congrArg Value.bool c3G)) ?_
 refine kA2 ?_
 refine zU ?_
 refine kA1 ?_
 refine zU ?_
 refine xY W4 (EvP.cons Et EvP.nil) fun b73=>?_
 refine zU ?_
 refine kA1 ?_
 refine zU ?_
 refine xf (E1 Et) ((b5P (unP 16 b73) _ m (c3j (by decide) Me)).val (congrArg (Value.int .i64) (c5f _))) ?_
 refine zU ?_
 refine kQ3 [0] ?_
 refine WC.ret (wR (h) ?_)
 exact⟨rfl,rfl⟩
end Go.Proofs.YtcfemegngeijcaaGreatDoor
end
section
namespace Go.Proofs.YtcfemegngeijcaaGreatDoor
set_option maxRecDepth 100000
set_option maxHeartbeats 2000000
open Go.Eng Go.Pc Go
open Go.Xp hiding B F1
open Go.Ty (Ty Vr eqT tyV K0 PrOk VOk encV D3 N6 D9 eqI a2Q a2U)
open Go.Lx (encB C9)
theorem b2l {α:Type} {l:List α} {i:Nat} {x:α} (h:l[i]?=some x):l.drop i=x::l.drop (i+1):=by
 obtain⟨hi,rfl⟩:=List.getElem?_eq_some_iff.1 h
 exact List.drop_eq_getElem_cons hi
theorem b89 {l:List Pr} {x:Pr} (h:l[0]?=some x) (d q:Int):a3R l d q=F7 x d false q:=by
 cases l with
 | nil=>cases h
 | cons y r=>cases h;rfl
set_option maxHeartbeats 4000000 in
theorem b3V (p:Pr):∀ (h:List Res) (m:View) (d left:Int) (pl:Bool),POk m h p→(0≤d∧d≤34)→(0≤left∧left≤2048) →
   CT Tryz.prog 13 [prV p,.int .i64 d,.int .i64 left,.bool pl] h m (A6 h (.int .i64 (J6 (F7 p d pl left)))):=by
 refine Pr.ind (q:=fun p=>∀ (h:List Res) (m:View) (d left:Int) (pl:Bool),POk m h p→(0≤d∧d≤34)→(0≤left∧left≤2048) →
   CT Tryz.prog 13 [prV p,.int .i64 d,.int .i64 left,.bool pl] h m (A6 h (.int .i64 (J6 (F7 p d pl left))))) (fun p ih h m d left pl hP hd hl=>?_) p
 have v0:=View.le.refl m
 have hO:=hP.own
 have l1:=hO.l
 have l2:=hO.g
 have l3:=hO.sp.b
 have m1:=l1.mx
 have m2:=l2.mx
 have m3:=l3.mx
 have k1:=l1.le
 have k2:=l2.le
 have k3:=l3.le
 refine CT.body Tryz.call13 Tryz.func13 rfl Tryz.ntmps13 Lb rfl ?_
 refine j0 ?_
 refine xX fun b4=>?_
 refine kQ1 [1,2,3,4] ?_
 refine kA7 ?_
 refine zG (fun _=>pA R0) ?_
 refine A3 (GU.f rfl rfl) (fun hc=>⟨Ev.func,(E1 (Eg hc)),b5S p _ _ (hP.mono Sb)⟩) Lb ?_
 refine kA9 ?_
 refine zG (fun hc=>O3 hc rfl rfl) ?_
 refine kQ1 [1,2,3,4,31] ?_
 refine wc (fun c31=>?_) fun c31=>?_
 have d31:(((decide (d > 32)||(left==0))||!(Y6 p))||((p.k==11)&&!pl))=true:=c31
 refine kQ1 [8] ?_
 refine WC.ret (wR (h) ?_)
 exact⟨by rw[b9c d31],rfl⟩
 have d31:(((decide (d > 32)||(left==0))||!(Y6 p))||((p.k==11)&&!pl))=false:=c31
 simp only[Bool.or_eq_false_iff] at d31
 obtain⟨⟨⟨da,db⟩,dc⟩,dd⟩:=d31
 have da:d≤32:=by simpa using da
 have db:left≠0:=by simpa using db
 have dc:Y6 p=true:=by simpa using dc
 have hst:=b6p da (by omega) hl.2 dc dd
 have hgb:∀ g ∈ p.gl,g.bl.length=1:=fun g hg=>by
   rcases b1H dc with hp | ⟨_,_,_,hgn⟩
   · exact(b0K ((Z3 hp).gs g hg).1).body
   · rw[hgn] at hg;cases hg
 refine kQ0 [1,2,3,4] ?_
 refine kA1 ?_
 refine xG (S8 Et Ev.const (by omega)) ?_
 refine kQ1 [1,2,3,4] ?_
 refine kQ3 [1,2,3,4,9] ?_
 refine kP3 [1,2,3,4,9,38] ?_
 refine F8 KKh [1,3,4] rfl (fun F' h'=>∃ b0:Int,∃ q:Int,((b0=(if p.k=18 then d else d+1)∧q=(if p.k=18 then J6 (T8 p.sp d (left - 1)) else left - 1))∧(-1≤q∧q≤2048))∧F'=[(2,.int .i64 q),(9,.int .i64 b0)]∧.pt b4 (.cells (prE p).toArray 45 (0,0))::h=h') ?_ ?_
 refine jE ?_
 refine wc (fun c38=>?_) fun c38=>?_
 replace c38:=E5 c38
 have hpl:K3 p=true:=by
   rcases b1H dc with hp | ⟨_,_,hk,_⟩
   · exact hp
   · omega
 have hsp:spP p.sp=true:=(Z3 hpl).sp (by rw[c38];rfl)
 have hS:=a4Z p.sp d (left - 1)
 refine kQ2 [1,2,3,4,9] ?_
 refine a4k ?_
 refine F3 (GU.t rfl rfl) (fun hc=>O6 (Eg hc) Ev.const (by first | omega | (simp at hc;omega))) Lb ?_
 refine kQ2 [1,2,3,4,9,54] ?_
 refine wc (fun c54=>?_) fun c54=>?_
 have d54:(((p.sp.k==4)&&p.sp.cs)&&decide (d+2 > 32))=true:=c54
 simp only[Bool.and_eq_true] at d54
 have hS1:T8 p.sp d (left - 1)=(false,left - 1):=by rw[hS,if_pos (by rw[d54.1.2,d54.2];rfl)]
 refine kQ1 [8] ?_
 refine WC.ret (wR (h) ?_)
 exact⟨by rw[hst,if_pos c38,hS1,if_pos c38];rfl,rfl⟩
 have d54:(((p.sp.k==4)&&p.sp.cs)&&decide (d+2 > 32))=false:=c54
 have hS2:T8 p.sp d (left - 1)=a3R p.sp.bl (d+1) (left - 1):=by
   rw[hS]
   by_cases h4:p.sp.k=4
   · rw[h4] at d54
     rw[if_neg (by simpa using d54)]
   · rw[if_neg (by rw[c6h hsp h4];simp)]
 refine kQ0 [1,2,3,4,9] ?_
 refine kQ4 [1,2,3,4,9,58] ?_
 refine wc (fun c58=>?_) fun c58=>?_
 replace c58:=E5 c58
 obtain⟨x,hx⟩:=A5 (l:=p.sp.bl) (k:=0) (by have:=(a7C hsp).body c58;omega)
 have hxi:In x p:=In.s (List.mem_of_getElem? hx)
 have hx1:0 < p.sp.bl.length:=(List.getElem?_eq_some_iff.1 hx).1
 rw[b89 hx] at hS2
 have hrg:=a5W (p:=x) (d:=d+1) (pl:=false) (left:=left - 1) (by omega)
 refine kA3 ?_
 refine xG (F6 W4.und W4.size W4.posz (Ev.tmp rfl) Ev.const Rr rfl (q:=0) (by omega)) ?_
 refine kA4 ?_
 refine xf (E4 Et Et Et Ev.const) (ih x hxi _ m (d+1) (left - 1) false ((hP.sub hxi).mono Sb) ⟨by omega,by omega⟩ ⟨by omega,by omega⟩) ?_
 refine kA1 ?_
 refine WL.nil (B6 [(2,.int .i64 (J6 (F7 x (d+1) false (left - 1)))),(9,.int .i64 d)] (h'':=.pt b4 (.cells (prE p).toArray 45 (0,0))::h) ?_ Su Sb ⟨d,J6 (F7 x (d+1) false (left - 1)),⟨⟨by rw[if_pos c38],by rw[if_pos c38,hS2]⟩,by omega,by omega⟩,rfl,rfl⟩)
 exact Su
 replace c58:=D7 c58
 have hS3:T8 p.sp d (left - 1)=(true,left - 1):=by rw[hS2,c5H hsp c58];rfl
 refine WC.skip (B6 [(2,.int .i64 (left - 1)),(9,.int .i64 d)] (h'':=.pt b4 (.cells (prE p).toArray 45 (0,0))::h) ?_ Su Sb ⟨d,left - 1,⟨⟨by rw[if_pos c38],by rw[if_pos c38,hS3];rfl⟩,by omega,by omega⟩,rfl,rfl⟩)
 exact Su
 replace c38:=D7 c38
 refine WC.skip (B6 [(2,.int .i64 (left - 1)),(9,.int .i64 (d+1))] (h'':=.pt b4 (.cells (prE p).toArray 45 (0,0))::h) ?_ Su Sb ⟨d+1,left - 1,⟨⟨by rw[if_neg c38],by rw[if_neg c38]⟩,by omega,by omega⟩,rfl,rfl⟩)
 exact Su
 rintro _ _ ⟨b0,q,hbq,rfl,rfl⟩
 refine B2 rfl ?_
 refine kP3 [1,2,3,4,9,70] ?_
 refine F8 KKh [1,2,3,4] rfl (fun F' h'=>∃ bl:Int,(bl=(if p.k=18 then d else if p.k=11 then d+2 else d+1))∧F'=[(9,.int .i64 bl)]∧.pt b4 (.cells (prE p).toArray 45 (0,0))::h=h') ?_ ?_
 refine jE ?_
 refine wc (fun c70=>?_) fun c70=>?_
 replace c70:=E5 c70
 have n18:p.k≠18:=by omega
 refine kA3 ?_
 refine WL.nil (B6 [(9,.int .i64 (d+2))] (h'':=.pt b4 (.cells (prE p).toArray 45 (0,0))::h) ?_ Su Sb ⟨d+2,(by rw[if_neg n18,if_pos c70]),rfl,rfl⟩)
 exact Su
 replace c70:=D7 c70
 refine WC.skip (B6 [(9,.int .i64 b0)] (h'':=.pt b4 (.cells (prE p).toArray 45 (0,0))::h) ?_ Su Sb ⟨b0,(by rw[hbq.1.1,if_neg c70]),rfl,rfl⟩)
 exact Su
 rintro _ _ ⟨bl,hbl,rfl,rfl⟩
 refine B2 rfl ?_
 refine j0 ?_
 rw[← hbl,← hbq.1.2] at hst
 have hbr:0≤bl∧bl≤34:=by
   have:=hbl
   split at this
   · omega
   · split at this <;> omega
 have hq0:=hbq.2
 refine kQ1 [1,2,3,4,9,10] ?_
 refine B0 [1,3,4,9] rfl (fun μ F' h'=>∃ i:Nat,∃ w:Int,((i≤p.ll.length∧(-1≤w∧w≤2048))∧J6 (F7 p d pl left)=a3d p.gl (d+2) (a2A (p.ll.drop i) bl (pl&&(p.k==18)) w))∧p.ll.length - i=μ∧F'=[(2,.int .i64 w),(10,.int .i64 i)]∧.pt b4 (.cells (prE p).toArray 45 (0,0))::h=h') (p.ll.length - 0) [(2,.int .i64 q),(10,.int .i64 0)] (h0:=.pt b4 (.cells (prE p).toArray 45 (0,0))::h) ?_ Sb ⟨0,q,⟨⟨by omega,hq0⟩,hst⟩,rfl,rfl,rfl⟩ ?_
 exact Su
 rintro _ _ _ ⟨i,w,⟨⟨hi,hw⟩,hJ⟩,rfl,rfl,rfl⟩
 refine B2 rfl ?_
 refine kQ9 [1,2,3,4,9,10,81] ?_
 refine wc (fun c81=>?_) fun c81=>?_
 have d81:i < p.ll.length∧0≤w:=by simp at c81;omega
 obtain⟨x,hx⟩:=A5 (l:=p.ll) (k:=i) (by omega)
 have hxi:In x p:=In.l (List.mem_of_getElem? hx)
 rw[b2l hx,b4r d81.2] at hJ
 have hrg:=a5W (p:=x) (d:=bl) (pl:=pl&&(p.k==18)) (left:=w) d81.2
 refine kQ0 [1,2,3,4,9,10] ?_
 refine dS [] (.op 0 (.op 1 (.op 2 (.op 3 (.op 4 (.op 5 (.op 6 (.op 7 (.op 8 (.op 9 (.op 10 (.op 11 (.op 12 .nil))))))))))))) [13,14] E8 ?_
 refine c5N ?_
 refine C0 rfl rfl (GU.t rfl rfl) (fun hc=>P4 (Eg hc) Ev.const rfl) Lb ?_
 refine kA1 ?_
 refine SR.nil rfl rfl ?_
 refine xf (E4 Et Et Et Et) (ih x hxi _ m bl w (pl&&(p.k==18)) ((hP.sub hxi).mono Sb) hbr ⟨d81.2,hw.2⟩) ?_
 refine kQ1 [1,2,3,4,9,10] ?_
 refine kA3 ?_
 refine WL.nil (A8 (p.ll.length - (i+1)) [(2,.int .i64 (J6 (F7 x bl (pl&&(p.k==18)) w))),(10,.int .i64 (i+1))] (h'':=.pt b4 (.cells (prE p).toArray 45 (0,0))::h) (by omega) ?_ Su Sb ⟨i+1,J6 (F7 x bl (pl&&(p.k==18)) w),⟨⟨by omega,by omega,by omega⟩,hJ⟩,rfl,rfl,rfl⟩)
 exact Su
 have hJ2:J6 (F7 p d pl left)=a3d (p.gl.drop 0) (d+2) w:=by
   rw[hJ,List.drop_zero]
   by_cases hw0:0≤w
   · have hi2:¬ i < p.ll.length:=fun q=>by
       have q1:(i:Int) < (p.ll.length:Int):=by omega
       simp[q1,hw0] at c81
     rw[List.drop_eq_nil_of_le (by omega),b6J hw0]
   · rw[b6b (by omega),a6P (by omega),a6P (by omega)]
 refine kQ0 [1,2,4] ?_
 refine kQ1 [1,2,4,11] ?_
 refine B0 [1,4] rfl (fun μ F' h'=>∃ i:Nat,∃ w:Int,((i≤p.gl.length∧(-1≤w∧w≤2048))∧J6 (F7 p d pl left)=a3d (p.gl.drop i) (d+2) w)∧p.gl.length - i=μ∧F'=[(2,.int .i64 w),(11,.int .i64 i)]∧.pt b4 (.cells (prE p).toArray 45 (0,0))::h=h') (p.gl.length - 0) [(2,.int .i64 w),(11,.int .i64 0)] (h0:=.pt b4 (.cells (prE p).toArray 45 (0,0))::h) ?_ Sb ⟨0,w,⟨⟨by omega,hw⟩,hJ2⟩,rfl,rfl,rfl⟩ ?_
 exact Su
 rintro _ _ _ ⟨i,w,⟨⟨hi,hw⟩,hJ⟩,rfl,rfl,rfl⟩
 refine B2 rfl ?_
 refine kQ9 [1,2,4,11,106] ?_
 refine wc (fun c106=>?_) fun c106=>?_
 have d106:i < p.gl.length∧0≤w:=by simp at c106;omega
 obtain⟨g,hgx⟩:=A5 (l:=p.gl) (k:=i) (by omega)
 have hgm:=List.mem_of_getElem? hgx
 obtain⟨x,hx⟩:=A5 (l:=g.bl) (k:=0) (by have:=hgb g hgm;omega)
 have hxi:In x p:=In.g hgm (List.mem_of_getElem? hx)
 have hx1:0 < g.bl.length:=(List.getElem?_eq_some_iff.1 hx).1
 have hgo:=(hO.gs g hgm).b
 rw[b2l hgx,b4A d106.2 hx] at hJ
 have hrg:=a5W (p:=x) (d:=d+2) (pl:=false) (left:=w) d106.2
 refine kQ0 [1,2,4,11] ?_
 refine kA6 ?_
 refine xG (F6 W4.und W4.size W4.posz (Ev.tmp rfl) Ev.const Rr rfl (q:=0) (by omega)) ?_
 refine kA4 ?_
 refine xf (E4 Et Et Et Ev.const) (ih x hxi _ m (d+2) w false ((hP.sub hxi).mono Sb) ⟨by omega,by omega⟩ ⟨d106.2,hw.2⟩) ?_
 refine kQ1 [1,2,4,11] ?_
 refine kA3 ?_
 refine WL.nil (A8 (p.gl.length - (i+1)) [(2,.int .i64 (J6 (F7 x (d+2) false w))),(11,.int .i64 (i+1))] (h'':=.pt b4 (.cells (prE p).toArray 45 (0,0))::h) (by omega) ?_ Su Sb ⟨i+1,J6 (F7 x (d+2) false w),⟨⟨by omega,by omega,by omega⟩,hJ⟩,rfl,rfl,rfl⟩)
 exact Su
 have hJ2:J6 (F7 p d pl left)=w:=by
   rw[hJ]
   by_cases hw0:0≤w
   · have hi2:¬ i < p.gl.length:=fun q=>by
       have q1:(i:Int) < (p.gl.length:Int):=by omega
       simp[q1,hw0] at c106
     rw[List.drop_eq_nil_of_le (by omega),b6G hw0]
   · rw[a6P (by omega)]
     omega
 refine kQ0 [2] ?_
 refine kQ2 [8] ?_
 refine WC.ret (wR (h) ?_)
 exact⟨by rw[hJ2],rfl⟩
theorem b6n {m:View} {h:List Res} (p:Pr) (hP:POk m h p):CT Tryz.prog 6 [prV p] h m (A6 h (.bool (mayP p))):=by
 have hq:decide (J6 (F7 p 0 true 2048) ≥ 0)=mayP p:=by
   unfold mayP
   have hr:=a5W (p:=p) (d:=0) (pl:=true) (left:=2048) (by omega)
   cases hc:(F7 p 0 true 2048).1 with
   | true=>
     have:=a7B (p:=p) (d:=0) (pl:=true) (left:=2048) (by omega) hc
     have hv:J6 (F7 p 0 true 2048)=(F7 p 0 true 2048).2:=by unfold J6;rw[if_pos hc]
     rw[hv]
     simpa using this.1
   | false=>
     have hv:J6 (F7 p 0 true 2048)=-1:=by unfold J6;rw[if_neg (by rw[hc];decide)]
     rw[hv]
     rfl
 refine CT.body Tryz.call6 Tryz.func6 rfl Tryz.ntmps6 Lb rfl ?_
 refine j0 ?_
 refine xX fun b1=>?_
 refine kQ1 [1] ?_
 refine kA1 ?_
 refine xf (E4 Et Ev.const Ev.const Ev.const) (b3V p _ _ 0 2048 true (hP.mono Sb) ⟨by omega,by omega⟩ ⟨by omega,by omega⟩) ?_
 refine kQ2 [2] ?_
 refine WC.ret (wR (h) ?_)
 exact⟨by rw[← hq],rfl⟩
end Go.Proofs.YtcfemegngeijcaaGreatDoor
end
section
namespace Go.Proofs.YtcfemegngeijcaaGreatDoor
set_option maxRecDepth 100000
set_option maxHeartbeats 2000000
open Go.Eng Go.Pc Go.Sx Go
open Go.Xp hiding B F1
def Law:Value→View→List Res→Prop:=fun v _ _=>v=.bool true
theorem c1D {m:View} (hg:Glob m) (hp:Pow m) (p:Pr) (h:List Res) (hP:POk m h p):CT Tryz.prog 3 [prV p] h m Law:=by
 refine CT.body Tryz.call3 Tryz.func3 rfl Tryz.ntmps3 Lb rfl ?_
 refine j0 ?_
 refine xX fun b1=>?_
 refine kQ1 [1] ?_
 refine dS [1,3,7] (.op 0 (.op 2 (.op 1 (.op 3 (.op 4 (.op 5 (.op 6 (.op 8 (.op 7 .nil))))))))) [9,10,11,12,13,14,15] E8 ?_
 refine kA2 ?_
 refine yf rfl (E1 Et) (fun fr=>a7A hg p (hP.mono Sb)) ?_
 refine yf rfl (E1 Et) (fun fr=>b6n p (hP.mono Sb)) ?_
 refine yG rfl (b5u uu4 Et Et) ?_
 refine SR.val (v':=.bool true) (congrArg Value.bool (by simp)) ?_
 refine kA1 ?_
 refine yU rfl (pA R0) ?_
 refine yU rfl (pA R0) ?_
 refine b8i rfl rfl (GU.t rfl rfl) rfl Ev.func (E1 Et) (fun fr=>b5P p _ m (hP.mono Sb)) Lb ?_
 refine SR.nil rfl rfl ?_
 refine zU ?_
 refine xf (E1 Et) (c0a p _ m (hP.mono Sb)) ?_
 refine zU ?_
 refine kA1 ?_
 refine wV (b':=true) (by simp) ?_
 refine kA2 ?_
 refine zU ?_
 refine xf E0 (c0H hg hp _) ?_
 refine kQ2 [2] ?_
 refine WC.ret (wR (h) ?_)
 rfl
end Go.Proofs.YtcfemegngeijcaaGreatDoor
end

import Derived.Test.YtcfemegngeijcaaGreatDoorLSameZ6
import Derived.Lib.SplitLaws
section
namespace Go.Proofs.YtcfemegngeijcaaGreatDoor
set_option maxRecDepth 100000
set_option maxHeartbeats 2000000
open Go.Eng Go.Pc Go
open Go.Xp hiding B E5
open Go.Ty (Ty Vr eqT tyV I8 PrOk VOk encV D9 M0 D5 eqI a2k a2h)
open Go.Lx (encB C8)
def eqB (x y:B):Bool:=x==y
theorem c2J {x y:B} (h:(!(x==y))=true):eqB x y=false:=by simpa [eqB] using h
theorem c2h {x y:B} (h:(!(x==y))=false):eqB x y=true:=by simpa [eqB] using h
theorem b2B (s1 s2:Option Addr) (n1 c1 n2 c2:Nat) (xs ys:List _) (h:List Res) (m:View) (h1:Rd m h s1 n1 c1 1 (fl encB xs)) (h2:Rd m h s2 n2 c2 1 (fl encB ys)) :
   CT Tryz.prog 39 [.slice s1 n1 c1,.slice s2 n2 c2] h m (A6 h (.bool (eqL eqB xs ys))):=by
 have l1:=h1.lenF C8 (by decide)
 have l2:=h2.lenF C8 (by decide)
 have m1:=h1.mx
 have m2:=h2.mx
 have k1:=h1.le
 have k2:=h2.le
 refine CT.body Tryz.call39 Tryz.func39 rfl Tryz.ntmps39 Lb rfl ?_
 refine kQ1 [0,1] ?_
 refine kQ5 [0,1,10] ?_
 refine wc (fun c10=>?_) fun c10=>?_
 replace c10:=a0C c10
 refine kQ1 [4] ?_
 refine WC.ret (wR (h) ?_)
 exact⟨by rw[M9 _ _ _ (by omega)],rfl⟩
 replace c10:=a0x c10
 refine kQ0 [0,1] ?_
 refine kQ1 [0,1,5] ?_
 refine B2 [0,1] rfl (fun μ F' h'=>∃ k:Nat,(k≤n1∧eqL eqB xs ys=eqL eqB (xs.drop k) (ys.drop k))∧n1 - k=μ∧F'=[(5,.int .i64 k)]∧h=h') (n1 - 0) [(5,.int .i64 0)] (h0:=h) ?_ Sb ⟨0,⟨by omega,by simp⟩,rfl,rfl,rfl⟩ ?_
 exact Su
 rintro _ _ _ ⟨k,⟨hk,hJ⟩,rfl,rfl,rfl⟩
 refine B3 rfl ?_
 refine kQ4 [0,1,5,14] ?_
 refine wc (fun c14=>?_) fun c14=>?_
 replace c14:=dT c14
 obtain⟨x,hx⟩:=A7 (l:=xs) (k:=k) (by omega)
 obtain⟨y,hy⟩:=A7 (l:=ys) (k:=k) (by omega)
 rw[L8 _ hx hy] at hJ
 refine kQ0 [0,1,5] ?_
 refine dS [] (.op 0 (.op 1 (.op 2 (.op 3 (.op 4 (.op 5 (.op 6 (.op 7 .nil)))))))) [8] D7 ?_
 refine kA8 ?_
 refine SR.nil rfl rfl ?_
 refine xG (P7 Et Et) ?_
 refine kQ0 [0,1,5,25] ?_
 refine wc (fun c25=>?_) fun c25=>?_
 refine kQ1 [4] ?_
 refine WC.ret (wR (h) ?_)
 exact⟨by rw[hJ,c2J c25];rfl,rfl⟩
 rw[c2h c25,Bool.true_and] at hJ
 refine kQ0 [0,1,5] ?_
 refine kA3 ?_
 refine WL.nil (A8 (n1 - (k+1)) [(5,.int .i64 (k+1))] (h'':=h) (by omega) ?_ Su Sb ⟨k+1,⟨by omega,hJ⟩,rfl,rfl,rfl⟩)
 exact Su
 replace c14:=dF c14
 refine kQ0 [] ?_
 refine kQ1 [4] ?_
 refine WC.ret (wR (h) ?_)
 exact⟨by rw[hJ,List.drop_eq_nil_of_le (by omega),List.drop_eq_nil_of_le (by omega)];rfl,rfl⟩
theorem a7E (s1 s2:Option Addr) (n1 c1 n2 c2:Nat) (xs ys:List _) (h:List Res) (m:View) (h1:Rd m h s1 n1 c1 1 (fl M0 xs)) (h2:Rd m h s2 n2 c2 1 (fl M0 ys)) :
   CT Tryz.prog 76 [.slice s1 n1 c1,.slice s2 n2 c2] h m (A6 h (.bool (eqL eqI xs ys))):=by
 have l1:=h1.lenF D5 (by decide)
 have l2:=h2.lenF D5 (by decide)
 have m1:=h1.mx
 have m2:=h2.mx
 have k1:=h1.le
 have k2:=h2.le
 refine CT.body Tryz.call76 Tryz.func76 rfl Tryz.ntmps76 Lb rfl ?_
 refine kQ1 [0,1] ?_
 refine kQ5 [0,1,10] ?_
 refine wc (fun c10=>?_) fun c10=>?_
 replace c10:=a0C c10
 refine kQ1 [4] ?_
 refine WC.ret (wR (h) ?_)
 exact⟨by rw[M9 _ _ _ (by omega)],rfl⟩
 replace c10:=a0x c10
 refine kQ0 [0,1] ?_
 refine kQ1 [0,1,5] ?_
 refine B2 [0,1] rfl (fun μ F' h'=>∃ k:Nat,(k≤n1∧eqL eqI xs ys=eqL eqI (xs.drop k) (ys.drop k))∧n1 - k=μ∧F'=[(5,.int .i64 k)]∧h=h') (n1 - 0) [(5,.int .i64 0)] (h0:=h) ?_ Sb ⟨0,⟨by omega,by simp⟩,rfl,rfl,rfl⟩ ?_
 exact Su
 rintro _ _ _ ⟨k,⟨hk,hJ⟩,rfl,rfl,rfl⟩
 refine B3 rfl ?_
 refine kQ4 [0,1,5,14] ?_
 refine wc (fun c14=>?_) fun c14=>?_
 replace c14:=dT c14
 obtain⟨x,hx⟩:=A7 (l:=xs) (k:=k) (by omega)
 obtain⟨y,hy⟩:=A7 (l:=ys) (k:=k) (by omega)
 rw[L8 _ hx hy] at hJ
 refine kQ0 [0,1,5] ?_
 refine dS [] (.op 0 (.op 1 (.op 2 (.op 3 (.op 4 (.op 5 (.op 6 (.op 7 .nil)))))))) [8] D7 ?_
 refine kA8 ?_
 refine SR.nil rfl rfl ?_
 refine kQ1 [0,1,5,25] ?_
 refine wc (fun c25=>?_) fun c25=>?_
 refine kQ1 [4] ?_
 refine WC.ret (wR (h) ?_)
 exact⟨by rw[hJ,a2h c25];rfl,rfl⟩
 rw[a2k c25,Bool.true_and] at hJ
 refine kQ0 [0,1,5] ?_
 refine kA3 ?_
 refine WL.nil (A8 (n1 - (k+1)) [(5,.int .i64 (k+1))] (h'':=h) (by omega) ?_ Su Sb ⟨k+1,⟨by omega,hJ⟩,rfl,rfl,rfl⟩)
 exact Su
 replace c14:=dF c14
 refine kQ0 [] ?_
 refine kQ1 [4] ?_
 refine WC.ret (wR (h) ?_)
 exact⟨by rw[hJ,List.drop_eq_nil_of_le (by omega),List.drop_eq_nil_of_le (by omega)];rfl,rfl⟩
structure GK (m:View) (h:List Res) (g:Gu):Prop where
 o:GOk m h g
 b:∀ x ∈ g.bl,POk m h x
theorem GK.mono {m:View} {h h':List Res} {g:Gu} (q:GK m h g) (r:h.Sublist h'):GK m h' g:=⟨q.o.mono r,fun x hx=>(q.b x hx).mono r⟩
theorem a1N (xs:List Ex) (ys:List Ex) (s1 s2:Option Addr) (n1 c1 n2 c2:Nat) (h:List Res) (m:View) (h1:Rd m h s1 n1 c1 6 (fl exE xs)) (h2:Rd m h s2 n2 c2 6 (fl exE ys)) (o1:∀ x ∈ xs,TOk m h x) (o2:∀ x ∈ ys,TOk m h x) :
   CT Tryz.prog 25 [.slice s1 n1 c1,.slice s2 n2 c2] h m (A6 h (.bool (eqL D8 xs ys))):=by
 have l1:=h1.lenF a0n (by decide)
 have l2:=h2.lenF a0n (by decide)
 have m1:=h1.mx
 have m2:=h2.mx
 have k1:=h1.le
 have k2:=h2.le
 refine CT.body Tryz.call25 Tryz.func25 rfl Tryz.ntmps25 Lb rfl ?_
 refine kQ1 [0,1] ?_
 refine kQ5 [0,1,10] ?_
 refine wc (fun c10=>?_) fun c10=>?_
 replace c10:=a0C c10
 refine kQ1 [4] ?_
 refine WC.ret (wR (h) ?_)
 exact⟨by rw[M9 _ _ _ (by omega)],rfl⟩
 replace c10:=a0x c10
 refine kQ0 [0,1] ?_
 refine kQ1 [0,1,5] ?_
 refine B2 [0,1] rfl (fun μ F' h'=>∃ k:Nat,(k≤n1∧eqL D8 xs ys=eqL D8 (xs.drop k) (ys.drop k))∧n1 - k=μ∧F'=[(5,.int .i64 k)]∧h=h') (n1 - 0) [(5,.int .i64 0)] (h0:=h) ?_ Sb ⟨0,⟨by omega,by simp⟩,rfl,rfl,rfl⟩ ?_
 exact Su
 rintro _ _ _ ⟨k,⟨hk,hJ⟩,rfl,rfl,rfl⟩
 refine B3 rfl ?_
 refine kQ4 [0,1,5,14] ?_
 refine wc (fun c14=>?_) fun c14=>?_
 replace c14:=dT c14
 obtain⟨x,hx⟩:=A7 (l:=xs) (k:=k) (by omega)
 obtain⟨y,hy⟩:=A7 (l:=ys) (k:=k) (by omega)
 rw[L8 _ hx hy] at hJ
 have hxm:=List.mem_of_getElem? hx
 have hxo:=o1 x hxm
 have hyo:=o2 y (List.mem_of_getElem? hy)
 refine kQ0 [0,1,5] ?_
 refine dS [] (.op 0 (.op 1 (.op 2 (.op 3 (.op 4 (.op 5 (.op 6 (.op 7 .nil)))))))) [8,9] D7 ?_
 refine kA8 ?_
 refine SR.nil rfl rfl ?_
 refine xf (E2 Et Et) (a0B x y _ _ (hxo.mono Sb) (hyo.mono Sb)) ?_
 refine kQ1 [0,1,5,26] ?_
 refine wc (fun c26=>?_) fun c26=>?_
 have d26:D8 x y=false:=by simpa using c26
 rw[d26] at hJ
 refine kQ1 [4] ?_
 refine WC.ret (wR (h) ?_)
 exact⟨by rw[hJ];rfl,rfl⟩
 have d26:D8 x y=true:=by simpa using c26
 rw[d26,Bool.true_and] at hJ
 refine kQ0 [0,1,5] ?_
 refine kA3 ?_
 refine WL.nil (A8 (n1 - (k+1)) [(5,.int .i64 (k+1))] (h'':=h) (by omega) ?_ Su Sb ⟨k+1,⟨by omega,hJ⟩,rfl,rfl,rfl⟩)
 exact Su
 replace c14:=dF c14
 refine kQ0 [] ?_
 refine kQ1 [4] ?_
 refine WC.ret (wR (h) ?_)
 exact⟨by rw[hJ,List.drop_eq_nil_of_le (by omega),List.drop_eq_nil_of_le (by omega)];rfl,rfl⟩
theorem a3A (xs:List Pr) (ih:∀ x ∈ xs,∀ (y:Pr) (h:List Res) (m:View),POk m h x→POk m h y→CT Tryz.prog 11 [prV x,prV y] h m (A6 h (.bool (H1 x y)))) (ys:List Pr) (s1 s2:Option Addr) (n1 c1 n2 c2:Nat) (h:List Res) (m:View) (h1:Rd m h s1 n1 c1 42 (fl prE xs)) (h2:Rd m h s2 n2 c2 42 (fl prE ys)) (o1:∀ x ∈ xs,POk m h x) (o2:∀ x ∈ ys,POk m h x) :
   CT Tryz.prog 27 [.slice s1 n1 c1,.slice s2 n2 c2] h m (A6 h (.bool (eqL H1 xs ys))):=by
 have l1:=h1.lenF a0U (by decide)
 have l2:=h2.lenF a0U (by decide)
 have m1:=h1.mx
 have m2:=h2.mx
 have k1:=h1.le
 have k2:=h2.le
 refine CT.body Tryz.call27 Tryz.func27 rfl Tryz.ntmps27 Lb rfl ?_
 refine kQ1 [0,1] ?_
 refine kQ5 [0,1,10] ?_
 refine wc (fun c10=>?_) fun c10=>?_
 replace c10:=a0C c10
 refine kQ1 [4] ?_
 refine WC.ret (wR (h) ?_)
 exact⟨by rw[M9 _ _ _ (by omega)],rfl⟩
 replace c10:=a0x c10
 refine kQ0 [0,1] ?_
 refine kQ1 [0,1,5] ?_
 refine B2 [0,1] rfl (fun μ F' h'=>∃ k:Nat,(k≤n1∧eqL H1 xs ys=eqL H1 (xs.drop k) (ys.drop k))∧n1 - k=μ∧F'=[(5,.int .i64 k)]∧h=h') (n1 - 0) [(5,.int .i64 0)] (h0:=h) ?_ Sb ⟨0,⟨by omega,by simp⟩,rfl,rfl,rfl⟩ ?_
 exact Su
 rintro _ _ _ ⟨k,⟨hk,hJ⟩,rfl,rfl,rfl⟩
 refine B3 rfl ?_
 refine kQ4 [0,1,5,14] ?_
 refine wc (fun c14=>?_) fun c14=>?_
 replace c14:=dT c14
 obtain⟨x,hx⟩:=A7 (l:=xs) (k:=k) (by omega)
 obtain⟨y,hy⟩:=A7 (l:=ys) (k:=k) (by omega)
 rw[L8 _ hx hy] at hJ
 have hxm:=List.mem_of_getElem? hx
 have hxo:=o1 x hxm
 have hyo:=o2 y (List.mem_of_getElem? hy)
 refine kQ0 [0,1,5] ?_
 refine dS [] (.op 0 (.op 1 (.op 2 (.op 3 (.op 4 (.op 5 (.op 6 (.op 7 .nil)))))))) [8,9] D7 ?_
 refine kA8 ?_
 refine SR.nil rfl rfl ?_
 refine xf (E2 Et Et) (ih x hxm y _ _ (hxo.mono Sb) (hyo.mono Sb)) ?_
 refine kQ1 [0,1,5,26] ?_
 refine wc (fun c26=>?_) fun c26=>?_
 have d26:H1 x y=false:=by simpa using c26
 rw[d26] at hJ
 refine kQ1 [4] ?_
 refine WC.ret (wR (h) ?_)
 exact⟨by rw[hJ];rfl,rfl⟩
 have d26:H1 x y=true:=by simpa using c26
 rw[d26,Bool.true_and] at hJ
 refine kQ0 [0,1,5] ?_
 refine kA3 ?_
 refine WL.nil (A8 (n1 - (k+1)) [(5,.int .i64 (k+1))] (h'':=h) (by omega) ?_ Su Sb ⟨k+1,⟨by omega,hJ⟩,rfl,rfl,rfl⟩)
 exact Su
 replace c14:=dF c14
 refine kQ0 [] ?_
 refine kQ1 [4] ?_
 refine WC.ret (wR (h) ?_)
 exact⟨by rw[hJ,List.drop_eq_nil_of_le (by omega),List.drop_eq_nil_of_le (by omega)];rfl,rfl⟩
theorem b6I (x y:Int):eqI x y=true↔x=y:=by simp[eqI]
theorem b6y (xs ys:List Int):eqL eqI xs ys=(xs==ys):=by
 rw[Bool.eq_iff_iff,b0n b6I]
 simp
theorem b7p {m:View} {h:List Res} {v:Vr} (q:VOk m h v):Rd m h v.a v.n v.c 1 (fl M0 v.items):=q.rd
theorem a8r (u1 u2:Bool) (s1 s2:Option Addr) (n1 c1 n2 c2:Nat) (xs ys:List Vr) (h:List Res) (m:View) (p1:PrOk m h s1 n1 c1 xs) (p2:PrOk m h s2 n2 c2 ys) :
   CT Tryz.prog 40 [.agg #[.bool u1,.slice s1 n1 c1],.agg #[.bool u2,.slice s2 n2 c2]] h m (A6 h (.bool (Y9 u1 xs u2 ys))):=by
 have h1:=p1.rd
 have h2:=p2.rd
 have l1:=h1.lenF D9 (by decide)
 have l2:=h2.lenF D9 (by decide)
 have m1:=h1.mx
 have m2:=h2.mx
 have k1:=h1.le
 have k2:=h2.le
 have e0:Y9 u1 xs u2 ys=((u1==u2)&&eqL R1 xs ys):=rfl
 refine CT.body Tryz.call40 Tryz.func40 rfl Tryz.ntmps40 Lb rfl ?_
 refine j0 ?_
 refine xX fun b2=>?_
 refine xX fun b3=>?_
 refine kQ1 [2,3] ?_
 refine kA4 ?_
 refine xG (c0O uu4 Et Et) ?_
 refine kQ9 [2,3,19] ?_
 refine wc (fun c19=>?_) fun c19=>?_
 have d19:Y9 u1 xs u2 ys=false:=by
   rw[e0]
   rcases Bool.or_eq_true_iff.1 c19 with c | c
   · have:(u1==u2)=false:=by simpa using c
     rw[this];rfl
   · rw[M9 R1 xs ys (by simp at c;omega),Bool.and_false]
 refine kQ1 [4] ?_
 refine WC.ret (wR (h) ?_)
 exact⟨by rw[d19],rfl⟩
 have d19:(u1==u2)=true∧n1=n2:=by
   have:=Bool.or_eq_false_iff.1 c19
   exact⟨by simpa using this.1,by have:=this.2;simp at this;omega⟩
 rw[d19.1,Bool.true_and] at e0
 refine kQ0 [2,3] ?_
 refine kQ1 [2,3,5] ?_
 refine B2 [2,3] rfl (fun μ F' h'=>∃ k:Nat,(k≤n1∧Y9 u1 xs u2 ys=eqL R1 (xs.drop k) (ys.drop k))∧n1 - k=μ∧F'=[(5,.int .i64 k)]∧.pt b3 (.cells [.bool u2,.slice s2 n2 c2].toArray 40 (0,0))::.pt b2 (.cells [.bool u1,.slice s1 n1 c1].toArray 40 (0,0))::h=h') (n1 - 0) [(5,.int .i64 0)] (h0:=.pt b3 (.cells [.bool u2,.slice s2 n2 c2].toArray 40 (0,0))::.pt b2 (.cells [.bool u1,.slice s1 n1 c1].toArray 40 (0,0))::h) ?_ Sb ⟨0,⟨by omega,by rw[e0];simp⟩,rfl,rfl,rfl⟩ ?_
 exact Su
 rintro _ _ _ ⟨k,⟨hk,hJ⟩,rfl,rfl,rfl⟩
 refine B3 rfl ?_
 refine kQ5 [2,3,5,24] ?_
 refine wc (fun c24=>?_) fun c24=>?_
 replace c24:=dT c24
 obtain⟨x,hx⟩:=A7 (l:=xs) (k:=k) (by omega)
 obtain⟨y,hy⟩:=A7 (l:=ys) (k:=k) (by omega)
 rw[L8 _ hx hy] at hJ
 have hxo:=b7p (p1.ok x (List.mem_of_getElem? hx))
 have hyo:=b7p (p2.ok y (List.mem_of_getElem? hy))
 have hi:=b6y x.items y.items
 refine kQ0 [2,3,5] ?_
 refine dS [] (.op 0 (.op 1 (.op 2 (.op 3 (.op 4 (.op 5 (.op 6 (.op 7 (.op 8 (.op 9 (.op 10 (.op 11 (.op 12 (.op 13 (.op 14 (.op 15 (.op 16 (.op 17 (.op 18 (.op 19 (.op 20 (.op 21 (.op 22 (.op 23 (.op 24 (.op 25 .nil)))))))))))))))))))))))))) [26,27,28] D7 ?_
 refine a6P ?_
 refine yG rfl (P7 Et Et) ?_
 refine kA1 ?_
 refine B7 rfl rfl (GU.f rfl rfl) (fun hc=>PO.fieldAddr b65 rfl (Nat.ne_of_beq_eq_false rfl) Et) Lb ?_
 refine B7 rfl rfl (GU.f rfl rfl) (fun hc=>D2 c0S rfl (Eg hc) Me rfl) Lb ?_
 refine B7 rfl rfl (GU.f rfl rfl) (fun hc=>PO.move Et) Lb ?_
 refine B7 rfl rfl (GU.f rfl rfl) (fun hc=>G5 a2m.und a2m.size a2m.posz (Eg hc) (Eg hc) (h1.mono (View.le.refl _) Sb) rfl (by omega)) Lb ?_
 refine B7 rfl rfl (GU.f rfl rfl) (fun hc=>I1 a8U rfl (Nat.ne_of_beq_eq_false rfl) D9 (Nat.succ_pos _) (h1.mono (View.le.refl _) Sb) (by assumption) (Eg hc)) Lb ?_
 refine B7 rfl rfl (GU.f rfl rfl) (fun hc=>I0 b0X rfl D9 (h1.mono (View.le.refl _) Sb) (Eg hc) (by assumption) rfl) Lb ?_
 refine B7 rfl rfl (GU.f rfl rfl) (fun hc=>PO.fieldAddr b65 rfl (Nat.ne_of_beq_eq_false rfl) Et) Lb ?_
 refine B7 rfl rfl (GU.f rfl rfl) (fun hc=>D2 c0S rfl (Eg hc) Me rfl) Lb ?_
 refine B7 rfl rfl (GU.f rfl rfl) (fun hc=>PO.move Et) Lb ?_
 refine B7 rfl rfl (GU.f rfl rfl) (fun hc=>G5 a2m.und a2m.size a2m.posz (Eg hc) (Eg hc) (h2.mono (View.le.refl _) Sb) rfl (by omega)) Lb ?_
 refine B7 rfl rfl (GU.f rfl rfl) (fun hc=>I1 a8U rfl (Nat.ne_of_beq_eq_false rfl) D9 (Nat.succ_pos _) (h2.mono (View.le.refl _) Sb) (by assumption) (Eg hc)) Lb ?_
 refine B7 rfl rfl (GU.f rfl rfl) (fun hc=>I0 b0X rfl D9 (h2.mono (View.le.refl _) Sb) (Eg hc) (by assumption) rfl) Lb ?_
 refine SR.nil rfl rfl ?_
 refine A5 (GU.f rfl rfl) (fun hc=>⟨Ev.func,(E2 (Eg hc) (Eg hc)),a7E _ _ _ _ _ _ x.items y.items _ _ (hxo.mono (View.le.refl _) Sb) (hyo.mono (View.le.refl _) Sb)⟩) Lb ?_
 refine kQ2 [2,3,5,55] ?_
 refine wc (fun c55=>?_) fun c55=>?_
 replace c55:((!(x.tag==y.tag))||!(eqL eqI x.items y.items))=true:=c55
 have d55:R1 x y=false:=by
   unfold R1
   rw[← hi]
   cases hq:(x.tag==y.tag) <;> cases hr:eqL eqI x.items y.items <;> simp_all
 rw[d55] at hJ
 refine kQ1 [4] ?_
 refine WC.ret (wR (h) ?_)
 exact⟨by rw[hJ];rfl,rfl⟩
 replace c55:((!(x.tag==y.tag))||!(eqL eqI x.items y.items))=false:=c55
 have d55:R1 x y=true:=by
   unfold R1
   rw[← hi]
   cases hq:(x.tag==y.tag) <;> cases hr:eqL eqI x.items y.items <;> simp_all
 rw[d55,Bool.true_and] at hJ
 refine kQ0 [2,3,5] ?_
 refine kA3 ?_
 refine WL.nil (A8 (n1 - (k+1)) [(5,.int .i64 (k+1))] (h'':=.pt b3 (.cells [.bool u2,.slice s2 n2 c2].toArray 40 (0,0))::.pt b2 (.cells [.bool u1,.slice s1 n1 c1].toArray 40 (0,0))::h) (by omega) ?_ Su Sb ⟨k+1,⟨by omega,hJ⟩,rfl,rfl,rfl⟩)
 exact Su
 replace c24:=dF c24
 refine kQ0 [] ?_
 refine kQ1 [4] ?_
 refine WC.ret (wR (h) ?_)
 exact⟨by rw[hJ,List.drop_eq_nil_of_le (by omega),List.drop_eq_nil_of_le (by omega)];rfl,rfl⟩
theorem a8v (x:Gu) (ih:∀ z ∈ x.bl,∀ (y:Pr) (h:List Res) (m:View),POk m h z→POk m h y→CT Tryz.prog 11 [prV z,prV y] h m (A6 h (.bool (H1 z y)))) (y:Gu) (h:List Res) (m:View) (hx:GK m h x) (hy:GK m h y) :
   CT Tryz.prog 38 [guV x,guV y] h m (A6 h (.bool (S4 x y))):=by
 have v0:=View.le.refl m
 refine CT.body Tryz.call38 Tryz.func38 rfl Tryz.ntmps38 Lb rfl ?_
 refine j0 ?_
 refine xX fun b2=>?_
 refine xX fun b3=>?_
 refine kQ1 [2,3] ?_
 refine a8d ?_
 refine zG (fun hc=>L0 (Eg hc) (Eg hc)) ?_
 refine kA6 ?_
 refine A5 (GU.t rfl rfl) (fun hc=>⟨Ev.func,(E2 (Eg hc) (Eg hc)),a0B x.cond y.cond _ _ (hx.o.cond.t.mono Sb) (hy.o.cond.t.mono Sb)⟩) Lb ?_
 refine kA6 ?_
 refine A5 (GU.t rfl rfl) (fun hc=>⟨Ev.func,(E2 (Eg hc) (Eg hc)),a0B x.ch y.ch _ _ (hx.o.ch.t.mono Sb) (hy.o.ch.t.mono Sb)⟩) Lb ?_
 refine kA6 ?_
 refine A5 (GU.t rfl rfl) (fun hc=>⟨Ev.func,(E2 (Eg hc) (Eg hc)),a0B x.time y.time _ _ (hx.o.time.t.mono Sb) (hy.o.time.t.mono Sb)⟩) Lb ?_
 refine kA6 ?_
 refine A5 (GU.t rfl rfl) (fun hc=>⟨Ev.func,(E2 (Eg hc) (Eg hc)),a1N x.tg.l y.tg.l _ _ _ _ _ _ _ _ (hx.o.tg.rd.mono v0 Sb) (hy.o.tg.rd.mono v0 Sb) (fun z hz=>(hx.o.tg.ok z hz).t.mono Sb) (fun z hz=>(hy.o.tg.ok z hz).t.mono Sb)⟩) Lb ?_
 refine kA6 ?_
 refine A5 (GU.t rfl rfl) (fun hc=>⟨Ev.func,(E2 (Eg hc) (Eg hc)),a1N x.vl.l y.vl.l _ _ _ _ _ _ _ _ (hx.o.vl.rd.mono v0 Sb) (hy.o.vl.rd.mono v0 Sb) (fun z hz=>(hx.o.vl.ok z hz).t.mono Sb) (fun z hz=>(hy.o.vl.ok z hz).t.mono Sb)⟩) Lb ?_
 refine kA6 ?_
 refine A5 (GU.t rfl rfl) (fun hc=>⟨Ev.func,(E2 (Eg hc) (Eg hc)),a3A x.bl ih y.bl _ _ _ _ _ _ _ _ (hx.o.b.mono v0 Sb) (hy.o.b.mono v0 Sb) (fun z hz=>(hx.b z hz).mono Sb) (fun z hz=>(hy.b z hz).mono Sb)⟩) Lb ?_
 refine kQ2 [4] ?_
 refine WC.ret (wR (h) ?_)
 exact⟨by rw[a3f],rfl⟩
theorem a6O (xs:List Gu) (ih:∀ x ∈ xs,∀ z ∈ x.bl,∀ (y:Pr) (h:List Res) (m:View),POk m h z→POk m h y→CT Tryz.prog 11 [prV z,prV y] h m (A6 h (.bool (H1 z y)))) (ys:List Gu) (s1 s2:Option Addr) (n1 c1 n2 c2:Nat) (h:List Res) (m:View) (h1:Rd m h s1 n1 c1 23 (fl guE xs)) (h2:Rd m h s2 n2 c2 23 (fl guE ys)) (o1:∀ x ∈ xs,GK m h x) (o2:∀ x ∈ ys,GK m h x) :
   CT Tryz.prog 26 [.slice s1 n1 c1,.slice s2 n2 c2] h m (A6 h (.bool (eqL S4 xs ys))):=by
 have l1:=h1.lenF a2b (by decide)
 have l2:=h2.lenF a2b (by decide)
 have m1:=h1.mx
 have m2:=h2.mx
 have k1:=h1.le
 have k2:=h2.le
 refine CT.body Tryz.call26 Tryz.func26 rfl Tryz.ntmps26 Lb rfl ?_
 refine kQ1 [0,1] ?_
 refine kQ5 [0,1,10] ?_
 refine wc (fun c10=>?_) fun c10=>?_
 replace c10:=a0C c10
 refine kQ1 [4] ?_
 refine WC.ret (wR (h) ?_)
 exact⟨by rw[M9 _ _ _ (by omega)],rfl⟩
 replace c10:=a0x c10
 refine kQ0 [0,1] ?_
 refine kQ1 [0,1,5] ?_
 refine B2 [0,1] rfl (fun μ F' h'=>∃ k:Nat,(k≤n1∧eqL S4 xs ys=eqL S4 (xs.drop k) (ys.drop k))∧n1 - k=μ∧F'=[(5,.int .i64 k)]∧h=h') (n1 - 0) [(5,.int .i64 0)] (h0:=h) ?_ Sb ⟨0,⟨by omega,by simp⟩,rfl,rfl,rfl⟩ ?_
 exact Su
 rintro _ _ _ ⟨k,⟨hk,hJ⟩,rfl,rfl,rfl⟩
 refine B3 rfl ?_
 refine kQ4 [0,1,5,14] ?_
 refine wc (fun c14=>?_) fun c14=>?_
 replace c14:=dT c14
 obtain⟨x,hx⟩:=A7 (l:=xs) (k:=k) (by omega)
 obtain⟨y,hy⟩:=A7 (l:=ys) (k:=k) (by omega)
 rw[L8 _ hx hy] at hJ
 have hxm:=List.mem_of_getElem? hx
 have hxo:=o1 x hxm
 have hyo:=o2 y (List.mem_of_getElem? hy)
 refine kQ0 [0,1,5] ?_
 refine dS [] (.op 0 (.op 1 (.op 2 (.op 3 (.op 4 (.op 5 (.op 6 (.op 7 .nil)))))))) [8,9] D7 ?_
 refine kA8 ?_
 refine SR.nil rfl rfl ?_
 refine xf (E2 Et Et) (a8v x (ih x hxm) y _ _ (hxo.mono Sb) (hyo.mono Sb)) ?_
 refine kQ1 [0,1,5,26] ?_
 refine wc (fun c26=>?_) fun c26=>?_
 have d26:S4 x y=false:=by simpa using c26
 rw[d26] at hJ
 refine kQ1 [4] ?_
 refine WC.ret (wR (h) ?_)
 exact⟨by rw[hJ];rfl,rfl⟩
 have d26:S4 x y=true:=by simpa using c26
 rw[d26,Bool.true_and] at hJ
 refine kQ0 [0,1,5] ?_
 refine kA3 ?_
 refine WL.nil (A8 (n1 - (k+1)) [(5,.int .i64 (k+1))] (h'':=h) (by omega) ?_ Su Sb ⟨k+1,⟨by omega,hJ⟩,rfl,rfl,rfl⟩)
 exact Su
 replace c14:=dF c14
 refine kQ0 [] ?_
 refine kQ1 [4] ?_
 refine WC.ret (wR (h) ?_)
 exact⟨by rw[hJ,List.drop_eq_nil_of_le (by omega),List.drop_eq_nil_of_le (by omega)];rfl,rfl⟩
structure SK (m:View) (h:List Res) (s:Sp):Prop where
 o:SOk m h s
 b:∀ x ∈ s.bl,POk m h x
theorem SK.mono {m:View} {h h':List Res} {s:Sp} (q:SK m h s) (r:h.Sublist h'):SK m h' s:=⟨q.o.mono r,fun x hx=>(q.b x hx).mono r⟩
theorem b6d {x y:Fo} (h:(!(a0R x y))=true):a0R x y=false:=by simpa using h
theorem b8r {x y:Fo} (h:(!(a0R x y))=false):a0R x y=true:=by simpa using h
set_option maxHeartbeats 1000000 in
theorem b07 (x:Sp) (ih:∀ z ∈ x.bl,∀ (y:Pr) (h:List Res) (m:View),POk m h z→POk m h y→CT Tryz.prog 11 [prV z,prV y] h m (A6 h (.bool (H1 z y)))) (y:Sp) (h:List Res) (m:View) (hx:SK m h x) (hy:SK m h y) :
   CT Tryz.prog 28 [spV x,spV y] h m (A6 h (.bool (a0s x y))):=by
 have v0:=View.le.refl m
 have f1:=hx.o.fr
 have f2:=hy.o.fr
 have m1:=f1.mx
 have m2:=f2.mx
 have k1:=f1.le
 have k2:=f2.le
 refine CT.body Tryz.call28 Tryz.func28 rfl Tryz.ntmps28 Lb rfl ?_
 refine j0 ?_
 refine xX fun b2=>?_
 refine xX fun b3=>?_
 refine kQ1 [2,3] ?_
 refine a8d ?_
 refine F9 (GU.f rfl rfl) (fun hc=>a9G a8t (by kernel_rfl) (by kernel_rfl) (Eg hc) (Eg hc) rfl) Lb ?_
 refine c04 [2,3,26] ?_
 refine wc (fun c26=>?_) fun c26=>?_
 have d26:a0s x y=false:=b5r c26
 refine kQ1 [4] ?_
 refine WC.ret (wR (h) ?_)
 exact⟨by rw[d26],rfl⟩
 have d26:=b3n (x:=x) (y:=y) c26
 obtain⟨hlen,e0⟩:=d26
 refine kQ0 [2,3] ?_
 refine kQ1 [2,3,5] ?_
 refine B2 [2,3] rfl (fun μ F' h'=>∃ k:Nat,(k≤x.fs.l.length∧eqL a0R x.fs.l y.fs.l=eqL a0R (x.fs.l.drop k) (y.fs.l.drop k))∧x.fs.l.length - k=μ∧F'=[(5,.int .i64 k)]∧.pt b3 (.cells (spE y).toArray 43 (0,0))::.pt b2 (.cells (spE x).toArray 43 (0,0))::h=h') (x.fs.l.length - 0) [(5,.int .i64 0)] (h0:=.pt b3 (.cells (spE y).toArray 43 (0,0))::.pt b2 (.cells (spE x).toArray 43 (0,0))::h) ?_ Sb ⟨0,⟨by omega,by simp⟩,rfl,rfl,rfl⟩ ?_
 exact Su
 rintro _ _ _ ⟨k,⟨hk,hJ⟩,rfl,rfl,rfl⟩
 refine B3 rfl ?_
 refine kQ5 [2,3,5,31] ?_
 refine wc (fun c31=>?_) fun c31=>?_
 replace c31:=dT c31
 obtain⟨u,hu⟩:=A7 (l:=x.fs.l) (k:=k) (by omega)
 obtain⟨v,hv⟩:=A7 (l:=y.fs.l) (k:=k) (by omega)
 rw[L8 _ hu hv] at hJ
 refine kQ0 [2,3,5] ?_
 refine dS [] (.op 0 (.op 1 (.op 2 (.op 3 (.op 4 (.op 5 (.op 6 (.op 7 (.op 8 (.op 9 .nil)))))))))) [10] D7 ?_
 refine a8d ?_
 refine SR.nil rfl rfl ?_
 refine xG (b0A (o:=36) b6z (by kernel_rfl) (by kernel_rfl) Et Et (by kernel_rfl) rfl) ?_
 refine kQ0 [2,3,5,44] ?_
 refine wc (fun c44=>?_) fun c44=>?_
 rw[b6d (x:=u) (y:=v) c44] at hJ
 refine kQ1 [4] ?_
 refine WC.ret (wR (h) ?_)
 exact⟨by rw[e0,hJ];rfl,rfl⟩
 rw[b8r (x:=u) (y:=v) c44,Bool.true_and] at hJ
 refine kQ0 [2,3,5] ?_
 refine kA3 ?_
 refine WL.nil (A8 (x.fs.l.length - (k+1)) [(5,.int .i64 (k+1))] (h'':=.pt b3 (.cells (spE y).toArray 43 (0,0))::.pt b2 (.cells (spE x).toArray 43 (0,0))::h) (by omega) ?_ Su Sb ⟨k+1,⟨by omega,hJ⟩,rfl,rfl,rfl⟩)
 exact Su
 replace c31:=dF c31
 rw[List.drop_eq_nil_of_le (by omega),List.drop_eq_nil_of_le (by omega)] at hJ
 refine kQ0 [2,3] ?_
 refine kA4 ?_
 refine xf (E2 Et Et) (b2B _ _ _ _ _ _ x.names.l y.names.l _ _ (hx.o.nr.mono v0 Sb) (hy.o.nr.mono v0 Sb)) ?_
 refine kA5 ?_
 refine A5 (GU.t rfl rfl) (fun hc=>⟨Ev.func,(E2 (Eg hc) (Eg hc)),a0B x.e y.e _ _ (hx.o.e.t.mono Sb) (hy.o.e.t.mono Sb)⟩) Lb ?_
 refine kA6 ?_
 refine A5 (GU.t rfl rfl) (fun hc=>⟨Ev.func,(E2 (Eg hc) (Eg hc)),a8r x.cs y.cs _ _ _ _ _ _ x.vs.l y.vs.l _ _ (hx.o.v.mono v0 Sb) (hy.o.v.mono v0 Sb)⟩) Lb ?_
 refine kA6 ?_
 refine A5 (GU.t rfl rfl) (fun hc=>⟨Ev.func,(E2 (Eg hc) (Eg hc)),a3A x.bl ih y.bl _ _ _ _ _ _ _ _ (hx.o.b.mono v0 Sb) (hy.o.b.mono v0 Sb) (fun z hz=>(hx.b z hz).mono Sb) (fun z hz=>(hy.b z hz).mono Sb)⟩) Lb ?_
 refine kQ2 [4] ?_
 refine WC.ret (wR (h) ?_)
 exact⟨by rw[e0,hJ];rfl,rfl⟩
theorem b4g {m:View} {h:List Res} {p:Pr} (q:POk m h p):∀ g ∈ p.gl,GK m h g:=fun g hg=>⟨q.own.gs g hg,fun _ hx=>q.sub (.g hg hx)⟩
theorem b4u {m:View} {h:List Res} {p:Pr} (q:POk m h p):SK m h p.sp:=⟨q.own.sp,fun _ hx=>q.sub (.s hx)⟩
set_option maxHeartbeats 2000000 in
theorem b1Y (p:Pr):∀ (q:Pr) (h:List Res) (m:View),POk m h p→POk m h q→CT Tryz.prog 11 [prV p,prV q] h m (A6 h (.bool (H1 p q))):=by
 refine Pr.ind (q:=fun p=>∀ (q:Pr) (h:List Res) (m:View),POk m h p→POk m h q→CT Tryz.prog 11 [prV p,prV q] h m (A6 h (.bool (H1 p q)))) (fun p ih q h m hp hq=>?_) p
 have v0:=View.le.refl m
 have e0:=a3s p q
 have x1:=hp.own
 have y1:=hq.own
 have f1:=x1.pn
 have f2:=y1.pn
 have m1:=f1.mx
 have m2:=f2.mx
 have k1:=f1.le
 have k2:=f2.le
 refine CT.body Tryz.call11 Tryz.func11 rfl Tryz.ntmps11 Lb rfl ?_
 refine j0 ?_
 refine xX fun b2=>?_
 refine xX fun b3=>?_
 refine kQ1 [2,3] ?_
 refine kQ7 [2,3,13] ?_
 refine wc (fun c13=>?_) fun c13=>?_
 replace c13:=a0C c13
 rw[M9 _ p.pn.l q.pn.l (by omega),Bool.false_and] at e0
 refine kQ1 [4] ?_
 refine WC.ret (wR (h) ?_)
 exact⟨by rw[e0],rfl⟩
 replace c13:=a0x c13
 refine kQ0 [2,3] ?_
 refine kQ1 [2,3,5] ?_
 refine B2 [2,3] rfl (fun μ F' h'=>∃ k:Nat,(k≤p.pn.l.length∧eqL (fun a b:Int=>a==b) p.pn.l q.pn.l=eqL (fun a b:Int=>a==b) (p.pn.l.drop k) (q.pn.l.drop k))∧p.pn.l.length - k=μ∧F'=[(5,.int .i64 k)]∧.pt b3 (.cells (prE q).toArray 45 (0,0))::.pt b2 (.cells (prE p).toArray 45 (0,0))::h=h') (p.pn.l.length - 0) [(5,.int .i64 0)] (h0:=.pt b3 (.cells (prE q).toArray 45 (0,0))::.pt b2 (.cells (prE p).toArray 45 (0,0))::h) ?_ Sb ⟨0,⟨by omega,by simp⟩,rfl,rfl,rfl⟩ ?_
 exact Su
 rintro _ _ _ ⟨k,⟨hk,hJ⟩,rfl,rfl,rfl⟩
 refine B3 rfl ?_
 refine kQ5 [2,3,5,18] ?_
 refine wc (fun c18=>?_) fun c18=>?_
 replace c18:=dT c18
 obtain⟨u,hu⟩:=A7 (l:=p.pn.l) (k:=k) (by omega)
 obtain⟨v,hv⟩:=A7 (l:=q.pn.l) (k:=k) (by omega)
 rw[L8 _ hu hv] at hJ
 refine kQ0 [2,3,5] ?_
 refine dS [] (.op 0 (.op 1 (.op 2 (.op 3 (.op 4 (.op 5 (.op 6 (.op 7 (.op 8 (.op 9 .nil)))))))))) [10] D7 ?_
 refine a8d ?_
 refine SR.nil rfl rfl ?_
 refine kQ1 [2,3,5,31] ?_
 refine wc (fun c31=>?_) fun c31=>?_
 replace c31:=a0C c31
 rw[show(u==v)=false by simpa using c31] at hJ
 refine kQ1 [4] ?_
 refine WC.ret (wR (h) ?_)
 exact⟨by rw[e0,hJ];rfl,rfl⟩
 replace c31:=a0x c31
 rw[show(u==v)=true by simpa using c31,Bool.true_and] at hJ
 refine kQ0 [2,3,5] ?_
 refine kA3 ?_
 refine WL.nil (A8 (p.pn.l.length - (k+1)) [(5,.int .i64 (k+1))] (h'':=.pt b3 (.cells (prE q).toArray 45 (0,0))::.pt b2 (.cells (prE p).toArray 45 (0,0))::h) (by omega) ?_ Su Sb ⟨k+1,⟨by omega,hJ⟩,rfl,rfl,rfl⟩)
 exact Su
 replace c18:=dF c18
 rw[List.drop_eq_nil_of_le (by omega),List.drop_eq_nil_of_le (by omega)] at hJ
 refine kQ0 [2,3] ?_
 refine kA6 ?_
 refine xG (L0 Et Et) ?_
 refine kA7 ?_
 refine A5 (GU.t rfl rfl) (fun hc=>⟨Ev.func,(E2 (Eg hc) (Eg hc)),a0B p.rep.base q.rep.base _ _ (x1.rb.t.mono Sb) (y1.rb.t.mono Sb)⟩) Lb ?_
 refine kA8 ?_
 refine A5 (GU.t rfl rfl) (fun hc=>⟨Ev.func,(E2 (Eg hc) (Eg hc)),a0B p.rep.count q.rep.count _ _ (x1.rc.t.mono Sb) (y1.rc.t.mono Sb)⟩) Lb ?_
 refine kQ2 [2,3,6] ?_
 refine a8d ?_
 refine zG (fun hc=>L0 (Eg hc) (Eg hc)) ?_
 refine kA9 ?_
 refine A5 (GU.t rfl rfl) (fun hc=>⟨Ev.func,(E2 (Eg hc) (Eg hc)),a0B p.ch q.ch _ _ (x1.ch.t.mono Sb) (y1.ch.t.mono Sb)⟩) Lb ?_
 refine kA6 ?_
 refine A5 (GU.t rfl rfl) (fun hc=>⟨Ev.func,(E2 (Eg hc) (Eg hc)),a1N p.tg.l q.tg.l _ _ _ _ _ _ _ _ (x1.tg.rd.mono v0 Sb) (y1.tg.rd.mono v0 Sb) (fun z hz=>(x1.tg.ok z hz).t.mono Sb) (fun z hz=>(y1.tg.ok z hz).t.mono Sb)⟩) Lb ?_
 refine kA6 ?_
 refine A5 (GU.t rfl rfl) (fun hc=>⟨Ev.func,(E2 (Eg hc) (Eg hc)),a1N p.ex.l q.ex.l _ _ _ _ _ _ _ _ (x1.ex.rd.mono v0 Sb) (y1.ex.rd.mono v0 Sb) (fun z hz=>(x1.ex.ok z hz).t.mono Sb) (fun z hz=>(y1.ex.ok z hz).t.mono Sb)⟩) Lb ?_
 refine kA6 ?_
 refine A5 (GU.t rfl rfl) (fun hc=>⟨Ev.func,(E2 (Eg hc) (Eg hc)),a6O p.gl (fun g hg z hz=>ih z (.g hg hz)) q.gl _ _ _ _ _ _ _ _ (x1.g.mono v0 Sb) (y1.g.mono v0 Sb) (fun z hz=>(b4g hp z hz).mono Sb) (fun z hz=>(b4g hq z hz).mono Sb)⟩) Lb ?_
 refine kA6 ?_
 refine A5 (GU.t rfl rfl) (fun hc=>⟨Ev.func,(E2 (Eg hc) (Eg hc)),a3A p.ll (fun z hz=>ih z (.l hz)) q.ll _ _ _ _ _ _ _ _ (x1.l.mono v0 Sb) (y1.l.mono v0 Sb) (fun z hz=>(hp.sub (.l hz)).mono Sb) (fun z hz=>(hq.sub (.l hz)).mono Sb)⟩) Lb ?_
 refine kA6 ?_
 refine A5 (GU.t rfl rfl) (fun hc=>⟨Ev.func,(E2 (Eg hc) (Eg hc)),b07 p.sp (fun z hz=>ih z (.s hz)) q.sp _ _ ((b4u hp).mono Sb) ((b4u hq).mono Sb)⟩) Lb ?_
 refine kQ2 [4] ?_
 refine WC.ret (wR (h) ?_)
 exact⟨by rw[e0,hJ];rfl,rfl⟩
end Go.Proofs.YtcfemegngeijcaaGreatDoor
end
section
namespace Go.Proofs.YtcfemegngeijcaaGreatDoor
set_option maxRecDepth 100000
set_option maxHeartbeats 2000000
open Go.Eng Go.Pc Go.Sx Go
open Go.Xp hiding B E5
open Go.Ty (Ty Vr Tok eqT tyV I8 B4 B6 R7 zeroK M0 D5 encV D9 VOk PrOk)
open Go.Lx (encB C8 textO)
open Go.Ly (Rw Q6 I6 eqR b0c a9w b02)
theorem b5p {m m':View} (g:Glob m) (h:m.le m'):Glob m':=
 ⟨by obtain⟨x,hx⟩:=g.max;exact⟨x,h.cell hx⟩,fun j v e=>h.cell (g.prim j v e),fun j v e=>h.cell (g.sOne j v e),fun j v e=>h.cell (g.sSome j v e),fun j v e=>h.cell (g.sAll j v e)⟩
section
variable {m m':View} {h h':List Res}
theorem c1Q (V:Vw m' h' m h) {e:Ex} (q:TOk m' h' e):TOk m h e:=by
 induction q with
 | mk hr _ ih=>exact .mk (V _ _ _ _ _ hr) ih
theorem a3x (V:Vw m' h' m h) {e:Ex} (q:EOk m' h' e):EOk m h e:=⟨c1Q V q.t,q.w⟩
theorem a9Y (V:Vw m' h' m h) {s:Sli Ex} (q:LOk m' h' s):LOk m h s:=⟨V _ _ _ _ _ q.rd,fun x hx=>a3x V (q.ok x hx)⟩
theorem c1U (V:Vw m' h' m h) {a:Option Addr} {k c:Nat} {l:List Vr} (q:PrOk m' h' a k c l):PrOk m h a k c l:=⟨V _ _ _ _ _ q.rd,fun v hv=>⟨V _ _ _ _ _ (q.ok v hv).rd⟩,q.tag⟩
theorem c2o (V:Vw m' h' m h) {s:Sp} (q:SOk m' h' s):SOk m h s:=⟨q.k,q.ty,V _ _ _ _ _ q.nr,q.nw,a3x V q.e,c1U V q.v,q.vw,V _ _ _ _ _ q.fr,q.fw,V _ _ _ _ _ q.b⟩
theorem c2N (V:Vw m' h' m h) {g:Gu} (q:GOk m' h' g):GOk m h g:=⟨q.k,q.n,a3x V q.cond,a3x V q.ch,a9Y V q.tg,a9Y V q.vl,a3x V q.time,V _ _ _ _ _ q.b⟩
theorem c3R (V:Vw m' h' m h) {p:Pr} (q:P1 m' h' p):P1 m h p:=⟨q.k,q.n,a3x V q.ch,a9Y V q.tg,a9Y V q.ex,q.rn,a3x V q.rb,a3x V q.rc,V _ _ _ _ _ q.g,fun x hx=>c2N V (q.gs x hx),V _ _ _ _ _ q.l,V _ _ _ _ _ q.pn,q.pw,c2o V q.sp⟩
theorem c2R (V:Vw m' h' m h) {p:Pr} (q:POk m' h' p):POk m h p:=by
 induction q with
 | mk o _ ih=>exact .mk (c3R V o) ih
end
theorem a8X {m:View} (hg:Glob m) (ra:Option Addr) (rc:Nat) (R:List Rw) (h:List Res) (ht:∀ x ∈ R,x.text.length < 4294967281) :
   CT Tryz.prog 16 [.slice ra R.length rc] (.row (.slice ra R.length rc) 78 3 R.length (fl Q6 R)::h) m (fun v _ h'=>∃ x hh,v=.tuple #[prV x,.int .i64 ((S2 R).2.1:Nat),.int .i64 (S2 R).2.2]∧stP x=(S2 R).1∧POk m (hh++h) x∧h'=hh++h):=
 (CT.lendRow Tryz.call16 fun m' hle hr=>b0Y (b5p hg hle) ra rc R h hr ht).mono (by
   rintro v m2 h2 - ⟨m',hx,h3,⟨x,bl,h1,h4,h5,rfl⟩,rfl,V,-⟩
   exact⟨x,hx++bl,h1,h4,by rw[List.append_assoc];exact c2R V (h5.mono (List.sublist_append_left _ _)),by rw[List.append_assoc]⟩)
theorem b5Q (s:B):(Lib.splitB ⟨#[47]⟩ 0 (Lib.countB ⟨s.toArray⟩ ⟨#[47]⟩) ⟨s.toArray⟩).map (·.data.toList)=L6 s:=by
 rw[Lib.splitB_data]
 rfl
theorem b2E {m:View} (hg:Glob m) (s:B) (hs:s.length < 4294967281) (h:List Res):CT Tryz.prog 63 [str s,str [47]] h m
   (fun v _ h'=>∃ b,v=.slice (some ⟨b,0,none⟩) (L6 s).length (L6 s).length∧h'=.pt b (.cells (fl encB (L6 s)).toArray 9 (0,0))::h):=by
 obtain⟨x,hx⟩:=hg.max
 refine⟨Tryz.call63,fun w st=>Calls.mono (Tryz.strings_Split ⟨s.toArray⟩ ⟨#[47]⟩ x w hs (st.cell hx) (by decide)) ?_⟩
 rintro e w' ⟨rfl,rfl⟩
 have h1:=b5Q s
 have h2:Lib.countB ⟨s.toArray⟩ ⟨#[47]⟩+1=(L6 s).length:=by
   rw[← h1,List.length_map,Lib.splitB_all ⟨#[47]⟩ (by decide) 0 _ ⟨s.toArray⟩ rfl]
 have h3:(Lib.splitB ⟨#[47]⟩ 0 (Lib.countB ⟨s.toArray⟩ ⟨#[47]⟩) ⟨s.toArray⟩).map Value.string=fl encB (L6 s):=by
   rw[← h1]
   generalize Lib.splitB ⟨#[47]⟩ 0 (Lib.countB ⟨s.toArray⟩ ⟨#[47]⟩) ⟨s.toArray⟩=l
   induction l with
   | nil=>rfl
   | cons y l ih=>
     rw[List.map_cons,List.map_cons,ih]
     rfl
 rw[h2,h3]
 exact⟨_,m,_,rfl,View.le.refl m,st.alloc _,w.heap.size,rfl,rfl⟩
theorem b5h (s:B) (h:List Res) (m:View):CT Tryz.prog 64 [str s,str [46]] h m (A6 h (str (Lib.trimLeftB s 46))):=
 CT.ofCalls Tryz.call64 fun w _=>Tryz.strings_TrimLeft_one ⟨s.toArray⟩ 46 (by decide) w
theorem b05 {m:View} (hg:Glob m) (s:B) (hs:s.length < 4294967281) (hl:(L6 s).length≤1000) (hp:∀ x ∈ L6 s,x.length≤100000) (h:List Res) :
   CT Tryz.prog 31 [str s] h m (fun v _ h'=>b5O Q6 78 3 h (X8 s) v h'):=by
 refine CT.body Tryz.call31 Tryz.func31 rfl Tryz.ntmps31 Lb rfl ?_
 refine kQ1 [0] ?_
 refine WL.addNil 78 3 ?_
 refine kQ1 [0,3] ?_
 refine kA1 ?_
 refine xg (E2 Et Ev.const) (b2E hg s hs _) ?_
 rintro _ _ ⟨b8,rfl,rfl⟩
 refine kQ2 [3,8,9,10] ?_
 refine B2 [8,9] rfl (fun μ F' h'=>∃ a3:Option Addr,∃ c3:Nat,∃ j:Nat,∃ r:List Rw,((j≤(L6 s).length∧r.length=j)∧r=a5l 0 ((L6 s).take j))∧(L6 s).length - j=μ∧F'=[(3,.slice a3 r.length c3),(10,.int .i64 j)]∧.pt b8 (.cells (fl encB (L6 s)).toArray 9 (0,0))::.row (.slice a3 r.length c3) 78 3 r.length (fl Q6 r)::h=h') ((L6 s).length - 0) [(3,.slice none ([]).length 0),(10,.int .i64 0)] (h0:=.pt b8 (.cells (fl encB (L6 s)).toArray 9 (0,0))::.row (.slice none ([]).length 0) 78 3 ([]).length (fl Q6 ([]))::h) ?_ Sb ⟨none,0,0,[],⟨⟨by omega,rfl⟩,rfl⟩,rfl,rfl,rfl⟩ ?_
 exact Su
 rintro _ _ _ ⟨a3,c3,j,r,⟨⟨hj,hr⟩,hJ⟩,rfl,rfl,rfl⟩
 refine B3 rfl ?_
 refine kQ1 [3,8,9,10,11] ?_
 refine wc (fun c11=>?_) fun c11=>?_
 replace c11:=dT c11
 obtain⟨x,hx⟩:=A7 (l:=L6 s) (k:=j) (by omega)
 have hxl:=hp x (List.mem_of_getElem? hx)
 have htl:(Lib.trimLeftB x 46).length≤x.length:=(List.dropWhile_sublist _).length_le
 have htk:a5l 0 ((L6 s).take (j+1))=a5l 0 ((L6 s).take j)++[a4S j x]:=by rw[a7u hx,Nat.zero_add]
 have hln:(r++[a4S j x]).length=r.length+1:=List.length_append
 have hrd:Rd m (.pt b8 (.cells (fl encB (L6 s)).toArray 9 (0,0))::.row (.slice a3 r.length c3) 78 3 r.length (fl Q6 r)::h) (some ⟨b8,0,none⟩) (L6 s).length (L6 s).length 1 (fl encB (L6 s)):=Rd.ofPt (by rw[a7D C8]) (by omega) Me
 refine kQ0 [3,8,9,10] ?_
 refine kQ5 [3,4,5,8,9,10] ?_
 refine kA1 ?_
 refine xf (E2 Et Ev.const) (b5h x _ _) ?_
 refine kQ1 [3,4,5,6,8,9,10] ?_
 refine kA4 ?_
 refine xG (M5 uu9 Et) ?_
 refine kA1 ?_
 refine xG (M5 uu9 Et) ?_
 refine xG (U8 Et Et (by omega)) ?_
 refine kA2 ?_
 refine xY a4T (EvP.cons Et EvP.nil) fun b27=>?_
 refine xD a4T (Ev.tmp rfl) (Ev.tmp rfl) (show r.length+1=(r++[a4S j x]).length by simp) (F3 (enc:=Q6) _ (a4S j x)) fun a28 c28=>?_
 refine kQ1 [3,8,9,10] ?_
 refine kA2 ?_
 refine WL.nil (A8 ((L6 s).length - (j+1)) [(3,.slice a28 (r++[a4S j x]).length c28),(10,.int .i64 (j+1))] (h'':=.pt b8 (.cells (fl encB (L6 s)).toArray 9 (0,0))::.row (.slice a28 (r++[a4S j x]).length c28) 78 3 (r++[a4S j x]).length (fl Q6 (r++[a4S j x]))::h) (by omega) ?_ Su Sb ⟨a28,c28,j+1,r++[a4S j x],⟨⟨by omega,by omega⟩,by rw[htk,hJ]⟩,rfl,rfl,rfl⟩)
 exact Su
 replace c11:=dF c11
 rw[List.take_of_length_le (by omega)] at hJ
 subst hJ
 refine kQ0 [3] ?_
 refine kQ2 [2] ?_
 refine WC.ret (wR (.row (.slice a3 (X8 s).length c3) 78 3 (X8 s).length (fl Q6 (X8 s))::h) ?_)
 exact⟨_,_,_,rfl,rfl,rfl⟩
theorem b2S (s1 s2:Option Addr) (n1 c1 n2 c2:Nat) (xs ys:List _) (h:List Res) (m:View) (h1:Rd m h s1 n1 c1 3 (fl Q6 xs)) (h2:Rd m h s2 n2 c2 3 (fl Q6 ys)) :
   CT Tryz.prog 33 [.slice s1 n1 c1,.slice s2 n2 c2] h m (A6 h (.bool (eqL eqR xs ys))):=by
 have l1:=h1.lenF I6 (by decide)
 have l2:=h2.lenF I6 (by decide)
 have m1:=h1.mx
 have m2:=h2.mx
 have k1:=h1.le
 have k2:=h2.le
 refine CT.body Tryz.call33 Tryz.func33 rfl Tryz.ntmps33 Lb rfl ?_
 refine kQ1 [0,1] ?_
 refine kQ5 [0,1,10] ?_
 refine wc (fun c10=>?_) fun c10=>?_
 replace c10:=a0C c10
 refine kQ1 [4] ?_
 refine WC.ret (wR (h) ?_)
 exact⟨by rw[M9 _ _ _ (by omega)],rfl⟩
 replace c10:=a0x c10
 refine kQ0 [0,1] ?_
 refine kQ3 [0,1,12,13] ?_
 refine B2 [0,1,12] rfl (fun μ F' h'=>∃ k:Nat,(k≤n1∧eqL eqR xs ys=eqL eqR (xs.drop k) (ys.drop k))∧n1 - k=μ∧F'=[(13,.int .i64 k)]∧h=h') (n1 - 0) [(13,.int .i64 0)] (h0:=h) ?_ Sb ⟨0,⟨by omega,by simp⟩,rfl,rfl,rfl⟩ ?_
 exact Su
 rintro _ _ _ ⟨k,⟨hk,hJ⟩,rfl,rfl,rfl⟩
 refine B3 rfl ?_
 refine kQ1 [0,1,12,13,14] ?_
 refine wc (fun c14=>?_) fun c14=>?_
 replace c14:=dT c14
 obtain⟨x,hx⟩:=A7 (l:=xs) (k:=k) (by omega)
 obtain⟨y,hy⟩:=A7 (l:=ys) (k:=k) (by omega)
 rw[L8 _ hx hy] at hJ
 refine kQ0 [0,1,12,13] ?_
 refine kQ2 [0,1,5,12,13] ?_
 refine dS [] (.op 0 (.op 1 (.op 2 (.op 3 (.op 4 (.op 5 (.op 6 (.op 7 .nil)))))))) [8] D7 ?_
 refine kA8 ?_
 refine SR.nil rfl rfl ?_
 refine xG (a9G b96 (by kernel_rfl) (by kernel_rfl) Et Et rfl) ?_
 refine kQ0 [0,1,12,13,24] ?_
 refine wc (fun c24=>?_) fun c24=>?_
 refine kQ1 [4] ?_
 refine WC.ret (wR (h) ?_)
 exact⟨by rw[hJ,a9w c24];rfl,rfl⟩
 rw[b0c c24,Bool.true_and] at hJ
 refine kQ0 [0,1,12,13] ?_
 refine kA2 ?_
 refine WL.nil (A8 (n1 - (k+1)) [(13,.int .i64 (k+1))] (h'':=h) (by omega) ?_ Su Sb ⟨k+1,⟨by omega,hJ⟩,rfl,rfl,rfl⟩)
 exact Su
 replace c14:=dF c14
 refine kQ0 [] ?_
 refine kQ1 [4] ?_
 refine WC.ret (wR (h) ?_)
 exact⟨by rw[hJ,List.drop_eq_nil_of_le (by omega),List.drop_eq_nil_of_le (by omega)];rfl,rfl⟩
end Go.Proofs.YtcfemegngeijcaaGreatDoor
end
section
namespace Go.Proofs.YtcfemegngeijcaaGreatDoor
set_option maxRecDepth 100000
set_option maxHeartbeats 2000000
open Go.Eng Go.Pc Go.Sx Go
open Go.Xp hiding B E5
open Go.Ty (Ty Vr Tok eqT tyV I8 B4 B6 R7 zeroK M0 D5 encV D9 VOk PrOk)
open Go.Lx (encB C8 textO)
open Go.Ly (Rw Q6 I6 eqR b0c a9w b02)
structure TxtOk (s:B):Prop where
 n:s.length < 4294967281
 l:(L6 s).length≤1000
 p:∀ x ∈ L6 s,x.length≤100000
 t:∀ x ∈ X8 s,x.text.length < 4294967281
def a4K (s:B):Bool:=decide (s.length < 1000)&&decide ((L6 s).length≤1000)&&(L6 s).all (fun x=>decide (x.length≤1000))&&(X8 s).all (fun x=>decide (x.text.length≤1000))
theorem a0k {s:B} (h:a4K s=true):TxtOk s:=by
 unfold a4K at h
 simp only[Bool.and_eq_true,decide_eq_true_eq,List.all_eq_true] at h
 obtain⟨⟨⟨h1,h2⟩,h3⟩,h4⟩:=h
 exact⟨by omega,h2,fun x hx=>by have:=h3 x hx;omega,fun x hx=>by have:=h4 x hx;omega⟩
theorem a2w {m:View} (hg:Glob m) (hp:Pow m) (s:B) (k:Int) (hT:TxtOk s) (hM:a2Q s k=true) (h:List Res) :
   CT Tryz.prog 14 [str s,.int .u8 k] h m (A6 h (.bool true)):=by
 unfold a2Q at hM
 simp only[Bool.and_eq_true,beq_iff_eq] at hM
 obtain⟨⟨⟨⟨hM1,hM2⟩,hM3⟩,hM4⟩,hM5⟩:=hM
 refine CT.body Tryz.call14 Tryz.func14 rfl Tryz.ntmps14 Lb rfl ?_
 refine kQ1 [0,1] ?_
 refine kA1 ?_
 refine xg (E1 Et) (b05 hg s hT.n hT.l hT.p _) ?_
 rintro _ _ ⟨a12,c12,_,rfl,rfl,rfl⟩
 refine xg (E1 Et) (a8X hg _ _ (X8 s) _ hT.t) ?_
 rintro _ _ ⟨x,hh,rfl,hst,hok,rfl⟩
 rw[hM2,hM3]
 have hxk:x.k=k:=by rw[← (a7t x).1,hst];exact hM1
 have hpx:a0c x=a0c (S2 (X8 s)).1:=by rw[← hst,b6B]
 refine kA4 ?_
 refine xW fun b5=>?_
 refine kQ3 [0,1,5,6,7] ?_
 refine kA1 ?_
 refine xg (E1 Et) (b8h hg hp x _ (hok.mono Sb)) ?_
 rintro _ _ ⟨a19,c19,bl2,rfl,hrd,rfl⟩
 rw[hpx,hM4]
 rw[hpx] at hrd
 refine WL.perm List.perm_middle ?_
 refine kQ5 [0,1,5,6,7,8,9] ?_
 refine kA4 ?_
 refine wV (b':=true) (by simpa using hxk) ?_
 refine kA1 ?_
 refine zU ?_
 refine kA1 ?_
 refine zU ?_
 refine kA3 ?_
 refine zU ?_
 refine kA1 ?_
 refine zU ?_
 refine kA3 ?_
 refine zU ?_
 refine kA1 ?_
 refine zU ?_
 refine kA3 ?_
 refine zU ?_
 refine kA1 ?_
 refine zU ?_
 refine kA1 ?_
 refine zU ?_
 refine xg (E1 Et) (b05 hg s hT.n hT.l hT.p _) ?_
 rintro _ _ ⟨a41,c41,_,rfl,rfl,rfl⟩
 refine A0 (a:=a41) Me fun p41 q41 r41=>?_
 refine zU ?_
 refine xf (E2 Et Et) ((b2S _ _ _ _ _ _ (a0c (S2 (X8 s)).1).1 (X8 s) _ _ (hrd.mono (View.le.refl m) (((List.sublist_append_left _ _).cons _).cons _)) (Rd.inRow Me r41 p41 q41)).val (congrArg Value.bool hM5)) ?_
 refine kQ2 [4] ?_
 refine WC.ret (wR (h) ?_)
 exact⟨rfl,rfl⟩
end Go.Proofs.YtcfemegngeijcaaGreatDoor
end
section
namespace Go.Proofs.YtcfemegngeijcaaGreatDoor
set_option maxRecDepth 100000
set_option maxHeartbeats 2000000
open Go.Eng Go.Pc Go
open Go.Xp hiding B E5
open Go.Ty (Ty Vr eqT tyV I8 PrOk VOk encV D9 M0 D5 eqI a2k a2h)
open Go.Lx (encB C8)
theorem c2A {P:Program} {n:Cx} {F:Fm} {h:List Res} {m:View} {ty:TypeId} {pos:String} {after:Array Edge} {dst:Option Tmp} {g:Option (Nat × Bool)} {x y:Operand} {i j:Int} {t t':TypeId} (ex:Ev n F x (.int .i64 i)) (ey:Ev n F y (.int .i64 j)) (_:(0:Int)≤1) :
   PO P ⟨dst,.binOp .add t x y t',ty,pos,after,g⟩ n F h m (.int .i64 (IntKind.i64.wrap (i+j))):=N9 ex ey (by simp[iop])
abbrev W64 (v:Int):Int:=IntKind.i64.wrap v
theorem c3l (a b:Int):W64 (W64 a+W64 b)=W64 (a+b):=by
 unfold W64
 rw[IntKind.wrap_i64,IntKind.wrap_i64,IntKind.wrap_i64,IntKind.wrap_i64]
 omega
theorem a2T {x:Pr}:∀ {l:List Pr} {j:Nat},l[j]?=some x→O7 (l.take (j+1))=O7 (l.take j)+R6 x
 | [],_,h=>by cases h
 | y::l,0,h=>by
   cases h
   show R6 _+O7 (l.take 0)=O7 []+_
   rw[List.take_zero]
   unfold O7
   omega
 | y::l,j+1,h=>by
   have ih:=a2T (l:=l) (j:=j) (by simpa using h)
   show R6 y+O7 (l.take (j+1))=(R6 y+O7 (l.take j))+_
   omega
theorem a7l {g:Gu}:∀ {l:List Gu} {j:Nat},l[j]?=some g→a0E (l.take (j+1))=a0E (l.take j)+O7 g.bl
 | [],_,h=>by cases h
 | y::l,0,h=>by
   cases h
   show b2d _+a0E (l.take 0)=a0E []+_
   rw[List.take_zero,b04]
   unfold a0E
   omega
 | y::l,j+1,h=>by
   have ih:=a7l (l:=l) (j:=j) (by simpa using h)
   show b2d y+a0E (l.take (j+1))=(b2d y+a0E (l.take j))+_
   omega
theorem b2x {v:Int} {a b:Nat} {c:Int} {x:Pr} (hv:v=W64 (c+(a:Int))) (hb:b=a+R6 x):W64 (v+W64 (R6 x))=W64 (c+(b:Int)):=by
 subst hv hb
 rw[c3l]
 congr 1
 omega
set_option maxHeartbeats 4000000 in
theorem c0E (p:Pr):∀ (h:List Res) (m:View),POk m h p→CT Tryz.prog 7 [prV p] h m (A6 h (.int .i64 (W64 (R6 p)))):=by
 refine Pr.ind (q:=fun p=>∀ (h:List Res) (m:View),POk m h p→CT Tryz.prog 7 [prV p] h m (A6 h (.int .i64 (W64 (R6 p))))) (fun p ih h m hP=>?_) p
 have hO:=hP.own
 have hrl:=hO.l
 have hrg:=hO.g
 have hrb:=hO.sp.b
 have hlx:=Nat.le_trans hrl.le hrl.mx
 have hgx:=Nat.le_trans hrg.le hrg.mx
 have hbx:=Nat.le_trans hrb.le hrb.mx
 have hce:=a6w p
 rw[a6u] at hce
 refine CT.body Tryz.call7 Tryz.func7 rfl Tryz.ntmps7 Lb rfl ?_
 refine j0 ?_
 refine xX fun b1=>?_
 refine kQ1 [1] ?_
 refine kQ1 [1,3] ?_
 refine kQ4 [1,3,13,14,15] ?_
 refine B2 [1,13,14] rfl (fun μ F' h'=>∃ v:Int,∃ j:Nat,(j≤p.ll.length∧v=W64 (1+(O7 (p.ll.take j):Nat)))∧p.ll.length - j=μ∧F'=[(3,.int .i64 v),(15,.int .i64 j)]∧.pt b1 (.cells (prE p).toArray 45 (0,0))::h=h') (p.ll.length - 0) [(3,.int .i64 1),(15,.int .i64 0)] (h0:=.pt b1 (.cells (prE p).toArray 45 (0,0))::h) ?_ Sb ⟨1,0,⟨Nat.zero_le _,rfl⟩,rfl,rfl,rfl⟩ ?_
 exact Su
 rintro _ _ _ ⟨v,j,⟨hj,hv⟩,rfl,rfl,rfl⟩
 refine B3 rfl ?_
 refine kQ1 [1,3,13,14,15,16] ?_
 refine wc (fun c16=>?_) fun c16=>?_
 replace c16:=dT c16
 obtain⟨x,hx⟩:=A7 (l:=p.ll) (k:=j) (by omega)
 have hin:In x p:=.l (List.mem_of_getElem? hx)
 refine kQ0 [1,3,13,14,15] ?_
 refine kA2 ?_
 refine xW fun b5=>?_
 refine kQ1 [1,3,5,13,14,15] ?_
 refine kA2 ?_
 refine xf (E1 Et) (ih x hin _ m ((hP.sub hin).mono Sb)) ?_
 refine xG (c2A Et Et (by omega)) ?_
 refine kQ1 [1,3,13,14,15] ?_
 refine kA2 ?_
 refine WL.nil (A8 (p.ll.length - (j+1)) [(3,.int .i64 (W64 (v+W64 (R6 x)))),(15,.int .i64 (j+1))] (h'':=.pt b1 (.cells (prE p).toArray 45 (0,0))::h) (by omega) ?_ Su Sb ⟨W64 (v+W64 (R6 x)),j+1,⟨by omega,b2x hv (a2T (l:=p.ll) hx)⟩,rfl,rfl,rfl⟩)
 exact Su
 replace c16:=dF c16
 rw[List.take_of_length_le (by omega)] at hv
 refine kQ0 [1,3] ?_
 refine kQ5 [1,3,26,27,28] ?_
 refine B2 [1,26,27] rfl (fun μ F' h'=>∃ v:Int,∃ j:Nat,(j≤p.sp.bl.length∧v=W64 ((1+(O7 p.ll:Int))+(O7 (p.sp.bl.take j):Nat)))∧p.sp.bl.length - j=μ∧F'=[(3,.int .i64 v),(28,.int .i64 j)]∧.pt b1 (.cells (prE p).toArray 45 (0,0))::h=h') (p.sp.bl.length - 0) [(3,.int .i64 v),(28,.int .i64 0)] (h0:=.pt b1 (.cells (prE p).toArray 45 (0,0))::h) ?_ Sb ⟨v,0,⟨Nat.zero_le _,by rw[hv,List.take_zero];congr 1⟩,rfl,rfl,rfl⟩ ?_
 exact Su
 rintro _ _ _ ⟨v,j,⟨hj,hv⟩,rfl,rfl,rfl⟩
 refine B3 rfl ?_
 refine kQ1 [1,3,26,27,28,29] ?_
 refine wc (fun c29=>?_) fun c29=>?_
 replace c29:=dT c29
 obtain⟨x,hx⟩:=A7 (l:=p.sp.bl) (k:=j) (by omega)
 have hin:In x p:=.s (List.mem_of_getElem? hx)
 refine kQ0 [1,3,26,27,28] ?_
 refine kA2 ?_
 refine xW fun b7=>?_
 refine kQ1 [1,3,7,26,27,28] ?_
 refine kA2 ?_
 refine xf (E1 Et) (ih x hin _ m ((hP.sub hin).mono Sb)) ?_
 refine xG (c2A Et Et (by omega)) ?_
 refine kQ1 [1,3,26,27,28] ?_
 refine kA2 ?_
 refine WL.nil (A8 (p.sp.bl.length - (j+1)) [(3,.int .i64 (W64 (v+W64 (R6 x)))),(28,.int .i64 (j+1))] (h'':=.pt b1 (.cells (prE p).toArray 45 (0,0))::h) (by omega) ?_ Su Sb ⟨W64 (v+W64 (R6 x)),j+1,⟨by omega,b2x hv (a2T (l:=p.sp.bl) hx)⟩,rfl,rfl,rfl⟩)
 exact Su
 replace c29:=dF c29
 rw[List.take_of_length_le (by omega)] at hv
 refine kQ0 [1,3] ?_
 refine kQ4 [3,38,39,40] ?_
 refine B2 [38,39] rfl (fun μ F' h'=>∃ v:Int,∃ j:Nat,(j≤p.gl.length∧v=W64 (((1+(O7 p.ll:Int))+(O7 p.sp.bl:Nat))+(a0E (p.gl.take j):Nat)))∧p.gl.length - j=μ∧F'=[(3,.int .i64 v),(40,.int .i64 j)]∧.pt b1 (.cells (prE p).toArray 45 (0,0))::h=h') (p.gl.length - 0) [(3,.int .i64 v),(40,.int .i64 0)] (h0:=.pt b1 (.cells (prE p).toArray 45 (0,0))::h) ?_ Sb ⟨v,0,⟨Nat.zero_le _,by rw[hv,List.take_zero];congr 1⟩,rfl,rfl,rfl⟩ ?_
 exact Su
 rintro _ _ _ ⟨v,j,⟨hj,hv⟩,rfl,rfl,rfl⟩
 refine B3 rfl ?_
 refine kQ1 [3,38,39,40,41] ?_
 refine wc (fun c41=>?_) fun c41=>?_
 replace c41:=dT c41
 obtain⟨g,hg1⟩:=A7 (l:=p.gl) (k:=j) (by omega)
 have hgm:=List.mem_of_getElem? hg1
 have hgb:=(hO.gs g hgm).b
 have hgbx:=Nat.le_trans hgb.le hgb.mx
 refine kQ0 [3,38,39,40] ?_
 refine kA2 ?_
 refine xW fun b9=>?_
 refine kQ1 [3,9,38,39,40] ?_
 refine kQ4 [3,38,39,40,45,46,47] ?_
 refine B2 [38,39,40,45,46] rfl (fun μ F' h'=>∃ w:Int,∃ i:Nat,(i≤g.bl.length∧w=W64 ((((1+(O7 p.ll:Int))+(O7 p.sp.bl:Nat))+(a0E (p.gl.take j):Nat))+(O7 (g.bl.take i):Nat)))∧g.bl.length - i=μ∧F'=[(3,.int .i64 w),(47,.int .i64 i)]∧.pt b1 (.cells (prE p).toArray 45 (0,0))::h=h') (g.bl.length - 0) [(3,.int .i64 v),(47,.int .i64 0)] (h0:=.pt b1 (.cells (prE p).toArray 45 (0,0))::h) ?_ Sb ⟨v,0,⟨Nat.zero_le _,by rw[hv,List.take_zero];congr 1⟩,rfl,rfl,rfl⟩ ?_
 exact Su
 rintro _ _ _ ⟨w,i,⟨hi,hw⟩,rfl,rfl,rfl⟩
 refine B3 rfl ?_
 refine kQ1 [3,38,39,40,45,46,47,48] ?_
 refine wc (fun c48=>?_) fun c48=>?_
 replace c48:=dT c48
 obtain⟨x,hx⟩:=A7 (l:=g.bl) (k:=i) (by omega)
 have hin:In x p:=.g hgm (List.mem_of_getElem? hx)
 refine kQ0 [3,38,39,40,45,46,47] ?_
 refine kA2 ?_
 refine xW fun b11=>?_
 refine kQ1 [3,11,38,39,40,45,46,47] ?_
 refine kA2 ?_
 refine xf (E1 Et) (ih x hin _ m ((hP.sub hin).mono Sb)) ?_
 refine xG (c2A Et Et (by omega)) ?_
 refine kQ1 [3,38,39,40,45,46,47] ?_
 refine kA2 ?_
 refine WL.nil (A8 (g.bl.length - (i+1)) [(3,.int .i64 (W64 (w+W64 (R6 x)))),(47,.int .i64 (i+1))] (h'':=.pt b1 (.cells (prE p).toArray 45 (0,0))::h) (by omega) ?_ Su Sb ⟨W64 (w+W64 (R6 x)),i+1,⟨by omega,b2x hw (a2T (l:=g.bl) hx)⟩,rfl,rfl,rfl⟩)
 exact Su
 replace c48:=dF c48
 rw[List.take_of_length_le (l:=g.bl) (by omega)] at hw
 refine kQ0 [3,38,39,40] ?_
 refine kA2 ?_
 refine WL.nil (A8 (p.gl.length - (j+1)) [(3,.int .i64 w),(40,.int .i64 (j+1))] (h'':=.pt b1 (.cells (prE p).toArray 45 (0,0))::h) (by omega) ?_ Su Sb ⟨w,j+1,⟨by omega,by rw[hw,a7l hg1];congr 1;omega⟩,rfl,rfl,rfl⟩)
 exact Su
 replace c41:=dF c41
 rw[List.take_of_length_le (by omega)] at hv
 refine kQ0 [3] ?_
 refine kQ2 [2] ?_
 refine WC.ret (wR (h) ?_)
 exact⟨by rw[hv,hce];congr 2;omega,rfl⟩
end Go.Proofs.YtcfemegngeijcaaGreatDoor
end
section
namespace Go.Proofs.YtcfemegngeijcaaGreatDoor
set_option maxRecDepth 100000
set_option maxHeartbeats 2000000
open Go.Eng Go.Pc Go
open Go.Xp hiding B E5
open Go.Ty (Ty Vr eqT tyV I8 PrOk VOk encV D9 M0 D5 eqI a2k a2h)
open Go.Lx (encB C8)
theorem b3Y (m:View) (h:List Res):EOk m h A4:=⟨.mk (Rd.nilF exE 6 m h) (fun _ hx=>(List.not_mem_nil hx).elim),.mk (by decide) (by decide) (by decide) (by decide) (by decide) fun _ hx=>(List.not_mem_nil hx).elim⟩
theorem c1w (m:View) (h:List Res):LOk m h B9:=⟨Rd.nilF exE 6 m h,fun _ hx=>(List.not_mem_nil hx).elim⟩
theorem c3M (m:View) (h:List Res):PrOk m h none 0 0 []:=⟨Rd.nilF encV 2 m h,fun _ hx=>(List.not_mem_nil hx).elim,fun _ hx=>(List.not_mem_nil hx).elim⟩
theorem c4s:TyW Go.Ty.zeroT:=⟨by decide,by decide,by decide,by decide⟩
structure SpF (m:View) (h:List Res) (ty:Ty) (e:Ex) (vs:Sli Vr) (fs:Sli Fo):Prop where
 t:TyW ty
 e:EOk m h e
 v:PrOk m h vs.a vs.l.length vs.c vs.l
 vw:∀ x ∈ vs.l,x.items.length=x.n
 f:Rd m h fs.a fs.l.length fs.c 6 (fl foE fs.l)
 fw:∀ x ∈ fs.l,FoW x
theorem c3A {m:View} {h:List Res} {k:Int} {ty:Ty} {nm:Sli B} {e:Ex} {cs:Bool} {vs:Sli Vr} {fs:Sli Fo} {ba:Option Addr} {bc:Nat} {bl:List Pr} (hk:0≤k∧k≤255) (q:SpF m h ty e vs fs) (hn:Rd m h nm.a nm.l.length nm.c 1 (fl encB nm.l)) (hw:∀ x ∈ nm.l,x.length≤Big)
   (hb:Rd m h ba bl.length bc 42 (fl prE bl)) (hp:∀ x ∈ bl,POk m h x):SK m h (.mk k ty nm e cs vs fs ba bc bl):=⟨⟨hk,q.t,hn,hw,q.e,q.v,q.vw,q.f,q.fw,hb⟩,hp⟩
theorem b4n {α:Type} {p:α→Prop}:∀ x ∈ (B9:Sli α).l,p x:=fun _ hx=>(List.not_mem_nil hx).elim
theorem c4M (m:View) (h:List Res):SK m h D4:=c3A (by decide) ⟨c4s,b3Y m h,c3M m h,b4n,Rd.nilF foE 6 m h,b4n⟩ (Rd.nilF encB 1 m h) b4n (Rd.nilF prE 42 m h) (fun _ hx=>(List.not_mem_nil hx).elim)
end Go.Proofs.YtcfemegngeijcaaGreatDoor
end
section
namespace Go.Proofs.YtcfemegngeijcaaGreatDoor
set_option maxRecDepth 100000
set_option maxHeartbeats 2000000
open Go.Eng Go.Pc Go
open Go.Xp hiding B E5
open Go.Ty (Ty Vr eqT tyV I8 PrOk VOk encV D9 M0 D5 eqI a2k a2h)
open Go.Lx (encB C8)
theorem c05 {m:View} {h:List Res} {nm:B} {ch:Ex} {tg ex:Sli Ex} {pn:Sli Int} {sp:Sp} (hn:nm.length≤Big) (hc:EOk m h ch) (ht:LOk m h tg) (he:LOk m h ex) (hpn:Rd m h pn.a pn.l.length pn.c 1 (fl a2e pn.l)) (hpw:∀ x ∈ pn.l,-9223372036854775808≤x∧x≤9223372036854775807) (hs:SK m h sp) :
   POk m h (c4A nm ch tg ex pn sp):=
 .mk ⟨by show 0≤(0:Int)∧(0:Int)≤255;decide,hn,hc,ht,he,Nat.zero_le _,b3Y m h,b3Y m h,Rd.nilF guE 23 m h,fun _ hx=>(List.not_mem_nil hx).elim,Rd.nilF prE 42 m h,hpn,hpw,hs.o⟩ fun x hx=>by cases hx with
   | l q=>exact(List.not_mem_nil q).elim
   | s q=>exact hs.b x q
   | g q _=>exact(List.not_mem_nil q).elim
theorem c2n (m:View) (h:List Res):POk m h a9y:=c05 (by decide) (b3Y m h) (c1w m h) (c1w m h) (Rd.nilF a2e 1 m h) b4n (c4M m h)
end Go.Proofs.YtcfemegngeijcaaGreatDoor
end
section
namespace Go.Proofs.YtcfemegngeijcaaGreatDoor
set_option maxRecDepth 100000
set_option maxHeartbeats 2000000
open Go.Eng Go.Pc Go.Sx Go
open Go.Xp hiding B E5
open Go.Ty (Ty Vr Tok eqT tyV I8 B4 B6 R7 zeroK M0 D5 encV D9 VOk PrOk)
open Go.Lx (encB C8 textO)
open Go.Ly (Rw Q6 I6 eqR b0c a9w b02)
theorem pt0:a4K [120,44,32,121,32,58,61,32,49,44,32,118,91,105,93]=true:=by decide +kernel
theorem pm0:a2Q [120,44,32,121,32,58,61,32,49,44,32,118,91,105,93] 3=true:=by decide +kernel
theorem pt1:a4K [73,78,84,32,120,58,47,83,69,81,32,105,32,61,32,48,32,70,79,82,32,52,47,46,99,32,33,32,120]=true:=by decide +kernel
theorem pm1:a2Q [73,78,84,32,120,58,47,83,69,81,32,105,32,61,32,48,32,70,79,82,32,52,47,46,99,32,33,32,120] 18=true:=by decide +kernel
theorem pt2:a4K [65,76,84,47,46,110,32,62,32,48,32,38,32,99,32,63,32,120,47,46,46,83,75,73,80,47,46,116,32,63,32,65,70,84,69,82,32,110,47,46,46,83,84,79,80]=true:=by decide +kernel
theorem pm2:a2Q [65,76,84,47,46,110,32,62,32,48,32,38,32,99,32,63,32,120,47,46,46,83,75,73,80,47,46,116,32,63,32,65,70,84,69,82,32,110,47,46,46,83,84,79,80] 12=true:=by decide +kernel
theorem pt3:a4K [80,82,79,84,79,67,79,76,32,112,47,46,67,65,83,69,47,46,46,112,117,116,59,32,73,78,84,47,46,46,101,110,100,47,58,47,83,75,73,80]=true:=by decide +kernel
theorem pm3:a2Q [80,82,79,84,79,67,79,76,32,112,47,46,67,65,83,69,47,46,46,112,117,116,59,32,73,78,84,47,46,46,101,110,100,47,58,47,83,75,73,80] 18=true:=by decide +kernel
theorem pt4:a4K [87,72,73,76,69,32,84,82,85,69,47,46,83,75,73,80]=true:=by decide +kernel
theorem pm4:a2Q [87,72,73,76,69,32,84,82,85,69,47,46,83,75,73,80] 16=true:=by decide +kernel
theorem ft0:a4K [83,69,81,47,46,120,32,58,61,32,49,47,46,46,83,75,73,80]=true:=by decide +kernel
theorem fm0:a2i [83,69,81,47,46,120,32,58,61,32,49,47,46,46,83,75,73,80] 2 110=true:=by decide +kernel
theorem ft1:a4K [83,69,81,32,105,32,61,32,48,32,70,79,82,32,51,47,46,83,75,73,80,47,46,83,75,73,80]=true:=by decide +kernel
theorem fm1:a2i [83,69,81,32,105,32,61,32,48,32,70,79,82,32,51,47,46,83,75,73,80,47,46,83,75,73,80] 2 110=true:=by decide +kernel
theorem ft2:a4K [83,75,73,80,47,83,75,73,80]=true:=by decide +kernel
theorem fm2:a2i [83,75,73,80,47,83,75,73,80] 1 110=true:=by decide +kernel
theorem ft3:a4K [40,120,41,32,58,61,32,49]=true:=by decide +kernel
theorem fm3:a2i [40,120,41,32,58,61,32,49] 0 110=true:=by decide +kernel
theorem ft4:a4K [120,32,58,61,32,49,32,43,32,50,32,43,32,51]=true:=by decide +kernel
theorem fm4:a2i [120,32,58,61,32,49,32,43,32,50,32,43,32,51] 0 110=true:=by decide +kernel
theorem ft5:a4K [83,69,81,47,46,120,32,58,61,32,36]=true:=by decide +kernel
theorem fm5:a2i [83,69,81,47,46,120,32,58,61,32,36] 1 80=true:=by decide +kernel
theorem ft6:a4K [73,78,84,32,120,58]=true:=by decide +kernel
theorem fm6:a2i [73,78,84,32,120,58] 1 110=true:=by decide +kernel
theorem ft7:a4K [80,82,73,32,80,65,82,47,46,83,75,73,80]=true:=by decide +kernel
theorem fm7:a2i [80,82,73,32,80,65,82,47,46,83,75,73,80] 2 110=true:=by decide +kernel
theorem a0A {m:View} (hg:Glob m) (s:B) (n e:Int) (hT:TxtOk s) (hM:a2i s n e=true) (h:List Res) :
   CT Tryz.prog 15 [str s,.int .i64 n,.int .i64 e] h m (A6 h (.bool true)):=by
 unfold a2i at hM
 simp only[Bool.and_eq_true,beq_iff_eq] at hM
 obtain⟨⟨hM1,hM2⟩,hM3⟩:=hM
 refine CT.body Tryz.call15 Tryz.func15 rfl Tryz.ntmps15 Lb rfl ?_
 refine kQ1 [0,1,2] ?_
 refine kA1 ?_
 refine xg (E1 Et) (b05 hg s hT.n hT.l hT.p _) ?_
 rintro _ _ ⟨a12,c12,_,rfl,rfl,rfl⟩
 refine xg (E1 Et) (a8X hg _ _ (X8 s) _ hT.t) ?_
 rintro _ _ ⟨x,hh,rfl,hst,hok,rfl⟩
 rw[hM2,hM3]
 have hsx:H1 x a9y=true:=by rw[← c0z,hst];exact hM1
 refine kA4 ?_
 refine xW fun b7=>?_
 refine kQ3 [1,2,7,8,9] ?_
 refine kA2 ?_
 refine xf (E2 Et Et) ((b1Y x a9y _ _ (hok.mono Sb) (c2n m _)).val (congrArg Value.bool hsx)) ?_
 refine kA1 ?_
 refine zU ?_
 refine kA1 ?_
 refine zU ?_
 refine kA1 ?_
 refine zU ?_
 refine kA1 ?_
 refine wV (b':=true) (by simp) ?_
 refine kA2 ?_
 refine zU ?_
 refine kA1 ?_
 refine zU ?_
 refine kA1 ?_
 refine zU ?_
 refine kA1 ?_
 refine wV (b':=true) (by simp) ?_
 refine kQ2 [6] ?_
 refine WC.ret (wR (h) ?_)
 exact⟨rfl,rfl⟩
def skP:Pr:=.mk 1 [] A4 B9 B9 b0l none 0 [] none 0 [] B9 D4
def unP (k:Int) (b:Nat):Pr:=.mk k [] A4 B9 B9 b0l none 0 [] (some ⟨b,0,none⟩) 1 [skP] B9 D4
theorem c1h (m:View) (h:List Res):POk m h skP:=b5P m h (k:=1) (by decide)
theorem c1m {m:View} {h:List Res} {k:Int} {b:Nat} (hk:0≤k∧k≤255) (hb:Res.pt b (.cells (prE skP).toArray 45 (0,0)) ∈ h):POk m h (unP k b):=
 a4p hk (Nat.zero_le _) (F1 _ _) (F8 _ _) (F8 _ _) (U7 _ _) (a0h _ _) ⟨Rd.ofPt rfl (show 1≤9223372036854775807 by decide) hb,fun x hx=>by rw[List.mem_singleton] at hx;subst hx;exact c1h m h⟩ (X3 _ _) (Q8 _ _)
theorem c1X (b:Nat):mayP (unP 10 b)=false:=by kernel_rfl
theorem c2F:mayP skP=true:=by kernel_rfl
theorem c2r (b:Nat):W64 (R6 (unP 16 b))=2:=by kernel_rfl
theorem c4F:(S2 []).2=(0,110):=by kernel_rfl
set_option maxHeartbeats 2000000 in
theorem b8v {m:View} (hg:Glob m) (hp:Pow m) (h:List Res):CT Tryz.prog 9 [] h m (A6 h (.bool true)):=by
 refine CT.body Tryz.call9 Tryz.func9 rfl Tryz.ntmps9 Lb rfl ?_
 refine kQ1 [] ?_
 refine xf (E2 Ev.const Ev.const) (a2w hg hp _ _ (a0k pt0) pm0 _) ?_
 refine kA1 ?_
 refine zU ?_
 refine xf (E2 Ev.const Ev.const) (a2w hg hp _ _ (a0k pt1) pm1 _) ?_
 refine kA2 ?_
 refine zU ?_
 refine xf (E2 Ev.const Ev.const) (a2w hg hp _ _ (a0k pt2) pm2 _) ?_
 refine kA2 ?_
 refine zU ?_
 refine xf (E2 Ev.const Ev.const) (a2w hg hp _ _ (a0k pt3) pm3 _) ?_
 refine kA2 ?_
 refine zU ?_
 refine xf (E2 Ev.const Ev.const) (a2w hg hp _ _ (a0k pt4) pm4 _) ?_
 refine kQ2 [1] ?_
 refine xf (E3 Ev.const Ev.const Ev.const) (a0A hg _ _ _ (a0k ft0) fm0 _) ?_
 refine kA1 ?_
 refine zU ?_
 refine xf (E3 Ev.const Ev.const Ev.const) (a0A hg _ _ _ (a0k ft1) fm1 _) ?_
 refine kA2 ?_
 refine zU ?_
 refine xf (E3 Ev.const Ev.const Ev.const) (a0A hg _ _ _ (a0k ft2) fm2 _) ?_
 refine kA2 ?_
 refine zU ?_
 refine xf (E3 Ev.const Ev.const Ev.const) (a0A hg _ _ _ (a0k ft3) fm3 _) ?_
 refine kA2 ?_
 refine zU ?_
 refine xf (E3 Ev.const Ev.const Ev.const) (a0A hg _ _ _ (a0k ft4) fm4 _) ?_
 refine kA2 ?_
 refine zU ?_
 refine xf (E3 Ev.const Ev.const Ev.const) (a0A hg _ _ _ (a0k ft5) fm5 _) ?_
 refine kA2 ?_
 refine zU ?_
 refine xf (E3 Ev.const Ev.const Ev.const) (a0A hg _ _ _ (a0k ft6) fm6 _) ?_
 refine kA2 ?_
 refine zU ?_
 refine xf (E3 Ev.const Ev.const Ev.const) (a0A hg _ _ _ (a0k ft7) fm7 _) ?_
 refine kQ2 [1,2] ?_
 refine xg (E1 Ev.const) (b0Y hg none 0 [] _ (Rd.nilF Q6 3 m []) nofun) ?_
 rintro _ _ ⟨x,hh,rfl,hst,hok,rfl⟩
 rw[c4F]
 refine kA4 ?_
 refine xW fun b3=>?_
 refine kQ3 [1,2,4,5] ?_
 refine kA1 ?_
 refine xW fun b6=>?_
 refine kQ1 [1,2,4,5,6] ?_
 refine kA2 ?_
 refine zU ?_
 refine kA3 ?_
 refine zU ?_
 refine kA1 ?_
 refine zU ?_
 refine kA3 ?_
 refine zU ?_
 refine kA1 ?_
 refine zU ?_
 refine kA3 ?_
 refine zU ?_
 refine kA1 ?_
 refine zU ?_
 refine xY a04 (EvP.cons Et EvP.nil) fun b62=>?_
 refine zU ?_
 refine kA1 ?_
 refine zU ?_
 refine xf (E1 Et) ((a9W hg (unP 10 b62) (c1m (by decide) Me)).val (congrArg Value.bool (c1X _))) ?_
 refine zU ?_
 refine kA3 ?_
 refine zU ?_
 refine kA1 ?_
 refine zU ?_
 refine xf (E1 Et) ((a9W hg skP (c1h m _)).val (congrArg Value.bool c2F)) ?_
 refine kA2 ?_
 refine zU ?_
 refine kA1 ?_
 refine zU ?_
 refine xY a04 (EvP.cons Et EvP.nil) fun b73=>?_
 refine zU ?_
 refine kA1 ?_
 refine zU ?_
 refine xf (E1 Et) ((c0E (unP 16 b73) _ m (c1m (by decide) Me)).val (congrArg (Value.int .i64) (c2r _))) ?_
 refine zU ?_
 refine kQ3 [0] ?_
 refine WC.ret (wR (h) ?_)
 exact⟨rfl,rfl⟩
end Go.Proofs.YtcfemegngeijcaaGreatDoor
end
section
namespace Go.Proofs.YtcfemegngeijcaaGreatDoor
set_option maxRecDepth 100000
set_option maxHeartbeats 2000000
open Go.Eng Go.Pc Go
open Go.Xp hiding B E5
open Go.Ty (Ty Vr eqT tyV I8 PrOk VOk encV D9 M0 D5 eqI a2k a2h)
open Go.Lx (encB C8)
def eqN (x y:Int):Bool:=x==y
theorem c1y {x y:Int} (h:(x != y)=true):eqN x y=false:=by simpa [eqN] using h
theorem c2m {x y:Int} (h:(x != y)=false):eqN x y=true:=by simpa [eqN] using h
theorem b3h (s1 s2:Option Addr) (n1 c1 n2 c2:Nat) (xs ys:List _) (h:List Res) (m:View) (h1:Rd m h s1 n1 c1 1 (fl a2e xs)) (h2:Rd m h s2 n2 c2 1 (fl a2e ys)) :
   CT Tryz.prog 19 [.slice s1 n1 c1,.slice s2 n2 c2] h m (A6 h (.bool (eqL eqN xs ys))):=by
 have l1:=h1.lenF a2u (by decide)
 have l2:=h2.lenF a2u (by decide)
 have m1:=h1.mx
 have m2:=h2.mx
 have k1:=h1.le
 have k2:=h2.le
 refine CT.body Tryz.call19 Tryz.func19 rfl Tryz.ntmps19 Lb rfl ?_
 refine kQ1 [0,1] ?_
 refine kQ5 [0,1,10] ?_
 refine wc (fun c10=>?_) fun c10=>?_
 replace c10:=a0C c10
 refine kQ1 [4] ?_
 refine WC.ret (wR (h) ?_)
 exact⟨by rw[M9 _ _ _ (by omega)],rfl⟩
 replace c10:=a0x c10
 refine kQ0 [0,1] ?_
 refine kQ3 [0,1,12,13] ?_
 refine B2 [0,1,12] rfl (fun μ F' h'=>∃ k:Nat,(k≤n1∧eqL eqN xs ys=eqL eqN (xs.drop k) (ys.drop k))∧n1 - k=μ∧F'=[(13,.int .i64 k)]∧h=h') (n1 - 0) [(13,.int .i64 0)] (h0:=h) ?_ Sb ⟨0,⟨by omega,by simp⟩,rfl,rfl,rfl⟩ ?_
 exact Su
 rintro _ _ _ ⟨k,⟨hk,hJ⟩,rfl,rfl,rfl⟩
 refine B3 rfl ?_
 refine kQ1 [0,1,12,13,14] ?_
 refine wc (fun c14=>?_) fun c14=>?_
 replace c14:=dT c14
 obtain⟨x,hx⟩:=A7 (l:=xs) (k:=k) (by omega)
 obtain⟨y,hy⟩:=A7 (l:=ys) (k:=k) (by omega)
 rw[L8 _ hx hy] at hJ
 refine kQ0 [0,1,12,13] ?_
 refine kQ2 [0,1,5,12,13] ?_
 refine dS [] (.op 0 (.op 1 (.op 2 (.op 3 (.op 4 (.op 5 (.op 6 (.op 7 .nil)))))))) [8] D7 ?_
 refine kA8 ?_
 refine SR.nil rfl rfl ?_
 refine kQ1 [0,1,12,13,24] ?_
 refine wc (fun c24=>?_) fun c24=>?_
 refine kQ1 [4] ?_
 refine WC.ret (wR (h) ?_)
 exact⟨by rw[hJ,c1y c24];rfl,rfl⟩
 rw[c2m c24,Bool.true_and] at hJ
 refine kQ0 [0,1,12,13] ?_
 refine kA2 ?_
 refine WL.nil (A8 (n1 - (k+1)) [(13,.int .i64 (k+1))] (h'':=h) (by omega) ?_ Su Sb ⟨k+1,⟨by omega,hJ⟩,rfl,rfl,rfl⟩)
 exact Su
 replace c14:=dF c14
 refine kQ0 [] ?_
 refine kQ1 [4] ?_
 refine WC.ret (wR (h) ?_)
 exact⟨by rw[hJ,List.drop_eq_nil_of_le (by omega),List.drop_eq_nil_of_le (by omega)];rfl,rfl⟩
theorem c0e (q:FuncId) (pr:Ex→Ex→Bool) (s1 s2:Option Addr) (n1 c1 n2 c2:Nat) (xs ys:List Ex) (h:List Res) (m:View) (h1:Rd m h s1 n1 c1 6 (fl exE xs)) (h2:Rd m h s2 n2 c2 6 (fl exE ys))
   (hq:∀ x ∈ xs,∀ y ∈ ys,∀ h',h.Sublist h'→CT Tryz.prog q ([]++[exV x,exV y]++[]) h' m (A6 h' (.bool (pr x y)))) :
   CT Tryz.prog 36 [.slice s1 n1 c1,.slice s2 n2 c2,.func (.func q) #[] #[]] h m (A6 h (.bool (eqL pr xs ys))):=by
 have l1:=h1.lenF a0n (by decide)
 have l2:=h2.lenF a0n (by decide)
 have m1:=h1.mx
 have m2:=h2.mx
 have k1:=h1.le
 have k2:=h2.le
 refine CT.body Tryz.call36 Tryz.func36 rfl Tryz.ntmps36 Lb rfl ?_
 refine kQ1 [0,1,2] ?_
 refine kQ5 [0,1,2,14] ?_
 refine wc (fun c14=>?_) fun c14=>?_
 replace c14:=a0C c14
 refine kQ1 [6] ?_
 refine WC.ret (wR (h) ?_)
 exact⟨by rw[M9 _ _ _ (by omega)],rfl⟩
 replace c14:=a0x c14
 refine kQ0 [0,1,2] ?_
 refine kQ3 [1,2,15,16,17] ?_
 refine B2 [1,2,15,16] rfl (fun μ F' h'=>∃ k:Nat,(k≤n1∧eqL pr xs ys=eqL pr (xs.drop k) (ys.drop k))∧n1 - k=μ∧F'=[(17,.int .i64 k)]∧h=h') (n1 - 0) [(17,.int .i64 0)] (h0:=h) ?_ Sb ⟨0,⟨by omega,by simp⟩,rfl,rfl,rfl⟩ ?_
 exact Su
 rintro _ _ _ ⟨k,⟨hk,hJ⟩,rfl,rfl,rfl⟩
 refine B3 rfl ?_
 refine kQ1 [1,2,15,16,17,18] ?_
 refine wc (fun c18=>?_) fun c18=>?_
 replace c18:=dT c18
 obtain⟨x,hx⟩:=A7 (l:=xs) (k:=k) (by omega)
 obtain⟨y,hy⟩:=A7 (l:=ys) (k:=k) (by omega)
 rw[L8 _ hx hy] at hJ
 refine kQ0 [1,2,15,16,17] ?_
 refine kA3 ?_
 refine xW fun b8=>?_
 refine kQ2 [1,2,7,8,15,16,17] ?_
 refine kA4 ?_
 refine xW fun b9=>?_
 refine kQ1 [1,2,8,9,15,16,17] ?_
 refine kA3 ?_
 refine K9 (Ev.tmp rfl) (E2 (Ev.tmp rfl) (Ev.tmp rfl)) (hq x (List.mem_of_getElem? hx) y (List.mem_of_getElem? hy) _ Sb) Lb ?_
 refine kQ1 [1,2,15,16,17,30] ?_
 refine wc (fun c30=>?_) fun c30=>?_
 have d30:pr x y=false:=by simpa using c30
 rw[d30] at hJ
 refine kQ1 [6] ?_
 refine WC.ret (wR (h) ?_)
 exact⟨by rw[hJ];rfl,rfl⟩
 have d30:pr x y=true:=by simpa using c30
 rw[d30,Bool.true_and] at hJ
 refine kQ0 [1,2,15,16,17] ?_
 refine kA2 ?_
 refine WL.nil (A8 (n1 - (k+1)) [(17,.int .i64 (k+1))] (h'':=h) (by omega) ?_ Su Sb ⟨k+1,⟨by omega,hJ⟩,rfl,rfl,rfl⟩)
 exact Su
 replace c18:=dF c18
 refine kQ0 [] ?_
 refine kQ1 [6] ?_
 refine WC.ret (wR (h) ?_)
 exact⟨by rw[hJ,List.drop_eq_nil_of_le (by omega),List.drop_eq_nil_of_le (by omega)];rfl,rfl⟩
theorem c0I (q:FuncId) (pr:Gu→Gu→Bool) (s1 s2:Option Addr) (n1 c1 n2 c2:Nat) (xs ys:List Gu) (h:List Res) (m:View) (h1:Rd m h s1 n1 c1 23 (fl guE xs)) (h2:Rd m h s2 n2 c2 23 (fl guE ys))
   (hq:∀ x ∈ xs,∀ y ∈ ys,∀ h',h.Sublist h'→CT Tryz.prog q ([]++[guV x,guV y]++[]) h' m (A6 h' (.bool (pr x y)))) :
   CT Tryz.prog 20 [.slice s1 n1 c1,.slice s2 n2 c2,.func (.func q) #[] #[]] h m (A6 h (.bool (eqL pr xs ys))):=by
 have l1:=h1.lenF a2b (by decide)
 have l2:=h2.lenF a2b (by decide)
 have m1:=h1.mx
 have m2:=h2.mx
 have k1:=h1.le
 have k2:=h2.le
 refine CT.body Tryz.call20 Tryz.func20 rfl Tryz.ntmps20 Lb rfl ?_
 refine kQ1 [0,1,2] ?_
 refine kQ5 [0,1,2,14] ?_
 refine wc (fun c14=>?_) fun c14=>?_
 replace c14:=a0C c14
 refine kQ1 [6] ?_
 refine WC.ret (wR (h) ?_)
 exact⟨by rw[M9 _ _ _ (by omega)],rfl⟩
 replace c14:=a0x c14
 refine kQ0 [0,1,2] ?_
 refine kQ3 [1,2,15,16,17] ?_
 refine B2 [1,2,15,16] rfl (fun μ F' h'=>∃ k:Nat,(k≤n1∧eqL pr xs ys=eqL pr (xs.drop k) (ys.drop k))∧n1 - k=μ∧F'=[(17,.int .i64 k)]∧h=h') (n1 - 0) [(17,.int .i64 0)] (h0:=h) ?_ Sb ⟨0,⟨by omega,by simp⟩,rfl,rfl,rfl⟩ ?_
 exact Su
 rintro _ _ _ ⟨k,⟨hk,hJ⟩,rfl,rfl,rfl⟩
 refine B3 rfl ?_
 refine kQ1 [1,2,15,16,17,18] ?_
 refine wc (fun c18=>?_) fun c18=>?_
 replace c18:=dT c18
 obtain⟨x,hx⟩:=A7 (l:=xs) (k:=k) (by omega)
 obtain⟨y,hy⟩:=A7 (l:=ys) (k:=k) (by omega)
 rw[L8 _ hx hy] at hJ
 refine kQ0 [1,2,15,16,17] ?_
 refine kA3 ?_
 refine xW fun b8=>?_
 refine kQ2 [1,2,7,8,15,16,17] ?_
 refine kA4 ?_
 refine xW fun b9=>?_
 refine kQ1 [1,2,8,9,15,16,17] ?_
 refine kA3 ?_
 refine K9 (Ev.tmp rfl) (E2 (Ev.tmp rfl) (Ev.tmp rfl)) (hq x (List.mem_of_getElem? hx) y (List.mem_of_getElem? hy) _ Sb) Lb ?_
 refine kQ1 [1,2,15,16,17,30] ?_
 refine wc (fun c30=>?_) fun c30=>?_
 have d30:pr x y=false:=by simpa using c30
 rw[d30] at hJ
 refine kQ1 [6] ?_
 refine WC.ret (wR (h) ?_)
 exact⟨by rw[hJ];rfl,rfl⟩
 have d30:pr x y=true:=by simpa using c30
 rw[d30,Bool.true_and] at hJ
 refine kQ0 [1,2,15,16,17] ?_
 refine kA2 ?_
 refine WL.nil (A8 (n1 - (k+1)) [(17,.int .i64 (k+1))] (h'':=h) (by omega) ?_ Su Sb ⟨k+1,⟨by omega,hJ⟩,rfl,rfl,rfl⟩)
 exact Su
 replace c18:=dF c18
 refine kQ0 [] ?_
 refine kQ1 [6] ?_
 refine WC.ret (wR (h) ?_)
 exact⟨by rw[hJ,List.drop_eq_nil_of_le (by omega),List.drop_eq_nil_of_le (by omega)];rfl,rfl⟩
theorem a2S {m:View} {h:List Res} (s1 s2:Option Addr) (n1 c1 n2 c2:Nat) (xs ys:List Ex) (h1:Rd m h s1 n1 c1 6 (fl exE xs)) (h2:Rd m h s2 n2 c2 6 (fl exE ys)) (o1:∀ x ∈ xs,TOk m h x) (o2:∀ x ∈ ys,TOk m h x) :
   CT Tryz.prog 18 [.slice s1 n1 c1,.slice s2 n2 c2] h m (A6 h (.bool (eqL D8 xs ys))):=by
 refine CT.body Tryz.call18 Tryz.func18 rfl Tryz.ntmps18 Lb rfl ?_
 refine kQ1 [0,1] ?_
 refine kA2 ?_
 refine xf (E3 Et Et Ev.func) (c0e 17 D8 _ _ _ _ _ _ xs ys _ _ h1 h2 (fun z hz w hw h2 hh=>a0P z w _ _ ((o1 z hz).mono hh) ((o2 w hw).mono hh))) ?_
 refine kQ1 [4] ?_
 refine WC.ret (wR (h) ?_)
 exact⟨rfl,rfl⟩
theorem a9z (x:Gu) (ih:∀ z ∈ x.bl,∀ (y:Pr) (h:List Res) (m:View),POk m h z→POk m h y→CT Tryz.prog 10 [prV z,prV y] h m (A6 h (.bool (H1 z y)))) (y:Gu) (h:List Res) (m:View) (hx:GK m h x) (hy:GK m h y) :
   CT Tryz.prog 21 [guV x,guV y] h m (A6 h (.bool (S4 x y))):=by
 have v0:=View.le.refl m
 refine CT.body Tryz.call21 Tryz.func21 rfl Tryz.ntmps21 Lb rfl ?_
 refine j0 ?_
 refine xX fun b2=>?_
 refine xX fun b3=>?_
 refine kQ1 [2,3] ?_
 refine a8d ?_
 refine zG (fun hc=>L0 (Eg hc) (Eg hc)) ?_
 refine kA6 ?_
 refine A5 (GU.t rfl rfl) (fun hc=>⟨Ev.func,(E2 (Eg hc) (Eg hc)),a0P x.cond y.cond _ _ (hx.o.cond.t.mono Sb) (hy.o.cond.t.mono Sb)⟩) Lb ?_
 refine kA6 ?_
 refine A5 (GU.t rfl rfl) (fun hc=>⟨Ev.func,(E2 (Eg hc) (Eg hc)),a0P x.ch y.ch _ _ (hx.o.ch.t.mono Sb) (hy.o.ch.t.mono Sb)⟩) Lb ?_
 refine kA6 ?_
 refine A5 (GU.t rfl rfl) (fun hc=>⟨Ev.func,(E2 (Eg hc) (Eg hc)),a0P x.time y.time _ _ (hx.o.time.t.mono Sb) (hy.o.time.t.mono Sb)⟩) Lb ?_
 refine kA6 ?_
 refine A5 (GU.t rfl rfl) (fun hc=>⟨Ev.func,(E2 (Eg hc) (Eg hc)),a2S _ _ _ _ _ _ x.tg.l y.tg.l (hx.o.tg.rd.mono v0 Sb) (hy.o.tg.rd.mono v0 Sb) (fun z hz=>(hx.o.tg.ok z hz).t.mono Sb) (fun z hz=>(hy.o.tg.ok z hz).t.mono Sb)⟩) Lb ?_
 refine kA6 ?_
 refine A5 (GU.t rfl rfl) (fun hc=>⟨Ev.func,(E2 (Eg hc) (Eg hc)),a2S _ _ _ _ _ _ x.vl.l y.vl.l (hx.o.vl.rd.mono v0 Sb) (hy.o.vl.rd.mono v0 Sb) (fun z hz=>(hx.o.vl.ok z hz).t.mono Sb) (fun z hz=>(hy.o.vl.ok z hz).t.mono Sb)⟩) Lb ?_
 refine kA6 ?_
 refine A5 (GU.t rfl rfl) (fun hc=>⟨Ev.func,(E3 (Eg hc) (Eg hc) Ev.func),a6F 10 H1 _ _ _ _ _ _ x.bl y.bl _ _ (hx.o.b.mono v0 Sb) (hy.o.b.mono v0 Sb) (fun z hz w hw h2 hh=>ih z hz w _ _ ((hx.b z hz).mono (List.Sublist.trans Sb hh)) ((hy.b w hw).mono (List.Sublist.trans Sb hh)))⟩) Lb ?_
 refine kQ2 [4] ?_
 refine WC.ret (wR (h) ?_)
 exact⟨by rw[a3f],rfl⟩
theorem b7X (x y:Sp):a0s x y=(V5 x y&&eqL H1 x.bl y.bl):=by
 have e1:eqL (fun a b:B=>a==b) x.names.l y.names.l=(x.names.l==y.names.l):=b0a (fun a b=>by simp) _ _
 rw[a2z,e1]
 unfold V5 Y9
 by_cases hl:x.bl.length=y.bl.length
 · simp only[hl,beq_self_eq_true,Bool.and_true];ac_rfl
 · rw[M9 H1 _ _ hl];simp only[Bool.and_false]
theorem b0u (x:Sp) (ih:∀ z ∈ x.bl,∀ (y:Pr) (h:List Res) (m:View),POk m h z→POk m h y→CT Tryz.prog 10 [prV z,prV y] h m (A6 h (.bool (H1 z y)))) (y:Sp) (h:List Res) (m:View) (hx:SK m h x) (hy:SK m h y) :
   CT Tryz.prog 23 [spV x,spV y] h m (A6 h (.bool (a0s x y))):=by
 have v0:=View.le.refl m
 refine CT.body Tryz.call23 Tryz.func23 rfl Tryz.ntmps23 Lb rfl ?_
 refine j0 ?_
 refine xX fun b2=>?_
 refine xX fun b3=>?_
 refine kQ1 [2,3] ?_
 refine kA2 ?_
 refine xf (E2 Et Et) (a5L x y ((SRd.of hx.o).mono Sb) ((SRd.of hy.o).mono Sb)) ?_
 refine kA5 ?_
 refine A5 (GU.t rfl rfl) (fun hc=>⟨Ev.func,(E3 (Eg hc) (Eg hc) Ev.func),a6F 10 H1 _ _ _ _ _ _ x.bl y.bl _ _ (hx.o.b.mono v0 Sb) (hy.o.b.mono v0 Sb) (fun z hz w hw h2 hh=>ih z hz w _ _ ((hx.b z hz).mono (List.Sublist.trans Sb hh)) ((hy.b w hw).mono (List.Sublist.trans Sb hh)))⟩) Lb ?_
 refine kQ2 [4] ?_
 refine WC.ret (wR (h) ?_)
 exact⟨congrArg Value.bool (b7X x y).symm,rfl⟩
theorem c2T (p q:Pr):H1 p q=((((((((((((p.k==q.k)&&(p.name==q.name))&&D8 p.ch q.ch)&&eqL D8 p.tg.l q.tg.l)&&eqL D8 p.ex.l q.ex.l)&&(p.rep.name==q.rep.name))&&D8 p.rep.base q.rep.base)&&D8 p.rep.count q.rep.count)&&eqL eqN p.pn.l q.pn.l)&&eqL S4 p.gl q.gl)&&eqL H1 p.ll q.ll)&&a0s p.sp q.sp):=by
 rw[a3s]
 unfold a2V
 rw[show(fun a b:Int=>a==b)=eqN from rfl]
 ac_rfl
set_option maxHeartbeats 2000000 in
theorem a4Q (p:Pr):∀ (q:Pr) (h:List Res) (m:View),POk m h p→POk m h q→CT Tryz.prog 10 [prV p,prV q] h m (A6 h (.bool (H1 p q))):=by
 refine Pr.ind (q:=fun p=>∀ (q:Pr) (h:List Res) (m:View),POk m h p→POk m h q→CT Tryz.prog 10 [prV p,prV q] h m (A6 h (.bool (H1 p q)))) (fun p ih q h m hp hq=>?_) p
 have v0:=View.le.refl m
 have x1:=hp.own
 have y1:=hq.own
 refine CT.body Tryz.call10 Tryz.func10 rfl Tryz.ntmps10 Lb rfl ?_
 refine j0 ?_
 refine xX fun b2=>?_
 refine xX fun b3=>?_
 refine kQ1 [2,3] ?_
 refine a8d ?_
 refine zG (fun hc=>L0 (Eg hc) (Eg hc)) ?_
 refine kA6 ?_
 refine A5 (GU.t rfl rfl) (fun hc=>⟨Ev.func,(E2 (Eg hc) (Eg hc)),a0P p.ch q.ch _ _ (x1.ch.t.mono Sb) (y1.ch.t.mono Sb)⟩) Lb ?_
 refine kA6 ?_
 refine A5 (GU.t rfl rfl) (fun hc=>⟨Ev.func,(E2 (Eg hc) (Eg hc)),a2S _ _ _ _ _ _ p.tg.l q.tg.l (x1.tg.rd.mono v0 Sb) (y1.tg.rd.mono v0 Sb) (fun z hz=>(x1.tg.ok z hz).t.mono Sb) (fun z hz=>(y1.tg.ok z hz).t.mono Sb)⟩) Lb ?_
 refine kA6 ?_
 refine A5 (GU.t rfl rfl) (fun hc=>⟨Ev.func,(E2 (Eg hc) (Eg hc)),a2S _ _ _ _ _ _ p.ex.l q.ex.l (x1.ex.rd.mono v0 Sb) (y1.ex.rd.mono v0 Sb) (fun z hz=>(x1.ex.ok z hz).t.mono Sb) (fun z hz=>(y1.ex.ok z hz).t.mono Sb)⟩) Lb ?_
 refine kA8 ?_
 refine zG (fun hc=>L0 (Eg hc) (Eg hc)) ?_
 refine kA8 ?_
 refine A5 (GU.t rfl rfl) (fun hc=>⟨Ev.func,(E2 (Eg hc) (Eg hc)),a0P p.rep.base q.rep.base _ _ (x1.rb.t.mono Sb) (y1.rb.t.mono Sb)⟩) Lb ?_
 refine kA8 ?_
 refine A5 (GU.t rfl rfl) (fun hc=>⟨Ev.func,(E2 (Eg hc) (Eg hc)),a0P p.rep.count q.rep.count _ _ (x1.rc.t.mono Sb) (y1.rc.t.mono Sb)⟩) Lb ?_
 refine kA6 ?_
 refine A5 (GU.t rfl rfl) (fun hc=>⟨Ev.func,(E2 (Eg hc) (Eg hc)),b3h _ _ _ _ _ _ p.pn.l q.pn.l _ _ (x1.pn.mono v0 Sb) (y1.pn.mono v0 Sb)⟩) Lb ?_
 refine kA6 ?_
 refine A5 (GU.t rfl rfl) (fun hc=>⟨Ev.func,(E3 (Eg hc) (Eg hc) Ev.func),c0I 21 S4 _ _ _ _ _ _ p.gl q.gl _ _ (x1.g.mono v0 Sb) (y1.g.mono v0 Sb) (fun z hz w hw h2 hh=>a9z z (fun u hu=>ih u (.g hz hu)) w _ _ ((b4g hp z hz).mono (List.Sublist.trans Sb hh)) ((b4g hq w hw).mono (List.Sublist.trans Sb hh)))⟩) Lb ?_
 refine kA6 ?_
 refine A5 (GU.t rfl rfl) (fun hc=>⟨Ev.func,(E3 (Eg hc) (Eg hc) Ev.func),a6F 10 H1 _ _ _ _ _ _ p.ll q.ll _ _ (x1.l.mono v0 Sb) (y1.l.mono v0 Sb) (fun z hz w hw h2 hh=>ih z (.l hz) w _ _ ((hp.sub (.l hz)).mono (List.Sublist.trans Sb hh)) ((hq.sub (.l hw)).mono (List.Sublist.trans Sb hh)))⟩) Lb ?_
 refine kA6 ?_
 refine A5 (GU.t rfl rfl) (fun hc=>⟨Ev.func,(E2 (Eg hc) (Eg hc)),b0u p.sp (fun z hz=>ih z (.s hz)) q.sp _ _ ((b4u hp).mono Sb) ((b4u hq).mono Sb)⟩) Lb ?_
 refine kQ2 [4] ?_
 refine WC.ret (wR (h) ?_)
 exact⟨by rw[c2T],rfl⟩
theorem W2 {α:Type} {q:α→α→Bool}:∀ l r:List α,(∀ x ∈ l,∀ y,q x y=q y x)→eqL q l r=eqL q r l
 | [],[],_=>rfl
 | [],_::_,_=>rfl
 | _::_,[],_=>rfl
 | a::r,b::s,h=>by show(q a b&&eqL q r s)=(q b a&&eqL q s r);rw[h a (List.mem_cons_self ..) b,W2 r s (fun x hx=>h x (List.mem_cons_of_mem _ hx))]
theorem S7 (a b:Ex):D8 a b=D8 b a:=by rw[Bool.eq_iff_iff,X6,X6];exact eq_comm
theorem N7 {α:Type} [BEq α] [LawfulBEq α] (a b:α):(a==b)=(b==a):=by rw[Bool.eq_iff_iff,beq_iff_eq,beq_iff_eq];exact eq_comm
theorem b0U (a b:Ty):eqT a b=eqT b a:=by rw[Bool.eq_iff_iff,Go.Ty.eqT_iff,Go.Ty.eqT_iff];exact eq_comm
theorem b5L (a b:Fo):a0R a b=a0R b a:=by unfold a0R;rw[N7 a.val,b0U a.ty,N7 a.name]
theorem b1s (a b:Vr):R1 a b=R1 b a:=by unfold R1;rw[N7 a.tag,N7 a.items]
theorem a1Q (l r:List Ex):eqL D8 l r=eqL D8 r l:=W2 l r fun x _ y=>S7 x y
theorem b2I (p:Pr):∀ q,H1 p q=H1 q p:=by
 refine Pr.ind (q:=fun p=>∀ q,H1 p q=H1 q p) (fun p ih q=>?_) p
 have hs:a0s p.sp q.sp=a0s q.sp p.sp:=by
   rw[a2z,a2z,N7 p.sp.k,b0U p.sp.ty,W2 p.sp.fs.l _ fun x _ y=>b5L x y,W2 p.sp.names.l _ fun x _ y=>N7 x y,S7 p.sp.e,W2 p.sp.bl _ fun x hx y=>ih x (.s hx) y]
   unfold Y9
   rw[N7 p.sp.cs,W2 p.sp.vs.l _ fun x _ y=>b1s x y]
 have hg:eqL S4 p.gl q.gl=eqL S4 q.gl p.gl:=W2 p.gl _ fun x hx y=>by
   rw[a3f,a3f,N7 x.k,N7 x.name,S7 x.cond,S7 x.ch,S7 x.time,a1Q x.tg.l,a1Q x.vl.l,W2 x.bl _ fun z hz w=>ih z (.g hx hz) w]
 rw[a3s p q,a3s q p,hs,hg,W2 p.pn.l _ fun x _ y=>N7 x y,N7 p.k,N7 p.name,S7 p.ch,a1Q p.tg.l,a1Q p.ex.l,W2 p.ll _ fun x hx y=>ih x (.l hx) y]
 unfold a2V
 rw[N7 p.rep.name,S7 p.rep.base,S7 p.rep.count]
theorem R8 {α:Type} {q:α→α→Bool}:∀ l:List α,(∀ x ∈ l,q x x=true)→eqL q l l=true
 | [],_=>rfl
 | x::r,h=>by show(q x x&&eqL q r r)=true;rw[h x (List.mem_cons_self ..),R8 r (fun y hy=>h y (List.mem_cons_of_mem _ hy))];rfl
theorem T7 (e:Ex):D8 e e=true:=(X6 e e).2 rfl
theorem a1Z (l:List Ex):eqL D8 l l=true:=R8 l fun x _=>T7 x
theorem b2y (p:Pr):H1 p p=true:=by
 refine Pr.ind (q:=fun p=>H1 p p=true) (fun p ih=>?_) p
 have hs:a0s p.sp p.sp=true:=by
   rw[a2z,(Go.Ty.eqT_iff _ _).2 rfl,R8 p.sp.fs.l fun x _=>by unfold a0R;simp[(Go.Ty.eqT_iff _ _).2 rfl],R8 p.sp.names.l fun x _=>by simp,T7,R8 p.sp.bl fun x hx=>ih x (.s hx)]
   unfold Y9
   rw[R8 p.sp.vs.l fun x _=>by unfold R1;simp]
   simp
 have hg:eqL S4 p.gl p.gl=true:=R8 p.gl fun x hx=>by
   rw[a3f,T7,T7,T7,a1Z,a1Z,R8 x.bl fun z hz=>ih z (.g hx hz)];simp
 rw[a3s,hs,hg,R8 p.pn.l fun x _=>by simp,T7,a1Z,a1Z,R8 p.ll fun x hx=>ih x (.l hx)]
 unfold a2V
 rw[T7,T7]
 simp
end Go.Proofs.YtcfemegngeijcaaGreatDoor
end
section
namespace Go.Proofs.YtcfemegngeijcaaGreatDoor
set_option maxRecDepth 100000
set_option maxHeartbeats 2000000
open Go.Eng Go.Pc Go.Sx Go
open Go.Xp hiding B E5
def Law:Value→View→List Res→Prop:=fun v _ _=>v=.bool true
theorem b8l {m:View} (hg:Glob m) (hp:Pow m) (p q:Pr) (h:List Res) (hP:POk m h p) (hQ:POk m h q):CT Tryz.prog 4 [prV p,prV q] h m Law:=by
 refine CT.body Tryz.call4 Tryz.func4 rfl Tryz.ntmps4 Lb rfl ?_
 refine j0 ?_
 refine xX fun b2=>?_
 refine xX fun b3=>?_
 refine kQ1 [2,3] ?_
 refine dS [2,5,10,15] (.op 0 (.op 1 (.op 3 (.op 4 (.op 2 (.op 5 (.op 6 (.op 7 (.op 8 (.op 9 (.op 10 (.op 11 (.op 12 (.op 13 (.op 14 (.op 16 (.op 17 (.op 15 .nil)))))))))))))))))) [18,19,20,21,22,23,24] D7 ?_
 refine kA4 ?_
 refine yf rfl (E2 Et Et) (fun fr=>a4Q p q _ _ (hP.mono Sb) (hQ.mono Sb)) ?_
 refine yf rfl (E2 Et Et) (fun fr=>b1Y p q _ _ (hP.mono Sb) (hQ.mono Sb)) ?_
 refine yG rfl (b08 uu4 Et Et) ?_
 refine SR.val (v':=.bool true) (congrArg Value.bool (by simp)) ?_
 refine kA1 ?_
 refine yU rfl (pA O9) ?_
 refine yU rfl (pA O9) ?_
 refine b1T rfl rfl (GU.t rfl rfl) rfl Ev.func (E2 Et Et) (fun fr=>CT.val (a4Q p p _ _ (hP.mono Sb) (hP.mono Sb)) (congrArg Value.bool (b2y p))) Lb ?_
 refine kA2 ?_
 refine yU rfl (pA O9) ?_
 refine yU rfl (pA O9) ?_
 refine yU rfl (pA O9) ?_
 refine yU rfl (pA O9) ?_
 refine b1T rfl rfl (GU.t rfl rfl) rfl Ev.func (E2 Et Et) (fun fr=>a4Q q p _ _ (hQ.mono Sb) (hP.mono Sb)) Lb ?_
 refine SR.nil rfl rfl ?_
 refine zU ?_
 refine xf (E2 Et Et) (a4Q p q _ _ (hP.mono Sb) (hQ.mono Sb)) ?_
 refine zU ?_
 refine xG (b08 uu4 Et Et) ?_
 refine wV (b':=true) (by rw[b2I q p];simp) ?_
 refine kA2 ?_
 refine zU ?_
 refine xf E0 (b8v hg hp _) ?_
 refine kQ2 [4] ?_
 refine WC.ret (wR (h) ?_)
 rfl
end Go.Proofs.YtcfemegngeijcaaGreatDoor
end

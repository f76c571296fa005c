import Derived.Test.YtkemgjnejlkkcaaGreatDoorLNumbersZ6
import Derived.Lib.SplitLaws
section
namespace Go.Proofs.YtkemgjnejlkkcaaGreatDoor
set_option maxRecDepth 100000
set_option maxHeartbeats 2000000
open Go.Eng Go.Pc Go
open Go.Xp hiding B D9
open Go.Ty (Ty Vr eqT tyV J2 PrOk VOk encV E5 M5 D6 eqI a2p a2l)
open Go.Lx (encB D1)
def eqB (x y:B):Bool:=x==y
theorem c3f {x y:B} (h:(!(x==y))=true):eqB x y=false:=by simpa [eqB] using h
theorem c3j {x y:B} (h:(!(x==y))=false):eqB x y=true:=by simpa [eqB] using h
theorem b4h (s1 s2:Option Addr) (n1 c1 n2 c2:Nat) (xs ys:List _) (h:List Res) (m:View) (h1:Rd m h s1 n1 c1 1 (fl encB xs)) (h2:Rd m h s2 n2 c2 1 (fl encB ys)) :
   CT Tryz.prog 37 [.slice s1 n1 c1,.slice s2 n2 c2] h m (A7 h (.bool (eqL eqB xs ys))):=by
 have l1:=h1.lenF D1 (by decide)
 have l2:=h2.lenF D1 (by decide)
 have m1:=h1.mx
 have m2:=h2.mx
 have k1:=h1.le
 have k2:=h2.le
 refine CT.body Tryz.call37 Tryz.func37 rfl Tryz.ntmps37 Lb rfl ?_
 refine kQ1 [0,1] ?_
 refine kQ5 [0,1,10] ?_
 refine wc (fun c10=>?_) fun c10=>?_
 replace c10:=a1p c10
 refine kQ1 [4] ?_
 refine WC.ret (wR (h) ?_)
 exact⟨by rw[Q4 _ _ _ (by omega)],rfl⟩
 replace c10:=a1y c10
 refine kQ0 [0,1] ?_
 refine kQ1 [0,1,5] ?_
 refine B1 [0,1] rfl (fun μ F' h'=>∃ k:Nat,(k≤n1∧eqL eqB xs ys=eqL eqB (xs.drop k) (ys.drop k))∧n1 - k=μ∧F'=[(5,.int .i64 k)]∧h=h') (n1 - 0) [(5,.int .i64 0)] (h0:=h) ?_ Sb ⟨0,⟨by omega,by simp⟩,rfl,rfl,rfl⟩ ?_
 exact Su
 rintro _ _ _ ⟨k,⟨hk,hJ⟩,rfl,rfl,rfl⟩
 refine B3 rfl ?_
 refine kQ4 [0,1,5,14] ?_
 refine wc (fun c14=>?_) fun c14=>?_
 replace c14:=dT c14
 obtain⟨x,hx⟩:=A5 (l:=xs) (k:=k) (by omega)
 obtain⟨y,hy⟩:=A5 (l:=ys) (k:=k) (by omega)
 rw[O2 _ hx hy] at hJ
 refine kQ0 [0,1,5] ?_
 refine dS [] (.op 0 (.op 1 (.op 2 (.op 3 (.op 4 (.op 5 (.op 6 (.op 7 .nil)))))))) [8] D8 ?_
 refine kA8 ?_
 refine SR.nil rfl rfl ?_
 refine xG (Q2 Et Et) ?_
 refine kQ0 [0,1,5,25] ?_
 refine wc (fun c25=>?_) fun c25=>?_
 refine kQ1 [4] ?_
 refine WC.ret (wR (h) ?_)
 exact⟨by rw[hJ,c3f c25];rfl,rfl⟩
 rw[c3j c25,Bool.true_and] at hJ
 refine kQ0 [0,1,5] ?_
 refine kA3 ?_
 refine WL.nil (A6 (n1 - (k+1)) [(5,.int .i64 (k+1))] (h'':=h) (by omega) ?_ Su Sb ⟨k+1,⟨by omega,hJ⟩,rfl,rfl,rfl⟩)
 exact Su
 replace c14:=dF c14
 refine kQ0 [] ?_
 refine kQ1 [4] ?_
 refine WC.ret (wR (h) ?_)
 exact⟨by rw[hJ,List.drop_eq_nil_of_le (by omega),List.drop_eq_nil_of_le (by omega)];rfl,rfl⟩
theorem a7O (s1 s2:Option Addr) (n1 c1 n2 c2:Nat) (xs ys:List _) (h:List Res) (m:View) (h1:Rd m h s1 n1 c1 1 (fl M5 xs)) (h2:Rd m h s2 n2 c2 1 (fl M5 ys)) :
   CT Tryz.prog 56 [.slice s1 n1 c1,.slice s2 n2 c2] h m (A7 h (.bool (eqL eqI xs ys))):=by
 have l1:=h1.lenF D6 (by decide)
 have l2:=h2.lenF D6 (by decide)
 have m1:=h1.mx
 have m2:=h2.mx
 have k1:=h1.le
 have k2:=h2.le
 refine CT.body Tryz.call56 Tryz.func56 rfl Tryz.ntmps56 Lb rfl ?_
 refine kQ1 [0,1] ?_
 refine kQ5 [0,1,10] ?_
 refine wc (fun c10=>?_) fun c10=>?_
 replace c10:=a1p c10
 refine kQ1 [4] ?_
 refine WC.ret (wR (h) ?_)
 exact⟨by rw[Q4 _ _ _ (by omega)],rfl⟩
 replace c10:=a1y c10
 refine kQ0 [0,1] ?_
 refine kQ1 [0,1,5] ?_
 refine B1 [0,1] rfl (fun μ F' h'=>∃ k:Nat,(k≤n1∧eqL eqI xs ys=eqL eqI (xs.drop k) (ys.drop k))∧n1 - k=μ∧F'=[(5,.int .i64 k)]∧h=h') (n1 - 0) [(5,.int .i64 0)] (h0:=h) ?_ Sb ⟨0,⟨by omega,by simp⟩,rfl,rfl,rfl⟩ ?_
 exact Su
 rintro _ _ _ ⟨k,⟨hk,hJ⟩,rfl,rfl,rfl⟩
 refine B3 rfl ?_
 refine kQ4 [0,1,5,14] ?_
 refine wc (fun c14=>?_) fun c14=>?_
 replace c14:=dT c14
 obtain⟨x,hx⟩:=A5 (l:=xs) (k:=k) (by omega)
 obtain⟨y,hy⟩:=A5 (l:=ys) (k:=k) (by omega)
 rw[O2 _ hx hy] at hJ
 refine kQ0 [0,1,5] ?_
 refine dS [] (.op 0 (.op 1 (.op 2 (.op 3 (.op 4 (.op 5 (.op 6 (.op 7 .nil)))))))) [8] D8 ?_
 refine kA8 ?_
 refine SR.nil rfl rfl ?_
 refine kQ1 [0,1,5,25] ?_
 refine wc (fun c25=>?_) fun c25=>?_
 refine kQ1 [4] ?_
 refine WC.ret (wR (h) ?_)
 exact⟨by rw[hJ,a2l c25];rfl,rfl⟩
 rw[a2p c25,Bool.true_and] at hJ
 refine kQ0 [0,1,5] ?_
 refine kA3 ?_
 refine WL.nil (A6 (n1 - (k+1)) [(5,.int .i64 (k+1))] (h'':=h) (by omega) ?_ Su Sb ⟨k+1,⟨by omega,hJ⟩,rfl,rfl,rfl⟩)
 exact Su
 replace c14:=dF c14
 refine kQ0 [] ?_
 refine kQ1 [4] ?_
 refine WC.ret (wR (h) ?_)
 exact⟨by rw[hJ,List.drop_eq_nil_of_le (by omega),List.drop_eq_nil_of_le (by omega)];rfl,rfl⟩
structure GK (m:View) (h:List Res) (g:Gu):Prop where
 o:GOk m h g
 b:∀ x ∈ g.bl,POk m h x
theorem GK.mono {m:View} {h h':List Res} {g:Gu} (q:GK m h g) (r:h.Sublist h'):GK m h' g:=⟨q.o.mono r,fun x hx=>(q.b x hx).mono r⟩
theorem a2b (xs:List Ex) (ys:List Ex) (s1 s2:Option Addr) (n1 c1 n2 c2:Nat) (h:List Res) (m:View) (h1:Rd m h s1 n1 c1 6 (fl exE xs)) (h2:Rd m h s2 n2 c2 6 (fl exE ys)) (o1:∀ x ∈ xs,TOk m h x) (o2:∀ x ∈ ys,TOk m h x) :
   CT Tryz.prog 21 [.slice s1 n1 c1,.slice s2 n2 c2] h m (A7 h (.bool (eqL F2 xs ys))):=by
 have l1:=h1.lenF a4c (by decide)
 have l2:=h2.lenF a4c (by decide)
 have m1:=h1.mx
 have m2:=h2.mx
 have k1:=h1.le
 have k2:=h2.le
 refine CT.body Tryz.call21 Tryz.func21 rfl Tryz.ntmps21 Lb rfl ?_
 refine kQ1 [0,1] ?_
 refine kQ5 [0,1,10] ?_
 refine wc (fun c10=>?_) fun c10=>?_
 replace c10:=a1p c10
 refine kQ1 [4] ?_
 refine WC.ret (wR (h) ?_)
 exact⟨by rw[Q4 _ _ _ (by omega)],rfl⟩
 replace c10:=a1y c10
 refine kQ0 [0,1] ?_
 refine kQ1 [0,1,5] ?_
 refine B1 [0,1] rfl (fun μ F' h'=>∃ k:Nat,(k≤n1∧eqL F2 xs ys=eqL F2 (xs.drop k) (ys.drop k))∧n1 - k=μ∧F'=[(5,.int .i64 k)]∧h=h') (n1 - 0) [(5,.int .i64 0)] (h0:=h) ?_ Sb ⟨0,⟨by omega,by simp⟩,rfl,rfl,rfl⟩ ?_
 exact Su
 rintro _ _ _ ⟨k,⟨hk,hJ⟩,rfl,rfl,rfl⟩
 refine B3 rfl ?_
 refine kQ4 [0,1,5,14] ?_
 refine wc (fun c14=>?_) fun c14=>?_
 replace c14:=dT c14
 obtain⟨x,hx⟩:=A5 (l:=xs) (k:=k) (by omega)
 obtain⟨y,hy⟩:=A5 (l:=ys) (k:=k) (by omega)
 rw[O2 _ hx hy] at hJ
 have hxm:=List.mem_of_getElem? hx
 have hxo:=o1 x hxm
 have hyo:=o2 y (List.mem_of_getElem? hy)
 refine kQ0 [0,1,5] ?_
 refine dS [] (.op 0 (.op 1 (.op 2 (.op 3 (.op 4 (.op 5 (.op 6 (.op 7 .nil)))))))) [8,9] D8 ?_
 refine kA8 ?_
 refine SR.nil rfl rfl ?_
 refine xf (E2 Et Et) (a0L x y _ _ (hxo.mono Sb) (hyo.mono Sb)) ?_
 refine kQ1 [0,1,5,26] ?_
 refine wc (fun c26=>?_) fun c26=>?_
 have d26:F2 x y=false:=by simpa using c26
 rw[d26] at hJ
 refine kQ1 [4] ?_
 refine WC.ret (wR (h) ?_)
 exact⟨by rw[hJ];rfl,rfl⟩
 have d26:F2 x y=true:=by simpa using c26
 rw[d26,Bool.true_and] at hJ
 refine kQ0 [0,1,5] ?_
 refine kA3 ?_
 refine WL.nil (A6 (n1 - (k+1)) [(5,.int .i64 (k+1))] (h'':=h) (by omega) ?_ Su Sb ⟨k+1,⟨by omega,hJ⟩,rfl,rfl,rfl⟩)
 exact Su
 replace c14:=dF c14
 refine kQ0 [] ?_
 refine kQ1 [4] ?_
 refine WC.ret (wR (h) ?_)
 exact⟨by rw[hJ,List.drop_eq_nil_of_le (by omega),List.drop_eq_nil_of_le (by omega)];rfl,rfl⟩
theorem a3S (xs:List Pr) (ih:∀ x ∈ xs,∀ (y:Pr) (h:List Res) (m:View),POk m h x→POk m h y→CT Tryz.prog 11 [prV x,prV y] h m (A7 h (.bool (J6 x y)))) (ys:List Pr) (s1 s2:Option Addr) (n1 c1 n2 c2:Nat) (h:List Res) (m:View) (h1:Rd m h s1 n1 c1 42 (fl prE xs)) (h2:Rd m h s2 n2 c2 42 (fl prE ys)) (o1:∀ x ∈ xs,POk m h x) (o2:∀ x ∈ ys,POk m h x) :
   CT Tryz.prog 23 [.slice s1 n1 c1,.slice s2 n2 c2] h m (A7 h (.bool (eqL J6 xs ys))):=by
 have l1:=h1.lenF a1W (by decide)
 have l2:=h2.lenF a1W (by decide)
 have m1:=h1.mx
 have m2:=h2.mx
 have k1:=h1.le
 have k2:=h2.le
 refine CT.body Tryz.call23 Tryz.func23 rfl Tryz.ntmps23 Lb rfl ?_
 refine kQ1 [0,1] ?_
 refine kQ5 [0,1,10] ?_
 refine wc (fun c10=>?_) fun c10=>?_
 replace c10:=a1p c10
 refine kQ1 [4] ?_
 refine WC.ret (wR (h) ?_)
 exact⟨by rw[Q4 _ _ _ (by omega)],rfl⟩
 replace c10:=a1y c10
 refine kQ0 [0,1] ?_
 refine kQ1 [0,1,5] ?_
 refine B1 [0,1] rfl (fun μ F' h'=>∃ k:Nat,(k≤n1∧eqL J6 xs ys=eqL J6 (xs.drop k) (ys.drop k))∧n1 - k=μ∧F'=[(5,.int .i64 k)]∧h=h') (n1 - 0) [(5,.int .i64 0)] (h0:=h) ?_ Sb ⟨0,⟨by omega,by simp⟩,rfl,rfl,rfl⟩ ?_
 exact Su
 rintro _ _ _ ⟨k,⟨hk,hJ⟩,rfl,rfl,rfl⟩
 refine B3 rfl ?_
 refine kQ4 [0,1,5,14] ?_
 refine wc (fun c14=>?_) fun c14=>?_
 replace c14:=dT c14
 obtain⟨x,hx⟩:=A5 (l:=xs) (k:=k) (by omega)
 obtain⟨y,hy⟩:=A5 (l:=ys) (k:=k) (by omega)
 rw[O2 _ hx hy] at hJ
 have hxm:=List.mem_of_getElem? hx
 have hxo:=o1 x hxm
 have hyo:=o2 y (List.mem_of_getElem? hy)
 refine kQ0 [0,1,5] ?_
 refine dS [] (.op 0 (.op 1 (.op 2 (.op 3 (.op 4 (.op 5 (.op 6 (.op 7 .nil)))))))) [8,9] D8 ?_
 refine kA8 ?_
 refine SR.nil rfl rfl ?_
 refine xf (E2 Et Et) (ih x hxm y _ _ (hxo.mono Sb) (hyo.mono Sb)) ?_
 refine kQ1 [0,1,5,26] ?_
 refine wc (fun c26=>?_) fun c26=>?_
 have d26:J6 x y=false:=by simpa using c26
 rw[d26] at hJ
 refine kQ1 [4] ?_
 refine WC.ret (wR (h) ?_)
 exact⟨by rw[hJ];rfl,rfl⟩
 have d26:J6 x y=true:=by simpa using c26
 rw[d26,Bool.true_and] at hJ
 refine kQ0 [0,1,5] ?_
 refine kA3 ?_
 refine WL.nil (A6 (n1 - (k+1)) [(5,.int .i64 (k+1))] (h'':=h) (by omega) ?_ Su Sb ⟨k+1,⟨by omega,hJ⟩,rfl,rfl,rfl⟩)
 exact Su
 replace c14:=dF c14
 refine kQ0 [] ?_
 refine kQ1 [4] ?_
 refine WC.ret (wR (h) ?_)
 exact⟨by rw[hJ,List.drop_eq_nil_of_le (by omega),List.drop_eq_nil_of_le (by omega)];rfl,rfl⟩
theorem b9j (x y:Int):eqI x y=true↔x=y:=by simp[eqI]
theorem b9D (xs ys:List Int):eqL eqI xs ys=(xs==ys):=by
 rw[Bool.eq_iff_iff,b0A b9j]
 simp
theorem b8l {m:View} {h:List Res} {v:Vr} (q:VOk m h v):Rd m h v.a v.n v.c 1 (fl M5 v.items):=q.rd
theorem a8Z (u1 u2:Bool) (s1 s2:Option Addr) (n1 c1 n2 c2:Nat) (xs ys:List Vr) (h:List Res) (m:View) (p1:PrOk m h s1 n1 c1 xs) (p2:PrOk m h s2 n2 c2 ys) :
   CT Tryz.prog 38 [.agg #[.bool u1,.slice s1 n1 c1],.agg #[.bool u2,.slice s2 n2 c2]] h m (A7 h (.bool (a0v u1 xs u2 ys))):=by
 have h1:=p1.rd
 have h2:=p2.rd
 have l1:=h1.lenF E5 (by decide)
 have l2:=h2.lenF E5 (by decide)
 have m1:=h1.mx
 have m2:=h2.mx
 have k1:=h1.le
 have k2:=h2.le
 have e0:a0v u1 xs u2 ys=((u1==u2)&&eqL R6 xs ys):=rfl
 refine CT.body Tryz.call38 Tryz.func38 rfl Tryz.ntmps38 Lb rfl ?_
 refine j0 ?_
 refine xX fun b2=>?_
 refine xX fun b3=>?_
 refine kQ1 [2,3] ?_
 refine kA4 ?_
 refine xG (c1q uu4 Et Et) ?_
 refine kQ9 [2,3,19] ?_
 refine wc (fun c19=>?_) fun c19=>?_
 have d19:a0v u1 xs u2 ys=false:=by
   rw[e0]
   rcases Bool.or_eq_true_iff.1 c19 with c | c
   · have:(u1==u2)=false:=by simpa using c
     rw[this];rfl
   · rw[Q4 R6 xs ys (by simp at c;omega),Bool.and_false]
 refine kQ1 [4] ?_
 refine WC.ret (wR (h) ?_)
 exact⟨by rw[d19],rfl⟩
 have d19:(u1==u2)=true∧n1=n2:=by
   have:=Bool.or_eq_false_iff.1 c19
   exact⟨by simpa using this.1,by have:=this.2;simp at this;omega⟩
 rw[d19.1,Bool.true_and] at e0
 refine kQ0 [2,3] ?_
 refine kQ1 [2,3,5] ?_
 refine B1 [2,3] rfl (fun μ F' h'=>∃ k:Nat,(k≤n1∧a0v u1 xs u2 ys=eqL R6 (xs.drop k) (ys.drop k))∧n1 - k=μ∧F'=[(5,.int .i64 k)]∧.pt b3 (.cells [.bool u2,.slice s2 n2 c2].toArray 47 (0,0))::.pt b2 (.cells [.bool u1,.slice s1 n1 c1].toArray 47 (0,0))::h=h') (n1 - 0) [(5,.int .i64 0)] (h0:=.pt b3 (.cells [.bool u2,.slice s2 n2 c2].toArray 47 (0,0))::.pt b2 (.cells [.bool u1,.slice s1 n1 c1].toArray 47 (0,0))::h) ?_ Sb ⟨0,⟨by omega,by rw[e0];simp⟩,rfl,rfl,rfl⟩ ?_
 exact Su
 rintro _ _ _ ⟨k,⟨hk,hJ⟩,rfl,rfl,rfl⟩
 refine B3 rfl ?_
 refine kQ5 [2,3,5,24] ?_
 refine wc (fun c24=>?_) fun c24=>?_
 replace c24:=dT c24
 obtain⟨x,hx⟩:=A5 (l:=xs) (k:=k) (by omega)
 obtain⟨y,hy⟩:=A5 (l:=ys) (k:=k) (by omega)
 rw[O2 _ hx hy] at hJ
 have hxo:=b8l (p1.ok x (List.mem_of_getElem? hx))
 have hyo:=b8l (p2.ok y (List.mem_of_getElem? hy))
 have hi:=b9D x.items y.items
 refine kQ0 [2,3,5] ?_
 refine dS [] (.op 0 (.op 1 (.op 2 (.op 3 (.op 4 (.op 5 (.op 6 (.op 7 (.op 8 (.op 9 (.op 10 (.op 11 (.op 12 (.op 13 (.op 14 (.op 15 (.op 16 (.op 17 (.op 18 (.op 19 (.op 20 (.op 21 (.op 22 (.op 23 (.op 24 (.op 25 .nil)))))))))))))))))))))))))) [26,27,28] D8 ?_
 refine a7F ?_
 refine yG rfl (Q2 Et Et) ?_
 refine kA1 ?_
 refine B9 rfl rfl (GU.f rfl rfl) (fun hc=>PO.fieldAddr c0c rfl (Nat.ne_of_beq_eq_false rfl) Et) Lb ?_
 refine B9 rfl rfl (GU.f rfl rfl) (fun hc=>D4 c2X rfl (Eg hc) Me rfl) Lb ?_
 refine B9 rfl rfl (GU.f rfl rfl) (fun hc=>PO.move Et) Lb ?_
 refine B9 rfl rfl (GU.f rfl rfl) (fun hc=>F4 a2q.und a2q.size a2q.posz (Eg hc) (Eg hc) (h1.mono (View.le.refl _) Sb) rfl (by omega)) Lb ?_
 refine B9 rfl rfl (GU.f rfl rfl) (fun hc=>F5 b1J rfl (Nat.ne_of_beq_eq_false rfl) E5 (Nat.succ_pos _) (h1.mono (View.le.refl _) Sb) (by assumption) (Eg hc)) Lb ?_
 refine B9 rfl rfl (GU.f rfl rfl) (fun hc=>F8 b5v rfl E5 (h1.mono (View.le.refl _) Sb) (Eg hc) (by assumption) rfl) Lb ?_
 refine B9 rfl rfl (GU.f rfl rfl) (fun hc=>PO.fieldAddr c0c rfl (Nat.ne_of_beq_eq_false rfl) Et) Lb ?_
 refine B9 rfl rfl (GU.f rfl rfl) (fun hc=>D4 c2X rfl (Eg hc) Me rfl) Lb ?_
 refine B9 rfl rfl (GU.f rfl rfl) (fun hc=>PO.move Et) Lb ?_
 refine B9 rfl rfl (GU.f rfl rfl) (fun hc=>F4 a2q.und a2q.size a2q.posz (Eg hc) (Eg hc) (h2.mono (View.le.refl _) Sb) rfl (by omega)) Lb ?_
 refine B9 rfl rfl (GU.f rfl rfl) (fun hc=>F5 b1J rfl (Nat.ne_of_beq_eq_false rfl) E5 (Nat.succ_pos _) (h2.mono (View.le.refl _) Sb) (by assumption) (Eg hc)) Lb ?_
 refine B9 rfl rfl (GU.f rfl rfl) (fun hc=>F8 b5v rfl E5 (h2.mono (View.le.refl _) Sb) (Eg hc) (by assumption) rfl) Lb ?_
 refine SR.nil rfl rfl ?_
 refine A8 (GU.f rfl rfl) (fun hc=>⟨Ev.func,(E2 (Eg hc) (Eg hc)),a7O _ _ _ _ _ _ x.items y.items _ _ (hxo.mono (View.le.refl _) Sb) (hyo.mono (View.le.refl _) Sb)⟩) Lb ?_
 refine kQ2 [2,3,5,55] ?_
 refine wc (fun c55=>?_) fun c55=>?_
 replace c55:((!(x.tag==y.tag))||!(eqL eqI x.items y.items))=true:=c55
 have d55:R6 x y=false:=by
   unfold R6
   rw[← hi]
   cases hq:(x.tag==y.tag) <;> cases hr:eqL eqI x.items y.items <;> simp_all
 rw[d55] at hJ
 refine kQ1 [4] ?_
 refine WC.ret (wR (h) ?_)
 exact⟨by rw[hJ];rfl,rfl⟩
 replace c55:((!(x.tag==y.tag))||!(eqL eqI x.items y.items))=false:=c55
 have d55:R6 x y=true:=by
   unfold R6
   rw[← hi]
   cases hq:(x.tag==y.tag) <;> cases hr:eqL eqI x.items y.items <;> simp_all
 rw[d55,Bool.true_and] at hJ
 refine kQ0 [2,3,5] ?_
 refine kA3 ?_
 refine WL.nil (A6 (n1 - (k+1)) [(5,.int .i64 (k+1))] (h'':=.pt b3 (.cells [.bool u2,.slice s2 n2 c2].toArray 47 (0,0))::.pt b2 (.cells [.bool u1,.slice s1 n1 c1].toArray 47 (0,0))::h) (by omega) ?_ Su Sb ⟨k+1,⟨by omega,hJ⟩,rfl,rfl,rfl⟩)
 exact Su
 replace c24:=dF c24
 refine kQ0 [] ?_
 refine kQ1 [4] ?_
 refine WC.ret (wR (h) ?_)
 exact⟨by rw[hJ,List.drop_eq_nil_of_le (by omega),List.drop_eq_nil_of_le (by omega)];rfl,rfl⟩
theorem a9a (x:Gu) (ih:∀ z ∈ x.bl,∀ (y:Pr) (h:List Res) (m:View),POk m h z→POk m h y→CT Tryz.prog 11 [prV z,prV y] h m (A7 h (.bool (J6 z y)))) (y:Gu) (h:List Res) (m:View) (hx:GK m h x) (hy:GK m h y) :
   CT Tryz.prog 36 [guV x,guV y] h m (A7 h (.bool (W5 x y))):=by
 have v0:=View.le.refl m
 refine CT.body Tryz.call36 Tryz.func36 rfl Tryz.ntmps36 Lb rfl ?_
 refine j0 ?_
 refine xX fun b2=>?_
 refine xX fun b3=>?_
 refine kQ1 [2,3] ?_
 refine a9i ?_
 refine zG (fun hc=>N1 (Eg hc) (Eg hc)) ?_
 refine kA6 ?_
 refine A8 (GU.t rfl rfl) (fun hc=>⟨Ev.func,(E2 (Eg hc) (Eg hc)),a0L x.cond y.cond _ _ (hx.o.cond.t.mono Sb) (hy.o.cond.t.mono Sb)⟩) Lb ?_
 refine kA6 ?_
 refine A8 (GU.t rfl rfl) (fun hc=>⟨Ev.func,(E2 (Eg hc) (Eg hc)),a0L x.ch y.ch _ _ (hx.o.ch.t.mono Sb) (hy.o.ch.t.mono Sb)⟩) Lb ?_
 refine kA6 ?_
 refine A8 (GU.t rfl rfl) (fun hc=>⟨Ev.func,(E2 (Eg hc) (Eg hc)),a0L x.time y.time _ _ (hx.o.time.t.mono Sb) (hy.o.time.t.mono Sb)⟩) Lb ?_
 refine kA6 ?_
 refine A8 (GU.t rfl rfl) (fun hc=>⟨Ev.func,(E2 (Eg hc) (Eg hc)),a2b x.tg.l y.tg.l _ _ _ _ _ _ _ _ (hx.o.tg.rd.mono v0 Sb) (hy.o.tg.rd.mono v0 Sb) (fun z hz=>(hx.o.tg.ok z hz).t.mono Sb) (fun z hz=>(hy.o.tg.ok z hz).t.mono Sb)⟩) Lb ?_
 refine kA6 ?_
 refine A8 (GU.t rfl rfl) (fun hc=>⟨Ev.func,(E2 (Eg hc) (Eg hc)),a2b x.vl.l y.vl.l _ _ _ _ _ _ _ _ (hx.o.vl.rd.mono v0 Sb) (hy.o.vl.rd.mono v0 Sb) (fun z hz=>(hx.o.vl.ok z hz).t.mono Sb) (fun z hz=>(hy.o.vl.ok z hz).t.mono Sb)⟩) Lb ?_
 refine kA6 ?_
 refine A8 (GU.t rfl rfl) (fun hc=>⟨Ev.func,(E2 (Eg hc) (Eg hc)),a3S x.bl ih y.bl _ _ _ _ _ _ _ _ (hx.o.b.mono v0 Sb) (hy.o.b.mono v0 Sb) (fun z hz=>(hx.b z hz).mono Sb) (fun z hz=>(hy.b z hz).mono Sb)⟩) Lb ?_
 refine kQ2 [4] ?_
 refine WC.ret (wR (h) ?_)
 exact⟨by rw[a5d],rfl⟩
theorem a8J (xs:List Gu) (ih:∀ x ∈ xs,∀ z ∈ x.bl,∀ (y:Pr) (h:List Res) (m:View),POk m h z→POk m h y→CT Tryz.prog 11 [prV z,prV y] h m (A7 h (.bool (J6 z y)))) (ys:List Gu) (s1 s2:Option Addr) (n1 c1 n2 c2:Nat) (h:List Res) (m:View) (h1:Rd m h s1 n1 c1 23 (fl guE xs)) (h2:Rd m h s2 n2 c2 23 (fl guE ys)) (o1:∀ x ∈ xs,GK m h x) (o2:∀ x ∈ ys,GK m h x) :
   CT Tryz.prog 22 [.slice s1 n1 c1,.slice s2 n2 c2] h m (A7 h (.bool (eqL W5 xs ys))):=by
 have l1:=h1.lenF a5B (by decide)
 have l2:=h2.lenF a5B (by decide)
 have m1:=h1.mx
 have m2:=h2.mx
 have k1:=h1.le
 have k2:=h2.le
 refine CT.body Tryz.call22 Tryz.func22 rfl Tryz.ntmps22 Lb rfl ?_
 refine kQ1 [0,1] ?_
 refine kQ5 [0,1,10] ?_
 refine wc (fun c10=>?_) fun c10=>?_
 replace c10:=a1p c10
 refine kQ1 [4] ?_
 refine WC.ret (wR (h) ?_)
 exact⟨by rw[Q4 _ _ _ (by omega)],rfl⟩
 replace c10:=a1y c10
 refine kQ0 [0,1] ?_
 refine kQ1 [0,1,5] ?_
 refine B1 [0,1] rfl (fun μ F' h'=>∃ k:Nat,(k≤n1∧eqL W5 xs ys=eqL W5 (xs.drop k) (ys.drop k))∧n1 - k=μ∧F'=[(5,.int .i64 k)]∧h=h') (n1 - 0) [(5,.int .i64 0)] (h0:=h) ?_ Sb ⟨0,⟨by omega,by simp⟩,rfl,rfl,rfl⟩ ?_
 exact Su
 rintro _ _ _ ⟨k,⟨hk,hJ⟩,rfl,rfl,rfl⟩
 refine B3 rfl ?_
 refine kQ4 [0,1,5,14] ?_
 refine wc (fun c14=>?_) fun c14=>?_
 replace c14:=dT c14
 obtain⟨x,hx⟩:=A5 (l:=xs) (k:=k) (by omega)
 obtain⟨y,hy⟩:=A5 (l:=ys) (k:=k) (by omega)
 rw[O2 _ hx hy] at hJ
 have hxm:=List.mem_of_getElem? hx
 have hxo:=o1 x hxm
 have hyo:=o2 y (List.mem_of_getElem? hy)
 refine kQ0 [0,1,5] ?_
 refine dS [] (.op 0 (.op 1 (.op 2 (.op 3 (.op 4 (.op 5 (.op 6 (.op 7 .nil)))))))) [8,9] D8 ?_
 refine kA8 ?_
 refine SR.nil rfl rfl ?_
 refine xf (E2 Et Et) (a9a x (ih x hxm) y _ _ (hxo.mono Sb) (hyo.mono Sb)) ?_
 refine kQ1 [0,1,5,26] ?_
 refine wc (fun c26=>?_) fun c26=>?_
 have d26:W5 x y=false:=by simpa using c26
 rw[d26] at hJ
 refine kQ1 [4] ?_
 refine WC.ret (wR (h) ?_)
 exact⟨by rw[hJ];rfl,rfl⟩
 have d26:W5 x y=true:=by simpa using c26
 rw[d26,Bool.true_and] at hJ
 refine kQ0 [0,1,5] ?_
 refine kA3 ?_
 refine WL.nil (A6 (n1 - (k+1)) [(5,.int .i64 (k+1))] (h'':=h) (by omega) ?_ Su Sb ⟨k+1,⟨by omega,hJ⟩,rfl,rfl,rfl⟩)
 exact Su
 replace c14:=dF c14
 refine kQ0 [] ?_
 refine kQ1 [4] ?_
 refine WC.ret (wR (h) ?_)
 exact⟨by rw[hJ,List.drop_eq_nil_of_le (by omega),List.drop_eq_nil_of_le (by omega)];rfl,rfl⟩
structure SK (m:View) (h:List Res) (s:Sp):Prop where
 o:SOk m h s
 b:∀ x ∈ s.bl,POk m h x
theorem SK.mono {m:View} {h h':List Res} {s:Sp} (q:SK m h s) (r:h.Sublist h'):SK m h' s:=⟨q.o.mono r,fun x hx=>(q.b x hx).mono r⟩
theorem b8T {x y:Fo} (h:(!(a0U x y))=true):a0U x y=false:=by simpa using h
theorem b9L {x y:Fo} (h:(!(a0U x y))=false):a0U x y=true:=by simpa using h
set_option maxHeartbeats 1000000 in
theorem b0e (x:Sp) (ih:∀ z ∈ x.bl,∀ (y:Pr) (h:List Res) (m:View),POk m h z→POk m h y→CT Tryz.prog 11 [prV z,prV y] h m (A7 h (.bool (J6 z y)))) (y:Sp) (h:List Res) (m:View) (hx:SK m h x) (hy:SK m h y) :
   CT Tryz.prog 24 [spV x,spV y] h m (A7 h (.bool (a2i x y))):=by
 have v0:=View.le.refl m
 have f1:=hx.o.fr
 have f2:=hy.o.fr
 have m1:=f1.mx
 have m2:=f2.mx
 have k1:=f1.le
 have k2:=f2.le
 refine CT.body Tryz.call24 Tryz.func24 rfl Tryz.ntmps24 Lb rfl ?_
 refine j0 ?_
 refine xX fun b2=>?_
 refine xX fun b3=>?_
 refine kQ1 [2,3] ?_
 refine a9i ?_
 refine E8 (GU.f rfl rfl) (fun hc=>b0q b0d (by kernel_rfl) (by kernel_rfl) (Eg hc) (Eg hc) rfl) Lb ?_
 refine c1H [2,3,26] ?_
 refine wc (fun c26=>?_) fun c26=>?_
 have d26:a2i x y=false:=b6N c26
 refine kQ1 [4] ?_
 refine WC.ret (wR (h) ?_)
 exact⟨by rw[d26],rfl⟩
 have d26:=b4g (x:=x) (y:=y) c26
 obtain⟨hlen,e0⟩:=d26
 refine kQ0 [2,3] ?_
 refine kQ1 [2,3,5] ?_
 refine B1 [2,3] rfl (fun μ F' h'=>∃ k:Nat,(k≤x.fs.l.length∧eqL a0U x.fs.l y.fs.l=eqL a0U (x.fs.l.drop k) (y.fs.l.drop k))∧x.fs.l.length - k=μ∧F'=[(5,.int .i64 k)]∧.pt b3 (.cells (spE y).toArray 50 (0,0))::.pt b2 (.cells (spE x).toArray 50 (0,0))::h=h') (x.fs.l.length - 0) [(5,.int .i64 0)] (h0:=.pt b3 (.cells (spE y).toArray 50 (0,0))::.pt b2 (.cells (spE x).toArray 50 (0,0))::h) ?_ Sb ⟨0,⟨by omega,by simp⟩,rfl,rfl,rfl⟩ ?_
 exact Su
 rintro _ _ _ ⟨k,⟨hk,hJ⟩,rfl,rfl,rfl⟩
 refine B3 rfl ?_
 refine kQ5 [2,3,5,31] ?_
 refine wc (fun c31=>?_) fun c31=>?_
 replace c31:=dT c31
 obtain⟨u,hu⟩:=A5 (l:=x.fs.l) (k:=k) (by omega)
 obtain⟨v,hv⟩:=A5 (l:=y.fs.l) (k:=k) (by omega)
 rw[O2 _ hu hv] at hJ
 refine kQ0 [2,3,5] ?_
 refine dS [] (.op 0 (.op 1 (.op 2 (.op 3 (.op 4 (.op 5 (.op 6 (.op 7 (.op 8 (.op 9 .nil)))))))))) [10] D8 ?_
 refine a9i ?_
 refine SR.nil rfl rfl ?_
 refine xG (b1n (o:=43) c0T (by kernel_rfl) (by kernel_rfl) Et Et (by kernel_rfl) rfl) ?_
 refine kQ0 [2,3,5,44] ?_
 refine wc (fun c44=>?_) fun c44=>?_
 rw[b8T (x:=u) (y:=v) c44] at hJ
 refine kQ1 [4] ?_
 refine WC.ret (wR (h) ?_)
 exact⟨by rw[e0,hJ];rfl,rfl⟩
 rw[b9L (x:=u) (y:=v) c44,Bool.true_and] at hJ
 refine kQ0 [2,3,5] ?_
 refine kA3 ?_
 refine WL.nil (A6 (x.fs.l.length - (k+1)) [(5,.int .i64 (k+1))] (h'':=.pt b3 (.cells (spE y).toArray 50 (0,0))::.pt b2 (.cells (spE x).toArray 50 (0,0))::h) (by omega) ?_ Su Sb ⟨k+1,⟨by omega,hJ⟩,rfl,rfl,rfl⟩)
 exact Su
 replace c31:=dF c31
 rw[List.drop_eq_nil_of_le (by omega),List.drop_eq_nil_of_le (by omega)] at hJ
 refine kQ0 [2,3] ?_
 refine kA4 ?_
 refine xf (E2 Et Et) (b4h _ _ _ _ _ _ x.names.l y.names.l _ _ (hx.o.nr.mono v0 Sb) (hy.o.nr.mono v0 Sb)) ?_
 refine kA5 ?_
 refine A8 (GU.t rfl rfl) (fun hc=>⟨Ev.func,(E2 (Eg hc) (Eg hc)),a0L x.e y.e _ _ (hx.o.e.t.mono Sb) (hy.o.e.t.mono Sb)⟩) Lb ?_
 refine kA6 ?_
 refine A8 (GU.t rfl rfl) (fun hc=>⟨Ev.func,(E2 (Eg hc) (Eg hc)),a8Z x.cs y.cs _ _ _ _ _ _ x.vs.l y.vs.l _ _ (hx.o.v.mono v0 Sb) (hy.o.v.mono v0 Sb)⟩) Lb ?_
 refine kA6 ?_
 refine A8 (GU.t rfl rfl) (fun hc=>⟨Ev.func,(E2 (Eg hc) (Eg hc)),a3S x.bl ih y.bl _ _ _ _ _ _ _ _ (hx.o.b.mono v0 Sb) (hy.o.b.mono v0 Sb) (fun z hz=>(hx.b z hz).mono Sb) (fun z hz=>(hy.b z hz).mono Sb)⟩) Lb ?_
 refine kQ2 [4] ?_
 refine WC.ret (wR (h) ?_)
 exact⟨by rw[e0,hJ];rfl,rfl⟩
theorem c2C {m:View} {h:List Res} {p:Pr} (q:POk m h p):∀ g ∈ p.gl,GK m h g:=fun g hg=>⟨q.own.gs g hg,fun _ hx=>q.sub (.g hg hx)⟩
theorem c2E {m:View} {h:List Res} {p:Pr} (q:POk m h p):SK m h p.sp:=⟨q.own.sp,fun _ hx=>q.sub (.s hx)⟩
set_option maxHeartbeats 2000000 in
theorem b2C (p:Pr):∀ (q:Pr) (h:List Res) (m:View),POk m h p→POk m h q→CT Tryz.prog 11 [prV p,prV q] h m (A7 h (.bool (J6 p q))):=by
 refine Pr.ind (q:=fun p=>∀ (q:Pr) (h:List Res) (m:View),POk m h p→POk m h q→CT Tryz.prog 11 [prV p,prV q] h m (A7 h (.bool (J6 p q)))) (fun p ih q h m hp hq=>?_) p
 have v0:=View.le.refl m
 have e0:=a5r p q
 have x1:=hp.own
 have y1:=hq.own
 have f1:=x1.pn
 have f2:=y1.pn
 have m1:=f1.mx
 have m2:=f2.mx
 have k1:=f1.le
 have k2:=f2.le
 refine CT.body Tryz.call11 Tryz.func11 rfl Tryz.ntmps11 Lb rfl ?_
 refine j0 ?_
 refine xX fun b2=>?_
 refine xX fun b3=>?_
 refine kQ1 [2,3] ?_
 refine kQ7 [2,3,13] ?_
 refine wc (fun c13=>?_) fun c13=>?_
 replace c13:=a1p c13
 rw[Q4 _ p.pn.l q.pn.l (by omega),Bool.false_and] at e0
 refine kQ1 [4] ?_
 refine WC.ret (wR (h) ?_)
 exact⟨by rw[e0],rfl⟩
 replace c13:=a1y c13
 refine kQ0 [2,3] ?_
 refine kQ1 [2,3,5] ?_
 refine B1 [2,3] rfl (fun μ F' h'=>∃ k:Nat,(k≤p.pn.l.length∧eqL (fun a b:Int=>a==b) p.pn.l q.pn.l=eqL (fun a b:Int=>a==b) (p.pn.l.drop k) (q.pn.l.drop k))∧p.pn.l.length - k=μ∧F'=[(5,.int .i64 k)]∧.pt b3 (.cells (prE q).toArray 52 (0,0))::.pt b2 (.cells (prE p).toArray 52 (0,0))::h=h') (p.pn.l.length - 0) [(5,.int .i64 0)] (h0:=.pt b3 (.cells (prE q).toArray 52 (0,0))::.pt b2 (.cells (prE p).toArray 52 (0,0))::h) ?_ Sb ⟨0,⟨by omega,by simp⟩,rfl,rfl,rfl⟩ ?_
 exact Su
 rintro _ _ _ ⟨k,⟨hk,hJ⟩,rfl,rfl,rfl⟩
 refine B3 rfl ?_
 refine kQ5 [2,3,5,18] ?_
 refine wc (fun c18=>?_) fun c18=>?_
 replace c18:=dT c18
 obtain⟨u,hu⟩:=A5 (l:=p.pn.l) (k:=k) (by omega)
 obtain⟨v,hv⟩:=A5 (l:=q.pn.l) (k:=k) (by omega)
 rw[O2 _ hu hv] at hJ
 refine kQ0 [2,3,5] ?_
 refine dS [] (.op 0 (.op 1 (.op 2 (.op 3 (.op 4 (.op 5 (.op 6 (.op 7 (.op 8 (.op 9 .nil)))))))))) [10] D8 ?_
 refine a9i ?_
 refine SR.nil rfl rfl ?_
 refine kQ1 [2,3,5,31] ?_
 refine wc (fun c31=>?_) fun c31=>?_
 replace c31:=a1p c31
 rw[show(u==v)=false by simpa using c31] at hJ
 refine kQ1 [4] ?_
 refine WC.ret (wR (h) ?_)
 exact⟨by rw[e0,hJ];rfl,rfl⟩
 replace c31:=a1y c31
 rw[show(u==v)=true by simpa using c31,Bool.true_and] at hJ
 refine kQ0 [2,3,5] ?_
 refine kA3 ?_
 refine WL.nil (A6 (p.pn.l.length - (k+1)) [(5,.int .i64 (k+1))] (h'':=.pt b3 (.cells (prE q).toArray 52 (0,0))::.pt b2 (.cells (prE p).toArray 52 (0,0))::h) (by omega) ?_ Su Sb ⟨k+1,⟨by omega,hJ⟩,rfl,rfl,rfl⟩)
 exact Su
 replace c18:=dF c18
 rw[List.drop_eq_nil_of_le (by omega),List.drop_eq_nil_of_le (by omega)] at hJ
 refine kQ0 [2,3] ?_
 refine kA6 ?_
 refine xG (N1 Et Et) ?_
 refine kA7 ?_
 refine A8 (GU.t rfl rfl) (fun hc=>⟨Ev.func,(E2 (Eg hc) (Eg hc)),a0L p.rep.base q.rep.base _ _ (x1.rb.t.mono Sb) (y1.rb.t.mono Sb)⟩) Lb ?_
 refine kA8 ?_
 refine A8 (GU.t rfl rfl) (fun hc=>⟨Ev.func,(E2 (Eg hc) (Eg hc)),a0L p.rep.count q.rep.count _ _ (x1.rc.t.mono Sb) (y1.rc.t.mono Sb)⟩) Lb ?_
 refine kQ2 [2,3,6] ?_
 refine a9i ?_
 refine zG (fun hc=>N1 (Eg hc) (Eg hc)) ?_
 refine kA9 ?_
 refine A8 (GU.t rfl rfl) (fun hc=>⟨Ev.func,(E2 (Eg hc) (Eg hc)),a0L p.ch q.ch _ _ (x1.ch.t.mono Sb) (y1.ch.t.mono Sb)⟩) Lb ?_
 refine kA6 ?_
 refine A8 (GU.t rfl rfl) (fun hc=>⟨Ev.func,(E2 (Eg hc) (Eg hc)),a2b p.tg.l q.tg.l _ _ _ _ _ _ _ _ (x1.tg.rd.mono v0 Sb) (y1.tg.rd.mono v0 Sb) (fun z hz=>(x1.tg.ok z hz).t.mono Sb) (fun z hz=>(y1.tg.ok z hz).t.mono Sb)⟩) Lb ?_
 refine kA6 ?_
 refine A8 (GU.t rfl rfl) (fun hc=>⟨Ev.func,(E2 (Eg hc) (Eg hc)),a2b p.ex.l q.ex.l _ _ _ _ _ _ _ _ (x1.ex.rd.mono v0 Sb) (y1.ex.rd.mono v0 Sb) (fun z hz=>(x1.ex.ok z hz).t.mono Sb) (fun z hz=>(y1.ex.ok z hz).t.mono Sb)⟩) Lb ?_
 refine kA6 ?_
 refine A8 (GU.t rfl rfl) (fun hc=>⟨Ev.func,(E2 (Eg hc) (Eg hc)),a8J p.gl (fun g hg z hz=>ih z (.g hg hz)) q.gl _ _ _ _ _ _ _ _ (x1.g.mono v0 Sb) (y1.g.mono v0 Sb) (fun z hz=>(c2C hp z hz).mono Sb) (fun z hz=>(c2C hq z hz).mono Sb)⟩) Lb ?_
 refine kA6 ?_
 refine A8 (GU.t rfl rfl) (fun hc=>⟨Ev.func,(E2 (Eg hc) (Eg hc)),a3S p.ll (fun z hz=>ih z (.l hz)) q.ll _ _ _ _ _ _ _ _ (x1.l.mono v0 Sb) (y1.l.mono v0 Sb) (fun z hz=>(hp.sub (.l hz)).mono Sb) (fun z hz=>(hq.sub (.l hz)).mono Sb)⟩) Lb ?_
 refine kA6 ?_
 refine A8 (GU.t rfl rfl) (fun hc=>⟨Ev.func,(E2 (Eg hc) (Eg hc)),b0e p.sp (fun z hz=>ih z (.s hz)) q.sp _ _ ((c2E hp).mono Sb) ((c2E hq).mono Sb)⟩) Lb ?_
 refine kQ2 [4] ?_
 refine WC.ret (wR (h) ?_)
 exact⟨by rw[e0,hJ];rfl,rfl⟩
end Go.Proofs.YtkemgjnejlkkcaaGreatDoor
end
section
namespace Go.Proofs.YtkemgjnejlkkcaaGreatDoor
set_option maxRecDepth 100000
set_option maxHeartbeats 2000000
open Go.Eng Go.Pc Go.Sx Go
open Go.Xp hiding B D9
open Go.Ty (Ty Vr Tok eqT tyV J2 B4 B7 S1 zeroK M5 D6 encV E5 VOk PrOk)
open Go.Lx (encB D1 textO)
open Go.Ly (Rw I6 C7 eqR b1d b0U b0C)
theorem b6X {m m':View} (g:Glob m) (h:m.le m'):Glob m':=
 ⟨by obtain⟨x,hx⟩:=g.max;exact⟨x,h.cell hx⟩,fun j v e=>h.cell (g.prim j v e),fun j v e=>h.cell (g.sOne j v e),fun j v e=>h.cell (g.sSome j v e),fun j v e=>h.cell (g.sAll j v e)⟩
section
variable {m m':View} {h h':List Res}
theorem c3R (V:Vw m' h' m h) {e:Ex} (q:TOk m' h' e):TOk m h e:=by
 induction q with
 | mk hr _ ih=>exact .mk (V _ _ _ _ _ hr) ih
theorem a3B (V:Vw m' h' m h) {e:Ex} (q:EOk m' h' e):EOk m h e:=⟨c3R V q.t,q.w⟩
theorem b0J (V:Vw m' h' m h) {s:Sli Ex} (q:LOk m' h' s):LOk m h s:=⟨V _ _ _ _ _ q.rd,fun x hx=>a3B V (q.ok x hx)⟩
theorem c3W (V:Vw m' h' m h) {a:Option Addr} {k c:Nat} {l:List Vr} (q:PrOk m' h' a k c l):PrOk m h a k c l:=⟨V _ _ _ _ _ q.rd,fun v hv=>⟨V _ _ _ _ _ (q.ok v hv).rd⟩,q.tag⟩
theorem c4o (V:Vw m' h' m h) {s:Sp} (q:SOk m' h' s):SOk m h s:=⟨q.k,q.ty,V _ _ _ _ _ q.nr,q.nw,a3B V q.e,c3W V q.v,q.vw,V _ _ _ _ _ q.fr,q.fw,V _ _ _ _ _ q.b⟩
theorem c3x (V:Vw m' h' m h) {g:Gu} (q:GOk m' h' g):GOk m h g:=⟨q.k,q.n,a3B V q.cond,a3B V q.ch,b0J V q.tg,b0J V q.vl,a3B V q.time,V _ _ _ _ _ q.b⟩
theorem c5e (V:Vw m' h' m h) {p:Pr} (q:P1 m' h' p):P1 m h p:=⟨q.k,q.n,a3B V q.ch,b0J V q.tg,b0J V q.ex,q.rn,a3B V q.rb,a3B V q.rc,V _ _ _ _ _ q.g,fun x hx=>c3x V (q.gs x hx),V _ _ _ _ _ q.l,V _ _ _ _ _ q.pn,q.pw,c4o V q.sp⟩
theorem c4j (V:Vw m' h' m h) {p:Pr} (q:POk m' h' p):POk m h p:=by
 induction q with
 | mk o _ ih=>exact .mk (c5e V o) ih
end
theorem a9o {m:View} (hg:Glob m) (ra:Option Addr) (rc:Nat) (R:List Rw) (h:List Res) (ht:∀ x ∈ R,x.text.length≤140737488355328) :
   CT Tryz.prog 10 [.slice ra R.length rc] (.row (.slice ra R.length rc) 26 3 R.length (fl I6 R)::h) m (fun v _ h'=>∃ x hx bl,v=.tuple #[prV x,.int .i64 ((K6 R).2.1:Nat),.int .i64 (K6 R).2.2]∧stP x=(K6 R).1∧POk m (hx++(bl++h)) x∧Rd m hx ra R.length rc 3 (fl I6 R)∧h'=hx++(bl++h)):=
 (CT.lendRow Tryz.call10 fun m' hle hr=>a7C (b6X hg hle) ra rc R h hr ht).mono (by
   rintro v m2 h2 - ⟨m',hx,h3,⟨x,bl,h1,h4,h5,rfl⟩,rfl,V,hr⟩
   exact⟨x,hx,bl,h1,h4,c4j V (h5.mono (List.sublist_append_left _ _)),hr,rfl⟩)
theorem a9n {m:View} (hg:Glob m) (ra:Option Addr) (rc:Nat) (R:List Rw) (h:List Res) (ht:∀ x ∈ R,x.text.length≤140737488355328) :
   CT Tryz.prog 10 [.slice ra R.length rc] (.row (.slice ra R.length rc) 26 3 R.length (fl I6 R)::h) m (fun v _ h'=>∃ x hh,v=.tuple #[prV x,.int .i64 ((K6 R).2.1:Nat),.int .i64 (K6 R).2.2]∧stP x=(K6 R).1∧POk m (hh++h) x∧h'=hh++h):=
 (a9o hg ra rc R h ht).mono (by
   rintro v m2 h2 - ⟨x,hx,bl,h1,h4,h5,-,rfl⟩
   exact⟨x,hx++bl,h1,h4,by rw[List.append_assoc];exact h5,by rw[List.append_assoc]⟩)
theorem b7i (s:B):(Lib.splitB ⟨#[47]⟩ 0 (Lib.countB ⟨s.toArray⟩ ⟨#[47]⟩) ⟨s.toArray⟩).map (·.data.toList)=L8 s:=by
 rw[Lib.splitB_data]
 rfl
theorem b40 {m:View} (hg:Glob m) (s:B) (hs:s.length < 4294967281) (h:List Res):CT Tryz.prog 45 [str s,str [47]] h m
   (fun v _ h'=>∃ b,v=.slice (some ⟨b,0,none⟩) (L8 s).length (L8 s).length∧h'=.pt b (.cells (fl encB (L8 s)).toArray 9 (0,0))::h):=by
 obtain⟨x,hx⟩:=hg.max
 refine⟨Tryz.call45,fun w st=>Calls.mono (Tryz.strings_Split ⟨s.toArray⟩ ⟨#[47]⟩ x w hs (st.cell hx) (by decide)) ?_⟩
 rintro e w' ⟨rfl,rfl⟩
 have h1:=b7i s
 have h2:Lib.countB ⟨s.toArray⟩ ⟨#[47]⟩+1=(L8 s).length:=by
   rw[← h1,List.length_map,Lib.splitB_all ⟨#[47]⟩ (by decide) 0 _ ⟨s.toArray⟩ rfl]
 have h3:(Lib.splitB ⟨#[47]⟩ 0 (Lib.countB ⟨s.toArray⟩ ⟨#[47]⟩) ⟨s.toArray⟩).map Value.string=fl encB (L8 s):=by
   rw[← h1]
   generalize Lib.splitB ⟨#[47]⟩ 0 (Lib.countB ⟨s.toArray⟩ ⟨#[47]⟩) ⟨s.toArray⟩=l
   induction l with
   | nil=>rfl
   | cons y l ih=>
     rw[List.map_cons,List.map_cons,ih]
     rfl
 rw[h2,h3]
 exact⟨_,m,_,rfl,View.le.refl m,st.alloc _,w.heap.size,rfl,rfl⟩
theorem b6C (s:B) (h:List Res) (m:View):CT Tryz.prog 46 [str s,str [46]] h m (A7 h (str (Lib.trimLeftB s 46))):=
 CT.ofCalls Tryz.call46 fun w _=>Tryz.strings_TrimLeft_one ⟨s.toArray⟩ 46 (by decide) w
theorem b0g {m:View} (hg:Glob m) (s:B) (hs:s.length < 4294967281) (hl:(L8 s).length≤1000) (hp:∀ x ∈ L8 s,x.length≤100000) (h:List Res) :
   CT Tryz.prog 29 [str s] h m (fun v _ h'=>b3v I6 26 3 h (Z2 s) v h'):=by
 refine CT.body Tryz.call29 Tryz.func29 rfl Tryz.ntmps29 Lb rfl ?_
 refine kQ1 [0] ?_
 refine WL.addNil 26 3 ?_
 refine kQ1 [0,3] ?_
 refine kA1 ?_
 refine xg (E2 Et Ev.const) (b40 hg s hs _) ?_
 rintro _ _ ⟨b8,rfl,rfl⟩
 refine kQ2 [3,8,9,10] ?_
 refine B1 [8,9] rfl (fun μ F' h'=>∃ a3:Option Addr,∃ c3:Nat,∃ j:Nat,∃ r:List Rw,((j≤(L8 s).length∧r.length=j)∧r=a5P 0 ((L8 s).take j))∧(L8 s).length - j=μ∧F'=[(3,.slice a3 r.length c3),(10,.int .i64 j)]∧.pt b8 (.cells (fl encB (L8 s)).toArray 9 (0,0))::.row (.slice a3 r.length c3) 26 3 r.length (fl I6 r)::h=h') ((L8 s).length - 0) [(3,.slice none ([]).length 0),(10,.int .i64 0)] (h0:=.pt b8 (.cells (fl encB (L8 s)).toArray 9 (0,0))::.row (.slice none ([]).length 0) 26 3 ([]).length (fl I6 ([]))::h) ?_ Sb ⟨none,0,0,[],⟨⟨by omega,rfl⟩,rfl⟩,rfl,rfl,rfl⟩ ?_
 exact Su
 rintro _ _ _ ⟨a3,c3,j,r,⟨⟨hj,hr⟩,hJ⟩,rfl,rfl,rfl⟩
 refine B3 rfl ?_
 refine kQ1 [3,8,9,10,11] ?_
 refine wc (fun c11=>?_) fun c11=>?_
 replace c11:=dT c11
 obtain⟨x,hx⟩:=A5 (l:=L8 s) (k:=j) (by omega)
 have hxl:=hp x (List.mem_of_getElem? hx)
 have htl:(Lib.trimLeftB x 46).length≤x.length:=(List.dropWhile_sublist _).length_le
 have htk:a5P 0 ((L8 s).take (j+1))=a5P 0 ((L8 s).take j)++[a5v j x]:=by rw[a8e hx,Nat.zero_add]
 have hln:(r++[a5v j x]).length=r.length+1:=List.length_append
 have hrd:Rd m (.pt b8 (.cells (fl encB (L8 s)).toArray 9 (0,0))::.row (.slice a3 r.length c3) 26 3 r.length (fl I6 r)::h) (some ⟨b8,0,none⟩) (L8 s).length (L8 s).length 1 (fl encB (L8 s)):=Rd.ofPt (by rw[a4Y D1]) (by omega) Me
 refine kQ0 [3,8,9,10] ?_
 refine kQ5 [3,4,5,8,9,10] ?_
 refine kA1 ?_
 refine xf (E2 Et Ev.const) (b6C x _ _) ?_
 refine kQ1 [3,4,5,6,8,9,10] ?_
 refine kA4 ?_
 refine xG (I0 uu9 Et) ?_
 refine kA1 ?_
 refine xG (I0 uu9 Et) ?_
 refine xG (P4 Et Et (by omega)) ?_
 refine kA2 ?_
 refine xY S8 (EvP.cons Et EvP.nil) fun b27=>?_
 refine xD S8 (Ev.tmp rfl) (Ev.tmp rfl) (show r.length+1=(r++[a5v j x]).length by simp) (F7 (enc:=I6) _ (a5v j x)) fun a28 c28=>?_
 refine kQ1 [3,8,9,10] ?_
 refine kA2 ?_
 refine WL.nil (A6 ((L8 s).length - (j+1)) [(3,.slice a28 (r++[a5v j x]).length c28),(10,.int .i64 (j+1))] (h'':=.pt b8 (.cells (fl encB (L8 s)).toArray 9 (0,0))::.row (.slice a28 (r++[a5v j x]).length c28) 26 3 (r++[a5v j x]).length (fl I6 (r++[a5v j x]))::h) (by omega) ?_ Su Sb ⟨a28,c28,j+1,r++[a5v j x],⟨⟨by omega,by omega⟩,by rw[htk,hJ]⟩,rfl,rfl,rfl⟩)
 exact Su
 replace c11:=dF c11
 rw[List.take_of_length_le (by omega)] at hJ
 subst hJ
 refine kQ0 [3] ?_
 refine kQ2 [2] ?_
 refine WC.ret (wR (.row (.slice a3 (Z2 s).length c3) 26 3 (Z2 s).length (fl I6 (Z2 s))::h) ?_)
 exact⟨_,_,_,rfl,rfl,rfl⟩
theorem b3X (s1 s2:Option Addr) (n1 c1 n2 c2:Nat) (xs ys:List _) (h:List Res) (m:View) (h1:Rd m h s1 n1 c1 3 (fl I6 xs)) (h2:Rd m h s2 n2 c2 3 (fl I6 ys)) :
   CT Tryz.prog 30 [.slice s1 n1 c1,.slice s2 n2 c2] h m (A7 h (.bool (eqL eqR xs ys))):=by
 have l1:=h1.lenF C7 (by decide)
 have l2:=h2.lenF C7 (by decide)
 have m1:=h1.mx
 have m2:=h2.mx
 have k1:=h1.le
 have k2:=h2.le
 refine CT.body Tryz.call30 Tryz.func30 rfl Tryz.ntmps30 Lb rfl ?_
 refine kQ1 [0,1] ?_
 refine kQ5 [0,1,10] ?_
 refine wc (fun c10=>?_) fun c10=>?_
 replace c10:=a1p c10
 refine kQ1 [4] ?_
 refine WC.ret (wR (h) ?_)
 exact⟨by rw[Q4 _ _ _ (by omega)],rfl⟩
 replace c10:=a1y c10
 refine kQ0 [0,1] ?_
 refine kQ3 [0,1,12,13] ?_
 refine B1 [0,1,12] rfl (fun μ F' h'=>∃ k:Nat,(k≤n1∧eqL eqR xs ys=eqL eqR (xs.drop k) (ys.drop k))∧n1 - k=μ∧F'=[(13,.int .i64 k)]∧h=h') (n1 - 0) [(13,.int .i64 0)] (h0:=h) ?_ Sb ⟨0,⟨by omega,by simp⟩,rfl,rfl,rfl⟩ ?_
 exact Su
 rintro _ _ _ ⟨k,⟨hk,hJ⟩,rfl,rfl,rfl⟩
 refine B3 rfl ?_
 refine kQ1 [0,1,12,13,14] ?_
 refine wc (fun c14=>?_) fun c14=>?_
 replace c14:=dT c14
 obtain⟨x,hx⟩:=A5 (l:=xs) (k:=k) (by omega)
 obtain⟨y,hy⟩:=A5 (l:=ys) (k:=k) (by omega)
 rw[O2 _ hx hy] at hJ
 refine kQ0 [0,1,12,13] ?_
 refine kQ2 [0,1,5,12,13] ?_
 refine dS [] (.op 0 (.op 1 (.op 2 (.op 3 (.op 4 (.op 5 (.op 6 (.op 7 .nil)))))))) [8] D8 ?_
 refine kA8 ?_
 refine SR.nil rfl rfl ?_
 refine xG (b0q a6R (by kernel_rfl) (by kernel_rfl) Et Et rfl) ?_
 refine kQ0 [0,1,12,13,24] ?_
 refine wc (fun c24=>?_) fun c24=>?_
 refine kQ1 [4] ?_
 refine WC.ret (wR (h) ?_)
 exact⟨by rw[hJ,b0U c24];rfl,rfl⟩
 rw[b1d c24,Bool.true_and] at hJ
 refine kQ0 [0,1,12,13] ?_
 refine kA2 ?_
 refine WL.nil (A6 (n1 - (k+1)) [(13,.int .i64 (k+1))] (h'':=h) (by omega) ?_ Su Sb ⟨k+1,⟨by omega,hJ⟩,rfl,rfl,rfl⟩)
 exact Su
 replace c14:=dF c14
 refine kQ0 [] ?_
 refine kQ1 [4] ?_
 refine WC.ret (wR (h) ?_)
 exact⟨by rw[hJ,List.drop_eq_nil_of_le (by omega),List.drop_eq_nil_of_le (by omega)];rfl,rfl⟩
end Go.Proofs.YtkemgjnejlkkcaaGreatDoor
end
section
namespace Go.Proofs.YtkemgjnejlkkcaaGreatDoor
set_option maxRecDepth 100000
set_option maxHeartbeats 2000000
open Go.Eng Go.Pc Go.Sx Go
open Go.Xp hiding B D9
open Go.Ty (Ty Vr Tok eqT tyV J2 B4 B7 S1 zeroK M5 D6 encV E5 VOk PrOk)
open Go.Lx (encB D1 textO)
open Go.Ly (Rw I6 C7 eqR b1d b0U b0C)
structure TxtOk (s:B):Prop where
 n:s.length < 4294967281
 l:(L8 s).length≤1000
 p:∀ x ∈ L8 s,x.length≤100000
 t:∀ x ∈ Z2 s,x.text.length≤140737488355328
def a4U (s:B):Bool:=decide (s.length < 1000)&&decide ((L8 s).length≤1000)&&(L8 s).all (fun x=>decide (x.length≤1000))&&(Z2 s).all (fun x=>decide (x.text.length≤1000))
theorem a0q {s:B} (h:a4U s=true):TxtOk s:=by
 unfold a4U at h
 simp only[Bool.and_eq_true,decide_eq_true_eq,List.all_eq_true] at h
 obtain⟨⟨⟨h1,h2⟩,h3⟩,h4⟩:=h
 exact⟨by omega,h2,fun x hx=>by have:=h3 x hx;omega,fun x hx=>by have:=h4 x hx;omega⟩
theorem a2v {m:View} (hg:Glob m) (hp:Pow m) (s:B) (k:Int) (hT:TxtOk s) (hM:a2Q s k=true) (h:List Res) :
   CT Tryz.prog 16 [str s,.int .u8 k] h m (A7 h (.bool true)):=by
 unfold a2Q at hM
 simp only[Bool.and_eq_true,beq_iff_eq] at hM
 obtain⟨⟨⟨⟨hM1,hM2⟩,hM3⟩,hM4⟩,hM5⟩:=hM
 refine CT.body Tryz.call16 Tryz.func16 rfl Tryz.ntmps16 Lb rfl ?_
 refine kQ1 [0,1] ?_
 refine kA1 ?_
 refine xg (E1 Et) (b0g hg s hT.n hT.l hT.p _) ?_
 rintro _ _ ⟨a12,c12,_,rfl,rfl,rfl⟩
 refine xg (E1 Et) (a9n hg _ _ (Z2 s) _ hT.t) ?_
 rintro _ _ ⟨x,hh,rfl,hst,hok,rfl⟩
 rw[hM2,hM3]
 have hxk:x.k=k:=by rw[← (a7z x).1,hst];exact hM1
 have hpx:M8 x=M8 (K6 (Z2 s)).1:=by rw[← hst,b1U]
 refine kA4 ?_
 refine xW fun b5=>?_
 refine kQ3 [0,1,5,6,7] ?_
 refine kA1 ?_
 refine xg (E1 Et) (b2G hg hp x _ (hok.mono Sb)) ?_
 rintro _ _ ⟨a19,c19,bl2,rfl,hrd,rfl,-⟩
 rw[hpx,hM4]
 rw[hpx] at hrd
 refine WL.perm List.perm_middle ?_
 refine kQ5 [0,1,5,6,7,8,9] ?_
 refine kA4 ?_
 refine wV (b':=true) (by simpa using hxk) ?_
 refine kA1 ?_
 refine zU ?_
 refine kA1 ?_
 refine zU ?_
 refine kA3 ?_
 refine zU ?_
 refine kA1 ?_
 refine zU ?_
 refine kA3 ?_
 refine zU ?_
 refine kA1 ?_
 refine zU ?_
 refine kA3 ?_
 refine zU ?_
 refine kA1 ?_
 refine zU ?_
 refine kA1 ?_
 refine zU ?_
 refine xg (E1 Et) (b0g hg s hT.n hT.l hT.p _) ?_
 rintro _ _ ⟨a41,c41,_,rfl,rfl,rfl⟩
 refine A0 (a:=a41) Me fun p41 q41 r41=>?_
 refine zU ?_
 refine xf (E2 Et Et) ((b3X _ _ _ _ _ _ (M8 (K6 (Z2 s)).1).1 (Z2 s) _ _ (hrd.mono (View.le.refl m) (((List.sublist_append_left _ _).cons _).cons _)) (Rd.inRow Me r41 p41 q41)).val (congrArg Value.bool hM5)) ?_
 refine kQ2 [4] ?_
 refine WC.ret (wR (h) ?_)
 exact⟨rfl,rfl⟩
end Go.Proofs.YtkemgjnejlkkcaaGreatDoor
end
section
namespace Go.Proofs.YtkemgjnejlkkcaaGreatDoor
set_option maxRecDepth 100000
set_option maxHeartbeats 2000000
open Go.Eng Go.Pc Go
open Go.Xp hiding B D9
open Go.Ty (Ty Vr eqT tyV J2 PrOk VOk encV E5 M5 D6 eqI a2p a2l)
open Go.Lx (encB D1)
theorem c3Q {P:Program} {n:Cx} {F:Fm} {h:List Res} {m:View} {ty:TypeId} {pos:String} {after:Array Edge} {dst:Option Tmp} {g:Option (Nat × Bool)} {x y:Operand} {i j:Int} {t t':TypeId} (ex:Ev n F x (.int .i64 i)) (ey:Ev n F y (.int .i64 j)) (_:(0:Int)≤1) :
   PO P ⟨dst,.binOp .add t x y t',ty,pos,after,g⟩ n F h m (.int .i64 (IntKind.i64.wrap (i+j))):=O6 ex ey (by simp[iop])
abbrev W64 (v:Int):Int:=IntKind.i64.wrap v
theorem c5y (a b:Int):W64 (W64 a+W64 b)=W64 (a+b):=by
 unfold W64
 rw[IntKind.wrap_i64,IntKind.wrap_i64,IntKind.wrap_i64,IntKind.wrap_i64]
 omega
theorem a2R {x:Pr}:∀ {l:List Pr} {j:Nat},l[j]?=some x→P0 (l.take (j+1))=P0 (l.take j)+N8 x
 | [],_,h=>by cases h
 | y::l,0,h=>by
   cases h
   show N8 _+P0 (l.take 0)=P0 []+_
   rw[List.take_zero]
   unfold P0
   omega
 | y::l,j+1,h=>by
   have ih:=a2R (l:=l) (j:=j) (by simpa using h)
   show N8 y+P0 (l.take (j+1))=(N8 y+P0 (l.take j))+_
   omega
theorem a8n {g:Gu}:∀ {l:List Gu} {j:Nat},l[j]?=some g→a0F (l.take (j+1))=a0F (l.take j)+P0 g.bl
 | [],_,h=>by cases h
 | y::l,0,h=>by
   cases h
   show b4o _+a0F (l.take 0)=a0F []+_
   rw[List.take_zero,b0Q]
   unfold a0F
   omega
 | y::l,j+1,h=>by
   have ih:=a8n (l:=l) (j:=j) (by simpa using h)
   show b4o y+a0F (l.take (j+1))=(b4o y+a0F (l.take j))+_
   omega
theorem b3P {v:Int} {a b:Nat} {c:Int} {x:Pr} (hv:v=W64 (c+(a:Int))) (hb:b=a+N8 x):W64 (v+W64 (N8 x))=W64 (c+(b:Int)):=by
 subst hv hb
 rw[c5y]
 congr 1
 omega
set_option maxHeartbeats 4000000 in
theorem b5a (p:Pr):∀ (h:List Res) (m:View),POk m h p→CT Tryz.prog 14 [prV p] h m (A7 h (.int .i64 (W64 (N8 p)))):=by
 refine Pr.ind (q:=fun p=>∀ (h:List Res) (m:View),POk m h p→CT Tryz.prog 14 [prV p] h m (A7 h (.int .i64 (W64 (N8 p))))) (fun p ih h m hP=>?_) p
 have hO:=hP.own
 have hrl:=hO.l
 have hrg:=hO.g
 have hrb:=hO.sp.b
 have hlx:=Nat.le_trans hrl.le hrl.mx
 have hgx:=Nat.le_trans hrg.le hrg.mx
 have hbx:=Nat.le_trans hrb.le hrb.mx
 have hce:=a7b p
 rw[a6X] at hce
 refine CT.body Tryz.call14 Tryz.func14 rfl Tryz.ntmps14 Lb rfl ?_
 refine j0 ?_
 refine xX fun b1=>?_
 refine kQ1 [1] ?_
 refine kQ1 [1,3] ?_
 refine kQ4 [1,3,13,14,15] ?_
 refine B1 [1,13,14] rfl (fun μ F' h'=>∃ v:Int,∃ j:Nat,(j≤p.ll.length∧v=W64 (1+(P0 (p.ll.take j):Nat)))∧p.ll.length - j=μ∧F'=[(3,.int .i64 v),(15,.int .i64 j)]∧.pt b1 (.cells (prE p).toArray 52 (0,0))::h=h') (p.ll.length - 0) [(3,.int .i64 1),(15,.int .i64 0)] (h0:=.pt b1 (.cells (prE p).toArray 52 (0,0))::h) ?_ Sb ⟨1,0,⟨Nat.zero_le _,rfl⟩,rfl,rfl,rfl⟩ ?_
 exact Su
 rintro _ _ _ ⟨v,j,⟨hj,hv⟩,rfl,rfl,rfl⟩
 refine B3 rfl ?_
 refine kQ1 [1,3,13,14,15,16] ?_
 refine wc (fun c16=>?_) fun c16=>?_
 replace c16:=dT c16
 obtain⟨x,hx⟩:=A5 (l:=p.ll) (k:=j) (by omega)
 have hin:In x p:=.l (List.mem_of_getElem? hx)
 refine kQ0 [1,3,13,14,15] ?_
 refine kA2 ?_
 refine xW fun b5=>?_
 refine kQ1 [1,3,5,13,14,15] ?_
 refine kA2 ?_
 refine xf (E1 Et) (ih x hin _ m ((hP.sub hin).mono Sb)) ?_
 refine xG (c3Q Et Et (by omega)) ?_
 refine kQ1 [1,3,13,14,15] ?_
 refine kA2 ?_
 refine WL.nil (A6 (p.ll.length - (j+1)) [(3,.int .i64 (W64 (v+W64 (N8 x)))),(15,.int .i64 (j+1))] (h'':=.pt b1 (.cells (prE p).toArray 52 (0,0))::h) (by omega) ?_ Su Sb ⟨W64 (v+W64 (N8 x)),j+1,⟨by omega,b3P hv (a2R (l:=p.ll) hx)⟩,rfl,rfl,rfl⟩)
 exact Su
 replace c16:=dF c16
 rw[List.take_of_length_le (by omega)] at hv
 refine kQ0 [1,3] ?_
 refine kQ5 [1,3,26,27,28] ?_
 refine B1 [1,26,27] rfl (fun μ F' h'=>∃ v:Int,∃ j:Nat,(j≤p.sp.bl.length∧v=W64 ((1+(P0 p.ll:Int))+(P0 (p.sp.bl.take j):Nat)))∧p.sp.bl.length - j=μ∧F'=[(3,.int .i64 v),(28,.int .i64 j)]∧.pt b1 (.cells (prE p).toArray 52 (0,0))::h=h') (p.sp.bl.length - 0) [(3,.int .i64 v),(28,.int .i64 0)] (h0:=.pt b1 (.cells (prE p).toArray 52 (0,0))::h) ?_ Sb ⟨v,0,⟨Nat.zero_le _,by rw[hv,List.take_zero];congr 1⟩,rfl,rfl,rfl⟩ ?_
 exact Su
 rintro _ _ _ ⟨v,j,⟨hj,hv⟩,rfl,rfl,rfl⟩
 refine B3 rfl ?_
 refine kQ1 [1,3,26,27,28,29] ?_
 refine wc (fun c29=>?_) fun c29=>?_
 replace c29:=dT c29
 obtain⟨x,hx⟩:=A5 (l:=p.sp.bl) (k:=j) (by omega)
 have hin:In x p:=.s (List.mem_of_getElem? hx)
 refine kQ0 [1,3,26,27,28] ?_
 refine kA2 ?_
 refine xW fun b7=>?_
 refine kQ1 [1,3,7,26,27,28] ?_
 refine kA2 ?_
 refine xf (E1 Et) (ih x hin _ m ((hP.sub hin).mono Sb)) ?_
 refine xG (c3Q Et Et (by omega)) ?_
 refine kQ1 [1,3,26,27,28] ?_
 refine kA2 ?_
 refine WL.nil (A6 (p.sp.bl.length - (j+1)) [(3,.int .i64 (W64 (v+W64 (N8 x)))),(28,.int .i64 (j+1))] (h'':=.pt b1 (.cells (prE p).toArray 52 (0,0))::h) (by omega) ?_ Su Sb ⟨W64 (v+W64 (N8 x)),j+1,⟨by omega,b3P hv (a2R (l:=p.sp.bl) hx)⟩,rfl,rfl,rfl⟩)
 exact Su
 replace c29:=dF c29
 rw[List.take_of_length_le (by omega)] at hv
 refine kQ0 [1,3] ?_
 refine kQ4 [3,38,39,40] ?_
 refine B1 [38,39] rfl (fun μ F' h'=>∃ v:Int,∃ j:Nat,(j≤p.gl.length∧v=W64 (((1+(P0 p.ll:Int))+(P0 p.sp.bl:Nat))+(a0F (p.gl.take j):Nat)))∧p.gl.length - j=μ∧F'=[(3,.int .i64 v),(40,.int .i64 j)]∧.pt b1 (.cells (prE p).toArray 52 (0,0))::h=h') (p.gl.length - 0) [(3,.int .i64 v),(40,.int .i64 0)] (h0:=.pt b1 (.cells (prE p).toArray 52 (0,0))::h) ?_ Sb ⟨v,0,⟨Nat.zero_le _,by rw[hv,List.take_zero];congr 1⟩,rfl,rfl,rfl⟩ ?_
 exact Su
 rintro _ _ _ ⟨v,j,⟨hj,hv⟩,rfl,rfl,rfl⟩
 refine B3 rfl ?_
 refine kQ1 [3,38,39,40,41] ?_
 refine wc (fun c41=>?_) fun c41=>?_
 replace c41:=dT c41
 obtain⟨g,hg1⟩:=A5 (l:=p.gl) (k:=j) (by omega)
 have hgm:=List.mem_of_getElem? hg1
 have hgb:=(hO.gs g hgm).b
 have hgbx:=Nat.le_trans hgb.le hgb.mx
 refine kQ0 [3,38,39,40] ?_
 refine kA2 ?_
 refine xW fun b9=>?_
 refine kQ1 [3,9,38,39,40] ?_
 refine kQ4 [3,38,39,40,45,46,47] ?_
 refine B1 [38,39,40,45,46] rfl (fun μ F' h'=>∃ w:Int,∃ i:Nat,(i≤g.bl.length∧w=W64 ((((1+(P0 p.ll:Int))+(P0 p.sp.bl:Nat))+(a0F (p.gl.take j):Nat))+(P0 (g.bl.take i):Nat)))∧g.bl.length - i=μ∧F'=[(3,.int .i64 w),(47,.int .i64 i)]∧.pt b1 (.cells (prE p).toArray 52 (0,0))::h=h') (g.bl.length - 0) [(3,.int .i64 v),(47,.int .i64 0)] (h0:=.pt b1 (.cells (prE p).toArray 52 (0,0))::h) ?_ Sb ⟨v,0,⟨Nat.zero_le _,by rw[hv,List.take_zero];congr 1⟩,rfl,rfl,rfl⟩ ?_
 exact Su
 rintro _ _ _ ⟨w,i,⟨hi,hw⟩,rfl,rfl,rfl⟩
 refine B3 rfl ?_
 refine kQ1 [3,38,39,40,45,46,47,48] ?_
 refine wc (fun c48=>?_) fun c48=>?_
 replace c48:=dT c48
 obtain⟨x,hx⟩:=A5 (l:=g.bl) (k:=i) (by omega)
 have hin:In x p:=.g hgm (List.mem_of_getElem? hx)
 refine kQ0 [3,38,39,40,45,46,47] ?_
 refine kA2 ?_
 refine xW fun b11=>?_
 refine kQ1 [3,11,38,39,40,45,46,47] ?_
 refine kA2 ?_
 refine xf (E1 Et) (ih x hin _ m ((hP.sub hin).mono Sb)) ?_
 refine xG (c3Q Et Et (by omega)) ?_
 refine kQ1 [3,38,39,40,45,46,47] ?_
 refine kA2 ?_
 refine WL.nil (A6 (g.bl.length - (i+1)) [(3,.int .i64 (W64 (w+W64 (N8 x)))),(47,.int .i64 (i+1))] (h'':=.pt b1 (.cells (prE p).toArray 52 (0,0))::h) (by omega) ?_ Su Sb ⟨W64 (w+W64 (N8 x)),i+1,⟨by omega,b3P hw (a2R (l:=g.bl) hx)⟩,rfl,rfl,rfl⟩)
 exact Su
 replace c48:=dF c48
 rw[List.take_of_length_le (l:=g.bl) (by omega)] at hw
 refine kQ0 [3,38,39,40] ?_
 refine kA2 ?_
 refine WL.nil (A6 (p.gl.length - (j+1)) [(3,.int .i64 w),(40,.int .i64 (j+1))] (h'':=.pt b1 (.cells (prE p).toArray 52 (0,0))::h) (by omega) ?_ Su Sb ⟨w,j+1,⟨by omega,by rw[hw,a8n hg1];congr 1;omega⟩,rfl,rfl,rfl⟩)
 exact Su
 replace c41:=dF c41
 rw[List.take_of_length_le (by omega)] at hv
 refine kQ0 [3] ?_
 refine kQ2 [2] ?_
 refine WC.ret (wR (h) ?_)
 exact⟨by rw[hv,hce];congr 2;omega,rfl⟩
end Go.Proofs.YtkemgjnejlkkcaaGreatDoor
end
section
namespace Go.Proofs.YtkemgjnejlkkcaaGreatDoor
set_option maxRecDepth 100000
set_option maxHeartbeats 2000000
open Go.Eng Go.Pc Go
open Go.Xp hiding B D9
open Go.Ty (Ty Vr eqT tyV J2 PrOk VOk encV E5 M5 D6 eqI a2p a2l)
open Go.Lx (encB D1)
theorem b5p (m:View) (h:List Res):EOk m h A3:=⟨.mk (Rd.nilF exE 6 m h) (fun _ hx=>(List.not_mem_nil hx).elim),.mk (by decide) (by decide) (by decide) (by decide) (by decide) fun _ hx=>(List.not_mem_nil hx).elim⟩
theorem c2O (m:View) (h:List Res):LOk m h B5:=⟨Rd.nilF exE 6 m h,fun _ hx=>(List.not_mem_nil hx).elim⟩
theorem c4Q (m:View) (h:List Res):PrOk m h none 0 0 []:=⟨Rd.nilF encV 2 m h,fun _ hx=>(List.not_mem_nil hx).elim,fun _ hx=>(List.not_mem_nil hx).elim⟩
theorem c5N:TyW Go.Ty.zeroT:=⟨by decide,by decide,by decide,by decide⟩
structure SpF (m:View) (h:List Res) (ty:Ty) (e:Ex) (vs:Sli Vr) (fs:Sli Fo):Prop where
 t:TyW ty
 e:EOk m h e
 v:PrOk m h vs.a vs.l.length vs.c vs.l
 vw:∀ x ∈ vs.l,x.items.length=x.n
 f:Rd m h fs.a fs.l.length fs.c 6 (fl foE fs.l)
 fw:∀ x ∈ fs.l,FoW x
theorem c5h {m:View} {h:List Res} {k:Int} {ty:Ty} {nm:Sli B} {e:Ex} {cs:Bool} {vs:Sli Vr} {fs:Sli Fo} {ba:Option Addr} {bc:Nat} {bl:List Pr} (hk:0≤k∧k≤255) (q:SpF m h ty e vs fs) (hn:Rd m h nm.a nm.l.length nm.c 1 (fl encB nm.l)) (hw:∀ x ∈ nm.l,x.length≤Big)
   (hb:Rd m h ba bl.length bc 42 (fl prE bl)) (hp:∀ x ∈ bl,POk m h x):SK m h (.mk k ty nm e cs vs fs ba bc bl):=⟨⟨hk,q.t,hn,hw,q.e,q.v,q.vw,q.f,q.fw,hb⟩,hp⟩
theorem b4Q {α:Type} {p:α→Prop}:∀ x ∈ (B5:Sli α).l,p x:=fun _ hx=>(List.not_mem_nil hx).elim
theorem c6v (m:View) (h:List Res):SK m h D2:=c5h (by decide) ⟨c5N,b5p m h,c4Q m h,b4Q,Rd.nilF foE 6 m h,b4Q⟩ (Rd.nilF encB 1 m h) b4Q (Rd.nilF prE 42 m h) (fun _ hx=>(List.not_mem_nil hx).elim)
end Go.Proofs.YtkemgjnejlkkcaaGreatDoor
end
section
namespace Go.Proofs.YtkemgjnejlkkcaaGreatDoor
set_option maxRecDepth 100000
set_option maxHeartbeats 2000000
open Go.Eng Go.Pc Go
open Go.Xp hiding B D9
open Go.Ty (Ty Vr eqT tyV J2 PrOk VOk encV E5 M5 D6 eqI a2p a2l)
open Go.Lx (encB D1)
theorem c0G {m:View} {h:List Res} {nm:B} {ch:Ex} {tg ex:Sli Ex} {pn:Sli Int} {sp:Sp} (hn:nm.length≤Big) (hc:EOk m h ch) (ht:LOk m h tg) (he:LOk m h ex) (hpn:Rd m h pn.a pn.l.length pn.c 1 (fl a3H pn.l)) (hpw:∀ x ∈ pn.l,-9223372036854775808≤x∧x≤9223372036854775807) (hs:SK m h sp) :
   POk m h (c5Z nm ch tg ex pn sp):=
 .mk ⟨by show 0≤(0:Int)∧(0:Int)≤255;decide,hn,hc,ht,he,Nat.zero_le _,b5p m h,b5p m h,Rd.nilF guE 23 m h,fun _ hx=>(List.not_mem_nil hx).elim,Rd.nilF prE 42 m h,hpn,hpw,hs.o⟩ fun x hx=>by cases hx with
   | l q=>exact(List.not_mem_nil q).elim
   | s q=>exact hs.b x q
   | g q _=>exact(List.not_mem_nil q).elim
theorem c4r (m:View) (h:List Res):POk m h b0R:=c0G (by decide) (b5p m h) (c2O m h) (c2O m h) (Rd.nilF a3H 1 m h) b4Q (c6v m h)
end Go.Proofs.YtkemgjnejlkkcaaGreatDoor
end
section
namespace Go.Proofs.YtkemgjnejlkkcaaGreatDoor
set_option maxRecDepth 100000
set_option maxHeartbeats 2000000
open Go.Eng Go.Pc Go.Sx Go
open Go.Xp hiding B D9
open Go.Ty (Ty Vr Tok eqT tyV J2 B4 B7 S1 zeroK M5 D6 encV E5 VOk PrOk)
open Go.Lx (encB D1 textO)
open Go.Ly (Rw I6 C7 eqR b1d b0U b0C)
theorem pt0:a4U [120,44,32,121,32,58,61,32,49,44,32,118,91,105,93]=true:=by decide +kernel
theorem pm0:a2Q [120,44,32,121,32,58,61,32,49,44,32,118,91,105,93] 3=true:=by decide +kernel
theorem pt1:a4U [73,78,84,32,120,58,47,83,69,81,32,105,32,61,32,48,32,70,79,82,32,52,47,46,99,32,33,32,120]=true:=by decide +kernel
theorem pm1:a2Q [73,78,84,32,120,58,47,83,69,81,32,105,32,61,32,48,32,70,79,82,32,52,47,46,99,32,33,32,120] 18=true:=by decide +kernel
theorem pt2:a4U [65,76,84,47,46,110,32,62,32,48,32,38,32,99,32,63,32,120,47,46,46,83,75,73,80,47,46,116,32,63,32,65,70,84,69,82,32,110,47,46,46,83,84,79,80]=true:=by decide +kernel
theorem pm2:a2Q [65,76,84,47,46,110,32,62,32,48,32,38,32,99,32,63,32,120,47,46,46,83,75,73,80,47,46,116,32,63,32,65,70,84,69,82,32,110,47,46,46,83,84,79,80] 12=true:=by decide +kernel
theorem pt3:a4U [80,82,79,84,79,67,79,76,32,112,47,46,67,65,83,69,47,46,46,112,117,116,59,32,73,78,84,47,46,46,101,110,100,47,58,47,83,75,73,80]=true:=by decide +kernel
theorem pm3:a2Q [80,82,79,84,79,67,79,76,32,112,47,46,67,65,83,69,47,46,46,112,117,116,59,32,73,78,84,47,46,46,101,110,100,47,58,47,83,75,73,80] 18=true:=by decide +kernel
theorem pt4:a4U [87,72,73,76,69,32,84,82,85,69,47,46,83,75,73,80]=true:=by decide +kernel
theorem pm4:a2Q [87,72,73,76,69,32,84,82,85,69,47,46,83,75,73,80] 16=true:=by decide +kernel
theorem ft0:a4U [83,69,81,47,46,120,32,58,61,32,49,47,46,46,83,75,73,80]=true:=by decide +kernel
theorem fm0:a2k [83,69,81,47,46,120,32,58,61,32,49,47,46,46,83,75,73,80] 2 110=true:=by decide +kernel
theorem ft1:a4U [83,69,81,32,105,32,61,32,48,32,70,79,82,32,51,47,46,83,75,73,80,47,46,83,75,73,80]=true:=by decide +kernel
theorem fm1:a2k [83,69,81,32,105,32,61,32,48,32,70,79,82,32,51,47,46,83,75,73,80,47,46,83,75,73,80] 2 110=true:=by decide +kernel
theorem ft2:a4U [83,75,73,80,47,83,75,73,80]=true:=by decide +kernel
theorem fm2:a2k [83,75,73,80,47,83,75,73,80] 1 110=true:=by decide +kernel
theorem ft3:a4U [40,120,41,32,58,61,32,49]=true:=by decide +kernel
theorem fm3:a2k [40,120,41,32,58,61,32,49] 0 110=true:=by decide +kernel
theorem ft4:a4U [120,32,58,61,32,49,32,43,32,50,32,43,32,51]=true:=by decide +kernel
theorem fm4:a2k [120,32,58,61,32,49,32,43,32,50,32,43,32,51] 0 110=true:=by decide +kernel
theorem ft5:a4U [83,69,81,47,46,120,32,58,61,32,36]=true:=by decide +kernel
theorem fm5:a2k [83,69,81,47,46,120,32,58,61,32,36] 1 80=true:=by decide +kernel
theorem ft6:a4U [73,78,84,32,120,58]=true:=by decide +kernel
theorem fm6:a2k [73,78,84,32,120,58] 1 110=true:=by decide +kernel
theorem ft7:a4U [80,82,73,32,80,65,82,47,46,83,75,73,80]=true:=by decide +kernel
theorem fm7:a2k [80,82,73,32,80,65,82,47,46,83,75,73,80] 2 110=true:=by decide +kernel
theorem a0N {m:View} (hg:Glob m) (s:B) (n e:Int) (hT:TxtOk s) (hM:a2k s n e=true) (h:List Res) :
   CT Tryz.prog 17 [str s,.int .i64 n,.int .i64 e] h m (A7 h (.bool true)):=by
 unfold a2k at hM
 simp only[Bool.and_eq_true,beq_iff_eq] at hM
 obtain⟨⟨hM1,hM2⟩,hM3⟩:=hM
 refine CT.body Tryz.call17 Tryz.func17 rfl Tryz.ntmps17 Lb rfl ?_
 refine kQ1 [0,1,2] ?_
 refine kA1 ?_
 refine xg (E1 Et) (b0g hg s hT.n hT.l hT.p _) ?_
 rintro _ _ ⟨a12,c12,_,rfl,rfl,rfl⟩
 refine xg (E1 Et) (a9n hg _ _ (Z2 s) _ hT.t) ?_
 rintro _ _ ⟨x,hh,rfl,hst,hok,rfl⟩
 rw[hM2,hM3]
 have hsx:J6 x b0R=true:=by rw[← a7e,hst];exact hM1
 refine kA4 ?_
 refine xW fun b7=>?_
 refine kQ3 [1,2,7,8,9] ?_
 refine kA2 ?_
 refine xf (E2 Et Et) ((b2C x b0R _ _ (hok.mono Sb) (c4r m _)).val (congrArg Value.bool hsx)) ?_
 refine kA1 ?_
 refine zU ?_
 refine kA1 ?_
 refine zU ?_
 refine kA1 ?_
 refine zU ?_
 refine kA1 ?_
 refine wV (b':=true) (by simp) ?_
 refine kA2 ?_
 refine zU ?_
 refine kA1 ?_
 refine zU ?_
 refine kA1 ?_
 refine zU ?_
 refine kA1 ?_
 refine wV (b':=true) (by simp) ?_
 refine kQ2 [6] ?_
 refine WC.ret (wR (h) ?_)
 exact⟨rfl,rfl⟩
def skP:Pr:=.mk 1 [] A3 B5 B5 a2m none 0 [] none 0 [] B5 D2
def unP (k:Int) (b:Nat):Pr:=.mk k [] A3 B5 B5 a2m none 0 [] (some ⟨b,0,none⟩) 1 [skP] B5 D2
theorem b9o (m:View) (h:List Res):POk m h skP:=b7m m h (k:=1) (by decide)
theorem c2R {m:View} {h:List Res} {k:Int} {b:Nat} (hk:0≤k∧k≤255) (hb:Res.pt b (.cells (prE skP).toArray 52 (0,0)) ∈ h):POk m h (unP k b):=
 a3f hk (Nat.zero_le _) (F1 _ _) (F3 _ _) (F3 _ _) (R4 _ _) (X9 _ _) ⟨Rd.ofPt rfl (show 1≤9223372036854775807 by decide) hb,fun x hx=>by rw[List.mem_singleton] at hx;subst hx;exact b9o m h⟩ (U9 _ _) (Q3 _ _)
theorem c3p (b:Nat):mayP (unP 10 b)=false:=by kernel_rfl
theorem c3I:mayP skP=true:=by kernel_rfl
theorem c4l (b:Nat):W64 (N8 (unP 16 b))=2:=by kernel_rfl
theorem c6g:(K6 []).2=(0,110):=by kernel_rfl
set_option maxHeartbeats 2000000 in
theorem a5a {m:View} (hg:Glob m) (hp:Pow m) (h:List Res):CT Tryz.prog 9 [] h m (A7 h (.bool true)):=by
 refine CT.body Tryz.call9 Tryz.func9 rfl Tryz.ntmps9 Lb rfl ?_
 refine kQ1 [] ?_
 refine xf (E2 Ev.const Ev.const) (a2v hg hp _ _ (a0q pt0) pm0 _) ?_
 refine kA1 ?_
 refine zU ?_
 refine xf (E2 Ev.const Ev.const) (a2v hg hp _ _ (a0q pt1) pm1 _) ?_
 refine kA2 ?_
 refine zU ?_
 refine xf (E2 Ev.const Ev.const) (a2v hg hp _ _ (a0q pt2) pm2 _) ?_
 refine kA2 ?_
 refine zU ?_
 refine xf (E2 Ev.const Ev.const) (a2v hg hp _ _ (a0q pt3) pm3 _) ?_
 refine kA2 ?_
 refine zU ?_
 refine xf (E2 Ev.const Ev.const) (a2v hg hp _ _ (a0q pt4) pm4 _) ?_
 refine kQ2 [1] ?_
 refine xf (E3 Ev.const Ev.const Ev.const) (a0N hg _ _ _ (a0q ft0) fm0 _) ?_
 refine kA1 ?_
 refine zU ?_
 refine xf (E3 Ev.const Ev.const Ev.const) (a0N hg _ _ _ (a0q ft1) fm1 _) ?_
 refine kA2 ?_
 refine zU ?_
 refine xf (E3 Ev.const Ev.const Ev.const) (a0N hg _ _ _ (a0q ft2) fm2 _) ?_
 refine kA2 ?_
 refine zU ?_
 refine xf (E3 Ev.const Ev.const Ev.const) (a0N hg _ _ _ (a0q ft3) fm3 _) ?_
 refine kA2 ?_
 refine zU ?_
 refine xf (E3 Ev.const Ev.const Ev.const) (a0N hg _ _ _ (a0q ft4) fm4 _) ?_
 refine kA2 ?_
 refine zU ?_
 refine xf (E3 Ev.const Ev.const Ev.const) (a0N hg _ _ _ (a0q ft5) fm5 _) ?_
 refine kA2 ?_
 refine zU ?_
 refine xf (E3 Ev.const Ev.const Ev.const) (a0N hg _ _ _ (a0q ft6) fm6 _) ?_
 refine kA2 ?_
 refine zU ?_
 refine xf (E3 Ev.const Ev.const Ev.const) (a0N hg _ _ _ (a0q ft7) fm7 _) ?_
 refine kQ2 [1,2] ?_
 refine xg (E1 Ev.const) (a7C hg none 0 [] _ (Rd.nilF I6 3 m []) nofun) ?_
 rintro _ _ ⟨x,hh,rfl,hst,hok,rfl⟩
 rw[c6g]
 refine kA4 ?_
 refine xW fun b3=>?_
 refine kQ3 [1,2,4,5] ?_
 refine kA1 ?_
 refine xW fun b6=>?_
 refine kQ1 [1,2,4,5,6] ?_
 refine kA2 ?_
 refine zU ?_
 refine kA3 ?_
 refine zU ?_
 refine kA1 ?_
 refine zU ?_
 refine kA3 ?_
 refine zU ?_
 refine kA1 ?_
 refine zU ?_
 refine kA3 ?_
 refine zU ?_
 refine kA1 ?_
 refine zU ?_
 refine xY Z9 (EvP.cons Et EvP.nil) fun b62=>?_
 refine zU ?_
 refine kA1 ?_
 refine zU ?_
 refine xf (E1 Et) ((a5L hg (unP 10 b62) (c2R (by decide) Me)).val (congrArg Value.bool (c3p _))) ?_
 refine zU ?_
 refine kA3 ?_
 refine zU ?_
 refine kA1 ?_
 refine zU ?_
 refine xf (E1 Et) ((a5L hg skP (b9o m _)).val (congrArg Value.bool c3I)) ?_
 refine kA2 ?_
 refine zU ?_
 refine kA1 ?_
 refine zU ?_
 refine xY Z9 (EvP.cons Et EvP.nil) fun b73=>?_
 refine zU ?_
 refine kA1 ?_
 refine zU ?_
 refine xf (E1 Et) ((b5a (unP 16 b73) _ m (c2R (by decide) Me)).val (congrArg (Value.int .i64) (c4l _))) ?_
 refine zU ?_
 refine kQ3 [0] ?_
 refine WC.ret (wR (h) ?_)
 exact⟨rfl,rfl⟩
end Go.Proofs.YtkemgjnejlkkcaaGreatDoor
end
section
namespace Go.Proofs.YtkemgjnejlkkcaaGreatDoor
set_option maxRecDepth 100000
set_option maxHeartbeats 2000000
open Go.Eng Go.Pc Go
open Go.Xp hiding B D9
open Go.Ty (Ty Vr eqT tyV J2 PrOk VOk encV E5 M5 D6 eqI a2p a2l)
open Go.Lx (encB D1)
theorem X1 {α:Type} {q:α→α→Bool}:∀ l r:List α,(∀ x ∈ l,∀ y,q x y=q y x)→eqL q l r=eqL q r l
 | [],[],_=>rfl
 | [],_::_,_=>rfl
 | _::_,[],_=>rfl
 | a::r,b::s,h=>by show(q a b&&eqL q r s)=(q b a&&eqL q s r);rw[h a (List.mem_cons_self ..) b,X1 r s (fun x hx=>h x (List.mem_cons_of_mem _ hx))]
theorem U8 (a b:Ex):F2 a b=F2 b a:=by rw[Bool.eq_iff_iff,Y4,Y4];exact eq_comm
theorem N9 {α:Type} [BEq α] [LawfulBEq α] (a b:α):(a==b)=(b==a):=by rw[Bool.eq_iff_iff,beq_iff_eq,beq_iff_eq];exact eq_comm
theorem b2R (a b:Ty):eqT a b=eqT b a:=by rw[Bool.eq_iff_iff,Go.Ty.eqT_iff,Go.Ty.eqT_iff];exact eq_comm
theorem b6I (a b:Fo):a0U a b=a0U b a:=by unfold a0U;rw[N9 a.val,b2R a.ty,N9 a.name]
theorem b1W (a b:Vr):R6 a b=R6 b a:=by unfold R6;rw[N9 a.tag,N9 a.items]
theorem a2a (l r:List Ex):eqL F2 l r=eqL F2 r l:=X1 l r fun x _ y=>U8 x y
theorem a8I (p:Pr):∀ q,J6 p q=J6 q p:=by
 refine Pr.ind (q:=fun p=>∀ q,J6 p q=J6 q p) (fun p ih q=>?_) p
 have hs:a2i p.sp q.sp=a2i q.sp p.sp:=by
   rw[a3K,a3K,N9 p.sp.k,b2R p.sp.ty,X1 p.sp.fs.l _ fun x _ y=>b6I x y,X1 p.sp.names.l _ fun x _ y=>N9 x y,U8 p.sp.e,X1 p.sp.bl _ fun x hx y=>ih x (.s hx) y]
   unfold a0v
   rw[N9 p.sp.cs,X1 p.sp.vs.l _ fun x _ y=>b1W x y]
 have hg:eqL W5 p.gl q.gl=eqL W5 q.gl p.gl:=X1 p.gl _ fun x hx y=>by
   rw[a5d,a5d,N9 x.k,N9 x.name,U8 x.cond,U8 x.ch,U8 x.time,a2a x.tg.l,a2a x.vl.l,X1 x.bl _ fun z hz w=>ih z (.g hx hz) w]
 rw[a5r p q,a5r q p,hs,hg,X1 p.pn.l _ fun x _ y=>N9 x y,N9 p.k,N9 p.name,U8 p.ch,a2a p.tg.l,a2a p.ex.l,X1 p.ll _ fun x hx y=>ih x (.l hx) y]
 unfold a3O
 rw[N9 p.rep.name,U8 p.rep.base,U8 p.rep.count]
theorem S4 {α:Type} {q:α→α→Bool}:∀ l:List α,(∀ x ∈ l,q x x=true)→eqL q l l=true
 | [],_=>rfl
 | x::r,h=>by show(q x x&&eqL q r r)=true;rw[h x (List.mem_cons_self ..),S4 r (fun y hy=>h y (List.mem_cons_of_mem _ hy))];rfl
theorem U0 (e:Ex):F2 e e=true:=(Y4 e e).2 rfl
theorem a2f (l:List Ex):eqL F2 l l=true:=S4 l fun x _=>U0 x
theorem b3V (p:Pr):J6 p p=true:=by
 refine Pr.ind (q:=fun p=>J6 p p=true) (fun p ih=>?_) p
 have hs:a2i p.sp p.sp=true:=by
   rw[a3K,(Go.Ty.eqT_iff _ _).2 rfl,S4 p.sp.fs.l fun x _=>by unfold a0U;simp[(Go.Ty.eqT_iff _ _).2 rfl],S4 p.sp.names.l fun x _=>by simp,U0,S4 p.sp.bl fun x hx=>ih x (.s hx)]
   unfold a0v
   rw[S4 p.sp.vs.l fun x _=>by unfold R6;simp]
   simp
 have hg:eqL W5 p.gl p.gl=true:=S4 p.gl fun x hx=>by
   rw[a5d,U0,U0,U0,a2f,a2f,S4 x.bl fun z hz=>ih z (.g hx hz)];simp
 rw[a5r,hs,hg,S4 p.pn.l fun x _=>by simp,U0,a2f,a2f,S4 p.ll fun x hx=>ih x (.l hx)]
 unfold a3O
 rw[U0,U0]
 simp
end Go.Proofs.YtkemgjnejlkkcaaGreatDoor
end
section
namespace Go.Proofs.YtkemgjnejlkkcaaGreatDoor.Ly7
set_option maxRecDepth 100000
set_option maxHeartbeats 2000000
open Go.Eng Go.Ly Go
theorem a5O (c d:UInt8):((c.toNat:Int)==(d.toNat:Int))=(c==d):=by
 rw[Bool.eq_iff_iff]
 simp only[beq_iff_eq]
 constructor
 · intro h
   apply UInt8.toNat_inj.1
   exact_mod_cast h
 · rintro rfl
   rfl
theorem b0B (c:UInt8):((c.toNat:Int)==45)=(c==45):=a5O c 45
theorem b0Y (c:UInt8):((c.toNat:Int)==32)=(c==32):=a5O c 32
theorem c0O (c:UInt8):(decide ((c.toNat:Int) < 32)||decide ((c.toNat:Int) > 126))=!okB c:=by
 unfold okB
 by_cases h1:(c.toNat:Int) < 32
 · simp[h1]
 · by_cases h2:(c.toNat:Int) > 126
   · simp[h2]
   · simp[h1,h2]
     omega
theorem b7L {s:B} {k:Nat} {c:UInt8} (hc:s[k]?=some c) (hk:s.all okB=(s.drop k).all okB):s.all okB=(okB c&&(s.drop (k+1)).all okB):=by
 rw[hk,R8 hc]
 rfl
theorem a7Z (s:B) (h:List Res) (m:View) (hs:s.length≤140737488355328):CT Tryz.prog 28 [str s] h m (A7 h (.bool (s.all okB))):=by
 have hd:∀ k,k < s.length→s[k]?=some (s.getD k 0):=fun k hi=>by rw[List.getD_eq_getElem?_getD,List.getElem?_eq_getElem hi];rfl
 refine CT.body Tryz.call28 Tryz.func28 rfl Tryz.ntmps28 Lb rfl ?_
 refine kQ1 [0] ?_
 refine kQ1 [0,3] ?_
 refine B1 [0] rfl (fun μ F' h'=>∃ k:Nat,(k≤s.length∧s.all okB=(s.drop k).all okB)∧s.length - k=μ∧F'=[(3,.int .i64 k)]∧h=h') (s.length - 0) [(3,.int .i64 0)] (h0:=h) ?_ Sb ⟨0,⟨by omega,rfl⟩,rfl,rfl,rfl⟩ ?_
 exact Su
 rintro _ _ _ ⟨k,⟨hk,hJ⟩,rfl,rfl,rfl⟩
 refine B3 rfl ?_
 refine kA2 ?_
 refine xG (I0 uu9 Et) ?_
 refine kQ1 [0,3,7] ?_
 refine wc (fun c7=>?_) fun c7=>?_
 replace c7:=dT c7
 obtain⟨c,hc⟩:=A5 (l:=s) (k:=k) (by omega)
 have hJ:=b7L hc hJ
 have hn:=c0O c
 refine kQ0 [0,3] ?_
 refine kA2 ?_
 refine xG (G9 uu9 Et Et rfl (by assumption)) ?_
 refine kA4 ?_
 refine zG (fun hc=>G9 uu9 (Eg hc) (Eg hc) rfl (by assumption)) ?_
 refine kQ2 [0,3,19] ?_
 refine wc (fun c19=>?_) fun c19=>?_
 replace hn:=hn.symm.trans c19
 refine kQ1 [2] ?_
 refine WC.ret (wR (h) ?_)
 exact⟨by rw[hJ,show okB c=false by simpa using hn];rfl,rfl⟩
 replace hn:=hn.symm.trans c19
 refine kQ0 [0,3] ?_
 refine kA3 ?_
 refine WL.nil (A6 (s.length - (k+1)) [(3,.int .i64 (k+1))] (h'':=h) (by omega) ?_ Su Sb ⟨k+1,⟨by omega,by rw[hJ,show okB c=true by simpa using hn];rfl⟩,rfl,rfl,rfl⟩)
 exact Su
 replace c7:=dF c7
 refine kQ0 [] ?_
 refine kQ1 [2] ?_
 refine WC.ret (wR (h) ?_)
 exact⟨by rw[hJ,List.drop_eq_nil_of_le (by omega)];rfl,rfl⟩
theorem b7b {s:B} (h0:s≠[]):a6S s=a9X.contains (s.getD (s.length - 1) 0):=by
 unfold a6S
 rw[List.getLast?_eq_getElem?,List.getD_eq_getElem?_getD,List.getElem?_eq_getElem (by have:=List.length_pos_iff.2 h0;omega)]
 rfl
theorem b8B (s:B) (h:List Res) (m:View) (hs:s.length≤140737488355328):CT Tryz.prog 27 [str s] h m (A7 h (.bool (a6S s))):=by
 have hd:∀ k,k < s.length→s[k]?=some (s.getD k 0):=fun k hi=>by rw[List.getD_eq_getElem?_getD,List.getElem?_eq_getElem hi];rfl
 refine CT.body Tryz.call27 Tryz.func27 rfl Tryz.ntmps27 Lb rfl ?_
 refine kQ1 [0] ?_
 refine kA1 ?_
 refine xG (I0 uu9 Et) ?_
 refine kQ1 [0,6] ?_
 refine wc (fun c6=>?_) fun c6=>?_
 replace c6:=G4 c6
 refine kQ1 [2] ?_
 refine WC.ret (wR (h) ?_)
 exact⟨by rw[List.eq_nil_of_length_eq_zero (l:=s) (by omega)];rfl,rfl⟩
 replace c6:=G3 c6
 have h0:s≠[]:=fun e=>c6 (by rw[e];rfl)
 have hp:0 < s.length:=List.length_pos_iff.2 h0
 have hc:=b7b h0
 refine kQ0 [0] ?_
 refine kQ1 [0,3] ?_
 refine B1 [0] rfl (fun μ F' h'=>∃ k:Nat,(k≤14∧a6S s=(a9X.drop k).contains (s.getD (s.length - 1) 0))∧14 - k=μ∧F'=[(3,.int .i64 k)]∧h=h') (14 - 0) [(3,.int .i64 0)] (h0:=h) ?_ Sb ⟨0,⟨by omega,hc⟩,rfl,rfl,rfl⟩ ?_
 exact Su
 rintro _ _ _ ⟨k,⟨hk,hJ⟩,rfl,rfl,rfl⟩
 refine B3 rfl ?_
 refine kQ2 [0,3,8] ?_
 refine wc (fun c8=>?_) fun c8=>?_
 replace c8:=dT c8
 obtain⟨c,hcc⟩:=A5 (l:=a9X) (k:=k) (by show k < 14;omega)
 rw[R8 hcc,List.contains_cons] at hJ
 refine kQ0 [0,3] ?_
 refine dS [] (.op 0 (.op 1 (.op 2 (.op 3 (.op 4 (.op 5 (.op 6 .nil))))))) [7] D8 ?_
 refine kA2 ?_
 refine yG rfl (I0 uu9 Et) ?_
 refine yG rfl (P4 Et Ev.const (by omega)) ?_
 refine yG rfl (G9 uu9 Et Et (q:=s.length - 1) (by omega) (hd _ (by omega))) ?_
 refine kA1 ?_
 refine yG rfl (G9 uu9 Ev.const Et rfl hcc) ?_
 refine SR.nil rfl rfl ?_
 refine kQ1 [0,3,18] ?_
 refine wc (fun c18=>?_) fun c18=>?_
 rw[a5O] at c18
 refine kQ1 [2] ?_
 refine WC.ret (wR (h) ?_)
 exact⟨by rw[hJ,c18];rfl,rfl⟩
 rw[a5O] at c18
 refine kQ0 [0,3] ?_
 refine kA3 ?_
 refine WL.nil (A6 (14 - (k+1)) [(3,.int .i64 (k+1))] (h'':=h) (by omega) ?_ Su Sb ⟨k+1,⟨by omega,by rw[hJ,c18];rfl⟩,rfl,rfl,rfl⟩)
 exact Su
 replace c8:=dF c8
 have e:k=14:=by omega
 subst e
 refine kQ0 [] ?_
 refine kQ1 [2] ?_
 refine WC.ret (wR (h) ?_)
 exact⟨by rw[hJ];rfl,rfl⟩
theorem b9X (s:B) (h:List Res) (m:View) (hs:s.length≤140737488355328):CT Tryz.prog 15 [str s] h m (A7 h (.bool (validP s))):=by
 have hd:∀ k,k < s.length→s[k]?=some (s.getD k 0):=fun k hi=>by rw[List.getD_eq_getElem?_getD,List.getElem?_eq_getElem hi];rfl
 rw[← c0t]
 refine CT.body Tryz.call15 Tryz.func15 rfl Tryz.ntmps15 Lb rfl ?_
 refine kQ1 [0] ?_
 refine kA1 ?_
 refine xG (I0 uu9 Et) ?_
 refine kA3 ?_
 refine zG (fun hc=>I0 uu9 (Eg hc)) ?_
 refine kA4 ?_
 refine E8 (GU.f rfl rfl) (fun hc=>G9 uu9 (Eg hc) Ev.const (q:=0) rfl (hd 0 (by simp at hc;omega))) Lb ?_
 refine kA5 ?_
 refine zG (fun hc=>I0 uu9 (Eg hc)) ?_
 refine E8 (GU.f rfl rfl) (fun hc=>P4 (Eg hc) Ev.const (by first | omega | (simp at hc;omega))) Lb ?_
 refine E8 (GU.f rfl rfl) (fun hc=>G9 uu9 (Eg hc) (Eg hc) (q:=s.length - 1) (by simp at hc;omega) (hd (s.length - 1) (by simp at hc;omega))) Lb ?_
 refine kA4 ?_
 refine A8 (GU.f rfl rfl) (fun hc=>⟨Ev.func,(E1 (Eg hc)),b8B _ _ _ (by omega)⟩) Lb ?_
 refine kQ1 [0,28] ?_
 refine wc (fun c28=>?_) fun c28=>?_
 have hb:a8B s=true:=by unfold a8B;rw[← b0Y,← b0Y];exact c28
 refine kQ1 [2] ?_
 refine WC.ret (wR (h) ?_)
 exact⟨by unfold b03;rw[hb];rfl,rfl⟩
 have hb:a8B s=false:=by unfold a8B;rw[← b0Y,← b0Y];exact c28
 refine kQ0 [0] ?_
 refine kQ1 [0,3] ?_
 refine B1 [0] rfl (fun μ F' h'=>∃ k:Nat,(k≤s.length∧a8A s=a8A (s.drop k))∧s.length - k=μ∧F'=[(3,.int .i64 k)]∧h=h') (s.length - 0) [(3,.int .i64 0)] (h0:=h) ?_ Sb ⟨0,⟨by omega,rfl⟩,rfl,rfl,rfl⟩ ?_
 exact Su
 rintro _ _ _ ⟨k,⟨hk,hJ⟩,rfl,rfl,rfl⟩
 refine B3 rfl ?_
 refine kA3 ?_
 refine xG (I0 uu9 Et) ?_
 refine kQ1 [0,3,33] ?_
 refine wc (fun c33=>?_) fun c33=>?_
 replace c33:=dT c33
 obtain⟨c,hc⟩:=A5 (l:=s) (k:=k) (by omega)
 obtain⟨d,hdd⟩:=A5 (l:=s) (k:=k+1) (by omega)
 rw[c1j hc hdd] at hJ
 refine kQ0 [0,3] ?_
 refine kA2 ?_
 refine xG (G9 uu9 Et Et rfl (by assumption)) ?_
 refine kA4 ?_
 refine E8 (GU.t rfl rfl) (fun hc=>I7 (Eg hc) Ev.const (by first | omega | (simp at hc;omega))) Lb ?_
 refine zG (fun hc=>G9 uu9 (Eg hc) (Eg hc) rfl hdd) ?_
 refine kQ2 [0,3,46] ?_
 refine wc (fun c46=>?_) fun c46=>?_
 have hcd:(c==45&&d==45)=true:=by rw[← b0B,← b0B];exact c46
 refine kQ1 [2] ?_
 refine WC.ret (wR (h) ?_)
 exact⟨by unfold b03;rw[hJ,hcd];simp,rfl⟩
 have hcd:(c==45&&d==45)=false:=by rw[← b0B,← b0B];exact c46
 refine kQ0 [0,3] ?_
 refine kA3 ?_
 refine WL.nil (A6 (s.length - (k+1)) [(3,.int .i64 (k+1))] (h'':=h) (by omega) ?_ Su Sb ⟨k+1,⟨by omega,by rw[hJ,hcd];rfl⟩,rfl,rfl,rfl⟩)
 exact Su
 replace c33:=dF c33
 rw[b9p (by omega)] at hJ
 refine kQ0 [0] ?_
 refine kA1 ?_
 refine xf (E1 Et) (a7Z _ _ _ (by omega)) ?_
 refine kQ1 [2] ?_
 refine WC.ret (wR (h) ?_)
 exact⟨by unfold b03;rw[hb,hJ];rfl,rfl⟩
theorem mayR_ct (a:Option Addr) (n c:Nat) (l:List Rw) (h:List Res) (m:View) (hr:Rd m h a n c 3 (fl I6 l)) (hs:∀ x ∈ l,x.text.length≤140737488355328):CT Tryz.prog 8 [.slice a n c] h m (A7 h (.bool (mayP l))):=by
 have hl:=hr.lenF C7 (by decide)
 have hmx:=hr.mx
 have hle:=hr.le
 subst hl
 refine CT.body Tryz.call8 Tryz.func8 rfl Tryz.ntmps8 Lb rfl ?_
 refine kQ1 [0] ?_
 refine kQ3 [0,9] ?_
 refine wc (fun c9=>?_) fun c9=>?_
 replace c9:=dT c9
 refine kQ1 [2] ?_
 refine WC.ret (wR (h) ?_)
 exact⟨by unfold mayP;rw[if_pos c9],rfl⟩
 replace c9:=dF c9
 have hm:mayP l=mayA 0 (-1) 0 l:=by unfold mayP;rw[if_neg c9]
 refine kQ0 [0] ?_
 refine kQ1 [0,3] ?_
 refine kQ1 [0,3,4] ?_
 refine B1 [0] rfl (fun μ F' h'=>∃ k:Nat,∃ no:Int,∃ dp:Int,∃ size:Int,((k≤l.length∧(-1≤dp∧dp≤32)∧(0≤no∧no≤65536)∧(0≤size∧size≤k * 321)∧((k=0∧no=0∧dp=-1)∨∃ y,0 < k∧l[k - 1]?=some y∧y.no=no∧y.depth=dp))∧mayP l=mayA no dp size (l.drop k))∧l.length - k=μ∧F'=[(3,.int .i64 size),(4,.int .i64 k)]∧h=h') (l.length - 0) [(3,.int .i64 0),(4,.int .i64 0)] (h0:=h) ?_ Sb ⟨0,0,-1,0,⟨⟨by omega,by omega,by omega,by omega,.inl ⟨rfl,rfl,rfl⟩⟩,hm⟩,rfl,rfl,rfl⟩ ?_
 exact Su
 rintro _ _ _ ⟨k,no,dp,size,⟨⟨hk,hdp,hno,hsz,hpr⟩,hJ⟩,rfl,rfl,rfl⟩
 refine B3 rfl ?_
 refine kQ4 [0,3,4,13] ?_
 refine wc (fun c13=>?_) fun c13=>?_
 replace c13:=dT c13
 obtain⟨x,hx⟩:=A5 (l:=l) (k:=k) (by omega)
 have hxs:=hs x (List.mem_of_getElem? hx)
 rw[a9K hx] at hJ
 refine kQ0 [0,3,4] ?_
 refine kQ1 [0,3,4,5] ?_
 refine kQ1 [0,3,4,5,6] ?_
 refine kP2 [0,3,4,5,6,17] ?_
 refine H7 KKh [0,3,4] rfl (fun F' h'=>∃ u:Int,∃ w:Int,(u=no+1∧w=dp+1)∧F'=[(5,.int .i64 u),(6,.int .i64 w)]∧h=h') ?_ ?_
 refine jE ?_
 refine wc (fun c17=>?_) fun c17=>?_
 replace c17:=dT c17
 obtain⟨y,hy0,hy,hyn,hyd⟩:=hpr.resolve_left (fun q=>by omega)
 refine kA2 ?_
 refine xG (P4 Et Ev.const (by omega)) ?_
 refine WL.val (v':=.int .i64 ((k - 1:Nat):Int)) (congrArg (Value.int .i64) (by omega)) ?_
 refine kQ5 [0,3,4,5] ?_
 refine kA2 ?_
 refine xG (P4 Et Ev.const (by omega)) ?_
 refine WL.val (v':=.int .i64 ((k - 1:Nat):Int)) (congrArg (Value.int .i64) (by omega)) ?_
 refine kA5 ?_
 refine WL.nil (D0 [(5,.int .i64 (y.no+1)),(6,.int .i64 (y.depth+1))] (h'':=h) ?_ Su Sb ⟨y.no+1,y.depth+1,⟨by omega,by omega⟩,rfl,rfl⟩)
 exact Su
 replace c17:=dF c17
 obtain⟨hk0,hn0,hd0⟩:k=0∧no=0∧dp=-1:=hpr.resolve_right (fun ⟨y,q,_⟩=>by omega)
 refine WC.skip (D0 [(5,.int .i64 1),(6,.int .i64 0)] (h'':=h) ?_ Su Sb ⟨1,0,⟨by omega,by omega⟩,rfl,rfl⟩)
 exact Su
 rintro _ _ ⟨u,w,⟨rfl,rfl⟩,rfl,rfl⟩
 refine B3 rfl ?_
 refine a9i ?_
 refine E8 (GU.f rfl rfl) (fun hc=>F4 S8.und S8.size S8.posz (Eg hc) (Eg hc) Rr rfl (by omega)) Lb ?_
 refine zG (fun hc=>F5 a6R rfl (Nat.ne_of_beq_eq_false rfl) C7 (Nat.succ_pos _) Rr (by assumption) (Eg hc)) ?_
 refine zG (fun hc=>F8 uu3 rfl C7 Rr (Eg hc) (by assumption) rfl) ?_
 refine kA5 ?_
 refine E8 (GU.f rfl rfl) (fun hc=>F4 S8.und S8.size S8.posz (Eg hc) (Eg hc) Rr rfl (by omega)) Lb ?_
 refine zG (fun hc=>F5 a6R rfl (Nat.ne_of_beq_eq_false rfl) C7 (Nat.succ_pos _) Rr (by assumption) (Eg hc)) ?_
 refine zG (fun hc=>F8 uu3 rfl C7 Rr (Eg hc) (by assumption) rfl) ?_
 refine kA5 ?_
 refine E8 (GU.f rfl rfl) (fun hc=>F4 S8.und S8.size S8.posz (Eg hc) (Eg hc) Rr rfl (by omega)) Lb ?_
 refine zG (fun hc=>F5 a6R rfl (Nat.ne_of_beq_eq_false rfl) C7 (Nat.succ_pos _) Rr (by assumption) (Eg hc)) ?_
 refine zG (fun hc=>F8 uu3 rfl C7 Rr (Eg hc) (by assumption) rfl) ?_
 refine kA6 ?_
 refine E8 (GU.f rfl rfl) (fun hc=>F4 S8.und S8.size S8.posz (Eg hc) (Eg hc) Rr rfl (by omega)) Lb ?_
 refine zG (fun hc=>F5 a6R rfl (Nat.ne_of_beq_eq_false rfl) C7 (Nat.succ_pos _) Rr (by assumption) (Eg hc)) ?_
 refine zG (fun hc=>F8 uu3 rfl C7 Rr (Eg hc) (by assumption) rfl) ?_
 refine kA5 ?_
 refine E8 (GU.f rfl rfl) (fun hc=>F4 S8.und S8.size S8.posz (Eg hc) (Eg hc) Rr rfl (by omega)) Lb ?_
 refine zG (fun hc=>F5 a6R rfl (Nat.ne_of_beq_eq_false rfl) C7 (Nat.succ_pos _) Rr (by assumption) (Eg hc)) ?_
 refine zG (fun hc=>F8 uu9 rfl C7 Rr (Eg hc) (by assumption) rfl) ?_
 refine A8 (GU.f rfl rfl) (fun hc=>⟨Ev.func,(E1 (Eg hc)),b9X _ _ _ (by omega)⟩) Lb ?_
 refine kQ2 [0,3,4,80] ?_
 refine wc (fun c80=>?_) fun c80=>?_
 have hb:badR no dp x=true:=by rw[← b1p];exact c80
 rw[if_pos hb] at hJ
 refine kQ1 [2] ?_
 refine WC.ret (wR (h) ?_)
 exact⟨by rw[hJ],rfl⟩
 have hb:badR no dp x=false:=by rw[← b1p];exact c80
 rw[hb] at hJ
 obtain⟨h1,h2,h3,h4,h5,h6⟩:=b0o hb
 have h7:=(validP_spec h6).2.1
 refine kQ0 [0,3,4] ?_
 refine dS [] (.op 0 (.op 1 (.op 2 (.op 3 (.op 4 (.op 5 (.op 6 (.op 7 (.op 8 (.op 9 (.op 10 (.op 11 (.op 12 (.op 13 .nil)))))))))))))) [14,15,16] D8 ?_
 refine kA6 ?_
 refine yG rfl (a7a Ev.const Et (by omega)) ?_
 refine yG rfl (I7 Et Et (by omega)) ?_
 refine kA5 ?_
 refine yG rfl (I0 uu9 Et) ?_
 refine SR.nil rfl rfl ?_
 refine xG (I7 Et Et (by omega)) ?_
 refine kQ2 [0,3,4] ?_
 refine kA3 ?_
 refine WL.nil (A6 (l.length - (k+1)) [(3,.int .i64 (size+2 * x.depth+x.text.length+1)),(4,.int .i64 (k+1))] (h'':=h) (by omega) ?_ Su Sb ⟨k+1,x.no,x.depth,size+2 * x.depth+x.text.length+1,⟨⟨by omega,by omega,by omega,by omega,.inr ⟨x,by omega,hx,rfl,rfl⟩⟩,hJ⟩,rfl,rfl,rfl⟩)
 exact Su
 replace c13:=dF c13
 rw[List.drop_eq_nil_of_le (by omega)] at hJ
 refine kQ0 [3] ?_
 refine kQ3 [2] ?_
 refine WC.ret (wR (h) ?_)
 exact⟨by rw[hJ];rfl,rfl⟩
end Go.Proofs.YtkemgjnejlkkcaaGreatDoor.Ly7
end
section
namespace Go.Proofs.YtkemgjnejlkkcaaGreatDoor
set_option maxRecDepth 100000
set_option maxHeartbeats 2000000
open Go.Eng Go.Pc Go.Sx Go
open Go.Xp hiding B D9
open Go.Ly (Rw I6 C7)
def Law:Value→View→List Res→Prop:=fun v _ _=>v=.bool true
theorem b9l (p q:Pr):J6 p (stP q)=J6 p q:=by rw[a8I,a7e,a8I]
theorem b7l (s:Option Addr) (k c:Nat) (xs:List Rw) (h:List Res) (m:View) (hs:Rd m h s k c 3 (fl I6 xs)) (hb:k≤4398046511103):CT Tryz.prog 7 [.slice s k c] h m (fun v _ h'=>b3v I6 26 3 h xs v h'):=by
 have hl:=hs.lenF C7 (by decide)
 refine CT.body Tryz.call7 Tryz.func7 rfl Tryz.ntmps7 Lb rfl ?_
 refine kQ1 [0] ?_
 refine kA1 ?_
 refine xG (b65 a6T Et Ev.const) ?_
 refine kQ0 [0,4] ?_
 refine wc (fun c4=>?_) fun c4=>?_
 have:s=none:=by simpa using c4
 subst this
 refine b4B (A:=fl I6 xs=[]) (fun w st=>?_) fun h0=>?_
 · cases hx:fl I6 xs with
   | nil=>rfl
   | cons y ys=>obtain⟨b,off,e,_⟩:=hs.at_ w st 0 y (by rw[hx];rfl);cases e
 have e0:xs=[]:=by cases xs <;> simp_all [fl,I6]
 subst e0
 refine WC.addNil 26 3 ?_
 refine kQ1 [2] ?_
 refine WC.ret (wR (.row (.slice none 0 0) 26 3 0 []::h) ?_)
 exact⟨none,0,0,rfl,rfl,rfl⟩
 refine kQ0 [0] ?_
 refine a8o S8 Lb fun b5=>?_
 refine kA1 ?_
 refine xD S8 (Ev.tmp rfl) (Ev.tmp rfl) (Nat.zero_add _) (List.nil_append _) fun a7 c7=>?_
 refine kQ1 [2] ?_
 refine WC.ret (wR (_) ?_)
 exact⟨a7,c7,_,hl.symm,rfl,rfl⟩
theorem c0M {a r:Res} {bl h:List Res}:(a::(bl++r::h)).Perm (r::a::(bl++h)):=((List.perm_middle).cons a).trans (List.Perm.swap ..)
theorem c2y (z:Int):∀ {l:List Rw} {i:Nat} {r:Rw},l[i]?=some r→(fl I6 l).set (i * 3+0) (.int .i64 z)=fl I6 (l.set i ⟨z,r.depth,r.text⟩)
 | x::l,0,r,h=>by
   obtain rfl:x=r:=by simpa using h
   rfl
 | x::l,i+1,r,h=>by
   have e:fl I6 (x::l)=I6 x++fl I6 l:=by simp[fl]
   have e2:fl I6 ((x::l).set (i+1) ⟨z,r.depth,r.text⟩)=I6 x++fl I6 (l.set i ⟨z,r.depth,r.text⟩):=by simp[fl]
   rw[e,e2,List.set_append_right _ _ (by rw[C7];omega),C7,show(i+1) * 3+0 - 3=i * 3+0 by omega,c2y z (l:=l) (i:=i) (by simpa using h)]
theorem b70 {m:View} (hg:Glob m) (ra:Option Addr) (n rc:Nat) (R:List Rw) (hn:R.length=n) (h:List Res) (ht:∀ x ∈ R,x.text.length≤140737488355328) :
   CT Tryz.prog 10 [.slice ra n rc] (.row (.slice ra n rc) 26 3 n (fl I6 R)::h) m (fun v _ h'=>∃ x hx bl,v=.tuple #[prV x,.int .i64 ((K6 R).2.1:Nat),.int .i64 (K6 R).2.2]∧stP x=(K6 R).1∧POk m (hx++(bl++h)) x∧Rd m hx ra n rc 3 (fl I6 R)∧h'=hx++(bl++h)):=by
 subst hn
 exact a9o hg ra rc R h ht
end Go.Proofs.YtkemgjnejlkkcaaGreatDoor
end
section
namespace Go.Proofs.YtkemgjnejlkkcaaGreatDoor
set_option maxRecDepth 100000
set_option maxHeartbeats 2000000
open Go.Eng Go.Pc Go.Sx Go
open Go.Xp hiding B D9
open Go.Ly (Rw I6 C7)
theorem c3q (b:UInt8):∃ z:Int,b0Z .u8 (b.toNat:Int) 15=z∧0≤z∧z≤15:=by
 refine⟨_,rfl,?_⟩
 have h:∀ n:Fin 256,0≤b0Z .u8 (n.val:Int) 15∧b0Z .u8 (n.val:Int) 15≤15:=by decide +kernel
 exact h ⟨b.toNat,b.toNat_lt⟩
theorem c1G {R S:List Rw} (h:K0 S=K0 R) {i:Nat} {r:Rw} (hr:S[i]?=some r) (z:Int):K0 (S.set i ⟨z,r.depth,r.text⟩)=K0 R:=by
 rw[← h]
 unfold K0
 rw[List.map_set]
 refine List.ext_getElem? fun j=>?_
 by_cases hj:i=j
 · subst hj
   have hi:=(List.getElem?_eq_some_iff.1 hr).1
   rw[List.getElem?_set_self (by simpa using hi),List.getElem?_map,hr]
   rfl
 · rw[List.getElem?_set_ne hj]
theorem b8t {R S:List Rw} (h:K0 S=K0 R) {n:Nat} (hR:∀ x ∈ R,x.text.length≤n):∀ x ∈ S,x.text.length≤n:=fun x hx=>by
 obtain⟨i,hi⟩:=List.getElem?_of_mem hx
 have h1:(K0 S)[i]?=(K0 R)[i]?:=by rw[h]
 unfold K0 at h1
 rw[List.getElem?_map,List.getElem?_map,hi] at h1
 cases hr:R[i]? with
 | none=>rw[hr] at h1;cases h1
 | some y=>
   rw[hr] at h1
   have h2:=Option.some.inj h1
   have h3:=hR y (List.mem_of_getElem? hr)
   have h4:x.text=y.text:=congrArg Prod.snd h2
   rw[h4]
   exact h3
theorem b1G {m:View} (hg:Glob m) (hp:Pow m) (a:Option Addr) (n c:Nat) (R:List Rw) (ga:Option Addr) (gn gc:Nat) (G:List UInt8) (h:List Res) (hR:Rd m [] a n c 3 (fl I6 R)) (hB:∀ x ∈ R,RwB x) (hn:n≤4398046511103) (hG:Rd m [] ga gn gc 1 (bv G)) :
   CT Tryz.prog 3 [.slice a n c,.slice ga gn gc] h m Law:=by
 have hl:=hR.lenF C7 (by decide)
 have hgl:=hG.lenB
 subst hl
 have ht:∀ x ∈ R,x.text.length≤140737488355328:=fun x hx=>(hB x hx).2
 refine CT.body Tryz.call3 Tryz.func3 rfl Tryz.ntmps3 Lb rfl ?_
 refine kQ1 [0,1] ?_
 refine kA1 ?_
 refine xg (E1 Et) (b7l a _ c R _ _ (hR.mono (View.le.refl m) (List.nil_sublist _)) hn) ?_
 rintro _ _ ⟨a15,c15,_,rfl,rfl,rfl⟩
 refine kQ1 [0,1,5] ?_
 refine kQ1 [0,1,5,6] ?_
 refine kQ3 [0,1,5,6,17,18] ?_
 refine B1 [0,1,5,17] rfl (fun μ F' h'=>∃ i:Nat,∃ no:Int,∃ s:List Rw,((i≤R.length∧s.length=R.length∧0≤no∧no≤16 * i)∧K0 s=K0 R)∧R.length - i=μ∧F'=[(6,.int .i64 no),(18,.int .i64 i)]∧.row (.slice a15 R.length c15) 26 3 R.length (fl I6 s)::h=h') (R.length - 0) [(6,.int .i64 0),(18,.int .i64 0)] (h0:=.row (.slice a15 R.length c15) 26 3 R.length (fl I6 R)::h) ?_ Sb ⟨0,0,R,⟨⟨by omega,rfl,by omega,by omega⟩,rfl⟩,rfl,rfl,rfl⟩ ?_
 exact Su
 rintro _ _ _ ⟨i,no,s,⟨⟨hi,hsl,hno1,hno2⟩,hbr⟩,rfl,rfl,rfl⟩
 refine B3 rfl ?_
 refine kQ1 [0,1,5,6,17,18,19] ?_
 refine wc (fun c19=>?_) fun c19=>?_
 replace c19:=dT c19
 refine kQ0 [0,1,5,6,17,18] ?_
 refine kQ2 [0,1,5,6,7,17,18] ?_
 refine kQ3 [0,1,5,6,7,17,18] ?_
 refine kP4 [0,1,5,6,7,17,18,26] ?_
 refine H7 KKh [0,1,5,7,17,18] rfl (fun F' h'=>∃ no2:Int,(0≤no2∧no2≤16 * ((i:Int)+1))∧F'=[(6,.int .i64 no2)]∧.row (.slice a15 R.length c15) 26 3 R.length (fl I6 s)::h=h') ?_ ?_
 refine jE ?_
 refine wc (fun c26=>?_) fun c26=>?_
 replace c26:=dT c26
 obtain⟨g,hgx⟩:=A5 (l:=G) (k:=i) (by omega)
 obtain⟨z,hz,hz1,hz2⟩:=c3q g
 refine kA3 ?_
 refine xG (F4 c0x.und c0x.size c0x.posz Et Et (by first | assumption | exact Rd.ofSl (by assumption) | exact Rd.ofPt rfl (by decide) (by (repeat (first | exact a0J _ | apply a0E | apply List.mem_append_right))) | exact Rd.mono (by assumption) (View.le.refl _) Sb | exact Rd.inRow (by (repeat (first | exact a0J _ | apply a0E | apply List.mem_append_right))) (by assumption) (by assumption) (by assumption)) rfl (by omega)) ?_
 refine xG (a7T uu5 rfl (by first | assumption | exact Rd.ofSl (by assumption) | exact Rd.ofPt rfl (by decide) (by (repeat (first | exact a0J _ | apply a0E | apply List.mem_append_right))) | exact Rd.mono (by assumption) (View.le.refl _) Sb | exact Rd.inRow (by (repeat (first | exact a0J _ | apply a0E | apply List.mem_append_right))) (by assumption) (by assumption) (by assumption)) Et (by assumption)) ?_
 refine kA1 ?_
 refine WL.val (v':=.int .u8 z) (congrArg (Value.int .u8) hz) ?_
 refine xG (PO.conv uu5 uu3 Et) ?_
 refine WL.val (v':=.int .i64 z) (congrArg (Value.int .i64) (by rw[IntKind.wrap_i64];omega)) ?_
 refine xG (I7 Et Et (by omega)) ?_
 refine kA1 ?_
 refine WL.nil (D0 [(6,.int .i64 (no+1+z))] (h'':=.row (.slice a15 R.length c15) 26 3 R.length (fl I6 s)::h) ?_ Su Sb ⟨no+1+z,⟨by omega,by omega⟩,rfl,rfl⟩)
 exact Su
 replace c26:=dF c26
 refine WC.skip (D0 [(6,.int .i64 (no+1))] (h'':=.row (.slice a15 R.length c15) 26 3 R.length (fl I6 s)::h) ?_ Su Sb ⟨no+1,⟨by omega,by omega⟩,rfl,rfl⟩)
 exact Su
 rintro _ _ ⟨no2,⟨hq1,hq2⟩,rfl,rfl⟩
 refine B3 rfl ?_
 obtain⟨r,hr⟩:=A5 (l:=s) (k:=i) (by omega)
 refine j0 ?_
 refine A0 (a:=a15) (by (repeat (first | exact a0J _ | apply a0E | apply List.mem_append_right))) fun p9 q9 r9=>?_
 refine kA3 ?_
 refine xG (F4 S8.und S8.size S8.posz Et Et (Rd.inRow (by (repeat (first | exact a0J _ | apply a0E | apply List.mem_append_right))) r9 p9 q9) rfl (by omega)) ?_
 refine xG (F5 a6R rfl (Nat.ne_of_beq_eq_false rfl) C7 (Nat.succ_pos _) (Rd.inRow (by (repeat (first | exact a0J _ | apply a0E | apply List.mem_append_right))) r9 p9 q9) (by assumption) Et) ?_
 refine b6u (o:=i * 3+0) rfl Et Et rfl rfl (by rw[r9];omega) Up ?_
 rw[c2y no2 hr]
 refine kQ0 [0,1,5,6,17,18] ?_
 refine kA2 ?_
 refine WL.nil (A6 (R.length - (i+1)) [(6,.int .i64 no2),(18,.int .i64 (i+1))] (h'':=.row (.slice a15 R.length c15) 26 3 R.length (fl I6 (s.set i ⟨no2,r.depth,r.text⟩))::h) (by omega) ?_ Su Sb ⟨i+1,no2,s.set i ⟨no2,r.depth,r.text⟩,⟨⟨by omega,by rw[List.length_set];exact hsl,by omega,by omega⟩,c1G hbr hr no2⟩,rfl,rfl,rfl⟩)
 exact Su
 replace c19:=dF c19
 have hts:=b8t hbr ht
 refine kQ0 [0,5] ?_
 refine A0 (a:=a15) (by (repeat (first | exact a0J _ | apply a0E | apply List.mem_append_right))) fun p11 q11 r11=>?_
 refine kA1 ?_
 refine xf (E1 Et) (Ly7.mayR_ct a _ c R _ _ (hR.mono (View.le.refl m) (List.nil_sublist _)) ht) ?_
 refine kA3 ?_
 refine A8 (GU.f rfl rfl) (fun hc=>⟨Ev.func,(E1 (Eg hc)),Ly7.mayR_ct a15 _ c15 s _ _ (Rd.inRow (by (repeat (first | exact a0J _ | apply a0E | apply List.mem_append_right))) r11 p11 q11) hts⟩) Lb ?_
 refine kQ2 [0,5,48] ?_
 refine wc (fun c48=>?_) fun c48=>?_
 refine j0 ?_
 refine xf E0 (a5a hg hp _) ?_
 refine kQ1 [4] ?_
 refine WC.ret (wR (h) ?_)
 rfl
 have hm1:Go.Ly.mayP R=true:=by simpa using (Bool.or_eq_false_iff.1 c48).1
 have hm2:Go.Ly.mayP s=true:=by simpa using (Bool.or_eq_false_iff.1 c48).2
 have hps:K6 s=K6 R:=b1H hbr hm2 hm1
 refine kQ0 [0,5] ?_
 refine kA1 ?_
 refine xg (E1 Et) (a7C hg a c R _ hR ht) ?_
 rintro _ _ ⟨x,bl,rfl,hst,hok,rfl⟩
 refine kA4 ?_
 refine xW fun b8=>?_
 refine kQ3 [5,8,9,10] ?_
 refine kA1 ?_
 refine WL.perm c0M ?_
 refine xg (E1 Et) (b70 hg a15 _ c15 s hsl _ hts) ?_
 rintro _ _ ⟨y,hx,bl2,rfl,hst2,hok2,-,rfl⟩
 rw[hps]
 have hsame:J6 x y=true:=by
   rw[hps,← hst] at hst2
   rw[← a7e,← hst2,a7e]
   exact b3V y
 refine kA4 ?_
 refine xW fun b11=>?_
 refine kQ3 [8,9,10,11,12,13] ?_
 refine xG (M0 P3 rfl rfl Et (by (repeat (first | exact a0J _ | apply a0E | apply List.mem_append_right))) rfl) ?_
 refine xG (M0 P3 rfl rfl Et (by (repeat (first | exact a0J _ | apply a0E | apply List.mem_append_right))) rfl) ?_
 refine xf (E2 Et Et) (CT.val (b2C x y _ _ (hok.mono Sb) (hok2.mono Sb)) (congrArg Value.bool hsame)) ?_
 refine kA1 ?_
 refine zU ?_
 refine kA1 ?_
 refine zU ?_
 refine kA1 ?_
 refine zU ?_
 refine kA1 ?_
 refine wV (b':=true) (by simp) ?_
 refine kA2 ?_
 refine zU ?_
 refine kA1 ?_
 refine zU ?_
 refine kA1 ?_
 refine zU ?_
 refine kA1 ?_
 refine wV (b':=true) (by simp) ?_
 refine kA2 ?_
 refine zU ?_
 refine xf E0 (a5a hg hp _) ?_
 refine kQ2 [4] ?_
 refine WC.ret (wR (h) ?_)
 rfl
end Go.Proofs.YtkemgjnejlkkcaaGreatDoor
end

import Derived.Test.YtkemgjnejlkkcaaGreatDoorLNumbersZ4
section
namespace Go.Proofs.YtkemgjnejlkkcaaGreatDoor
set_option maxRecDepth 100000
set_option maxHeartbeats 2000000
open Go.Eng Go.Pc Go
open Go.Xp hiding B D9
open Go.Ty (Ty Vr eqT tyV J2 PrOk VOk prL encV E5 M5 D6 eqI a2l a2p b0y)
open Go.Lx (encB D1)
theorem b6y {m:View} {h:List Res} (hg:Glob m) (k:Int):CT Tryz.prog 75 [.int .u8 k] h m (A7 h (.tuple #[.agg (usE (C2 k).1).toArray,.bool (C2 k).2])):=by
 refine CT.body Tryz.call75 Tryz.func75 rfl Tryz.ntmps75 Lb rfl ?_
 refine j0 ?_
 refine xW fun b2=>?_
 refine kQ1 [0,2] ?_
 refine kQ1 [2,4] ?_
 refine kP2 [2,4,5] ?_
 refine H7 KKh [2,4] rfl (fun F' h'=>∃ q1:Bool,(q1=true↔(k=1∨k=2))∧F'=[(5,.bool q1)]∧.pt b2 (.cells (usE us0).toArray 147 (0,0))::h=h') ?_ ?_
 refine jE ?_
 refine wc (fun c5=>?_) fun c5=>?_
 have ca:(k==1)=true:=c5
 refine WC.skip (D0 [(5,.bool ((k==1)))] (h'':=.pt b2 (.cells (usE us0).toArray 147 (0,0))::h) ?_ Su Sb ⟨(k==1),⟨fun _=>.inl (by simpa using ca),fun _=>ca⟩,rfl,rfl⟩)
 exact Su
 have ca:(k==1)=false:=c5
 refine kA2 ?_
 refine WL.nil (D0 [(5,.bool ((k==2)))] (h'':=.pt b2 (.cells (usE us0).toArray 147 (0,0))::h) ?_ Su Sb ⟨(k==2),⟨fun hk=>.inr (by simpa using hk),fun hk=>hk.elim (fun h1=>absurd h1 (by simpa using ca)) (fun h1=>by simpa using h1)⟩,rfl,rfl⟩)
 exact Su
 rintro _ _ ⟨q1,hb1,rfl,rfl⟩
 refine B3 rfl ?_
 refine jE ?_
 refine wc (fun c5=>?_) fun c5=>?_
 have hk:=hb1.1 c5
 refine kQ3 [2,3] ?_
 refine WC.ret (J3 (h':=h) (.inl rfl) rfl (A4 V6 rfl rfl rfl Me rfl) (RV.tmp rfl) (View.le.refl m) Sb ?_)
 exact⟨by rcases hk with hk | hk <;> (rw[hk];rfl),rfl⟩
 have hk12:¬ (k=1∨k=2):=fun q=>by rw[hb1.2 q] at c5;cases c5
 refine kQ2 [2,4,9] ?_
 refine wc (fun c9=>?_) fun c9=>?_
 replace c9:=G4 c9
 refine j0 ?_
 refine xG (I5 (vs:=a6A) S2 rfl rfl Ev.global rfl (fun j v hj=>by rw[Nat.zero_add];exact hg.sSome j v hj)) ?_
 refine xG (I5 (vs:=a6A) S2 rfl rfl Ev.global rfl (fun j v hj=>by rw[Nat.zero_add];exact hg.sSome j v hj)) ?_
 refine kQ3 [2,3] ?_
 refine WC.ret (J3 (h':=h) (.inl rfl) rfl (A4 V6 rfl rfl rfl Me rfl) (RV.tmp rfl) (View.le.refl m) Sb ?_)
 exact⟨by rw[c9];rfl,rfl⟩
 replace c9:=G3 c9
 refine kQ2 [2,4,14] ?_
 refine wc (fun c14=>?_) fun c14=>?_
 replace c14:=G4 c14
 refine j0 ?_
 refine xG (I5 (vs:=a6A) S2 rfl rfl Ev.global rfl (fun j v hj=>by rw[Nat.zero_add];exact hg.sSome j v hj)) ?_
 refine kQ3 [2,3] ?_
 refine WC.ret (J3 (h':=h) (.inl rfl) rfl (A4 V6 rfl rfl rfl Me rfl) (RV.tmp rfl) (View.le.refl m) Sb ?_)
 exact⟨by rw[c14];rfl,rfl⟩
 replace c14:=G3 c14
 refine kQ2 [2,4,18] ?_
 refine wc (fun c18=>?_) fun c18=>?_
 replace c18:=G4 c18
 refine kQ4 [2,3] ?_
 refine WC.ret (J3 (h':=h) (.inl rfl) rfl (A4 V6 rfl rfl rfl Me rfl) (RV.tmp rfl) (View.le.refl m) Sb ?_)
 exact⟨by rw[c18];rfl,rfl⟩
 replace c18:=G3 c18
 refine kQ2 [2,4,22] ?_
 refine wc (fun c22=>?_) fun c22=>?_
 replace c22:=G4 c22
 refine j0 ?_
 refine xG (I5 (vs:=a8v) S2 rfl rfl Ev.global rfl (fun j v hj=>by rw[Nat.zero_add];exact hg.sOne j v hj)) ?_
 refine kQ3 [2,3] ?_
 refine WC.ret (J3 (h':=h) (.inl rfl) rfl (A4 V6 rfl rfl rfl Me rfl) (RV.tmp rfl) (View.le.refl m) Sb ?_)
 exact⟨by rw[c22];rfl,rfl⟩
 replace c22:=G3 c22
 refine kQ2 [2,4,26] ?_
 refine wc (fun c26=>?_) fun c26=>?_
 replace c26:=G4 c26
 refine kA1 ?_
 refine xG (PO.build V6 rfl rfl rfl (EvP.cons Ev.const (EvP.cons Et (EvP.cons Ev.const (EvP.cons Ev.const EvP.nil)))) rfl) ?_
 refine kQ2 [2,3] ?_
 refine WC.ret (J3 (h':=h) (.inl rfl) rfl (A4 V6 rfl rfl rfl Me rfl) (RV.tmp rfl) (View.le.refl m) Sb ?_)
 exact⟨by rw[c26];rfl,rfl⟩
 replace c26:=G3 c26
 refine kP2 [2,4,30] ?_
 refine H7 KKh [2,4] rfl (fun F' h'=>∃ q2:Bool,(q2=true↔(k=8∨k=9))∧F'=[(30,.bool q2)]∧.pt b2 (.cells (usE us0).toArray 147 (0,0))::h=h') ?_ ?_
 refine jE ?_
 refine wc (fun c30=>?_) fun c30=>?_
 have ca:(k==8)=true:=c30
 refine WC.skip (D0 [(30,.bool ((k==8)))] (h'':=.pt b2 (.cells (usE us0).toArray 147 (0,0))::h) ?_ Su Sb ⟨(k==8),⟨fun _=>.inl (by simpa using ca),fun _=>ca⟩,rfl,rfl⟩)
 exact Su
 have ca:(k==8)=false:=c30
 refine kA2 ?_
 refine WL.nil (D0 [(30,.bool ((k==9)))] (h'':=.pt b2 (.cells (usE us0).toArray 147 (0,0))::h) ?_ Su Sb ⟨(k==9),⟨fun hk=>.inr (by simpa using hk),fun hk=>hk.elim (fun h1=>absurd h1 (by simpa using ca)) (fun h1=>by simpa using h1)⟩,rfl,rfl⟩)
 exact Su
 rintro _ _ ⟨q2,hb2,rfl,rfl⟩
 refine B3 rfl ?_
 refine jE ?_
 refine wc (fun c30=>?_) fun c30=>?_
 have hk:=hb2.1 c30
 refine j0 ?_
 refine xG (I5 (vs:=c1l) S2 rfl rfl Ev.global rfl (fun j v hj=>by rw[Nat.zero_add];exact hg.sAll j v hj)) ?_
 refine kQ3 [2,3] ?_
 refine WC.ret (J3 (h':=h) (.inl rfl) rfl (A4 V6 rfl rfl rfl Me rfl) (RV.tmp rfl) (View.le.refl m) Sb ?_)
 exact⟨by rcases hk with hk | hk <;> (rw[hk];rfl),rfl⟩
 have hk89:¬ (k=8∨k=9):=fun q=>by rw[hb2.2 q] at c30;cases c30
 refine kQ2 [2,4,35] ?_
 refine wc (fun c35=>?_) fun c35=>?_
 replace c35:=G4 c35
 refine kQ4 [2,3] ?_
 refine WC.ret (J3 (h':=h) (.inl rfl) rfl (A4 V6 rfl rfl rfl Me rfl) (RV.tmp rfl) (View.le.refl m) Sb ?_)
 exact⟨by rw[c35];rfl,rfl⟩
 replace c35:=G3 c35
 refine kQ2 [2,4,39] ?_
 refine wc (fun c39=>?_) fun c39=>?_
 replace c39:=G4 c39
 refine kQ4 [2,3] ?_
 refine WC.ret (J3 (h':=h) (.inl rfl) rfl (A4 V6 rfl rfl rfl Me rfl) (RV.tmp rfl) (View.le.refl m) Sb ?_)
 exact⟨by rw[c39];rfl,rfl⟩
 replace c39:=G3 c39
 refine kP2 [2,4,43] ?_
 refine H7 KKh [2,4] rfl (fun F' h'=>∃ q3:Bool,(q3=true↔(k=12∨k=13))∧F'=[(43,.bool q3)]∧.pt b2 (.cells (usE us0).toArray 147 (0,0))::h=h') ?_ ?_
 refine jE ?_
 refine wc (fun c43=>?_) fun c43=>?_
 have ca:(k==12)=true:=c43
 refine WC.skip (D0 [(43,.bool ((k==12)))] (h'':=.pt b2 (.cells (usE us0).toArray 147 (0,0))::h) ?_ Su Sb ⟨(k==12),⟨fun _=>.inl (by simpa using ca),fun _=>ca⟩,rfl,rfl⟩)
 exact Su
 have ca:(k==12)=false:=c43
 refine kA2 ?_
 refine WL.nil (D0 [(43,.bool ((k==13)))] (h'':=.pt b2 (.cells (usE us0).toArray 147 (0,0))::h) ?_ Su Sb ⟨(k==13),⟨fun hk=>.inr (by simpa using hk),fun hk=>hk.elim (fun h1=>absurd h1 (by simpa using ca)) (fun h1=>by simpa using h1)⟩,rfl,rfl⟩)
 exact Su
 rintro _ _ ⟨q3,hb3,rfl,rfl⟩
 refine B3 rfl ?_
 refine jE ?_
 refine wc (fun c43=>?_) fun c43=>?_
 have hk:=hb3.1 c43
 refine kA1 ?_
 refine xG (PO.build V6 rfl rfl rfl (EvP.cons Ev.const (EvP.cons Et (EvP.cons Ev.const (EvP.cons Ev.const EvP.nil)))) rfl) ?_
 refine kQ2 [2,3] ?_
 refine WC.ret (J3 (h':=h) (.inl rfl) rfl (A4 V6 rfl rfl rfl Me rfl) (RV.tmp rfl) (View.le.refl m) Sb ?_)
 exact⟨by rcases hk with hk | hk <;> (rw[hk];rfl),rfl⟩
 have hk1213:¬ (k=12∨k=13):=fun q=>by rw[hb3.2 q] at c43;cases c43
 refine kQ2 [2,4,48] ?_
 refine wc (fun c48=>?_) fun c48=>?_
 replace c48:=G4 c48
 refine kA1 ?_
 refine xG (PO.build V6 rfl rfl rfl (EvP.cons Ev.const (EvP.cons Et (EvP.cons Ev.const (EvP.cons Ev.const EvP.nil)))) rfl) ?_
 refine kQ2 [2,3] ?_
 refine WC.ret (J3 (h':=h) (.inl rfl) rfl (A4 V6 rfl rfl rfl Me rfl) (RV.tmp rfl) (View.le.refl m) Sb ?_)
 exact⟨by rw[c48];rfl,rfl⟩
 replace c48:=G3 c48
 refine kQ2 [2,4,52] ?_
 refine wc (fun c52=>?_) fun c52=>?_
 replace c52:=G4 c52
 refine j0 ?_
 refine xG (I5 (vs:=a8v) S2 rfl rfl Ev.global rfl (fun j v hj=>by rw[Nat.zero_add];exact hg.sOne j v hj)) ?_
 refine kA1 ?_
 refine xG (PO.build V6 rfl rfl rfl (EvP.cons Et (EvP.cons Et (EvP.cons Ev.const (EvP.cons Ev.const EvP.nil)))) rfl) ?_
 refine kQ2 [2,3] ?_
 refine WC.ret (J3 (h':=h) (.inl rfl) rfl (A4 V6 rfl rfl rfl Me rfl) (RV.tmp rfl) (View.le.refl m) Sb ?_)
 exact⟨by rw[c52];rfl,rfl⟩
 replace c52:=G3 c52
 refine kQ2 [2,4,57] ?_
 refine wc (fun c57=>?_) fun c57=>?_
 replace c57:=G4 c57
 refine j0 ?_
 refine xG (I5 (vs:=a8v) S2 rfl rfl Ev.global rfl (fun j v hj=>by rw[Nat.zero_add];exact hg.sOne j v hj)) ?_
 refine xG (I5 (vs:=a8v) S2 rfl rfl Ev.global rfl (fun j v hj=>by rw[Nat.zero_add];exact hg.sOne j v hj)) ?_
 refine kQ3 [2,3] ?_
 refine WC.ret (J3 (h':=h) (.inl rfl) rfl (A4 V6 rfl rfl rfl Me rfl) (RV.tmp rfl) (View.le.refl m) Sb ?_)
 exact⟨by rw[c57];rfl,rfl⟩
 replace c57:=G3 c57
 refine kQ2 [2,4,62] ?_
 refine wc (fun c62=>?_) fun c62=>?_
 replace c62:=G4 c62
 refine kQ4 [2,3] ?_
 refine WC.ret (J3 (h':=h) (.inl rfl) rfl (A4 V6 rfl rfl rfl Me rfl) (RV.tmp rfl) (View.le.refl m) Sb ?_)
 exact⟨by rw[c62];rfl,rfl⟩
 replace c62:=G3 c62
 refine kQ2 [2,66] ?_
 refine wc (fun c66=>?_) fun c66=>?_
 replace c66:=G4 c66
 refine j0 ?_
 refine xG (I5 (vs:=a8v) S2 rfl rfl Ev.global rfl (fun j v hj=>by rw[Nat.zero_add];exact hg.sOne j v hj)) ?_
 refine kQ3 [2,3] ?_
 refine WC.ret (J3 (h':=h) (.inl rfl) rfl (A4 V6 rfl rfl rfl Me rfl) (RV.tmp rfl) (View.le.refl m) Sb ?_)
 exact⟨by rw[c66];rfl,rfl⟩
 replace c66:=G3 c66
 have hF:C2 k=(us0,false):=by
   unfold C2
   repeat rw[if_neg (by omega)]
 refine kQ0 [2] ?_
 refine kQ3 [2,3] ?_
 refine WC.ret (J3 (h':=h) (.inl rfl) rfl (A4 V6 rfl rfl rfl Me rfl) (RV.tmp rfl) (View.le.refl m) Sb ?_)
 exact⟨by rw[hF];rfl,rfl⟩
def eqS (x y:B):Bool:=x==y
theorem c3l {x y:B} (h:(!(x==y))=true):eqS x y=false:=by simpa [eqS] using h
theorem c4a {x y:B} (h:(!(x==y))=false):eqS x y=true:=by simpa [eqS] using h
theorem c1B (x y:B):eqS x y=true↔x=y:=by simp[eqS]
theorem c1o {x y:Fo} (h:(!(a0U x y))=true):a0U x y=false:=by simpa using h
theorem c2d {x y:Fo} (h:(!(a0U x y))=false):a0U x y=true:=by simpa using h
theorem b4z {α:Type} [BEq α] [LawfulBEq α] {e:α→α→Bool} (he:∀ x y,e x y=true↔x=y) (xs ys:List α):eqL e xs ys=(xs==ys):=by
 rw[Bool.eq_iff_iff,b0A he]
 simp
theorem b1E (s1 s2:Option Addr) (n1 c1 n2 c2:Nat) (xs ys:List _) (h:List Res) (m:View) (h1:Rd m h s1 n1 c1 1 (fl M5 xs)) (h2:Rd m h s2 n2 c2 1 (fl M5 ys)) :
   CT Tryz.prog 201 [.slice s1 n1 c1,.slice s2 n2 c2] h m (A7 h (.bool (eqL eqI xs ys))):=by
 have l1:=h1.lenF D6 (by decide)
 have l2:=h2.lenF D6 (by decide)
 have m1:=h1.mx
 have m2:=h2.mx
 have k1:=h1.le
 have k2:=h2.le
 refine CT.body Tryz.call201 Tryz.func201 rfl Tryz.ntmps201 Lb rfl ?_
 refine kQ1 [0,1] ?_
 refine kQ5 [0,1,10] ?_
 refine wc (fun c10=>?_) fun c10=>?_
 replace c10:=a1p c10
 refine kQ1 [4] ?_
 refine WC.ret (wR (h) ?_)
 exact⟨by rw[Q4 _ _ _ (by omega)],rfl⟩
 replace c10:=a1y c10
 refine kQ0 [0,1] ?_
 refine kQ3 [0,1,12,13] ?_
 refine B1 [0,1,12] rfl (fun μ F' h'=>∃ k:Nat,(k≤n1∧eqL eqI xs ys=eqL eqI (xs.drop k) (ys.drop k))∧n1 - k=μ∧F'=[(13,.int .i64 k)]∧h=h') (n1 - 0) [(13,.int .i64 0)] (h0:=h) ?_ Sb ⟨0,⟨by omega,by simp⟩,rfl,rfl,rfl⟩ ?_
 exact Su
 rintro _ _ _ ⟨k,⟨hk,hJ⟩,rfl,rfl,rfl⟩
 refine B3 rfl ?_
 refine kQ1 [0,1,12,13,14] ?_
 refine wc (fun c14=>?_) fun c14=>?_
 replace c14:=dT c14
 obtain⟨x,hx⟩:=A5 (l:=xs) (k:=k) (by omega)
 obtain⟨y,hy⟩:=A5 (l:=ys) (k:=k) (by omega)
 rw[O2 _ hx hy] at hJ
 refine kQ0 [0,1,12,13] ?_
 refine kQ2 [0,1,5,12,13] ?_
 refine dS [] (.op 0 (.op 1 (.op 2 (.op 3 (.op 4 (.op 5 (.op 6 (.op 7 .nil)))))))) [8] D8 ?_
 refine kA8 ?_
 refine SR.nil rfl rfl ?_
 refine kQ1 [0,1,12,13,24] ?_
 refine wc (fun c24=>?_) fun c24=>?_
 refine kQ1 [4] ?_
 refine WC.ret (wR (h) ?_)
 exact⟨by rw[hJ,a2l c24];rfl,rfl⟩
 rw[a2p c24,Bool.true_and] at hJ
 refine kQ0 [0,1,12,13] ?_
 refine kA2 ?_
 refine WL.nil (A6 (n1 - (k+1)) [(13,.int .i64 (k+1))] (h'':=h) (by omega) ?_ Su Sb ⟨k+1,⟨by omega,hJ⟩,rfl,rfl,rfl⟩)
 exact Su
 replace c14:=dF c14
 refine kQ0 [] ?_
 refine kQ1 [4] ?_
 refine WC.ret (wR (h) ?_)
 exact⟨by rw[hJ,List.drop_eq_nil_of_le (by omega),List.drop_eq_nil_of_le (by omega)];rfl,rfl⟩
theorem b2F (s1 s2:Option Addr) (n1 c1 n2 c2:Nat) (xs ys:List _) (h:List Res) (m:View) (h1:Rd m h s1 n1 c1 1 (fl encB xs)) (h2:Rd m h s2 n2 c2 1 (fl encB ys)) :
   CT Tryz.prog 202 [.slice s1 n1 c1,.slice s2 n2 c2] h m (A7 h (.bool (eqL eqS xs ys))):=by
 have l1:=h1.lenF D1 (by decide)
 have l2:=h2.lenF D1 (by decide)
 have m1:=h1.mx
 have m2:=h2.mx
 have k1:=h1.le
 have k2:=h2.le
 refine CT.body Tryz.call202 Tryz.func202 rfl Tryz.ntmps202 Lb rfl ?_
 refine kQ1 [0,1] ?_
 refine kQ5 [0,1,10] ?_
 refine wc (fun c10=>?_) fun c10=>?_
 replace c10:=a1p c10
 refine kQ1 [4] ?_
 refine WC.ret (wR (h) ?_)
 exact⟨by rw[Q4 _ _ _ (by omega)],rfl⟩
 replace c10:=a1y c10
 refine kQ0 [0,1] ?_
 refine kQ3 [0,1,12,13] ?_
 refine B1 [0,1,12] rfl (fun μ F' h'=>∃ k:Nat,(k≤n1∧eqL eqS xs ys=eqL eqS (xs.drop k) (ys.drop k))∧n1 - k=μ∧F'=[(13,.int .i64 k)]∧h=h') (n1 - 0) [(13,.int .i64 0)] (h0:=h) ?_ Sb ⟨0,⟨by omega,by simp⟩,rfl,rfl,rfl⟩ ?_
 exact Su
 rintro _ _ _ ⟨k,⟨hk,hJ⟩,rfl,rfl,rfl⟩
 refine B3 rfl ?_
 refine kQ1 [0,1,12,13,14] ?_
 refine wc (fun c14=>?_) fun c14=>?_
 replace c14:=dT c14
 obtain⟨x,hx⟩:=A5 (l:=xs) (k:=k) (by omega)
 obtain⟨y,hy⟩:=A5 (l:=ys) (k:=k) (by omega)
 rw[O2 _ hx hy] at hJ
 refine kQ0 [0,1,12,13] ?_
 refine kQ2 [0,1,5,12,13] ?_
 refine dS [] (.op 0 (.op 1 (.op 2 (.op 3 (.op 4 (.op 5 (.op 6 (.op 7 .nil)))))))) [8] D8 ?_
 refine kA8 ?_
 refine SR.nil rfl rfl ?_
 refine xG (Q2 Et Et) ?_
 refine kQ0 [0,1,12,13,24] ?_
 refine wc (fun c24=>?_) fun c24=>?_
 refine kQ1 [4] ?_
 refine WC.ret (wR (h) ?_)
 exact⟨by rw[hJ,c3l c24];rfl,rfl⟩
 rw[c4a c24,Bool.true_and] at hJ
 refine kQ0 [0,1,12,13] ?_
 refine kA2 ?_
 refine WL.nil (A6 (n1 - (k+1)) [(13,.int .i64 (k+1))] (h'':=h) (by omega) ?_ Su Sb ⟨k+1,⟨by omega,hJ⟩,rfl,rfl,rfl⟩)
 exact Su
 replace c14:=dF c14
 refine kQ0 [] ?_
 refine kQ1 [4] ?_
 refine WC.ret (wR (h) ?_)
 exact⟨by rw[hJ,List.drop_eq_nil_of_le (by omega),List.drop_eq_nil_of_le (by omega)];rfl,rfl⟩
theorem b1Y (s1 s2:Option Addr) (n1 c1 n2 c2:Nat) (xs ys:List _) (h:List Res) (m:View) (h1:Rd m h s1 n1 c1 6 (fl foE xs)) (h2:Rd m h s2 n2 c2 6 (fl foE ys)) :
   CT Tryz.prog 204 [.slice s1 n1 c1,.slice s2 n2 c2] h m (A7 h (.bool (eqL a0U xs ys))):=by
 have l1:=h1.lenF a4s (by decide)
 have l2:=h2.lenF a4s (by decide)
 have m1:=h1.mx
 have m2:=h2.mx
 have k1:=h1.le
 have k2:=h2.le
 refine CT.body Tryz.call204 Tryz.func204 rfl Tryz.ntmps204 Lb rfl ?_
 refine kQ1 [0,1] ?_
 refine kQ5 [0,1,10] ?_
 refine wc (fun c10=>?_) fun c10=>?_
 replace c10:=a1p c10
 refine kQ1 [4] ?_
 refine WC.ret (wR (h) ?_)
 exact⟨by rw[Q4 _ _ _ (by omega)],rfl⟩
 replace c10:=a1y c10
 refine kQ0 [0,1] ?_
 refine kQ3 [0,1,12,13] ?_
 refine B1 [0,1,12] rfl (fun μ F' h'=>∃ k:Nat,(k≤n1∧eqL a0U xs ys=eqL a0U (xs.drop k) (ys.drop k))∧n1 - k=μ∧F'=[(13,.int .i64 k)]∧h=h') (n1 - 0) [(13,.int .i64 0)] (h0:=h) ?_ Sb ⟨0,⟨by omega,by simp⟩,rfl,rfl,rfl⟩ ?_
 exact Su
 rintro _ _ _ ⟨k,⟨hk,hJ⟩,rfl,rfl,rfl⟩
 refine B3 rfl ?_
 refine kQ1 [0,1,12,13,14] ?_
 refine wc (fun c14=>?_) fun c14=>?_
 replace c14:=dT c14
 obtain⟨x,hx⟩:=A5 (l:=xs) (k:=k) (by omega)
 obtain⟨y,hy⟩:=A5 (l:=ys) (k:=k) (by omega)
 rw[O2 _ hx hy] at hJ
 refine kQ0 [0,1,12,13] ?_
 refine kQ2 [0,1,5,12,13] ?_
 refine dS [] (.op 0 (.op 1 (.op 2 (.op 3 (.op 4 (.op 5 (.op 6 (.op 7 .nil)))))))) [8] D8 ?_
 refine kA8 ?_
 refine SR.nil rfl rfl ?_
 refine xG (b1n (o:=43) c0T (by kernel_rfl) (by kernel_rfl) Et Et (by kernel_rfl) rfl) ?_
 refine kQ0 [0,1,12,13,24] ?_
 refine wc (fun c24=>?_) fun c24=>?_
 refine kQ1 [4] ?_
 refine WC.ret (wR (h) ?_)
 exact⟨by rw[hJ,c1o c24];rfl,rfl⟩
 rw[c2d c24,Bool.true_and] at hJ
 refine kQ0 [0,1,12,13] ?_
 refine kA2 ?_
 refine WL.nil (A6 (n1 - (k+1)) [(13,.int .i64 (k+1))] (h'':=h) (by omega) ?_ Su Sb ⟨k+1,⟨by omega,hJ⟩,rfl,rfl,rfl⟩)
 exact Su
 replace c14:=dF c14
 refine kQ0 [] ?_
 refine kQ1 [4] ?_
 refine WC.ret (wR (h) ?_)
 exact⟨by rw[hJ,List.drop_eq_nil_of_le (by omega),List.drop_eq_nil_of_le (by omega)];rfl,rfl⟩
theorem c5Q {m:View} {h:List Res} (x y:Vr) (hx:VOk m h x) (hy:VOk m h y):CT Tryz.prog 200 [.agg (encV x).toArray,.agg (encV y).toArray] h m (A7 h (.bool (R6 x y))):=by
 have r1:=hx.rd
 have r2:=hy.rd
 have hi:=b4z b0y x.items y.items
 refine CT.body Tryz.call200 Tryz.func200 rfl Tryz.ntmps200 Lb rfl ?_
 refine j0 ?_
 refine xX fun b2=>?_
 refine xX fun b3=>?_
 refine kQ1 [2,3] ?_
 refine kA4 ?_
 refine xG (N1 Et Et) ?_
 refine kA5 ?_
 refine A8 (GU.t rfl rfl) (fun hc=>⟨Ev.func,(E2 (Eg hc) (Eg hc)),b1E _ _ _ _ _ _ _ _ _ _ Rr Rr⟩) Lb ?_
 refine kQ2 [4] ?_
 refine WC.ret (wR (h) ?_)
 exact⟨by unfold R6;rw[← hi],rfl⟩
theorem c0v (q:FuncId) (pr:Vr→Vr→Bool) (s1 s2:Option Addr) (n1 c1 n2 c2:Nat) (xs ys:List Vr) (h:List Res) (m:View) (h1:Rd m h s1 n1 c1 2 (fl encV xs)) (h2:Rd m h s2 n2 c2 2 (fl encV ys))
   (hq:∀ x ∈ xs,∀ y ∈ ys,∀ h',h.Sublist h'→CT Tryz.prog q ([]++[.agg (encV x).toArray,.agg (encV y).toArray]++[]) h' m (A7 h' (.bool (pr x y)))) :
   CT Tryz.prog 203 [.slice s1 n1 c1,.slice s2 n2 c2,.func (.func q) #[] #[]] h m (A7 h (.bool (eqL pr xs ys))):=by
 have l1:=h1.lenF E5 (by decide)
 have l2:=h2.lenF E5 (by decide)
 have m1:=h1.mx
 have m2:=h2.mx
 have k1:=h1.le
 have k2:=h2.le
 refine CT.body Tryz.call203 Tryz.func203 rfl Tryz.ntmps203 Lb rfl ?_
 refine kQ1 [0,1,2] ?_
 refine kQ5 [0,1,2,14] ?_
 refine wc (fun c14=>?_) fun c14=>?_
 replace c14:=a1p c14
 refine kQ1 [6] ?_
 refine WC.ret (wR (h) ?_)
 exact⟨by rw[Q4 _ _ _ (by omega)],rfl⟩
 replace c14:=a1y c14
 refine kQ0 [0,1,2] ?_
 refine kQ3 [1,2,15,16,17] ?_
 refine B1 [1,2,15,16] rfl (fun μ F' h'=>∃ k:Nat,(k≤n1∧eqL pr xs ys=eqL pr (xs.drop k) (ys.drop k))∧n1 - k=μ∧F'=[(17,.int .i64 k)]∧h=h') (n1 - 0) [(17,.int .i64 0)] (h0:=h) ?_ Sb ⟨0,⟨by omega,by simp⟩,rfl,rfl,rfl⟩ ?_
 exact Su
 rintro _ _ _ ⟨k,⟨hk,hJ⟩,rfl,rfl,rfl⟩
 refine B3 rfl ?_
 refine kQ1 [1,2,15,16,17,18] ?_
 refine wc (fun c18=>?_) fun c18=>?_
 replace c18:=dT c18
 obtain⟨x,hx⟩:=A5 (l:=xs) (k:=k) (by omega)
 obtain⟨y,hy⟩:=A5 (l:=ys) (k:=k) (by omega)
 rw[O2 _ hx hy] at hJ
 refine kQ0 [1,2,15,16,17] ?_
 refine kA3 ?_
 refine xW fun b8=>?_
 refine kQ2 [1,2,7,8,15,16,17] ?_
 refine kA4 ?_
 refine xW fun b9=>?_
 refine kQ1 [1,2,8,9,15,16,17] ?_
 refine kA3 ?_
 refine M7 (Ev.tmp rfl) (E2 (Ev.tmp rfl) (Ev.tmp rfl)) (hq x (List.mem_of_getElem? hx) y (List.mem_of_getElem? hy) _ Sb) Lb ?_
 refine kQ1 [1,2,15,16,17,30] ?_
 refine wc (fun c30=>?_) fun c30=>?_
 have d30:pr x y=false:=by simpa using c30
 rw[d30] at hJ
 refine kQ1 [6] ?_
 refine WC.ret (wR (h) ?_)
 exact⟨by rw[hJ];rfl,rfl⟩
 have d30:pr x y=true:=by simpa using c30
 rw[d30,Bool.true_and] at hJ
 refine kQ0 [1,2,15,16,17] ?_
 refine kA2 ?_
 refine WL.nil (A6 (n1 - (k+1)) [(17,.int .i64 (k+1))] (h'':=h) (by omega) ?_ Su Sb ⟨k+1,⟨by omega,hJ⟩,rfl,rfl,rfl⟩)
 exact Su
 replace c18:=dF c18
 refine kQ0 [] ?_
 refine kQ1 [6] ?_
 refine WC.ret (wR (h) ?_)
 exact⟨by rw[hJ,List.drop_eq_nil_of_le (by omega),List.drop_eq_nil_of_le (by omega)];rfl,rfl⟩
theorem c1w (q:FuncId) (pr:Pr→Pr→Bool) (s1 s2:Option Addr) (n1 c1 n2 c2:Nat) (xs ys:List Pr) (h:List Res) (m:View) (h1:Rd m h s1 n1 c1 42 (fl prE xs)) (h2:Rd m h s2 n2 c2 42 (fl prE ys))
   (hq:∀ x ∈ xs,∀ y ∈ ys,∀ h',h.Sublist h'→CT Tryz.prog q ([]++[prV x,prV y]++[]) h' m (A7 h' (.bool (pr x y)))) :
   CT Tryz.prog 154 [.slice s1 n1 c1,.slice s2 n2 c2,.func (.func q) #[] #[]] h m (A7 h (.bool (eqL pr xs ys))):=by
 have l1:=h1.lenF a1W (by decide)
 have l2:=h2.lenF a1W (by decide)
 have m1:=h1.mx
 have m2:=h2.mx
 have k1:=h1.le
 have k2:=h2.le
 refine CT.body Tryz.call154 Tryz.func154 rfl Tryz.ntmps154 Lb rfl ?_
 refine kQ1 [0,1,2] ?_
 refine kQ5 [0,1,2,14] ?_
 refine wc (fun c14=>?_) fun c14=>?_
 replace c14:=a1p c14
 refine kQ1 [6] ?_
 refine WC.ret (wR (h) ?_)
 exact⟨by rw[Q4 _ _ _ (by omega)],rfl⟩
 replace c14:=a1y c14
 refine kQ0 [0,1,2] ?_
 refine kQ3 [1,2,15,16,17] ?_
 refine B1 [1,2,15,16] rfl (fun μ F' h'=>∃ k:Nat,(k≤n1∧eqL pr xs ys=eqL pr (xs.drop k) (ys.drop k))∧n1 - k=μ∧F'=[(17,.int .i64 k)]∧h=h') (n1 - 0) [(17,.int .i64 0)] (h0:=h) ?_ Sb ⟨0,⟨by omega,by simp⟩,rfl,rfl,rfl⟩ ?_
 exact Su
 rintro _ _ _ ⟨k,⟨hk,hJ⟩,rfl,rfl,rfl⟩
 refine B3 rfl ?_
 refine kQ1 [1,2,15,16,17,18] ?_
 refine wc (fun c18=>?_) fun c18=>?_
 replace c18:=dT c18
 obtain⟨x,hx⟩:=A5 (l:=xs) (k:=k) (by omega)
 obtain⟨y,hy⟩:=A5 (l:=ys) (k:=k) (by omega)
 rw[O2 _ hx hy] at hJ
 refine kQ0 [1,2,15,16,17] ?_
 refine kA3 ?_
 refine xW fun b8=>?_
 refine kQ2 [1,2,7,8,15,16,17] ?_
 refine kA4 ?_
 refine xW fun b9=>?_
 refine kQ1 [1,2,8,9,15,16,17] ?_
 refine kA3 ?_
 refine M7 (Ev.tmp rfl) (E2 (Ev.tmp rfl) (Ev.tmp rfl)) (hq x (List.mem_of_getElem? hx) y (List.mem_of_getElem? hy) _ Sb) Lb ?_
 refine kQ1 [1,2,15,16,17,30] ?_
 refine wc (fun c30=>?_) fun c30=>?_
 have d30:pr x y=false:=by simpa using c30
 rw[d30] at hJ
 refine kQ1 [6] ?_
 refine WC.ret (wR (h) ?_)
 exact⟨by rw[hJ];rfl,rfl⟩
 have d30:pr x y=true:=by simpa using c30
 rw[d30,Bool.true_and] at hJ
 refine kQ0 [1,2,15,16,17] ?_
 refine kA2 ?_
 refine WL.nil (A6 (n1 - (k+1)) [(17,.int .i64 (k+1))] (h'':=h) (by omega) ?_ Su Sb ⟨k+1,⟨by omega,hJ⟩,rfl,rfl,rfl⟩)
 exact Su
 replace c18:=dF c18
 refine kQ0 [] ?_
 refine kQ1 [6] ?_
 refine WC.ret (wR (h) ?_)
 exact⟨by rw[hJ,List.drop_eq_nil_of_le (by omega),List.drop_eq_nil_of_le (by omega)];rfl,rfl⟩
structure SRd (m:View) (h:List Res) (s:Sp):Prop where
 b:Rd m h s.ba s.bl.length s.bc 42 (fl prE s.bl)
 nr:Rd m h s.names.a s.names.l.length s.names.c 1 (fl encB s.names.l)
 e:TOk m h s.e
 v:PrOk m h s.vs.a s.vs.l.length s.vs.c s.vs.l
 fr:Rd m h s.fs.a s.fs.l.length s.fs.c 6 (fl foE s.fs.l)
theorem SRd.mono {m:View} {h h':List Res} {s:Sp} (q:SRd m h s) (r:h.Sublist h'):SRd m h' s:=⟨q.b.mono (View.le.refl m) r,q.nr.mono (View.le.refl m) r,q.e.mono r,q.v.mono (View.le.refl m) r,q.fr.mono (View.le.refl m) r⟩
theorem SRd.of {m:View} {h:List Res} {s:Sp} (q:SOk m h s):SRd m h s:=⟨q.b,q.nr,q.e.t,q.v,q.fr⟩
set_option maxHeartbeats 1000000 in
theorem a9Y {m:View} {h:List Res} (x y:Sp) (hx:SRd m h x) (hy:SRd m h y):CT Tryz.prog 153 [spV x,spV y] h m (A7 h (.bool (a0g x y))):=by
 have n1:=hx.nr
 have n2:=hy.nr
 have f1:=hx.fr
 have f2:=hy.fr
 have v1:=hx.v.rd
 have v2:=hy.v.rd
 refine CT.body Tryz.call153 Tryz.func153 rfl Tryz.ntmps153 Lb rfl ?_
 refine j0 ?_
 refine xX fun b2=>?_
 refine xX fun b3=>?_
 refine kQ1 [2,3] ?_
 refine xG (PO.assign Ev.func) ?_
 refine kQ0 [2,3,5] ?_
 refine a9i ?_
 refine E8 (GU.t rfl rfl) (fun hc=>a0w b0d (by kernel_rfl) (by kernel_rfl) (Eg hc) (Eg hc) rfl) Lb ?_
 refine kA6 ?_
 refine A8 (GU.t rfl rfl) (fun hc=>⟨Ev.func,(E2 (Eg hc) (Eg hc)),CT.val (b2F _ _ _ _ _ _ x.names.l y.names.l _ _ (n1.mono (View.le.refl _) Sb) (n2.mono (View.le.refl _) Sb)) (congrArg Value.bool (b4z c1B x.names.l y.names.l))⟩) Lb ?_
 refine kA6 ?_
 refine A8 (GU.t rfl rfl) (fun hc=>⟨Ev.func,(E2 (Eg hc) (Eg hc)),b5E x.e y.e _ _ (hx.e.mono Sb) (hy.e.mono Sb)⟩) Lb ?_
 refine kA8 ?_
 refine zG (fun hc=>c1R uu4 (Eg hc) (Eg hc)) ?_
 refine kA9 ?_
 refine A8 (GU.t rfl rfl) (fun hc=>⟨Ev.func,(E3 (Eg hc) (Eg hc) (Eg hc)),c0v 200 R6 _ _ _ _ _ _ x.vs.l y.vs.l _ _ (v1.mono (View.le.refl _) Sb) (v2.mono (View.le.refl _) Sb) (fun u hu w hw h' hh=>c5Q u w ((hx.v.ok u hu).mono (View.le.refl _) (List.Sublist.trans Sb hh)) ((hy.v.ok w hw).mono (View.le.refl _) (List.Sublist.trans Sb hh)))⟩) Lb ?_
 refine kA6 ?_
 refine A8 (GU.t rfl rfl) (fun hc=>⟨Ev.func,(E2 (Eg hc) (Eg hc)),b1Y _ _ _ _ _ _ _ _ _ _ Rr Rr⟩) Lb ?_
 refine c2a [4] ?_
 refine WC.ret (wR (h) ?_)
 exact⟨rfl,rfl⟩
theorem b2B (m:View) (h:List Res):SRd m h D2:=⟨Rd.nilF prE 42 m h,Rd.nilF encB 1 m h,a8T m h,⟨Rd.nilF encV 2 m h,fun _ hv=>(by cases hv),fun _ hv=>(by cases hv)⟩,Rd.nilF foE 6 m h⟩
theorem b8c {m:View} {h:List Res} (x:Sp) (hx:SRd m h x):CT Tryz.prog 89 [spV x,spV D2] h m (A7 h (.bool (a0g x D2))):=by
 refine CT.body Tryz.call89 Tryz.func89 rfl Tryz.ntmps89 Lb rfl ?_
 refine j0 ?_
 refine xX fun b2=>?_
 refine xX fun b3=>?_
 refine kQ1 [2,3] ?_
 refine kA2 ?_
 refine xf (E2 Et Et) (a9Y x D2 (hx.mono Sb) (b2B _ _)) ?_
 refine kA5 ?_
 refine A8 (GU.t rfl rfl) (fun hc=>⟨Ev.func,(E3 (Eg hc) (Eg hc) Ev.func),CT.val (c1w 155 (fun _ _=>true) _ _ _ _ _ _ x.bl [] _ _ (hx.b.mono (View.le.refl _) Sb) (Rd.nilF prE 42 _ _) (fun _ _ y hy=>by cases hy)) (congrArg Value.bool (by rw[c2M hc]))⟩) Lb ?_
 refine kQ2 [4] ?_
 refine WC.ret (wR (h) ?_)
 exact⟨congrArg Value.bool (Bool.and_true _),rfl⟩
end Go.Proofs.YtkemgjnejlkkcaaGreatDoor
end
section
namespace Go.Proofs.YtkemgjnejlkkcaaGreatDoor
set_option maxRecDepth 100000
set_option maxHeartbeats 2000000
open Go.Eng Go.Pc Go
open Go.Xp hiding B D9
open Go.Ty (Ty Vr eqT tyV J2 PrOk VOk prL encV E5 M5 D6 eqI a2l a2p b0y)
open Go.Lx (encB D1)
set_option maxHeartbeats 2000000 in
theorem b5h {m:View} {h:List Res} (hg:Glob m) (x:Sp) (hO:SOk m h x):CT Tryz.prog 88 [spV x] h m (A7 h (.bool (spP x))):=by
 have hp2:x.ty.proto.length≤9223372036854775807:=Nat.le_trans hO.ty.p (by decide)
 have hnr:=hO.nr
 have hfr:=hO.fr
 have hsr:=SRd.of hO
 have hET:=hO.e.t
 have hEW:=hO.e.w
 have zr:∀ h',SRd m h' D2:=fun h'=>b2B m h'
 refine CT.body Tryz.call88 Tryz.func88 rfl Tryz.ntmps88 Lb rfl ?_
 refine j0 ?_
 refine xX fun b1=>?_
 refine kQ1 [1] ?_
 refine kA5 ?_
 refine xW fun b3=>?_
 refine kQ1 [1,3] ?_
 refine xG (I5 (vs:=a8v) S2 rfl rfl Ev.global rfl (fun j v hj=>by rw[Nat.zero_add];exact hg.sOne j v hj)) ?_
 refine xW fun b4=>?_
 refine kQ2 [1,3,4] ?_
 refine kP2 [1,3,4,13] ?_
 refine H7 KKh [1,3,4] rfl (fun F' h'=>∃ w:Sp,∃ fb:Bool,∃ lo:Int,∃ hi:Int,(((1≤x.k∧x.k≤5)∧w=a3d x∧SRd m h w)∧(fb=a2D x∧(lo=1∧hi=if x.k=1 then 8 else 1)))∧F'=[(5,.bool fb)]∧.pt b4 (.cells [.int .i64 lo,.int .i64 hi].toArray 145 (0,0))::.pt b3 (.cells (spE w).toArray 50 (0,0))::.pt b1 (.cells (spE x).toArray 50 (0,0))::h=h') ?_ ?_
 refine kQ2 [1,3,4,13,14] ?_
 refine wc (fun c14=>?_) fun c14=>?_
 replace c14:=G4 c14
 refine jE ?_
 refine WC.take (r:=.pt b4 _) De ?_
 refine G1 [3] (.op 0 (.op 1 (.op 2 (.op 3 .nil)))) [4,5] _ [_] D8 (fun _ _ _ _ _ h=>h) [] (by kernel_rfl) ?_
 refine yG rfl (I5 (vs:=a6A) S2 rfl rfl Ev.global rfl (fun j v hj=>by rw[Nat.zero_add];exact hg.sSome j v hj)) ?_
 refine kA2 ?_
 refine SR.store rfl rfl rfl Et Et rfl rfl rfl rfl Up ?_
 refine SR.nil rfl rfl ?_
 refine kQ2 [1,3,4] ?_
 refine kA2 ?_
 refine xf (E1 Et) (Ty9.may_ct x.ty _ _ hg hp2) ?_
 refine kA1 ?_
 refine WL.nil (D0 [(5,.bool (Go.Ty.may x.ty))] (h'':=.pt b4 (.cells [.int .i64 1,.int .i64 8].toArray 145 (0,0))::.pt b3 (.cells (spE (.mk x.k x.ty x.names A3 false B5 B5 none 0 [])).toArray 50 (0,0))::.pt b1 (.cells (spE x).toArray 50 (0,0))::h) ?_ Su Sb ⟨.mk x.k x.ty x.names A3 false B5 B5 none 0 [],Go.Ty.may x.ty,1,8,⟨⟨by omega,by unfold a3d;rw[if_pos c14],⟨(zr h).b,hsr.nr,(zr h).e,(zr h).v,(zr h).fr⟩⟩,by unfold a2D;rw[if_pos c14],rfl,by rw[if_pos c14]⟩,rfl,rfl⟩)
 exact Su
 replace c14:=G3 c14
 refine kQ2 [1,3,4,13,23] ?_
 refine wc (fun c23=>?_) fun c23=>?_
 replace c23:=G4 c23
 refine jE ?_
 refine WC.take (r:=.pt b3 _) De ?_
 refine G1 [5] (.op 0 (.op 1 (.op 2 (.op 3 (.op 4 (.op 5 .nil)))))) [6,7] _ [_] D8 (fun _ _ _ _ _ h=>h) [] (by kernel_rfl) ?_
 refine kA5 ?_
 refine SR.store rfl rfl rfl Et Et rfl rfl rfl rfl Up ?_
 refine a1N (H:=_) rfl (List.Perm.swap _ _ _) ?_
 refine kQ2 [1,3,4] ?_
 refine kA2 ?_
 refine xf (E1 Et) (a5p x.ty _ _ hg hp2) ?_
 refine kA3 ?_
 refine A8 (GU.t rfl rfl) (fun hc=>⟨Ev.func,(E1 (Eg hc)),may_ct hg x.e _ (hET.mono Sb) hEW⟩) Lb ?_
 refine kA2 ?_
 refine WL.nil (D0 [(5,.bool (a1M x.ty&&M4 x.e))] (h'':=.pt b4 (.cells [.int .i64 1,.int .i64 1].toArray 145 (0,0))::.pt b3 (.cells (spE (.mk x.k x.ty x.names x.e false B5 B5 none 0 [])).toArray 50 (0,0))::.pt b1 (.cells (spE x).toArray 50 (0,0))::h) ?_ Su Sb ⟨.mk x.k x.ty x.names x.e false B5 B5 none 0 [],a1M x.ty&&M4 x.e,1,1,⟨⟨by omega,by unfold a3d;rw[if_neg c14,if_pos c23],⟨(zr h).b,hsr.nr,hsr.e,(zr h).v,(zr h).fr⟩⟩,by unfold a2D;rw[if_neg c14,if_pos c23],rfl,by rw[if_neg c14]⟩,rfl,rfl⟩)
 exact Su
 replace c23:=G3 c23
 refine kQ2 [1,3,4,13,39] ?_
 refine wc (fun c39=>?_) fun c39=>?_
 replace c39:=G4 c39
 refine jE ?_
 refine WC.take (r:=.pt b3 _) De ?_
 refine G1 [5] (.op 0 (.op 1 (.op 2 (.op 3 (.op 4 (.op 5 .nil)))))) [6,7] _ [_] D8 (fun _ _ _ _ _ h=>h) [] (by kernel_rfl) ?_
 refine kA5 ?_
 refine SR.store rfl rfl rfl Et Et rfl rfl rfl rfl Up ?_
 refine a1N (H:=_) rfl (List.Perm.swap _ _ _) ?_
 refine kQ2 [1,3,4] ?_
 refine kA2 ?_
 refine xf (E1 Et) (a5p x.ty _ _ hg hp2) ?_
 refine kA3 ?_
 refine A8 (GU.t rfl rfl) (fun hc=>⟨Ev.func,(E1 (Eg hc)),a3T hg x.e (hO.e.mono Sb)⟩) Lb ?_
 refine kA2 ?_
 refine WL.nil (D0 [(5,.bool (a1M x.ty&&O1 x.e))] (h'':=.pt b4 (.cells [.int .i64 1,.int .i64 1].toArray 145 (0,0))::.pt b3 (.cells (spE (.mk x.k x.ty x.names x.e false B5 B5 none 0 [])).toArray 50 (0,0))::.pt b1 (.cells (spE x).toArray 50 (0,0))::h) ?_ Su Sb ⟨.mk x.k x.ty x.names x.e false B5 B5 none 0 [],a1M x.ty&&O1 x.e,1,1,⟨⟨by omega,by unfold a3d;rw[if_neg c14,if_neg c23,if_pos c39],⟨(zr h).b,hsr.nr,hsr.e,(zr h).v,(zr h).fr⟩⟩,by unfold a2D;rw[if_neg c14,if_neg c23,if_pos c39],rfl,by rw[if_neg c14]⟩,rfl,rfl⟩)
 exact Su
 replace c39:=G3 c39
 refine kQ2 [1,3,4,13,55] ?_
 refine wc (fun c55=>?_) fun c55=>?_
 replace c55:=G4 c55
 refine kQ4 [1,3,4] ?_
 refine kA2 ?_
 refine xf (E1 Et) (Ty9.mayProto_ct x.cs x.vs.a x.vs.l.length x.vs.c x.vs.l _ _ hg (hO.v.mono (View.le.refl _) Sb)) ?_
 refine kA1 ?_
 refine WL.nil (D0 [(5,.bool (Go.Ty.mayPr x.cs x.vs.l))] (h'':=.pt b4 (.cells [.int .i64 1,.int .i64 1].toArray 145 (0,0))::.pt b3 (.cells (spE (.mk x.k Go.Ty.zeroT x.names A3 x.cs x.vs B5 none 0 [])).toArray 50 (0,0))::.pt b1 (.cells (spE x).toArray 50 (0,0))::h) ?_ Su Sb ⟨.mk x.k Go.Ty.zeroT x.names A3 x.cs x.vs B5 none 0 [],Go.Ty.mayPr x.cs x.vs.l,1,1,⟨⟨by omega,by unfold a3d;rw[if_neg c14,if_neg c23,if_neg c39,if_pos c55],⟨(zr h).b,hsr.nr,(zr h).e,hsr.v,(zr h).fr⟩⟩,by unfold a2D;rw[if_neg c14,if_neg c23,if_neg c39,if_pos c55],rfl,by rw[if_neg c14]⟩,rfl,rfl⟩)
 exact Su
 replace c55:=G3 c55
 refine kQ2 [1,3,4,63] ?_
 refine wc (fun c63=>?_) fun c63=>?_
 replace c63:=G4 c63
 refine jE ?_
 refine WC.take (r:=.pt b3 _) De ?_
 refine G1 [5] (.op 0 (.op 1 (.op 2 (.op 3 (.op 4 (.op 5 .nil)))))) [6,7] _ [_] D8 (fun _ _ _ _ _ h=>h) [] (by kernel_rfl) ?_
 refine kA5 ?_
 refine SR.store rfl rfl rfl Et Et rfl rfl rfl rfl Up ?_
 refine a1N (H:=_) rfl (List.Perm.swap _ _ _) ?_
 refine kQ2 [1,3,4] ?_
 refine kA7 ?_
 refine zG (fun _=>PO.build S2 rfl rfl rfl (EvP.cons Ev.const (EvP.cons Ev.const EvP.nil)) rfl) ?_
 refine A8 (GU.t rfl rfl) (fun hc=>⟨Ev.func,(E3 (Eg hc) (Eg hc) Ev.func),b5G 151 [] foP 0 8 _ _ _ x.fs.l _ _ (fun f hf h' hh=>c06 hg f (hO.fw f hf)) (hfr.mono (View.le.refl _) Sb)⟩) Lb ?_
 refine kA2 ?_
 refine WL.nil (D0 [(5,.bool (((x.bl.length:Int)==1)&&a0W x.fs.l 0 8 foP))] (h'':=.pt b4 (.cells [.int .i64 1,.int .i64 1].toArray 145 (0,0))::.pt b3 (.cells (spE (.mk x.k Go.Ty.zeroT x.names A3 false B5 x.fs x.ba x.bc x.bl)).toArray 50 (0,0))::.pt b1 (.cells (spE x).toArray 50 (0,0))::h) ?_ Su Sb ⟨.mk x.k Go.Ty.zeroT x.names A3 false B5 x.fs x.ba x.bc x.bl,((x.bl.length:Int)==1)&&a0W x.fs.l 0 8 foP,1,1,⟨⟨by omega,by unfold a3d;rw[if_neg c14,if_neg c23,if_neg c39,if_neg c55],⟨hsr.b,hsr.nr,(zr h).e,(zr h).v,hsr.fr⟩⟩,by unfold a2D;rw[if_neg c14,if_neg c23,if_neg c39,if_neg c55],rfl,by rw[if_neg c14]⟩,rfl,rfl⟩)
 exact Su
 replace c63:=G3 c63
 refine kQ1 [2] ?_
 refine WC.ret (wR (h) ?_)
 exact⟨by unfold spP;rw[if_neg (by omega)],rfl⟩
 rintro _ _ ⟨w,fb,lo,hi,⟨⟨hkk,hw,hwr⟩,hfb,hlo,hhi⟩,rfl,rfl⟩
 refine B3 rfl ?_
 subst hlo
 refine kA4 ?_
 refine zG (fun _=>pA S2) ?_
 refine A8 (GU.t rfl rfl) (fun hc=>⟨Ev.func,(E3 (Eg hc) (Eg hc) Ev.func),b6B 82 [] Go.Lx.name 1 hi _ _ _ x.names.l _ _ (fun s hs h' hh=>a0d s _ _ hg (Nat.le_trans (hO.nw s hs) (by decide))) (hnr.mono (View.le.refl _) Sb)⟩) Lb ?_
 refine kA2 ?_
 refine zG (fun _=>pA a9h) ?_
 refine zG (fun _=>pA a9h) ?_
 refine A8 (GU.t rfl rfl) (fun hc=>⟨Ev.func,(E2 (Eg hc) (Eg hc)),a9Y x w (hsr.mono Sb) (hwr.mono Sb)⟩) Lb ?_
 refine kQ2 [2] ?_
 refine WC.ret (wR (h) ?_)
 exact⟨by unfold spP;rw[if_pos hkk,← hfb,← hw,← hhi],rfl⟩
theorem b63 {m:View} {h:List Res} (hg:Glob m) (b3:Nat) (u:Us) (x:Gu) (hb:Res.pt b3 (.cells (usE u).toArray 147 (0,0)) ∈ h) (hO:GOk m h x):CT Tryz.prog 77 [guV x,.pointer (some ⟨b3,0,none⟩)] h m (A7 h (.bool (inG u x))):=by
 refine CT.body Tryz.call77 Tryz.func77 rfl Tryz.ntmps77 Lb rfl ?_
 refine j0 ?_
 refine xX fun b2=>?_
 refine kQ1 [1,2] ?_
 refine kA3 ?_
 refine xG (D4 c0D rfl Et (List.Mem.tail _ hb) rfl) ?_
 refine kA5 ?_
 refine zG (fun hc=>D4 c0D rfl (Eg hc) (List.Mem.tail _ hb) rfl) ?_
 refine kA3 ?_
 refine zG (fun _=>pA b0f) ?_
 refine A8 (GU.t rfl rfl) (fun hc=>⟨Ev.func,(E1 (Eg hc)),b71 hg x (hO.mono Sb)⟩) Lb ?_
 refine kQ2 [3] ?_
 refine WC.ret (wR (h) ?_)
 exact⟨rfl,rfl⟩
theorem b5P {m:View} {h:List Res} (n:Int):CT Tryz.prog 87 [.int .i64 n] h m (A7 h (.bool (decide (n ≥ 0)&&decide (n < 8)))):=by
 refine CT.body Tryz.call87 Tryz.func87 rfl Tryz.ntmps87 Lb rfl ?_
 refine kQ1 [0] ?_
 refine kQ7 [2] ?_
 refine WC.ret (wR (h) ?_)
 exact⟨rfl,rfl⟩
set_option maxHeartbeats 4000000 in
theorem a7Z {m:View} {h:List Res} (hg:Glob m) (p:Pr) (hO:P1 m h p):CT Tryz.prog 44 [prV p] h m (A7 h (.bool (M1 p))):=by
 have hn2:p.name.length≤9223372036854775807:=Nat.le_trans hO.n (by decide)
 have htg:=hO.tg.rd
 have hex:=hO.ex.rd
 have hgr:=hO.g
 have hpn:=hO.pn
 have hsr:=SRd.of hO.sp
 refine CT.body Tryz.call44 Tryz.func44 rfl Tryz.ntmps44 Lb rfl ?_
 refine j0 ?_
 refine xX fun b1=>?_
 refine kQ1 [1] ?_
 refine kA2 ?_
 refine xf (E1 Et) (b6y hg p.k) ?_
 refine kA3 ?_
 refine xW fun b3=>?_
 refine kQ2 [1,3,4] ?_
 refine kA5 ?_
 refine A8 (GU.f rfl rfl) (fun hc=>⟨Ev.func,(E1 (Eg hc)),c3r hg p.rep hO.rn (hO.rb.mono Sb) (hO.rc.mono Sb)⟩) Lb ?_
 refine kQ2 [1,3,20] ?_
 refine wc (fun c20=>?_) fun c20=>?_
 have hR:M1 p=false:=by unfold M1;rw[if_pos (show(!(C2 p.k).2||!a5A p.rep)=true from c20)]
 refine kQ1 [2] ?_
 refine WC.ret (wR (h) ?_)
 exact⟨by rw[hR],rfl⟩
 have hR:M1 p=if p.rep.name != [] then (if !(C2 p.k).1.rep then false else W2 p (b7R (C2 p.k).1)) else W2 p (C2 p.k).1:=by
   unfold M1
   rw[if_neg (by rw[show(!(C2 p.k).2||!a5A p.rep)=false from c20];decide)]
 refine kQ0 [1,3] ?_
 refine kA3 ?_
 refine xG (Q2 Et Ev.const) ?_
 refine kP0 [1,3,24] ?_
 refine H7 KKh [1,3] rfl (fun F' h'=>∃ u:Us,(M1 p=W2 p u)∧F'=[]∧.pt b3 (.cells (usE u).toArray 147 (0,0))::.pt b1 (.cells (prE p).toArray 52 (0,0))::h=h') ?_ ?_
 refine jE ?_
 refine wc (fun c24=>?_) fun c24=>?_
 rw[if_pos (show(p.rep.name != [])=true from c24)] at hR
 refine kQ3 [1,3,27] ?_
 refine wc (fun c27=>?_) fun c27=>?_
 rw[if_pos (show(!(C2 p.k).1.rep)=true from c27)] at hR
 refine kQ1 [2] ?_
 refine WC.ret (wR (h) ?_)
 exact⟨by rw[hR],rfl⟩
 rw[if_neg (by rw[show(!(C2 p.k).1.rep)=false from c27];decide)] at hR
 refine kQ0 [1,3] ?_
 refine kA2 ?_
 refine xG (I5 (vs:=c1l) S2 rfl rfl Ev.global rfl (fun j v hj=>by rw[Nat.zero_add];exact hg.sAll j v hj)) ?_
 refine xG (a0w S2 (by kernel_rfl) (by kernel_rfl) Et Et rfl) ?_
 refine kQ0 [1,3,31] ?_
 refine wc (fun c31=>?_) fun c31=>?_
 have hA:b7s (C2 p.k).1=true:=by unfold b7s;simpa using c31
 have hR:M1 p=W2 p { (C2 p.k).1 with p0:=1,p1:=1 }:=by rw[hR];unfold b7R;rw[if_pos hA]
 refine j0 ?_
 refine xG (I5 (vs:=a8v) S2 rfl rfl Ev.global rfl (fun j v hj=>by rw[Nat.zero_add];exact hg.sOne j v hj)) ?_
 refine kA2 ?_
 refine WL.nil (D0 [] (h'':=.pt b3 (.cells (usE ({ (C2 p.k).1 with p0:=1,p1:=1 })).toArray 147 (0,0))::.pt b1 (.cells (prE p).toArray 52 (0,0))::h) ?_ Su Sb ⟨{ (C2 p.k).1 with p0:=1,p1:=1 },hR,rfl,rfl⟩)
 exact Su
 have hA:¬ b7s (C2 p.k).1=true:=by unfold b7s;simpa using c31
 have hR:M1 p=W2 p { (C2 p.k).1 with g0:=1,g1:=1 }:=by rw[hR];unfold b7R;rw[if_neg hA]
 refine j0 ?_
 refine xG (I5 (vs:=a8v) S2 rfl rfl Ev.global rfl (fun j v hj=>by rw[Nat.zero_add];exact hg.sOne j v hj)) ?_
 refine kA2 ?_
 refine WL.nil (D0 [] (h'':=.pt b3 (.cells (usE ({ (C2 p.k).1 with g0:=1,g1:=1 })).toArray 147 (0,0))::.pt b1 (.cells (prE p).toArray 52 (0,0))::h) ?_ Su Sb ⟨{ (C2 p.k).1 with g0:=1,g1:=1 },hR,rfl,rfl⟩)
 exact Su
 rw[if_neg (by rw[show(p.rep.name != [])=false from c24];decide)] at hR
 refine WC.skip (D0 [] (h'':=.pt b3 (.cells (usE ((C2 p.k).1)).toArray 147 (0,0))::.pt b1 (.cells (prE p).toArray 52 (0,0))::h) ?_ Su Sb ⟨(C2 p.k).1,hR,rfl,rfl⟩)
 exact Su
 rintro _ _ ⟨u,hu,rfl,rfl⟩
 refine B3 rfl ?_
 refine kA1 ?_
 refine xW fun b5=>?_
 refine kQ1 [1,3,5] ?_
 refine kP2 [1,3,5,38] ?_
 refine H7 KKh [1,3,5] rfl (fun F' h'=>∃ lo:Int,∃ hi:Int,(lo=(if u.procs then (p.ll.length:Int) else 0)∧hi=(if u.procs then (p.ll.length:Int) else 0))∧F'=[]∧.pt b5 (.cells [.int .i64 lo,.int .i64 hi].toArray 145 (0,0))::.pt b3 (.cells (usE u).toArray 147 (0,0))::.pt b1 (.cells (prE p).toArray 52 (0,0))::h=h') ?_ ?_
 refine jE ?_
 refine wc (fun c38=>?_) fun c38=>?_
 refine kA8 ?_
 refine WL.nil (D0 [] (h'':=.pt b5 (.cells [.int .i64 ((p.ll.length:Int)),.int .i64 ((p.ll.length:Int))].toArray 145 (0,0))::.pt b3 (.cells (usE u).toArray 147 (0,0))::.pt b1 (.cells (prE p).toArray 52 (0,0))::h) ?_ Su Sb ⟨(p.ll.length:Int),(p.ll.length:Int),⟨by rw[if_pos c38],by rw[if_pos c38]⟩,rfl,rfl⟩)
 exact Su
 refine WC.skip (D0 [] (h'':=.pt b5 (.cells [.int .i64 0,.int .i64 0].toArray 145 (0,0))::.pt b3 (.cells (usE u).toArray 147 (0,0))::.pt b1 (.cells (prE p).toArray 52 (0,0))::h) ?_ Su Sb ⟨0,0,⟨by rw[if_neg (by rw[c38];decide)],by rw[if_neg (by rw[c38];decide)]⟩,rfl,rfl⟩)
 exact Su
 rintro _ _ ⟨lo,hi,⟨hlo,hhi⟩,rfl,rfl⟩
 refine B3 rfl ?_
 refine j0 ?_
 refine xG (PO.makeFunc Evs.nil (E1 Et)) ?_
 refine kQ1 [1,3,5,6] ?_
 refine dS [5,12,19,23,30,33,34,41,48,54,62] (.op 0 (.op 1 (.op 2 (.op 3 (.op 4 (.op 5 (.op 6 (.op 7 (.op 8 (.op 9 (.op 10 (.op 11 (.op 12 (.op 13 (.op 14 (.op 15 (.op 16 (.op 17 (.op 18 (.op 20 (.op 21 (.op 22 (.op 19 (.op 23 (.op 24 (.op 25 (.op 26 (.op 27 (.op 28 (.op 29 (.op 31 (.op 32 (.op 30 (.op 33 (.op 34 (.op 35 (.op 36 (.op 37 (.op 38 (.op 39 (.op 40 (.op 41 (.op 42 (.op 43 (.op 44 (.op 45 (.op 46 (.op 47 (.op 48 (.op 49 (.op 50 (.op 51 (.op 52 (.op 53 (.op 54 (.op 55 (.op 56 (.op 57 (.op 58 (.op 59 (.op 60 (.op 61 (.op 62 (.op 63 (.op 64 (.op 65 (.op 66 (.op 67 (.op 68 (.op 69 (.op 70 (.op 71 .nil)))))))))))))))))))))))))))))))))))))))))))))))))))))))))))))))))))))))) [72,73,74,75,76] D8 ?_
 refine kA4 ?_
 refine yG rfl (U5 c2Y Et) ?_
 refine yf rfl (E2 Et Et) (fun fr=>a6l u.p0 u.p1 p.ll.length _ _) ?_
 refine kA5 ?_
 refine B9 rfl rfl (GU.t rfl rfl) (fun hc=>PO.move Et) Lb ?_
 refine H4 rfl rfl (GU.t rfl rfl) (fun hc=>⟨Ev.func,(E3 (Eg hc) (Eg hc) (Eg hc)),fun fr=>b6O 77 [.pointer (some ⟨b3,0,none⟩)] (inG u) u.g0 u.g1 _ _ _ p.gl _ _ (fun x hx h' hh=>b63 hg b3 u x (hh.subset (List.mem_append_right _ Me)) ((hO.gs x hx).mono (List.Sublist.trans Sb hh))) (hgr.mono (View.le.refl _) Sb)⟩) Lb ?_
 refine kA8 ?_
 refine B9 rfl rfl (GU.t rfl rfl) (fun hc=>N1 (Eg hc) Ev.const) Lb ?_
 refine H4 rfl rfl (GU.t rfl rfl) (fun hc=>⟨Ev.func,(E1 (Eg hc)),fun fr=>a0d p.name _ _ hg hn2⟩) Lb ?_
 refine H4 rfl rfl (GU.t rfl rfl) (fun hc=>⟨Ev.func,(E3 (Eg hc) (Eg hc) (Eg hc)),fun fr=>a1h _ _ _ _ _⟩) Lb ?_
 refine kA8 ?_
 refine H4 rfl rfl (GU.t rfl rfl) (fun hc=>⟨Ev.func,(E1 (Eg hc)),fun fr=>a3T hg p.ch (hO.ch.mono Sb)⟩) Lb ?_
 refine H4 rfl rfl (GU.t rfl rfl) (fun hc=>⟨Ev.func,(E1 (Eg hc)),fun fr=>a1O p.ch (hO.ch.t.mono Sb)⟩) Lb ?_
 refine H4 rfl rfl (GU.t rfl rfl) (fun hc=>⟨Ev.func,(E3 (Eg hc) (Eg hc) (Eg hc)),fun fr=>a1h _ _ _ _ _⟩) Lb ?_
 refine kA6 ?_
 refine H4 rfl rfl (GU.t rfl rfl) (fun hc=>⟨Ev.func,(E3 (Eg hc) (Eg hc) Ev.func),fun fr=>a4r 83 [] O1 u.t0 u.t1 _ _ _ p.tg.l _ _ (fun x hx h' hh=>a3T hg x ((hO.tg.ok x hx).mono (List.Sublist.trans Sb hh))) (htg.mono (View.le.refl _) Sb)⟩) Lb ?_
 refine kA6 ?_
 refine H4 rfl rfl (GU.t rfl rfl) (fun hc=>⟨Ev.func,(E3 (Eg hc) (Eg hc) Ev.func),fun fr=>a4r 85 [] M4 u.e0 u.e1 _ _ _ p.ex.l _ _ (fun x hx h' hh=>may_ct hg x _ ((hO.ex.ok x hx).t.mono (List.Sublist.trans Sb hh)) (hO.ex.ok x hx).w) (hex.mono (View.le.refl _) Sb)⟩) Lb ?_
 refine kA4 ?_
 refine B9 rfl rfl (GU.t rfl rfl) (fun hc=>M0 S2 rfl rfl Et Me rfl) Lb ?_
 refine H4 rfl rfl (GU.t rfl rfl) (fun hc=>⟨Ev.func,(E3 (Eg hc) (Eg hc) Ev.func),fun fr=>b5M 87 [] (fun n=>decide (n ≥ 0)&&decide (n < 8)) lo hi _ _ _ p.pn.l _ _ (fun x _ _ _=>b5P x) (hpn.mono (View.le.refl _) Sb)⟩) Lb ?_
 refine kA4 ?_
 refine B9 rfl rfl (GU.t rfl rfl) (fun hc=>PO.move (Eg hc)) Lb ?_
 refine B9 rfl rfl (Z1 rfl rfl) (fun hc=>PO.fieldAddr P3 rfl (Nat.ne_of_beq_eq_false rfl) Et) Lb ?_
 refine B9 rfl rfl (Z1 rfl rfl) (fun hc=>M0 a9h rfl rfl (Eg hc) Me rfl) Lb ?_
 refine H4 rfl rfl (Z1 rfl rfl) (fun hc=>⟨Ev.func,(E1 (Eg hc)),fun fr=>b5h hg p.sp (hO.sp.mono Sb)⟩) Lb ?_
 refine B9 rfl rfl (GU.t rfl rfl) (fun hc=>R2 hc rfl rfl) Lb ?_
 refine B9 rfl rfl (GU.t rfl rfl) (fun hc=>PO.move (Eg hc)) Lb ?_
 refine B9 rfl rfl (a3u rfl rfl) (fun hc=>PO.fieldAddr V6 rfl (Nat.ne_of_beq_eq_false rfl) Et) Lb ?_
 refine B9 rfl rfl (a3u rfl rfl) (fun hc=>D4 uu4 rfl (Eg hc) Me rfl) Lb ?_
 refine B9 rfl rfl (a3u rfl rfl) (fun hc=>PO.not (Eg hc)) Lb ?_
 refine B9 rfl rfl (a3u rfl rfl) (fun hc=>PO.move (Eg hc)) Lb ?_
 refine B9 rfl rfl (Z1 rfl rfl) (fun hc=>PO.fieldAddr P3 rfl (Nat.ne_of_beq_eq_false rfl) Et) Lb ?_
 refine B9 rfl rfl (Z1 rfl rfl) (fun hc=>M0 a9h rfl rfl (Eg hc) Me rfl) Lb ?_
 refine B9 rfl rfl (Z1 rfl rfl) (fun hc=>PO.build a9h rfl rfl rfl EvP.nil rfl) Lb ?_
 refine SR.nil rfl rfl ?_
 refine A8 (Z1 rfl rfl) (fun hc=>⟨Ev.func,(E2 (Eg hc) (Eg hc)),b8c p.sp (hsr.mono Sb)⟩) Lb ?_
 refine E8 (a3u rfl rfl) (fun hc=>R2 hc rfl rfl) Lb ?_
 refine zG (fun hc=>a2T hc rfl rfl) ?_
 refine kQ2 [2] ?_
 refine WC.ret (wR (h) ?_)
 exact⟨by rw[hu];unfold W2;rw[← hlo,show hi=lo from hhi.trans hlo.symm],rfl⟩
abbrev ctR (bc:Nat) (q:Int):Res:=.pt bc (.cells [.int .i64 q].toArray 82 (0,0))
theorem b5l {l:List Pr} {x:Pr} (h:l[0]?=some x) (d q:Int):a4x l d q=H1 x d false q:=by
 cases l with
 | nil=>cases h
 | cons y r=>cases h;rfl
theorem b1V {p:Pr} {d left:Int} {pl:Bool} (h0:0≤left) (h:(H1 p d pl left).1=true):0≤(H1 p d pl left).2∧(H1 p d pl left).2≤left:=by
 obtain⟨h1,h2⟩:=(a7g p d pl left h0 h).2 h
 exact⟨h2,by omega⟩
def b8A (p:Pr) (bl d:Int) (pl:Bool) (i:Nat) (q:Int):Bool × Int:=if (R7 (p.ll.drop i) bl pl q).1 then a2j p.gl (d+2) (R7 (p.ll.drop i) bl pl q).2 else R7 (p.ll.drop i) bl pl q
set_option maxHeartbeats 4000000 in
theorem b9h {m:View} (hg:Glob m) (p:Pr):∀ (h:List Res) (bc:Nat) (d left:Int) (pl:Bool),POk m h p→(0≤d∧d≤34)→(0≤left∧left≤2048) →
   CT Tryz.prog 26 [.pointer (some ⟨bc,0,none⟩),prV p,.int .i64 d,.bool pl] (ctR bc left::h) m (A7 (ctR bc (H1 p d pl left).2::h) (.bool (H1 p d pl left).1)):=by
 refine Pr.ind (q:=fun p=>∀ (h:List Res) (bc:Nat) (d left:Int) (pl:Bool),POk m h p→(0≤d∧d≤34)→(0≤left∧left≤2048) →
   CT Tryz.prog 26 [.pointer (some ⟨bc,0,none⟩),prV p,.int .i64 d,.bool pl] (ctR bc left::h) m (A7 (ctR bc (H1 p d pl left).2::h) (.bool (H1 p d pl left).1))) (fun p ih h bc d left pl hP hd hlf=>?_) p
 have hO:=hP.own
 have hlr:=hO.l
 have hgr:=hO.g
 have hbr:=hO.sp.b
 have lmx:=hlr.mx
 have lle:=hlr.le
 have gmx:=hgr.mx
 have gle:=hgr.le
 have he:=a2J p d pl left
 obtain⟨G,hG⟩:∃ G,G=H1 p d pl left:=⟨_,rfl⟩
 rw[← hG] at he ⊢
 refine CT.body Tryz.call26 Tryz.func26 rfl Tryz.ntmps26 Lb rfl ?_
 refine j0 ?_
 refine xX fun b5=>?_
 refine kQ1 [0,2,3,5] ?_
 refine kA4 ?_
 refine xG (P4 Et Ev.const (by omega)) ?_
 refine kQ3 [0,2,3,5] ?_
 refine a9i ?_
 refine zG (fun _=>pA P3) ?_
 refine A8 (GU.f rfl rfl) (fun hc=>⟨Ev.func,(E1 (Eg hc)),a7Z hg p (hO.mono Sb)⟩) Lb ?_
 refine kA9 ?_
 refine zG (fun hc=>R2 hc rfl rfl) ?_
 refine kQ1 [0,2,3,5,43] ?_
 refine wc (fun c43=>?_) fun c43=>?_
 have hh:X6 p d pl left=true:=c43
 rw[hh,if_pos rfl] at he
 refine kQ1 [8] ?_
 refine WC.ret (wR (ctR bc (left - 1)::h) ?_)
 exact⟨by rw[he],by rw[he]⟩
 have hh:X6 p d pl left=false:=c43
 rw[hh,if_neg (by decide)] at he
 obtain⟨⟨hl0,hd2⟩,hpl⟩:=b2k hh
 have hV:=a4H hpl
 obtain⟨y,hy⟩:∃ y:Pr,0 < p.sp.bl.length→p.sp.bl[0]?=some y:=by
   cases hb:p.sp.bl with
   | nil=>exact⟨p,fun q=>absurd q (by simp)⟩
   | cons y r=>exact⟨y,fun _=>rfl⟩
 refine kQ0 [0,2,3,5] ?_
 refine kQ3 [0,2,3,5,9] ?_
 refine kP2 [0,2,3,5,9,47] ?_
 refine H7 KKh [0,2,3,5] rfl (fun F' h'=>∃ bl:Int,∃ q:Int,((0≤bl∧bl≤34)∧(0≤q∧q≤2048)∧G=b8A p bl d (pl&&(p.k==18)) 0 q)∧F'=[(9,.int .i64 bl)]∧.pt b5 (.cells (prE p).toArray 52 (0,0))::ctR bc q::h=h') ?_ ?_
 refine kQ2 [0,2,3,5,9,47,48] ?_
 refine wc (fun c48=>?_) fun c48=>?_
 replace c48:=G4 c48
 rw[if_neg (by omega),if_pos c48] at he
 refine kA3 ?_
 refine WL.nil (D0 [(9,.int .i64 (d+2))] (h'':=.pt b5 (.cells (prE p).toArray 52 (0,0))::ctR bc (left - 1)::h) ?_ Su Sb ⟨d+2,left - 1,⟨⟨by omega,by omega⟩,⟨by omega,by omega⟩,by rw[he,show(p.k==18)=false by rw[c48];rfl,Bool.and_false];rfl⟩,rfl,rfl⟩)
 exact Su
 replace c48:=G3 c48
 refine kQ2 [0,2,3,5,9,52] ?_
 refine wc (fun c52=>?_) fun c52=>?_
 replace c52:=G4 c52
 rw[if_pos c52] at he
 have hsl:p.sp.bl.length≤1:=c2S (hV.sp (by rw[c52];rfl))
 have hyi:0 < p.sp.bl.length→In y p:=fun q=>In.s (List.mem_of_getElem? (hy q))
 have hS:=a7c p.sp d (left - 1)
 have hS0:¬ 0 < p.sp.bl.length→a4x p.sp.bl (d+1) (left - 1)=(true,left - 1):=fun q=>by
   have hb:p.sp.bl=[]:=List.eq_nil_of_length_eq_zero (by omega)
   rw[hb]
   rfl
 have hcall:(!(p.sp.cs&&decide (d+2 > 32))&&decide ((p.sp.bl.length:Int) > 0))=true→CT Tryz.prog 26 [.pointer (some ⟨bc,0,none⟩),prV y,.int .i64 (d+1),.bool false] (.pt b5 (.cells (prE p).toArray 52 (0,0))::ctR bc (left - 1)::h) m
     (A7 (.pt b5 (.cells (prE p).toArray 52 (0,0))::ctR bc (a0h p.sp d (left - 1)).2::h) (.bool (a4x p.sp.bl (d+1) (left - 1)).1)):=by
   intro hc
   have h1:0 < p.sp.bl.length:=by simp at hc;omega
   have h2:¬ (p.sp.cs&&decide (d+2 > 32))=true:=by intro q;rw[q] at hc;simp at hc
   rw[hS,if_neg h2,b5l (hy h1)]
   exact CT.perm (List.Perm.swap _ _ _) (ih y (hyi h1) (.pt b5 (.cells (prE p).toArray 52 (0,0))::h) bc (d+1) (left - 1) false ((hP.sub (hyi h1)).mono Sb) ⟨by omega,by omega⟩ ⟨by omega,by omega⟩) (List.Perm.swap _ _ _)
 have hskip:(!(p.sp.cs&&decide (d+2 > 32))&&decide ((p.sp.bl.length:Int) > 0))=false→(Res.pt b5 (.cells (prE p).toArray 52 (0,0))::ctR bc (a0h p.sp d (left - 1)).2::h)=.pt b5 (.cells (prE p).toArray 52 (0,0))::ctR bc (left - 1)::h:=by
   intro hc
   have h3:(a0h p.sp d (left - 1)).2=left - 1:=by
     rw[hS]
     split
     · rfl
     · rename_i h2
       rw[hS0 (fun q=>(by
         have h4:decide ((p.sp.bl.length:Int) > 0)=true:=by simp;omega
         rw[h4,Bool.and_true] at hc
         exact h2 (by simpa using hc)))]
   rw[h3]
 refine kQ2 [0,2,3,5,9] ?_
 refine kA6 ?_
 refine E8 (GU.t rfl rfl) (fun hc=>I7 (Eg hc) Ev.const (by first | omega | (simp at hc;omega))) Lb ?_
 refine a7F ?_
 refine kA1 ?_
 refine E8 (Z1 rfl rfl) (fun hc=>F4 Z9.und Z9.size Z9.posz (Eg hc) Ev.const Rr rfl (q:=0) (by simp at hc;omega)) Lb ?_
 refine E8 (Z1 rfl rfl) (fun hc=>a3W P3 rfl rfl a1W Rr (Eg hc) (hy (by simp at hc;omega)) rfl rfl (Nat.succ_pos _)) Lb ?_
 refine kA1 ?_
 refine E8 (Z1 rfl rfl) (fun hc=>I7 (Eg hc) Ev.const (by first | omega | (simp at hc;omega))) Lb ?_
 refine a4b (Z1 rfl rfl) (fun hc=>⟨Ev.func,(E4 (Eg hc) (Eg hc) (Eg hc) Ev.const),hcall hc⟩) (fun hc=>(hskip hc)) Lb ?_
 refine kA1 ?_
 refine zG (fun hc=>R2 hc rfl rfl) ?_
 refine kQ1 [0,2,3,5,9,82] ?_
 refine wc (fun c82=>?_) fun c82=>?_
 have d82:((p.sp.cs&&decide (d+2 > 32))||(decide ((p.sp.bl.length:Int) > 0)&&!(a4x p.sp.bl (d+1) (left - 1)).1))=true:=c82
 have hS1:(a0h p.sp d (left - 1)).1=false:=by
   rw[hS]
   split
   · rfl
   · rename_i h2
     rw[show(p.sp.cs&&decide (d+2 > 32))=false by simpa using h2,Bool.false_or] at d82
     simp only[Bool.and_eq_true,Bool.not_eq_true'] at d82
     exact d82.2
 rw[hS1,if_neg (by decide)] at he
 refine kQ1 [8] ?_
 refine WC.ret (wR (ctR bc (a0h p.sp d (left - 1)).2::h) ?_)
 exact⟨by rw[he,hS1],by rw[he]⟩
 have d82:((p.sp.cs&&decide (d+2 > 32))||(decide ((p.sp.bl.length:Int) > 0)&&!(a4x p.sp.bl (d+1) (left - 1)).1))=false:=c82
 simp only[Bool.or_eq_false_iff] at d82
 have hSH:a0h p.sp d (left - 1)=a4x p.sp.bl (d+1) (left - 1):=by rw[hS,if_neg (by rw[d82.1];decide)]
 have hS1:(a0h p.sp d (left - 1)).1=true:=by
   rw[hSH]
   by_cases hb:0 < p.sp.bl.length
   · have h9:=d82.2
     rw[show decide ((p.sp.bl.length:Int) > 0)=true by simp;omega,Bool.true_and] at h9
     simpa using h9
   · rw[hS0 hb]
 have hrb:0≤(a0h p.sp d (left - 1)).2∧(a0h p.sp d (left - 1)).2≤left - 1:=by
   rw[hSH] at hS1 ⊢
   obtain⟨_,r1,r2⟩:=a7M hl0 hsl (fun x _ d pl q h0 h=>a7g x d pl q h0 h) hS1
   omega
 rw[hS1,if_pos rfl] at he
 refine WC.skip (D0 [(9,.int .i64 d)] (h'':=.pt b5 (.cells (prE p).toArray 52 (0,0))::ctR bc ((a0h p.sp d (left - 1)).2)::h) ?_ Su Sb ⟨d,(a0h p.sp d (left - 1)).2,⟨⟨by omega,by omega⟩,⟨by omega,by omega⟩,by rw[he,show(p.k==18)=true by rw[c52];rfl,Bool.and_true];rfl⟩,rfl,rfl⟩)
 exact Su
 replace c52:=G3 c52
 rw[if_neg c52,if_neg c48] at he
 refine WC.skip (D0 [(9,.int .i64 (d+1))] (h'':=.pt b5 (.cells (prE p).toArray 52 (0,0))::ctR bc (left - 1)::h) ?_ Su Sb ⟨d+1,left - 1,⟨⟨by omega,by omega⟩,⟨by omega,by omega⟩,by rw[he,show(p.k==18)=false by simpa using c52,Bool.and_false];rfl⟩,rfl,rfl⟩)
 exact Su
 rintro _ _ ⟨bl,q,⟨hbl,hq,hG1⟩,rfl,rfl⟩
 refine B3 rfl ?_
 refine kQ4 [0,2,3,5,9,84,85,86] ?_
 refine B1 [0,2,3,5,9,84,85] rfl (fun μ F' h'=>∃ i:Nat,∃ q:Int,((i≤p.ll.length∧(0≤q∧q≤2048))∧G=b8A p bl d (pl&&(p.k==18)) i q)∧p.ll.length - i=μ∧F'=[(86,.int .i64 i)]∧.pt b5 (.cells (prE p).toArray 52 (0,0))::ctR bc q::h=h') (p.ll.length - 0) [(86,.int .i64 0)] (h0:=.pt b5 (.cells (prE p).toArray 52 (0,0))::ctR bc q::h) ?_ Sb ⟨0,q,⟨⟨by omega,hq⟩,hG1⟩,rfl,rfl,rfl⟩ ?_
 exact Su
 rintro _ _ _ ⟨i,q,⟨⟨hk,hq⟩,hJ⟩,rfl,rfl,rfl⟩
 refine B3 rfl ?_
 refine kQ1 [0,2,3,5,9,84,85,86,87] ?_
 refine wc (fun c87=>?_) fun c87=>?_
 replace c87:=dT c87
 obtain⟨x,hx⟩:=A5 (l:=p.ll) (k:=i) (by omega)
 have hxm:=List.mem_of_getElem? hx
 have hL:R7 (p.ll.drop i) bl (pl&&(p.k==18)) q=if (H1 x bl (pl&&(p.k==18)) q).1 then R7 (p.ll.drop (i+1)) bl (pl&&(p.k==18)) (H1 x bl (pl&&(p.k==18)) q).2 else H1 x bl (pl&&(p.k==18)) q:=by rw[R8 hx];rfl
 unfold b8A at hJ
 rw[hL] at hJ
 refine kQ0 [0,2,3,5,9,84,85,86] ?_
 refine kA2 ?_
 refine xW fun b11=>?_
 refine kQ1 [0,2,3,5,9,11,84,85,86] ?_
 refine kA9 ?_
 refine xg (E4 Et Et Et Et) (CT.perm (List.perm_middle (l₁:=[_,_])) (ih x (In.l hxm) (.pt b11 (.cells (prE x).toArray 52 (0,0))::.pt b5 (.cells (prE p).toArray 52 (0,0))::h) bc bl q (pl&&(p.k==18)) ((hP.sub (In.l hxm)).mono Sb) hbl hq) (List.perm_middle (l₁:=[_,_])).symm) ?_
 rintro _ _ ⟨rfl,rfl⟩
 refine kQ1 [0,2,3,5,9,84,85,86,100] ?_
 refine wc (fun c100=>?_) fun c100=>?_
 have hc0:(H1 x bl (pl&&(p.k==18)) q).1=false:=by simpa using c100
 simp only[hc0,Bool.false_eq_true,if_false] at hJ
 refine kQ1 [8] ?_
 refine WC.ret (wR (ctR bc (H1 x bl (pl&&(p.k==18)) q).2::h) ?_)
 exact⟨by rw[hJ,hc0],by rw[hJ]⟩
 have hc0:(H1 x bl (pl&&(p.k==18)) q).1=true:=by simpa using c100
 rw[hc0,if_pos rfl] at hJ
 have hrg:=b1V hq.1 hc0
 refine kQ0 [0,2,3,5,9,84,85,86] ?_
 refine kA2 ?_
 refine WL.nil (A6 (p.ll.length - (i+1)) [(86,.int .i64 (i+1))] (h'':=.pt b5 (.cells (prE p).toArray 52 (0,0))::ctR bc ((H1 x bl (pl&&(p.k==18)) q).2)::h) (by omega) ?_ Su Sb ⟨i+1,(H1 x bl (pl&&(p.k==18)) q).2,⟨⟨by omega,⟨by omega,by omega⟩⟩,hJ⟩,rfl,rfl,rfl⟩)
 exact Su
 replace c87:=dF c87
 have hJ:G=a2j (p.gl.drop 0) (d+2) q:=by
   rw[hJ]
   unfold b8A
   rw[show p.ll.drop i=[] from List.drop_eq_nil_of_le (by omega)]
   rfl
 refine kQ0 [0,2,5] ?_
 refine kQ4 [0,2,103,104,105] ?_
 refine B1 [0,2,103,104] rfl (fun μ F' h'=>∃ i:Nat,∃ q:Int,((i≤p.gl.length∧(0≤q∧q≤2048))∧G=a2j (p.gl.drop i) (d+2) q)∧p.gl.length - i=μ∧F'=[(105,.int .i64 i)]∧.pt b5 (.cells (prE p).toArray 52 (0,0))::ctR bc q::h=h') (p.gl.length - 0) [(105,.int .i64 0)] (h0:=.pt b5 (.cells (prE p).toArray 52 (0,0))::ctR bc q::h) ?_ Sb ⟨0,q,⟨⟨by omega,hq⟩,hJ⟩,rfl,rfl,rfl⟩ ?_
 exact Su
 rintro _ _ _ ⟨i,q,⟨⟨hk,hq⟩,hJ⟩,rfl,rfl,rfl⟩
 refine B3 rfl ?_
 refine kQ1 [0,2,103,104,105,106] ?_
 refine wc (fun c106=>?_) fun c106=>?_
 replace c106:=dT c106
 obtain⟨g,hgx⟩:=A5 (l:=p.gl) (k:=i) (by omega)
 have hgm:=List.mem_of_getElem? hgx
 have hgv:=b5z (hV.gs g hgm).1
 obtain⟨x,hx⟩:=A5 (l:=g.bl) (k:=0) (by have:=hgv.body;omega)
 have hxi:In x p:=In.g hgm (List.mem_of_getElem? hx)
 have hx1:0 < g.bl.length:=(List.getElem?_eq_some_iff.1 hx).1
 have hgb:=(hO.gs g hgm).b
 have hGG:a2j (p.gl.drop i) (d+2) q=if (H1 x (d+2) false q).1 then a2j (p.gl.drop (i+1)) (d+2) (H1 x (d+2) false q).2 else H1 x (d+2) false q:=by
   rw[R8 hgx,← b5l hx,← a5G]
   rfl
 rw[hGG] at hJ
 refine kQ0 [0,2,103,104,105] ?_
 refine kA2 ?_
 refine xW fun b13=>?_
 refine kQ1 [0,2,13,103,104,105] ?_
 refine kA3 ?_
 refine xG (F4 Z9.und Z9.size Z9.posz (Ev.tmp rfl) Ev.const Rr rfl (q:=0) (by omega)) ?_
 refine kA3 ?_
 refine xg (E4 Et Et Et Ev.const) (CT.perm (List.perm_middle (l₁:=[_,_])) (ih x hxi (.pt b13 (.cells (guE g).toArray 86 (0,0))::.pt b5 (.cells (prE p).toArray 52 (0,0))::h) bc (d+2) q false ((hP.sub hxi).mono Sb) ⟨by omega,by omega⟩ hq) (List.perm_middle (l₁:=[_,_])).symm) ?_
 rintro _ _ ⟨rfl,rfl⟩
 refine kQ1 [0,2,103,104,105,117] ?_
 refine wc (fun c117=>?_) fun c117=>?_
 have hc0:(H1 x (d+2) false q).1=false:=by simpa using c117
 rw[hc0,if_neg (by decide)] at hJ
 refine kQ1 [8] ?_
 refine WC.ret (wR (ctR bc (H1 x (d+2) false q).2::h) ?_)
 exact⟨by rw[hJ,hc0],by rw[hJ]⟩
 have hc0:(H1 x (d+2) false q).1=true:=by simpa using c117
 rw[hc0,if_pos rfl] at hJ
 have hrg:=b1V hq.1 hc0
 refine kQ0 [0,2,103,104,105] ?_
 refine kA2 ?_
 refine WL.nil (A6 (p.gl.length - (i+1)) [(105,.int .i64 (i+1))] (h'':=.pt b5 (.cells (prE p).toArray 52 (0,0))::ctR bc ((H1 x (d+2) false q).2)::h) (by omega) ?_ Su Sb ⟨i+1,(H1 x (d+2) false q).2,⟨⟨by omega,⟨by omega,by omega⟩⟩,hJ⟩,rfl,rfl,rfl⟩)
 exact Su
 replace c106:=dF c106
 have hJ:G=(true,q):=by rw[hJ,show p.gl.drop i=[] from List.drop_eq_nil_of_le (by omega)];rfl
 refine kQ0 [] ?_
 refine kQ1 [8] ?_
 refine WC.ret (wR (ctR bc q::h) ?_)
 exact⟨by rw[hJ],by rw[hJ]⟩
theorem a5L {m:View} {h:List Res} (hg:Glob m) (p:Pr) (hP:POk m h p):CT Tryz.prog 13 [prV p] h m (A7 h (.bool (mayP p))):=by
 refine CT.body Tryz.call13 Tryz.func13 rfl Tryz.ntmps13 Lb rfl ?_
 refine j0 ?_
 refine xX fun b1=>?_
 refine kQ1 [1] ?_
 refine kA1 ?_
 refine xX fun b5=>?_
 refine kQ1 [1,3] ?_
 refine kA2 ?_
 refine xg (E4 Et Et Ev.const Ev.const) (b9h hg p (.pt b1 (.cells (prE p).toArray 52 (0,0))::h) b5 0 2048 true (hP.mono Sb) ⟨by omega,by omega⟩ ⟨by omega,by omega⟩) ?_
 rintro _ _ ⟨rfl,rfl⟩
 refine kQ1 [2] ?_
 refine WC.ret (wR (h) ?_)
 exact⟨rfl,rfl⟩
end Go.Proofs.YtkemgjnejlkkcaaGreatDoor
end
section
namespace Go.Proofs.YtkemgjnejlkkcaaGreatDoor
set_option maxRecDepth 100000
set_option maxHeartbeats 2000000
open Go.Eng Go.Pc Go.Sx Go
open Go.Xp hiding B D9
open Go.Ty (Ty Vr Tok eqT tyV J2 B4 B7 S1 zeroK)
abbrev wrV (e:Int):Value:=.iface 90 (.agg #[.int .i64 e])
abbrev lnR (b:Nat) (a:Option Addr) (n c:Nat):Res:=.pt b (.cells [.slice a n c].toArray 119 (0,0))
structure Tk2 (m:View) (h:List Res) (a:Option Addr) (c:Nat) (ts:List Tok):Prop where
 k:Tks m h a c ts
 n:∀ t ∈ ts,-2147483648≤t.n∧t.n≤2147483647
theorem Tk2.mono {m:View} {h h':List Res} {a:Option Addr} {c:Nat} {ts:List Tok} (q:Tk2 m h a c ts) (s:h.Sublist h'):Tk2 m h' a c ts:=⟨q.k.mono s,q.n⟩
theorem Tk2.drop {m:View} {h:List Res} {a:Option Addr} {c:Nat} {ts:List Tok} (q:Tk2 m h a c ts) {i:Nat} (hi:i≤ts.length):Tk2 m h (sl1 a i c 4) (c - i) (ts.drop i):=
 ⟨⟨by rw[List.length_drop];exact q.k.rd.dropF B7 (by decide) hi,by have:=q.k.le;rw[List.length_drop];omega,fun t ht=>q.k.tx t (List.mem_of_mem_drop ht)⟩,fun t ht=>q.n t (List.mem_of_mem_drop ht)⟩
theorem Tk2.tail {m:View} {h:List Res} {a:Option Addr} {c:Nat} {ts:List Tok} (q:Tk2 m h a c ts) (hi:0 < ts.length):Tk2 m h (sl1 a 1 c 4) (c - 1) ts.tail:=by
 rw[← List.drop_one];exact q.drop hi
theorem Tk2.ok {m:View} {h:List Res} {a:Option Addr} {c:Nat} {ts:List Tok} (q:Tk2 m h a c ts):Go.Ty.TkOk ts:=fun x hx=>⟨q.n x hx,Nat.le_trans (q.k.tx x hx) (by decide)⟩
abbrev LnR {α:Type} (m:View) (hT h:List Res) (b:Nat) (M:E α) (O:α→Value→List Res→Prop) (v:Value) (h':List Res):Prop:=
 ∃ (x:α) (r:List Tok) (a:Option Addr) (c:Nat) (bl:List Res),M=.ok (x,r)∧O x v bl∧Tk2 m hT a c r∧h'=lnR b a r.length c::(bl++h)
abbrev LnE {α:Type} (h:List Res) (M:E α) (v:Value) (h':List Res):Prop:=∃ e,M=.error e∧v=wrV e∧h'=h
abbrev LnX {α:Type} (m:View) (f:FuncId) (args:List Value) (b:Nat) (a:Option Addr) (c:Nat) (ts:List Tok) (hT h:List Res) (M:E α) (O:α→Value→List Res→Prop):Prop:=
 CX Tryz.prog f args (lnR b a ts.length c::h) m (fun v _ h'=>LnR m hT h b M O v h') (fun v h'=>LnE h M v h')
abbrev LnV {α:Type} (m:View) (hT h:List Res) (b:Nat) (M:E α) (W:α→Value→Prop) (v:Value) (h':List Res):Prop:=
 ∃ (x:α) (r:List Tok) (a:Option Addr) (c:Nat),M=.ok (x,r)∧W x v∧Tk2 m hT a c r∧h'=lnR b a r.length c::h
abbrev LnY {α:Type} (m:View) (f:FuncId) (args:List Value) (b:Nat) (a:Option Addr) (c:Nat) (ts:List Tok) (hT h:List Res) (M:E α) (W:α→Value→Prop):Prop:=
 CX Tryz.prog f args (lnR b a ts.length c::h) m (fun v _ h'=>LnV m hT h b M W v h') (fun v h'=>LnE h M v h')
abbrev WN (s:B) (v:Value):Prop:=v=str s∧s.length≤Big
abbrev WT (x:Ty) (v:Value):Prop:=v=tyV x∧TyW x
abbrev WI (k:Int) (v:Value):Prop:=v=.int .u8 k∧0≤k∧k≤255
abbrev WF (f:Fo) (v:Value):Prop:=v=foV f∧FoW f
abbrev OE (m:View) (x:Ex) (v:Value) (bl:List Res):Prop:=∃ t,v=exV t∧C1 t=x∧EOk m bl t
abbrev OR (m:View) (x:Rp) (v:Value) (bl:List Res):Prop:=∃ r,v=rpV r∧stR r=x∧r.name.length≤Big∧EOk m bl r.base∧EOk m bl r.count
theorem lnP {α:Type} (fn:Func) {n:Cx} {F:Fm} {H h:List Res} {m:View} {R:Value→View→List Res→Prop} {M:E α} {e:Int} (hq:M=.error e) (hd:h.Sublist H) (hds:n.ds=[]:=by rfl) :
   ∀ a w,Fr n F a→St m H w→bodyPost Tryz.prog fn (RX m R (fun v h'=>LnE h M v h')) (.panic [{ v:=wrV e,recovered:=false }]) a w:=a1E h (View.le.refl m) hd ⟨e,hq,rfl,rfl⟩ hds
inductive Mv (bl:List Res):List Res→List Res→Prop
 | stop {h:List Res}:Mv bl h (bl++h)
 | cons {x:Res} {s d:List Res} (q:Mv bl s d):Mv bl (x::s) (x::d)
theorem Mv.perm {bl s d:List Res} (q:Mv bl s d):(bl++s).Perm d:=by
 induction q with
 | stop=>exact List.Perm.refl _
 | cons _ ih=>exact List.perm_middle.trans (ih.cons _)
theorem F1 (m:View) (h:List Res):EOk m h A3:=⟨a8T m h,.mk (by decide) (by decide) (by decide) (by decide) (Nat.zero_le _) fun _ hx=>(List.not_mem_nil hx).elim⟩
theorem H3 {b:Bool} (h:b=false):¬ (b=true):=by rw[h];decide
theorem I1 {α β:Type} (x:α) (ts:List Tok) (f:α→List Tok→E β):O9 (.ok (x,ts)) f=f x ts:=rfl
theorem a3m {β:Type} {k:Int} {s:B} {ts:List Tok} {f:List Tok→E β} (h:isM k s ts=true):Z4 k s ts f=f ts.tail:=by unfold Z4;rw[h];rfl
theorem a3D {β:Type} {k:Int} {s:B} {ts:List Tok} {f:List Tok→E β} (h:isM k s ts=false):Z4 k s ts f=.error 110:=by unfold Z4;rw[h];rfl
theorem b6l (ts:List Tok):(ts.headD zeroK)=ts.getD 0 zeroK:=by cases ts <;> rfl
theorem c3y (k:Int) (s:B) (ts:List Tok):isM k s ts=((decide ((ts.length:Int) > 0)&&((ts.getD 0 zeroK).kind==k))&&((ts.getD 0 zeroK).text==s)):=by
 cases ts with
 | nil=>rfl
 | cons t r=>
   have h1:decide (((t::r).length:Int) > 0)=true:=decide_eq_true (by simp only[List.length_cons];omega)
   rw[h1]
   rfl
theorem K2 (s:B) (h:List Res) (m:View):CT Tryz.prog 72 [str s] h m (A7 h (S1 ⟨2,0,s,0⟩)):=by
 refine CT.body Tryz.call72 Tryz.func72 rfl Tryz.ntmps72 Lb rfl ?_
 refine j0 ?_
 refine xW fun b2=>?_
 refine kQ0 [0,2] ?_
 refine kQ3 [2] ?_
 refine WC.ret (I2 (h':=h) (.inl rfl) rfl (A4 H9 rfl rfl rfl Me rfl) (View.le.refl m) Sb ?_)
 exact⟨rfl,rfl⟩
theorem H0 (s:B) (h:List Res) (m:View):CT Tryz.prog 73 [str s] h m (A7 h (S1 ⟨5,0,s,0⟩)):=by
 refine CT.body Tryz.call73 Tryz.func73 rfl Tryz.ntmps73 Lb rfl ?_
 refine j0 ?_
 refine xW fun b2=>?_
 refine kQ0 [0,2] ?_
 refine kQ3 [2] ?_
 refine WC.ret (I2 (h':=h) (.inl rfl) rfl (A4 H9 rfl rfl rfl Me rfl) (View.le.refl m) Sb ?_)
 exact⟨rfl,rfl⟩
theorem I4 (h:List Res) (m:View):CX Tryz.prog 35 [] h m (fun _ _ _=>False) (fun v h'=>v=wrV 110∧h'=h):=by
 refine CX.body Tryz.call35 Tryz.func35 rfl Tryz.ntmps35 Lb rfl ?_
 refine kA1 ?_
 refine xG (V5 c1D Et) ?_
 refine WL.panic Et (a1E (P:=Tryz.prog) (fn:=Tryz.f35) (h) (View.le.refl m) Sb ?_)
 exact⟨rfl,rfl⟩
theorem a2A (b:Nat) (a:Option Addr) (c:Nat) (ts:List Tok) (u:Tok) (h hT:List Res) {m:View} (hb:lnR b a ts.length c ∈ h) (hk:Tk2 m hT a c ts) (hs:hT.Sublist h) :
   CT Tryz.prog 110 [ptV b,S1 u] h m (A7 h (.bool (isM u.kind u.text ts))):=by
 have hrd:=(hk.mono hs).k.rd
 obtain⟨t,ht⟩:∃ t,t=ts.getD 0 zeroK:=⟨_,rfl⟩
 have hel:0 < ts.length→ts[0]?=some t:=fun hq=>by rw[ht,List.getD_eq_getElem?_getD,List.getElem?_eq_getElem hq];rfl
 refine CT.body Tryz.call110 Tryz.func110 rfl Tryz.ntmps110 Lb rfl ?_
 refine j0 ?_
 refine xX fun b3=>?_
 refine kQ1 [0,3] ?_
 refine dS [] (.op 0 (.op 1 (.op 2 (.op 3 (.op 4 (.op 5 (.op 6 (.op 7 (.op 8 (.op 9 (.op 10 (.op 11 (.op 12 (.op 13 (.op 14 (.op 15 (.op 16 (.op 17 (.op 18 (.op 19 (.op 20 (.op 21 (.op 22 (.op 23 (.op 24 (.op 25 (.op 26 (.op 27 .nil)))))))))))))))))))))))))))) [28,29,30] D8 ?_
 refine kA3 ?_
 refine yG rfl (D4 a05 rfl Et (List.mem_cons_of_mem _ hb) rfl) ?_
 refine yG rfl (U5 a05 Et) ?_
 refine yG rfl (O6 Et Ev.const rfl) ?_
 refine kA1 ?_
 refine B9 rfl rfl (GU.t rfl rfl) (fun hc=>PO.move Et) Lb ?_
 refine B9 rfl rfl (GU.t rfl rfl) (fun hc=>PO.nilCheck (Eg hc)) Lb ?_
 refine B9 rfl rfl (GU.t rfl rfl) (fun hc=>PO.fieldAddr b7r rfl (Nat.ne_of_beq_eq_false rfl) (Eg hc)) Lb ?_
 refine B9 rfl rfl (GU.t rfl rfl) (fun hc=>D4 a05 rfl (Eg hc) (List.mem_cons_of_mem _ hb) rfl) Lb ?_
 refine B9 rfl rfl (GU.t rfl rfl) (fun hc=>F4 A9.und A9.size A9.posz (Eg hc) Ev.const Rr rfl (q:=0) (by simp at hc;omega)) Lb ?_
 refine B9 rfl rfl (GU.t rfl rfl) (fun hc=>F5 H9 rfl (Nat.ne_of_beq_eq_false rfl) B7 (Nat.succ_pos _) Rr (hel (by simp at hc;omega)) (Eg hc)) Lb ?_
 refine B9 rfl rfl (GU.t rfl rfl) (fun hc=>F8 a6N rfl B7 Rr (Eg hc) (hel (by simp at hc;omega)) rfl) Lb ?_
 refine kA2 ?_
 refine B9 rfl rfl (GU.t rfl rfl) (fun hc=>O6 (Eg hc) (Eg hc) rfl) Lb ?_
 refine kA2 ?_
 refine B9 rfl rfl (GU.t rfl rfl) (fun hc=>PO.move Et) Lb ?_
 refine B9 rfl rfl (GU.t rfl rfl) (fun hc=>PO.nilCheck (Eg hc)) Lb ?_
 refine B9 rfl rfl (GU.t rfl rfl) (fun hc=>PO.fieldAddr b7r rfl (Nat.ne_of_beq_eq_false rfl) (Eg hc)) Lb ?_
 refine B9 rfl rfl (GU.t rfl rfl) (fun hc=>D4 a05 rfl (Eg hc) (List.mem_cons_of_mem _ hb) rfl) Lb ?_
 refine B9 rfl rfl (GU.t rfl rfl) (fun hc=>F4 A9.und A9.size A9.posz (Eg hc) Ev.const Rr rfl (q:=0) (by simp at hc;omega)) Lb ?_
 refine B9 rfl rfl (GU.t rfl rfl) (fun hc=>F5 H9 rfl (Nat.ne_of_beq_eq_false rfl) B7 (Nat.succ_pos _) Rr (hel (by simp at hc;omega)) (Eg hc)) Lb ?_
 refine B9 rfl rfl (GU.t rfl rfl) (fun hc=>F8 uu9 rfl B7 Rr (Eg hc) (hel (by simp at hc;omega)) rfl) Lb ?_
 refine kA2 ?_
 refine SR.nil rfl rfl ?_
 refine zG (fun hc=>N1 (Eg hc) (Eg hc)) ?_
 refine kQ2 [4] ?_
 refine WC.ret (wR (h) ?_)
 exact⟨by rw[c3y,← ht],rfl⟩
theorem K5 (b:Nat) (a:Option Addr) (c:Nat) (ts:List Tok) (u:Tok) (h hT:List Res) {m:View} (hk:Tk2 m hT a c ts) (hs:hT.Sublist h) :
   CT Tryz.prog 100 [ptV b,S1 u] (lnR b a ts.length c::h) m
     (fun v _ h'=>∃ a' c' r,v=.bool (isM u.kind u.text ts)∧r=(if isM u.kind u.text ts then ts.tail else ts)∧Tk2 m hT a' c' r∧h'=lnR b a' r.length c'::h):=by
 refine CT.body Tryz.call100 Tryz.func100 rfl Tryz.ntmps100 Lb rfl ?_
 refine j0 ?_
 refine xX fun b3=>?_
 refine kQ1 [0,3] ?_
 refine kA2 ?_
 refine xf (E2 Et Et) (a2A b a c ts u _ hT Me hk (hs.trans Sb)) ?_
 refine kQ1 [0,8] ?_
 refine wc (fun c8=>?_) fun c8=>?_
 have d8:isM u.kind u.text ts=false:=by simpa using c8
 refine kQ1 [4] ?_
 refine WC.ret (wR (lnR b a ts.length c::h) ?_)
 exact⟨a,c,ts,by rw[d8],by rw[d8];rfl,hk,rfl⟩
 have d8:isM u.kind u.text ts=true:=by simpa using c8
 have hp:=c1f d8
 refine kQ0 [0] ?_
 refine kA5 ?_
 refine xG (a0l A9.und A9.size Et Ev.const (l:=1) rfl (by omega)) ?_
 refine kQ3 [] ?_
 refine kQ1 [4] ?_
 refine WC.ret (wR (lnR b (sl1 a 1 c 4) (ts.length - 1) (c - 1)::h) ?_)
 exact⟨_,_,ts.tail,by rw[d8],by rw[d8];rfl,hk.tail hp,by rw[List.length_tail]⟩
theorem N7 (b:Nat) (a:Option Addr) (c:Nat) (ts:List Tok) (u:Tok) (a1:Option Addr) (c1:Nat) (h hT:List Res) {m:View} (hk:Tk2 m hT a c ts) (hs:hT.Sublist h) (hu:Rd m h a1 1 c1 4 (fl B4 [u])) :
   CX Tryz.prog 108 [ptV b,.slice a1 1 c1] (lnR b a ts.length c::h) m
     (fun _ _ h'=>isM u.kind u.text ts=true∧∃ a' c',Tk2 m hT a' c' ts.tail∧h'=lnR b a' ts.tail.length c'::h) (fun v h'=>isM u.kind u.text ts=false∧v=wrV 110∧h'=h):=by
 refine CX.body Tryz.call108 Tryz.func108 rfl Tryz.ntmps108 Lb rfl ?_
 refine kQ3 [0,6,7,8] ?_
 refine B1 [0,6,7] rfl (fun μ F' h'=>∃ j:Nat,∃ x:Option Addr,∃ y:Nat,∃ r:List Tok,(Tk2 m hT x y r∧((j=0∧r=ts)∨(j=1∧isM u.kind u.text ts=true∧r=ts.tail)))∧1 - j=μ∧F'=[(8,.int .i64 j)]∧lnR b x r.length y::h=h') (1 - 0) [(8,.int .i64 0)] (h0:=lnR b a ts.length c::h) ?_ Sb ⟨0,a,c,ts,⟨hk,.inl ⟨rfl,rfl⟩⟩,rfl,rfl,rfl⟩ ?_
 exact Su
 rintro _ _ _ ⟨j,x,y,r,⟨hk1,hJ⟩,rfl,rfl,rfl⟩
 refine B3 rfl ?_
 refine kQ1 [0,6,7,8,9] ?_
 refine wc (fun c9=>?_) fun c9=>?_
 replace c9:=dT c9
 have hj:j=0∧r=ts:=by rcases hJ with hJ | hJ <;> first | exact hJ | (exfalso;have:=hJ.1;omega)
 obtain⟨rfl,rfl⟩:=hj
 have hx:([u]:List Tok)[0]?=some u:=rfl
 refine kQ0 [0,6,7,8] ?_
 refine kA2 ?_
 refine xW fun b5=>?_
 refine kQ1 [0,5,6,7,8] ?_
 refine kA2 ?_
 refine WL.perm (Del.perm (r:=lnR b x r.length y) De) ?_
 refine xg (E2 Et Et) (K5 b x y r u _ hT hk1 (hs.trans Sb)) ?_
 rintro _ _ ⟨a2,c2,r2,rfl,hr2,hk2,rfl⟩
 refine kQ1 [0,6,7,8,15] ?_
 refine wc (fun c15=>?_) fun c15=>?_
 have d15:isM u.kind u.text r=false:=by simpa using c15
 refine j0 ?_
 refine A1 Ev.func Evs.nil (I4 _ _) Lb (fun v hv hx=>?_) fun v16 h16 hr16=>?_
 · obtain⟨rfl,rfl⟩:=hx
   exact a1E (P:=Tryz.prog) (fn:=Tryz.f108) h (View.le.refl m) Sb ⟨d15,rfl,rfl⟩
 exact hr16.elim
 have d15:isM u.kind u.text r=true:=by simpa using c15
 rw[d15,if_pos rfl] at hr2
 refine kQ0 [0,6,7,8] ?_
 refine kA2 ?_
 refine WL.nil (A6 (1 - 1) [(8,.int .i64 1)] (h'':=lnR b a2 r2.length c2::h) (by omega) ?_ Su Sb ⟨1,a2,c2,r2,⟨hk2,.inr ⟨rfl,d15,hr2⟩⟩,rfl,rfl,rfl⟩)
 exact Su
 replace c9:=dF c9
 have hj:isM u.kind u.text ts=true∧r=ts.tail:=by rcases hJ with hJ | hJ <;> first | exact hJ.2 | (exfalso;have:=hJ.1;omega)
 obtain⟨h1,rfl⟩:=hj
 refine WC.exit (toX (.inr rfl) (W1 (h':=lnR b x ts.tail.length y::h) (.inr rfl) rfl  (View.le.refl m) Sb ?_))
 exact⟨h1,x,y,hk1,rfl⟩
theorem c5f {ts:List Tok} {t:Tok} (ht:t=ts.getD 0 zeroK) (h:(((ts.length:Int)==0)||(t.kind != 1))=true):t.kind≠1:=by
 simp only[Bool.or_eq_true,beq_iff_eq,bne_iff_ne,ne_eq] at h
 rcases h with h1 | h1
 · have h2:ts=[]:=List.eq_nil_of_length_eq_zero (by omega)
   rw[ht,h2]
   decide
 · exact h1
theorem c5B {ts:List Tok} {t:Tok} (h:(((ts.length:Int)==0)||(t.kind != 1))=false):0 < ts.length∧t.kind=1:=by
 simp only[Bool.or_eq_false_iff,beq_eq_false_iff_ne,bne_eq_false_iff_eq,ne_eq] at h
 exact⟨by omega,h.2⟩
theorem a5U {n:Nat} (h:(!((n:Int)==0))=true):0 < n:=by simp at h;omega
theorem a0Z (b:Nat) (a:Option Addr) (c:Nat) (ts:List Tok) (h hT:List Res) {m:View} (hk:Tk2 m hT a c ts) (hs:hT.Sublist h):LnY m 101 [ptV b] b a c ts hT h (V9 ts) WN:=by
 have hrd:=(hk.mono hs).k.rd
 have hq:=b2H ts
 obtain⟨t,ht⟩:∃ t,t=ts.getD 0 zeroK:=⟨_,rfl⟩
 have hel:0 < ts.length→ts[0]?=some t:=fun hq=>by rw[ht,List.getD_eq_getElem?_getD,List.getElem?_eq_getElem hq];rfl
 rw[← ht] at hq
 refine CX.body Tryz.call101 Tryz.func101 rfl Tryz.ntmps101 Lb rfl ?_
 refine kQ1 [0] ?_
 refine kA8 ?_
 refine zG (fun hc=>PO.nilCheck (Eg hc)) ?_
 refine kA2 ?_
 refine zG (fun hc=>F4 A9.und A9.size A9.posz (Eg hc) Ev.const Rr rfl (q:=0) (a5U hc)) ?_
 refine zG (fun hc=>F5 H9 rfl (Nat.ne_of_beq_eq_false rfl) B7 (Nat.succ_pos _) Rr (hel (a5U hc)) (Eg hc)) ?_
 refine zG (fun hc=>F8 a6N rfl B7 Rr (Eg hc) (hel (a5U hc)) rfl) ?_
 refine kQ2 [0,19] ?_
 refine wc (fun c19=>?_) fun c19=>?_
 have d19:=c5f ht c19
 rw[if_neg d19] at hq
 refine j0 ?_
 refine A1 Ev.func Evs.nil (I4 _ _) Lb (fun v hv hx=>?_) fun v20 h20 hr20=>?_
 · obtain⟨rfl,rfl⟩:=hx;exact lnP Tryz.f101 hq Sb
 exact hr20.elim
 have d19:=c5B c19
 have hel:=hel d19.1
 have htx:=hk.k.tx t (List.mem_of_getElem? hel)
 have hp:=d19.1
 rw[if_pos d19.2] at hq
 refine kQ0 [0] ?_
 refine kA4 ?_
 refine xG (F4 A9.und A9.size A9.posz (Ev.tmp rfl) Ev.const Rr rfl (q:=0) (by omega)) ?_
 refine kQ3 [0,3] ?_
 refine kA5 ?_
 refine xG (a0l A9.und A9.size Et Ev.const (l:=1) rfl (by omega)) ?_
 refine kQ3 [3] ?_
 refine kQ2 [2] ?_
 refine WC.ret (toX (.inl rfl) (I2 (h':=lnR b (sl1 a 1 c 4) (ts.length - 1) (c - 1)::h) (.inl rfl) rfl (RV.tmp rfl) (View.le.refl m) Sb ?_))
 exact⟨_,_,_,_,hq,⟨rfl,htx⟩,hk.tail d19.1,by rw[List.length_tail]⟩
theorem T8 {m:View} (hg:Glob m) (b:Nat) (a:Option Addr) (c:Nat) (ts:List Tok) (h hT:List Res) (hk:Tk2 m hT a c ts) (hs:hT.Sublist h):LnX m 109 [ptV b] b a c ts hT h (M2 ts) (OE m):=by
 have hq:=b2b ts
 have hle:=b2n (ts:=ts)
 refine CX.body Tryz.call109 Tryz.func109 rfl Tryz.ntmps109 Lb rfl ?_
 refine j0 ?_
 refine xW fun b2=>?_
 refine kQ0 [0,2] ?_
 refine kA4 ?_
 refine xg (E1 Et) (a9x hg a c ts _ (hk.k.mono (hs.trans Sb)) hk.n) ?_
 rintro _ _ ⟨t11,bl,rfl,⟨hst,hU,hW⟩,rfl⟩
 refine WL.perm (Mv.perm (by (repeat (first | apply Mv.cons | exact Mv.stop)))) ?_
 refine kA4 ?_
 refine xW fun b3=>?_
 refine kQ3 [0,2,3,4,5] ?_
 refine kQ2 [0,2,3,4,16] ?_
 refine wc (fun c16=>?_) fun c16=>?_
 replace c16:=a1p c16
 rw[if_neg c16] at hq
 refine j0 ?_
 refine A1 Ev.func Evs.nil (I4 _ _) Lb (fun v hv hx=>?_) fun v17 h17 hr17=>?_
 · obtain⟨rfl,rfl⟩:=hx;exact lnP Tryz.f109 hq Sb
 exact hr17.elim
 replace c16:=a1y c16
 rw[if_pos c16] at hq
 refine kQ0 [0,2,3,4] ?_
 refine kA6 ?_
 refine xG (a0l A9.und A9.size Et Et rfl (by omega)) ?_
 refine kQ3 [2,3] ?_
 refine kQ2 [2] ?_
 refine WC.ret (toX (.inl rfl) (I2 (h':=lnR b (sl1 a (a04 ts) c 4) (ts.length - a04 ts) (c - a04 ts)::(bl++h)) (.inl rfl) rfl (A4 a1L rfl rfl rfl Me rfl) (View.le.refl m) Sb ?_))
 exact⟨_,ts.drop (a04 ts),_,_,bl,hq,⟨t11,rfl,hst,hU,hW⟩,hk.drop hle,by rw[List.length_drop]⟩
theorem a0r {m:View} (hg:Glob m) (b:Nat) (a:Option Addr) (c:Nat) (ts:List Tok) (h hT:List Res) (hk:Tk2 m hT a c ts) (hs:hT.Sublist h):LnX m 112 [ptV b] b a c ts hT h (L3 ts) (OE m):=by
 have hrd:=(hk.mono hs).k.rd
 obtain⟨t,ht⟩:∃ t,t=ts.getD 0 zeroK:=⟨_,rfl⟩
 have hel:0 < ts.length→ts[0]?=some t:=fun hq=>by rw[ht,List.getD_eq_getElem?_getD,List.getElem?_eq_getElem hq];rfl
 have hq:=a6B ts
 rw[← ht] at hq
 refine CX.body Tryz.call112 Tryz.func112 rfl Tryz.ntmps112 Lb rfl ?_
 refine j0 ?_
 refine xW fun b2=>?_
 refine kQ0 [0,2] ?_
 refine kA8 ?_
 refine zG (fun hc=>PO.nilCheck (Eg hc)) ?_
 refine kA2 ?_
 refine zG (fun hc=>F4 A9.und A9.size A9.posz (Eg hc) Ev.const Rr rfl (q:=0) (a5U hc)) ?_
 refine zG (fun hc=>F5 H9 rfl (Nat.ne_of_beq_eq_false rfl) B7 (Nat.succ_pos _) Rr (hel (a5U hc)) (Eg hc)) ?_
 refine zG (fun hc=>F8 a6N rfl B7 Rr (Eg hc) (hel (a5U hc)) rfl) ?_
 refine kQ2 [0,2,19] ?_
 refine wc (fun c19=>?_) fun c19=>?_
 have d19:=c5f ht c19
 rw[if_neg d19] at hq
 refine j0 ?_
 refine A1 Ev.func Evs.nil (I4 _ _) Lb (fun v hv hx=>?_) fun v20 h20 hr20=>?_
 · obtain⟨rfl,rfl⟩:=hx;exact lnP Tryz.f112 hq Sb
 exact hr20.elim
 have d19:=c5B c19
 rw[if_pos d19.2] at hq
 refine kQ0 [0,2] ?_
 refine kA1 ?_
 refine WL.perm (Del.perm (r:=lnR b a ts.length c) De) ?_
 refine A1 Ev.func (E1 Et) (T8 hg b a c ts _ _ hk (hs.trans Sb)) Lb (fun v hv hx=>?_) fun v22 h22 hr22=>?_
 · obtain⟨e,hx1,rfl,rfl⟩:=hx;rw[hx1] at hq;exact lnP Tryz.f112 hq Sb
 obtain⟨x22,r22,a22,u22,bl22,hM22,⟨t22,rfl,rfl,hO22⟩,hk22,rfl⟩:=hr22
 refine WL.perm ((Mv.perm (by (repeat (first | apply Mv.cons | exact Mv.stop)))).cons _) ?_
 rw[hM22,I1] at hq
 refine xW fun b3=>?_
 refine kQ1 [2,3] ?_
 refine kA1 ?_
 refine xf (E1 Et) (a3T hg t22 (hO22.mono Sb)) ?_
 refine kQ1 [2,3,25] ?_
 refine wc (fun c25=>?_) fun c25=>?_
 have d25:O1 (C1 t22)=false:=by rw[Y8];simpa using c25
 rw[if_neg (H3 d25)] at hq
 refine j0 ?_
 refine A1 Ev.func Evs.nil (I4 _ _) Lb (fun v hv hx=>?_) fun v26 h26 hr26=>?_
 · obtain⟨rfl,rfl⟩:=hx;exact lnP Tryz.f112 hq Sb
 exact hr26.elim
 have d25:O1 (C1 t22)=true:=by rw[Y8];simpa using c25
 rw[if_pos d25] at hq
 refine kQ0 [2,3] ?_
 refine kQ2 [2] ?_
 refine WC.ret (toX (.inl rfl) (I2 (h':=lnR b a22 r22.length u22::(bl22++h)) (.inl rfl) rfl (A4 a1L rfl rfl rfl Me rfl) (View.le.refl m) Sb ?_))
 exact⟨_,_,_,_,bl22,hq,⟨t22,rfl,rfl,hO22⟩,hk22,rfl⟩
theorem b0z {m:View} (hg:Glob m) (b:Nat) (a:Option Addr) (c:Nat) (ts:List Tok) (h hT:List Res) (hk:Tk2 m hT a c ts) (hs:hT.Sublist h):LnY m 107 [ptV b] b a c ts hT h (a8m ts) WT:=by
 have hq:a8m ts=if (Go.Ty.front ts).2.2=0 then .ok ((Go.Ty.front ts).1,ts.drop (Go.Ty.front ts).2.1) else .error 110:=rfl
 have hle:=c4q ts
 refine CX.body Tryz.call107 Tryz.func107 rfl Tryz.ntmps107 Lb rfl ?_
 refine j0 ?_
 refine xW fun b2=>?_
 refine kQ0 [0,2] ?_
 refine kA4 ?_
 refine xf (E1 Et) (Ty9.front_ct a _ c ts _ _ hg (hk.k.mono (hs.trans Sb)).rd hk.ok) ?_
 refine kA4 ?_
 refine xW fun b3=>?_
 refine kQ3 [0,2,3,4,5] ?_
 refine kQ2 [0,2,3,4,16] ?_
 refine wc (fun c16=>?_) fun c16=>?_
 replace c16:=a1p c16
 rw[if_neg c16] at hq
 refine j0 ?_
 refine A1 Ev.func Evs.nil (I4 _ _) Lb (fun v hv hx=>?_) fun v17 h17 hr17=>?_
 · obtain⟨rfl,rfl⟩:=hx;exact lnP Tryz.f107 hq Sb
 exact hr17.elim
 replace c16:=a1y c16
 rw[if_pos c16] at hq
 refine kQ0 [0,2,3,4] ?_
 refine kA6 ?_
 refine xG (a0l A9.und A9.size Et Et rfl (by omega)) ?_
 refine kQ3 [2,3] ?_
 refine kQ2 [2] ?_
 refine WC.ret (toX (.inl rfl) (I2 (h':=lnR b (sl1 a (Go.Ty.front ts).2.1 c 4) (ts.length - (Go.Ty.front ts).2.1) (c - (Go.Ty.front ts).2.1)::h) (.inl rfl) rfl (A4 b0d rfl rfl rfl Me rfl) (View.le.refl m) Sb ?_))
 exact⟨_,_,_,_,hq,⟨rfl,c5x ts⟩,hk.drop hle,by rw[List.length_drop]⟩
theorem b5u {m:View} (hg:Glob m) (b:Nat) (a:Option Addr) (c:Nat) (ts:List Tok) (h hT:List Res) (hk:Tk2 m hT a c ts) (hs:hT.Sublist h):LnY m 165 [ptV b] b a c ts hT h (a5K ts) WI:=by
 have hq:a5K ts=O9 (a8m ts) fun t r=>if a1M t then .ok (t.kind,r) else .error 110:=rfl
 refine CX.body Tryz.call165 Tryz.func165 rfl Tryz.ntmps165 Lb rfl ?_
 refine kQ1 [0] ?_
 refine kA1 ?_
 refine WL.perm (Del.perm (r:=lnR b a ts.length c) De) ?_
 refine A1 Ev.func (E1 Et) (b0z hg b a c ts _ _ hk (hs.trans Sb)) Lb (fun v hv hx=>?_) fun v5 h5 hr5=>?_
 · obtain⟨e,hx1,rfl,rfl⟩:=hx;rw[hx1] at hq;exact lnP Tryz.f165 hq Sb
 obtain⟨x5,r5,a5,u5,hM5,⟨rfl,hw5⟩,hk5,rfl⟩:=hr5
 rw[hM5,I1] at hq
 refine xW fun b3=>?_
 refine kQ1 [3] ?_
 refine kA1 ?_
 refine xf (E1 Et) (a5p x5 _ _ hg (Nat.le_trans hw5.p (by decide))) ?_
 refine kQ1 [3,8] ?_
 refine wc (fun c8=>?_) fun c8=>?_
 have d8:a1M x5=false:=by simpa using c8
 rw[if_neg (H3 d8)] at hq
 refine j0 ?_
 refine A1 Ev.func Evs.nil (I4 _ _) Lb (fun v hv hx=>?_) fun v9 h9 hr9=>?_
 · obtain⟨rfl,rfl⟩:=hx;exact lnP Tryz.f165 hq Sb
 exact hr9.elim
 have d8:a1M x5=true:=by simpa using c8
 rw[if_pos d8] at hq
 refine kQ0 [3] ?_
 refine kQ3 [2] ?_
 refine WC.ret (toX (.inl rfl) (I2 (h':=lnR b a5 r5.length u5::h) (.inl rfl) rfl (RV.tmp rfl) (View.le.refl m) Sb ?_))
 exact⟨_,_,_,_,hq,⟨rfl,hw5.k⟩,hk5,rfl⟩
theorem b6R {m:View} (hg:Glob m) (b:Nat) (a:Option Addr) (c:Nat) (ts:List Tok) (h hT:List Res) (hk:Tk2 m hT a c ts) (hs:hT.Sublist h):LnY m 104 [ptV b] b a c ts hT h (a4u ts) WF:=by
 have hq:a4u ts=O9 (a8m (if isM 2 [86,65,76] ts then ts.tail else ts)) fun t r=>O9 (V9 r) fun n r=>if foP ⟨isM 2 [86,65,76] ts,t,n⟩ then .ok (⟨isM 2 [86,65,76] ts,t,n⟩,r) else .error 110:=rfl
 refine CX.body Tryz.call104 Tryz.func104 rfl Tryz.ntmps104 Lb rfl ?_
 refine j0 ?_
 refine xW fun b2=>?_
 refine kQ0 [0,2] ?_
 refine kA1 ?_
 refine xf (E1 Ev.const) (K2 _ _ _) ?_
 refine WL.perm (Del.perm (r:=lnR b a ts.length c) De) ?_
 refine xg (E2 Et Et) (K5 b a c ts _ _ _ hk (hs.trans Sb)) ?_
 rintro _ _ ⟨a6,u6,r6,rfl,he6,hk6,rfl⟩
 rw[← he6] at hq
 refine kA1 ?_
 refine xW fun b3=>?_
 refine kQ1 [0,2,3] ?_
 refine kA1 ?_
 refine WL.perm (Del.perm (r:=lnR b a6 r6.length u6) De) ?_
 refine A1 Ev.func (E1 Et) (b0z hg b a6 u6 r6 _ _ hk6 (hs.trans Sb)) Lb (fun v hv hx=>?_) fun v9 h9 hr9=>?_
 · obtain⟨e,hx1,rfl,rfl⟩:=hx;rw[hx1] at hq;exact lnP Tryz.f104 hq Sb
 obtain⟨x9,r9,a9,u9,hM9,⟨rfl,hw9⟩,hk9,rfl⟩:=hr9
 rw[hM9,I1] at hq
 refine kQ2 [0,2,3] ?_
 refine kA1 ?_
 refine WL.perm (Del.perm (r:=lnR b a9 r9.length u9) De) ?_
 refine A1 Ev.func (E1 Et) (a0Z b a9 u9 r9 _ _ hk9 (hs.trans Sb)) Lb (fun v hv hx=>?_) fun v12 h12 hr12=>?_
 · obtain⟨e,hx1,rfl,rfl⟩:=hx;rw[hx1] at hq;exact lnP Tryz.f104 hq Sb
 obtain⟨x12,r12,a12,u12,hM12,⟨rfl,hw12⟩,hk12,rfl⟩:=hr12
 rw[hM12,I1] at hq
 refine kQ2 [2,3] ?_
 refine kA1 ?_
 refine xf (E1 Et) (c06 hg ⟨isM 2 [86,65,76] ts,x9,x12⟩ ⟨hw9,hw12⟩) ?_
 refine kQ1 [2,3,16] ?_
 refine wc (fun c16=>?_) fun c16=>?_
 have d16:foP ⟨isM 2 [86,65,76] ts,x9,x12⟩=false:=by simpa using c16
 rw[if_neg (H3 d16)] at hq
 refine j0 ?_
 refine A1 Ev.func Evs.nil (I4 _ _) Lb (fun v hv hx=>?_) fun v17 h17 hr17=>?_
 · obtain⟨rfl,rfl⟩:=hx;exact lnP Tryz.f104 hq Sb
 exact hr17.elim
 have d16:foP ⟨isM 2 [86,65,76] ts,x9,x12⟩=true:=by simpa using c16
 rw[if_pos d16] at hq
 refine kQ0 [2,3] ?_
 refine kQ2 [2] ?_
 refine WC.ret (toX (.inl rfl) (I2 (h':=lnR b a12 r12.length u12::h) (.inl rfl) rfl (A4 c0T rfl rfl rfl Me rfl) (View.le.refl m) Sb ?_))
 exact⟨_,_,_,_,hq,⟨rfl,hw9,hw12⟩,hk12,rfl⟩
theorem b8R {m:View} (hg:Glob m) (b:Nat) (a:Option Addr) (c:Nat) (ts:List Tok) (h hT:List Res) (hk:Tk2 m hT a c ts) (hs:hT.Sublist h):LnX m 222 [ptV b] b a c ts hT h (b3x ts) (OR m):=by
 have hq:b3x ts=if ts.isEmpty then .ok (D5,ts) else O9 (V9 ts) fun n r=>Z4 5 [61] r fun r=>O9 (M2 r) fun b r=>Z4 2 [70,79,82] r fun r=>O9 (M2 r) fun c r=>.ok (⟨n,b,c⟩,r):=rfl
 refine CX.body Tryz.call222 Tryz.func222 rfl Tryz.ntmps222 Lb rfl ?_
 refine j0 ?_
 refine xW fun b2=>?_
 refine kQ0 [0,2] ?_
 refine kQ6 [0,2,9] ?_
 refine wc (fun c9=>?_) fun c9=>?_
 replace c9:=G4 c9
 have d9:ts.isEmpty=true:=by rw[List.isEmpty_iff];exact List.eq_nil_of_length_eq_zero (by omega)
 rw[if_pos d9] at hq
 refine kQ2 [2] ?_
 refine WC.ret (toX (.inl rfl) (I2 (h':=lnR b a ts.length c::h) (.inl rfl) rfl (A4 c3K rfl rfl rfl Me rfl) (View.le.refl m) Sb ?_))
 exact⟨_,_,_,_,[],hq,⟨⟨[],A3,A3⟩,rfl,rfl,Nat.zero_le _,F1 _ _,F1 _ _⟩,hk,rfl⟩
 replace c9:=G3 c9
 have d9:ts.isEmpty=false:=by cases ts with | nil=>exact absurd rfl c9 | cons=>rfl
 rw[if_neg (H3 d9)] at hq
 refine kQ0 [0,2] ?_
 refine kA1 ?_
 refine WL.perm (Del.perm (r:=lnR b a ts.length c) De) ?_
 refine A1 Ev.func (E1 Et) (a0Z b a c ts _ _ hk (hs.trans Sb)) Lb (fun v hv hx=>?_) fun v12 h12 hr12=>?_
 · obtain⟨e,hx1,rfl,rfl⟩:=hx;rw[hx1] at hq;exact lnP Tryz.f222 hq Sb
 obtain⟨x12,r12,a12,u12,hM12,⟨rfl,hw12⟩,hk12,rfl⟩:=hr12
 rw[hM12,I1] at hq
 refine kA1 ?_
 refine xW fun b3=>?_
 refine kQ1 [0,2,3] ?_
 refine kA1 ?_
 refine xf (E1 Ev.const) (H0 _ _ _) ?_
 refine xY A9 (EvP.cons Et EvP.nil) fun b16=>?_
 refine WL.perm (Del.perm (r:=lnR b a12 r12.length u12) De) ?_
 refine A1 Ev.func (E2 Et Et) (N7 b a12 u12 r12 _ _ _ _ _ hk12 (hs.trans Sb) (Rd.ofPt rfl (by decide) Me)) Lb (fun v hv hx=>?_) fun v17 h17 hr17=>?_
 · obtain⟨hx1,rfl,rfl⟩:=hx;exact lnP Tryz.f222 (hq.trans (a3D hx1)) Sb
 obtain⟨hi17,a17,u17,hk17,rfl⟩:=hr17
 rw[a3m hi17] at hq
 refine kQ0 [0,2,3] ?_
 refine kA1 ?_
 refine WL.perm (Del.perm (r:=lnR b a17 r12.tail.length u17) De) ?_
 refine A1 Ev.func (E1 Et) (T8 hg b a17 u17 r12.tail _ _ hk17 (hs.trans Sb)) Lb (fun v hv hx=>?_) fun v19 h19 hr19=>?_
 · obtain⟨e,hx1,rfl,rfl⟩:=hx;rw[hx1] at hq;exact lnP Tryz.f222 hq Sb
 obtain⟨x19,r19,a19,u19,bl19,hM19,⟨t19,rfl,rfl,hO19⟩,hk19,rfl⟩:=hr19
 refine WL.perm ((Mv.perm (by (repeat (first | apply Mv.cons | exact Mv.stop)))).cons _) ?_
 rw[hM19,I1] at hq
 refine kQ2 [0,2,3] ?_
 refine kA1 ?_
 refine xf (E1 Ev.const) (K2 _ _ _) ?_
 refine xY A9 (EvP.cons Et EvP.nil) fun b23=>?_
 refine WL.perm (Del.perm (r:=lnR b a19 r19.length u19) De) ?_
 refine A1 Ev.func (E2 Et Et) (N7 b a19 u19 r19 _ _ _ _ _ hk19 (hs.trans Sb) (Rd.ofPt rfl (by decide) Me)) Lb (fun v hv hx=>?_) fun v24 h24 hr24=>?_
 · obtain⟨hx1,rfl,rfl⟩:=hx;exact lnP Tryz.f222 (hq.trans (a3D hx1)) Sb
 obtain⟨hi24,a24,u24,hk24,rfl⟩:=hr24
 rw[a3m hi24] at hq
 refine kQ0 [0,2,3] ?_
 refine kA1 ?_
 refine WL.perm (Del.perm (r:=lnR b a24 r19.tail.length u24) De) ?_
 refine A1 Ev.func (E1 Et) (T8 hg b a24 u24 r19.tail _ _ hk24 (hs.trans Sb)) Lb (fun v hv hx=>?_) fun v26 h26 hr26=>?_
 · obtain⟨e,hx1,rfl,rfl⟩:=hx;rw[hx1] at hq;exact lnP Tryz.f222 hq Sb
 obtain⟨x26,r26,a26,u26,bl26,hM26,⟨t26,rfl,rfl,hO26⟩,hk26,rfl⟩:=hr26
 refine WL.perm ((Mv.perm (by (repeat (first | apply Mv.cons | exact Mv.stop)))).cons _) ?_
 rw[hM26,I1] at hq
 refine kQ2 [2,3] ?_
 refine kQ2 [2] ?_
 refine WC.ret (toX (.inl rfl) (I2 (h':=lnR b a26 r26.length u26::(bl26++(bl19++h))) (.inl rfl) rfl (A4 c3K rfl rfl rfl Me rfl) (View.le.refl m) Sb ?_))
 exact⟨_,_,_,_,bl26++bl19,hq,⟨⟨x12,t19,t26⟩,rfl,rfl,hw12,hO19.mono (List.sublist_append_right _ _),hO26.mono (List.sublist_append_left _ _)⟩,hk26,by rw[List.append_assoc]⟩
end Go.Proofs.YtkemgjnejlkkcaaGreatDoor
end
section
namespace Go.Proofs.YtkemgjnejlkkcaaGreatDoor
set_option maxRecDepth 100000
set_option maxHeartbeats 2000000
open Go.Eng Go.Pc Go.Sx Go
open Go.Xp hiding B D9
open Go.Ty (Ty Vr Tok eqT tyV J2 B4 B7 S1 zeroK M5 D6)
open Go.Lx (encB D1)
abbrev OL (m:View) (l:List Ex) (v:Value) (bl:List Res):Prop:=∃ s:Sli Ex,v=.slice s.a s.l.length s.c∧s.l.map C1=l∧LOk m bl s
abbrev OLs {α:Type} (m:View) (enc:α→List Value) (sz:Nat) (W:α→Prop) (l:List α) (v:Value) (bl:List Res):Prop:=∃ a c,v=.slice a l.length c∧Rd m bl a l.length c sz (fl enc l)∧∀ x ∈ l,W x
abbrev WB (s:B):Prop:=s.length≤Big
abbrev WK (k:Int):Prop:=0≤k∧k≤255
theorem a5n {α:Type} {take:List Tok→E α} {sep:B} {n:Nat} {acc:List α} {ts:List Tok} (h:isM 5 sep ts=false):a2r take sep n acc ts=.ok (acc,ts):=by
 cases n <;> (unfold a2r;rw[if_neg (H3 h)])
theorem a3X {α:Type} {take:List Tok→E α} {sep:B} {acc:List α} {ts:List Tok} (h:isM 5 sep ts=true):a2r take sep 0 acc ts=.error 110:=by unfold a2r;rw[if_pos h]
theorem a3Y {α:Type} {take:List Tok→E α} {sep:B} {n:Nat} {acc:List α} {ts:List Tok} (h:isM 5 sep ts=true):a2r take sep (n+1) acc ts=O9 (take ts.tail) fun x r=>a2r take sep n (acc++[x]) r:=by
 conv=>lhs;unfold a2r
 rw[if_pos h]
theorem W7 {α:Type} {p:α→Prop} {l:List α} {x:α} (h:∀ y ∈ l,p y) (hx:p x):∀ y ∈ l++[x],p y:=fun y hy=>by
 rcases List.mem_append.1 hy with h1 | h1
 · exact h y h1
 · rw[List.mem_singleton] at h1;exact h1 ▸ hx
theorem a0D {m:View} (q:FuncId) (take:List Tok→E Ex) (sep:B) (most:Nat) (b:Nat) (a:Option Addr) (c:Nat) (ts:List Tok) (h hT:List Res) (hk:Tk2 m hT a c ts) (hs:hT.Sublist h) (h1:1≤most∧most≤100)
   (ht:∀ (a:Option Addr) (c:Nat) (ts:List Tok) (h:List Res),Tk2 m hT a c ts→hT.Sublist h→LnX m q [ptV b] b a c ts hT h (take ts) (OE m)) :
   LnX m 124 [ptV b,str sep,.int .i64 most,.func (.func q) #[ptV b] #[]] b a c ts hT h (P9 take sep most ts) (OL m):=by
 have hq:P9 take sep most ts=O9 (take ts) fun x r=>a2r take sep (most - 1) [x] r:=rfl
 refine CX.body Tryz.call124 Tryz.func124 rfl Tryz.ntmps124 Lb rfl ?_
 refine kQ1 [0,1,2,3] ?_
 refine kA1 ?_
 refine WL.perm (Del.perm (r:=lnR b a ts.length c) De) ?_
 refine A1 (Ev.tmp rfl) Evs.nil (ht a c ts _ hk (hs.trans Sb)) Lb (fun v hv hx=>?_) fun v11 h11 hr11=>?_
 · obtain⟨e,hx1,rfl,rfl⟩:=hx;rw[hx1] at hq;exact lnP Tryz.f124 hq Sb
 obtain⟨x11,r11,a11,u11,bl11,hM11,⟨t11,rfl,rfl,hO11⟩,hk11,rfl⟩:=hr11
 refine WL.perm ((Mv.perm (by (repeat (first | apply Mv.cons | exact Mv.stop)))).cons _) ?_
 rw[hM11,I1] at hq
 refine xY a0e (EvP.cons Et EvP.nil) fun b12=>?_
 refine kA1 ?_
 refine a3x (k:=1) (sz:=6) (cs:=exE t11) rfl (by decide) Up ?_
 refine WL.perm (List.Perm.swap _ _ _) ?_
 refine kQ0 [0,1,2,3,9] ?_
 refine B1 [0,1,2,3] rfl (fun μ F' h'=>∃ a9:Option Addr,∃ c9:Nat,∃ l:List Ex,∃ bl:List Res,∃ x:Option Addr,∃ y:Nat,∃ r:List Tok,((1≤l.length∧l.length≤most)∧Tk2 m hT x y r∧(∀ z ∈ l,EOk m bl z)∧P9 take sep most ts=a2r take sep (most - l.length) (l.map C1) r)∧most - l.length=μ∧F'=[(9,.slice a9 l.length c9)]∧lnR b x r.length y::.row (.slice a9 l.length c9) 35 6 l.length (fl exE l)::(bl++h)=h') (most - ([t11]).length) [(9,.slice (some ⟨b12,0,none⟩) ([t11]).length 1)] (h0:=lnR b a11 r11.length u11::.row (.slice (some ⟨b12,0,none⟩) ([t11]).length 1) 35 6 ([t11]).length (fl exE ([t11]))::(bl11++h)) ?_ Sb ⟨some ⟨b12,0,none⟩,1,[t11],bl11,a11,u11,r11,⟨⟨Nat.le_refl _,h1.1⟩,hk11,fun z hz=>by rw[List.mem_singleton] at hz;subst hz;exact hO11,hq⟩,rfl,rfl,rfl⟩ ?_
 exact Su
 rintro _ _ _ ⟨a9,c9,l,bl,x,y,r,⟨⟨hl1,hl2⟩,hk1,hW,hJ⟩,rfl,rfl,rfl⟩
 refine B3 rfl ?_
 refine kA2 ?_
 refine xf (E1 Et) (H0 _ _ _) ?_
 refine WL.perm (Del.perm (r:=lnR b x r.length y) De) ?_
 refine xg (E2 Et Et) (K5 b x y r _ _ _ hk1 (hs.trans Sb)) ?_
 rintro _ _ ⟨a16,u16,r16,rfl,he16,hk16,rfl⟩
 refine kQ0 [0,1,2,3,9,16] ?_
 refine wc (fun c16=>?_) fun c16=>?_
 replace he16:=he16.trans (if_pos c16)
 subst r16
 refine kQ0 [0,1,2,3,9] ?_
 refine kQ4 [0,1,2,3,9,20] ?_
 refine wc (fun c20=>?_) fun c20=>?_
 replace c20:=G4 c20
 have e20:most - l.length=0:=by omega
 have hq:P9 take sep most ts=.error 110:=by rw[hJ,e20];exact a3X c16
 refine j0 ?_
 refine A1 Ev.func Evs.nil (I4 _ _) Lb (fun v hv hx=>?_) fun v21 h21 hr21=>?_
 · obtain⟨rfl,rfl⟩:=hx;exact lnP Tryz.f124 hq Sb
 exact hr21.elim
 replace c20:=G3 c20
 obtain⟨n,hn⟩:∃ n,most - l.length=n+1:=⟨most - l.length - 1,by omega⟩
 rw[hn] at hJ
 have hq:=hJ.trans (a3Y c16)
 refine kQ0 [0,1,2,3,9] ?_
 refine kA2 ?_
 refine WL.perm (Del.perm (r:=lnR b a16 r.tail.length u16) De) ?_
 refine A1 (Ev.tmp rfl) Evs.nil (ht a16 u16 r.tail _ hk16 (hs.trans Sb)) Lb (fun v hv hx=>?_) fun v24 h24 hr24=>?_
 · obtain⟨e,hx1,rfl,rfl⟩:=hx;rw[hx1] at hq;exact lnP Tryz.f124 hq Sb
 obtain⟨x24,r24,a24,u24,bl24,hM24,⟨t24,rfl,rfl,hO24⟩,hk24,rfl⟩:=hr24
 refine WL.perm ((Mv.perm (by (repeat (first | apply Mv.cons | exact Mv.stop)))).cons _) ?_
 rw[hM24,I1] at hq
 have hln:(l++[t24]).length=l.length+1:=List.length_append
 have hn2:most - (l++[t24]).length=n:=by omega
 refine xY a0e (EvP.cons Et EvP.nil) fun b25=>?_
 refine xD a0e (Ev.tmp rfl) (Ev.tmp rfl) (show l.length+1=(l++[t24]).length by simp) (F7 (enc:=exE) _ (t24)) fun a26 c26=>?_
 refine kA1 ?_
 rw[← List.append_assoc bl24 bl h]
 refine WL.nil (A6 (most - (l++[t24]).length) [(9,.slice a26 (l++[t24]).length c26)] (h'':=lnR b a24 r24.length u24::.row (.slice a26 (l++[t24]).length c26) 35 6 (l++[t24]).length (fl exE (l++[t24]))::((bl24++bl)++h)) (by omega) ?_ Su Sb ⟨a26,c26,l++[t24],bl24++bl,a24,u24,r24,⟨⟨by omega,by omega⟩,hk24,W7 (fun z hz=>(hW z hz).mono (List.sublist_append_right _ _)) (hO24.mono (List.sublist_append_left _ _)),by rw[hn2,List.map_append];exact hq⟩,rfl,rfl,rfl⟩)
 exact Su
 replace he16:=he16.trans (if_neg (H3 c16))
 subst r16
 rw[a5n c16] at hJ
 refine P7 (a:=a9) Me fun p9 q9 r9=>?_
 refine kQ0 [9] ?_
 refine kQ2 [8] ?_
 refine WC.ret (toX (.inl rfl) (I2 (h':=lnR b a16 r.length u16::.row (.slice a9 l.length c9) 35 6 l.length (fl exE l)::(bl++h)) (.inl rfl) rfl (RV.tmp rfl) (View.le.refl m) Sb ?_))
 exact⟨_,r,_,_,.row (.slice a9 l.length c9) 35 6 l.length (fl exE l)::bl,hJ,⟨⟨a9,c9,l⟩,rfl,rfl,Rd.inRow (List.Mem.head _) r9 p9 q9,fun z hz=>(hW z hz).mono (List.sublist_cons_self _ _)⟩,hk16,rfl⟩
theorem b9z {m:View} (q:FuncId) (take:List Tok→E B) (sep:B) (most:Nat) (b:Nat) (a:Option Addr) (c:Nat) (ts:List Tok) (h hT:List Res) (hk:Tk2 m hT a c ts) (hs:hT.Sublist h) (h1:1≤most∧most≤100)
   (ht:∀ (a:Option Addr) (c:Nat) (ts:List Tok) (h:List Res),Tk2 m hT a c ts→hT.Sublist h→LnY m q [ptV b] b a c ts hT h (take ts) WN) :
   LnX m 111 [ptV b,str sep,.int .i64 most,.func (.func q) #[ptV b] #[]] b a c ts hT h (P9 take sep most ts) (OLs m encB 1 WB):=by
 have hq:P9 take sep most ts=O9 (take ts) fun x r=>a2r take sep (most - 1) [x] r:=rfl
 refine CX.body Tryz.call111 Tryz.func111 rfl Tryz.ntmps111 Lb rfl ?_
 refine kQ1 [0,1,2,3] ?_
 refine kA1 ?_
 refine WL.perm (Del.perm (r:=lnR b a ts.length c) De) ?_
 refine A1 (Ev.tmp rfl) Evs.nil (ht a c ts _ hk (hs.trans Sb)) Lb (fun v hv hx=>?_) fun v11 h11 hr11=>?_
 · obtain⟨e,hx1,rfl,rfl⟩:=hx;rw[hx1] at hq;exact lnP Tryz.f111 hq Sb
 obtain⟨x11,r11,a11,u11,hM11,⟨rfl,hw11⟩,hk11,rfl⟩:=hr11
 rw[hM11,I1] at hq
 refine xY N3 (EvP.cons Et EvP.nil) fun b12=>?_
 refine kA1 ?_
 refine a3x (k:=1) (sz:=1) (cs:=encB x11) rfl (by decide) Up ?_
 refine WL.perm (List.Perm.swap _ _ _) ?_
 refine kQ0 [0,1,2,3,9] ?_
 refine B1 [0,1,2,3] rfl (fun μ F' h'=>∃ a9:Option Addr,∃ c9:Nat,∃ l:List B,∃ x:Option Addr,∃ y:Nat,∃ r:List Tok,((1≤l.length∧l.length≤most)∧Tk2 m hT x y r∧(∀ z ∈ l,WB z)∧P9 take sep most ts=a2r take sep (most - l.length) l r)∧most - l.length=μ∧F'=[(9,.slice a9 l.length c9)]∧lnR b x r.length y::.row (.slice a9 l.length c9) 9 1 l.length (fl encB l)::h=h') (most - ([x11]).length) [(9,.slice (some ⟨b12,0,none⟩) ([x11]).length 1)] (h0:=lnR b a11 r11.length u11::.row (.slice (some ⟨b12,0,none⟩) ([x11]).length 1) 9 1 ([x11]).length (fl encB ([x11]))::h) ?_ Sb ⟨some ⟨b12,0,none⟩,1,[x11],a11,u11,r11,⟨⟨Nat.le_refl _,h1.1⟩,hk11,fun z hz=>by rw[List.mem_singleton] at hz;subst hz;exact hw11,hq⟩,rfl,rfl,rfl⟩ ?_
 exact Su
 rintro _ _ _ ⟨a9,c9,l,x,y,r,⟨⟨hl1,hl2⟩,hk1,hW,hJ⟩,rfl,rfl,rfl⟩
 refine B3 rfl ?_
 refine kA2 ?_
 refine xf (E1 Et) (H0 _ _ _) ?_
 refine WL.perm (Del.perm (r:=lnR b x r.length y) De) ?_
 refine xg (E2 Et Et) (K5 b x y r _ _ _ hk1 (hs.trans Sb)) ?_
 rintro _ _ ⟨a16,u16,r16,rfl,he16,hk16,rfl⟩
 refine kQ0 [0,1,2,3,9,16] ?_
 refine wc (fun c16=>?_) fun c16=>?_
 replace he16:=he16.trans (if_pos c16)
 subst r16
 refine kQ0 [0,1,2,3,9] ?_
 refine kQ4 [0,1,2,3,9,20] ?_
 refine wc (fun c20=>?_) fun c20=>?_
 replace c20:=G4 c20
 have e20:most - l.length=0:=by omega
 have hq:P9 take sep most ts=.error 110:=by rw[hJ,e20];exact a3X c16
 refine j0 ?_
 refine A1 Ev.func Evs.nil (I4 _ _) Lb (fun v hv hx=>?_) fun v21 h21 hr21=>?_
 · obtain⟨rfl,rfl⟩:=hx;exact lnP Tryz.f111 hq Sb
 exact hr21.elim
 replace c20:=G3 c20
 obtain⟨n,hn⟩:∃ n,most - l.length=n+1:=⟨most - l.length - 1,by omega⟩
 rw[hn] at hJ
 have hq:=hJ.trans (a3Y c16)
 refine kQ0 [0,1,2,3,9] ?_
 refine kA2 ?_
 refine WL.perm (Del.perm (r:=lnR b a16 r.tail.length u16) De) ?_
 refine A1 (Ev.tmp rfl) Evs.nil (ht a16 u16 r.tail _ hk16 (hs.trans Sb)) Lb (fun v hv hx=>?_) fun v24 h24 hr24=>?_
 · obtain⟨e,hx1,rfl,rfl⟩:=hx;rw[hx1] at hq;exact lnP Tryz.f111 hq Sb
 obtain⟨x24,r24,a24,u24,hM24,⟨rfl,hw24⟩,hk24,rfl⟩:=hr24
 rw[hM24,I1] at hq
 have hln:(l++[x24]).length=l.length+1:=List.length_append
 have hn2:most - (l++[x24]).length=n:=by omega
 refine xY N3 (EvP.cons Et EvP.nil) fun b25=>?_
 refine xD N3 (Ev.tmp rfl) (Ev.tmp rfl) (show l.length+1=(l++[x24]).length by simp) (F7 (enc:=encB) _ (x24)) fun a26 c26=>?_
 refine kA1 ?_
 refine WL.nil (A6 (most - (l++[x24]).length) [(9,.slice a26 (l++[x24]).length c26)] (h'':=lnR b a24 r24.length u24::.row (.slice a26 (l++[x24]).length c26) 9 1 (l++[x24]).length (fl encB (l++[x24]))::h) (by omega) ?_ Su Sb ⟨a26,c26,l++[x24],a24,u24,r24,⟨⟨by omega,by omega⟩,hk24,W7 hW hw24,by rw[hn2];exact hq⟩,rfl,rfl,rfl⟩)
 exact Su
 replace he16:=he16.trans (if_neg (H3 c16))
 subst r16
 rw[a5n c16] at hJ
 refine P7 (a:=a9) Me fun p9 q9 r9=>?_
 refine kQ0 [9] ?_
 refine kQ2 [8] ?_
 refine WC.ret (toX (.inl rfl) (I2 (h':=lnR b a16 r.length u16::.row (.slice a9 l.length c9) 9 1 l.length (fl encB l)::h) (.inl rfl) rfl (RV.tmp rfl) (View.le.refl m) Sb ?_))
 exact⟨_,r,_,_,[.row (.slice a9 l.length c9) 9 1 l.length (fl encB l)],hJ,⟨a9,c9,rfl,Rd.inRow (List.Mem.head _) r9 p9 q9,hW⟩,hk16,rfl⟩
theorem b1t {m:View} (q:FuncId) (take:List Tok→E Int) (sep:B) (most:Nat) (b:Nat) (a:Option Addr) (c:Nat) (ts:List Tok) (h hT:List Res) (hk:Tk2 m hT a c ts) (hs:hT.Sublist h) (h1:1≤most∧most≤100)
   (ht:∀ (a:Option Addr) (c:Nat) (ts:List Tok) (h:List Res),Tk2 m hT a c ts→hT.Sublist h→LnY m q [ptV b] b a c ts hT h (take ts) WI) :
   LnX m 164 [ptV b,str sep,.int .i64 most,.func (.func q) #[ptV b] #[]] b a c ts hT h (P9 take sep most ts) (OLs m M5 1 WK):=by
 have hq:P9 take sep most ts=O9 (take ts) fun x r=>a2r take sep (most - 1) [x] r:=rfl
 refine CX.body Tryz.call164 Tryz.func164 rfl Tryz.ntmps164 Lb rfl ?_
 refine kQ1 [0,1,2,3] ?_
 refine kA1 ?_
 refine WL.perm (Del.perm (r:=lnR b a ts.length c) De) ?_
 refine A1 (Ev.tmp rfl) Evs.nil (ht a c ts _ hk (hs.trans Sb)) Lb (fun v hv hx=>?_) fun v11 h11 hr11=>?_
 · obtain⟨e,hx1,rfl,rfl⟩:=hx;rw[hx1] at hq;exact lnP Tryz.f164 hq Sb
 obtain⟨x11,r11,a11,u11,hM11,⟨rfl,hw11⟩,hk11,rfl⟩:=hr11
 rw[hM11,I1] at hq
 refine xY b4E (EvP.cons Et EvP.nil) fun b12=>?_
 refine kA1 ?_
 refine a3x (k:=1) (sz:=1) (cs:=M5 x11) rfl (by decide) Up ?_
 refine WL.perm (List.Perm.swap _ _ _) ?_
 refine kQ0 [0,1,2,3,9] ?_
 refine B1 [0,1,2,3] rfl (fun μ F' h'=>∃ a9:Option Addr,∃ c9:Nat,∃ l:List Int,∃ x:Option Addr,∃ y:Nat,∃ r:List Tok,((1≤l.length∧l.length≤most)∧Tk2 m hT x y r∧(∀ z ∈ l,WK z)∧P9 take sep most ts=a2r take sep (most - l.length) l r)∧most - l.length=μ∧F'=[(9,.slice a9 l.length c9)]∧lnR b x r.length y::.row (.slice a9 l.length c9) 32 1 l.length (fl M5 l)::h=h') (most - ([x11]).length) [(9,.slice (some ⟨b12,0,none⟩) ([x11]).length 1)] (h0:=lnR b a11 r11.length u11::.row (.slice (some ⟨b12,0,none⟩) ([x11]).length 1) 32 1 ([x11]).length (fl M5 ([x11]))::h) ?_ Sb ⟨some ⟨b12,0,none⟩,1,[x11],a11,u11,r11,⟨⟨Nat.le_refl _,h1.1⟩,hk11,fun z hz=>by rw[List.mem_singleton] at hz;subst hz;exact hw11,hq⟩,rfl,rfl,rfl⟩ ?_
 exact Su
 rintro _ _ _ ⟨a9,c9,l,x,y,r,⟨⟨hl1,hl2⟩,hk1,hW,hJ⟩,rfl,rfl,rfl⟩
 refine B3 rfl ?_
 refine kA2 ?_
 refine xf (E1 Et) (H0 _ _ _) ?_
 refine WL.perm (Del.perm (r:=lnR b x r.length y) De) ?_
 refine xg (E2 Et Et) (K5 b x y r _ _ _ hk1 (hs.trans Sb)) ?_
 rintro _ _ ⟨a16,u16,r16,rfl,he16,hk16,rfl⟩
 refine kQ0 [0,1,2,3,9,16] ?_
 refine wc (fun c16=>?_) fun c16=>?_
 replace he16:=he16.trans (if_pos c16)
 subst r16
 refine kQ0 [0,1,2,3,9] ?_
 refine kQ4 [0,1,2,3,9,20] ?_
 refine wc (fun c20=>?_) fun c20=>?_
 replace c20:=G4 c20
 have e20:most - l.length=0:=by omega
 have hq:P9 take sep most ts=.error 110:=by rw[hJ,e20];exact a3X c16
 refine j0 ?_
 refine A1 Ev.func Evs.nil (I4 _ _) Lb (fun v hv hx=>?_) fun v21 h21 hr21=>?_
 · obtain⟨rfl,rfl⟩:=hx;exact lnP Tryz.f164 hq Sb
 exact hr21.elim
 replace c20:=G3 c20
 obtain⟨n,hn⟩:∃ n,most - l.length=n+1:=⟨most - l.length - 1,by omega⟩
 rw[hn] at hJ
 have hq:=hJ.trans (a3Y c16)
 refine kQ0 [0,1,2,3,9] ?_
 refine kA2 ?_
 refine WL.perm (Del.perm (r:=lnR b a16 r.tail.length u16) De) ?_
 refine A1 (Ev.tmp rfl) Evs.nil (ht a16 u16 r.tail _ hk16 (hs.trans Sb)) Lb (fun v hv hx=>?_) fun v24 h24 hr24=>?_
 · obtain⟨e,hx1,rfl,rfl⟩:=hx;rw[hx1] at hq;exact lnP Tryz.f164 hq Sb
 obtain⟨x24,r24,a24,u24,hM24,⟨rfl,hw24⟩,hk24,rfl⟩:=hr24
 rw[hM24,I1] at hq
 have hln:(l++[x24]).length=l.length+1:=List.length_append
 have hn2:most - (l++[x24]).length=n:=by omega
 refine xY b4E (EvP.cons Et EvP.nil) fun b25=>?_
 refine xD b4E (Ev.tmp rfl) (Ev.tmp rfl) (show l.length+1=(l++[x24]).length by simp) (F7 (enc:=M5) _ (x24)) fun a26 c26=>?_
 refine kA1 ?_
 refine WL.nil (A6 (most - (l++[x24]).length) [(9,.slice a26 (l++[x24]).length c26)] (h'':=lnR b a24 r24.length u24::.row (.slice a26 (l++[x24]).length c26) 32 1 (l++[x24]).length (fl M5 (l++[x24]))::h) (by omega) ?_ Su Sb ⟨a26,c26,l++[x24],a24,u24,r24,⟨⟨by omega,by omega⟩,hk24,W7 hW hw24,by rw[hn2];exact hq⟩,rfl,rfl,rfl⟩)
 exact Su
 replace he16:=he16.trans (if_neg (H3 c16))
 subst r16
 rw[a5n c16] at hJ
 refine P7 (a:=a9) Me fun p9 q9 r9=>?_
 refine kQ0 [9] ?_
 refine kQ2 [8] ?_
 refine WC.ret (toX (.inl rfl) (I2 (h':=lnR b a16 r.length u16::.row (.slice a9 l.length c9) 32 1 l.length (fl M5 l)::h) (.inl rfl) rfl (RV.tmp rfl) (View.le.refl m) Sb ?_))
 exact⟨_,r,_,_,[.row (.slice a9 l.length c9) 32 1 l.length (fl M5 l)],hJ,⟨a9,c9,rfl,Rd.inRow (List.Mem.head _) r9 p9 q9,hW⟩,hk16,rfl⟩
theorem b7p {m:View} (q:FuncId) (take:List Tok→E Fo) (sep:B) (most:Nat) (b:Nat) (a:Option Addr) (c:Nat) (ts:List Tok) (h hT:List Res) (hk:Tk2 m hT a c ts) (hs:hT.Sublist h) (h1:1≤most∧most≤100)
   (ht:∀ (a:Option Addr) (c:Nat) (ts:List Tok) (h:List Res),Tk2 m hT a c ts→hT.Sublist h→LnY m q [ptV b] b a c ts hT h (take ts) WF) :
   LnX m 166 [ptV b,str sep,.int .i64 most,.func (.func q) #[ptV b] #[]] b a c ts hT h (P9 take sep most ts) (OLs m foE 6 FoW):=by
 have hq:P9 take sep most ts=O9 (take ts) fun x r=>a2r take sep (most - 1) [x] r:=rfl
 refine CX.body Tryz.call166 Tryz.func166 rfl Tryz.ntmps166 Lb rfl ?_
 refine kQ1 [0,1,2,3] ?_
 refine kA1 ?_
 refine WL.perm (Del.perm (r:=lnR b a ts.length c) De) ?_
 refine A1 (Ev.tmp rfl) Evs.nil (ht a c ts _ hk (hs.trans Sb)) Lb (fun v hv hx=>?_) fun v11 h11 hr11=>?_
 · obtain⟨e,hx1,rfl,rfl⟩:=hx;rw[hx1] at hq;exact lnP Tryz.f166 hq Sb
 obtain⟨x11,r11,a11,u11,hM11,⟨rfl,hw11⟩,hk11,rfl⟩:=hr11
 rw[hM11,I1] at hq
 refine xY c1h (EvP.cons Et EvP.nil) fun b12=>?_
 refine kA1 ?_
 refine a3x (k:=1) (sz:=6) (cs:=foE x11) rfl (by decide) Up ?_
 refine WL.perm (List.Perm.swap _ _ _) ?_
 refine kQ0 [0,1,2,3,9] ?_
 refine B1 [0,1,2,3] rfl (fun μ F' h'=>∃ a9:Option Addr,∃ c9:Nat,∃ l:List Fo,∃ x:Option Addr,∃ y:Nat,∃ r:List Tok,((1≤l.length∧l.length≤most)∧Tk2 m hT x y r∧(∀ z ∈ l,FoW z)∧P9 take sep most ts=a2r take sep (most - l.length) l r)∧most - l.length=μ∧F'=[(9,.slice a9 l.length c9)]∧lnR b x r.length y::.row (.slice a9 l.length c9) 97 6 l.length (fl foE l)::h=h') (most - ([x11]).length) [(9,.slice (some ⟨b12,0,none⟩) ([x11]).length 1)] (h0:=lnR b a11 r11.length u11::.row (.slice (some ⟨b12,0,none⟩) ([x11]).length 1) 97 6 ([x11]).length (fl foE ([x11]))::h) ?_ Sb ⟨some ⟨b12,0,none⟩,1,[x11],a11,u11,r11,⟨⟨Nat.le_refl _,h1.1⟩,hk11,fun z hz=>by rw[List.mem_singleton] at hz;subst hz;exact hw11,hq⟩,rfl,rfl,rfl⟩ ?_
 exact Su
 rintro _ _ _ ⟨a9,c9,l,x,y,r,⟨⟨hl1,hl2⟩,hk1,hW,hJ⟩,rfl,rfl,rfl⟩
 refine B3 rfl ?_
 refine kA2 ?_
 refine xf (E1 Et) (H0 _ _ _) ?_
 refine WL.perm (Del.perm (r:=lnR b x r.length y) De) ?_
 refine xg (E2 Et Et) (K5 b x y r _ _ _ hk1 (hs.trans Sb)) ?_
 rintro _ _ ⟨a16,u16,r16,rfl,he16,hk16,rfl⟩
 refine kQ0 [0,1,2,3,9,16] ?_
 refine wc (fun c16=>?_) fun c16=>?_
 replace he16:=he16.trans (if_pos c16)
 subst r16
 refine kQ0 [0,1,2,3,9] ?_
 refine kQ4 [0,1,2,3,9,20] ?_
 refine wc (fun c20=>?_) fun c20=>?_
 replace c20:=G4 c20
 have e20:most - l.length=0:=by omega
 have hq:P9 take sep most ts=.error 110:=by rw[hJ,e20];exact a3X c16
 refine j0 ?_
 refine A1 Ev.func Evs.nil (I4 _ _) Lb (fun v hv hx=>?_) fun v21 h21 hr21=>?_
 · obtain⟨rfl,rfl⟩:=hx;exact lnP Tryz.f166 hq Sb
 exact hr21.elim
 replace c20:=G3 c20
 obtain⟨n,hn⟩:∃ n,most - l.length=n+1:=⟨most - l.length - 1,by omega⟩
 rw[hn] at hJ
 have hq:=hJ.trans (a3Y c16)
 refine kQ0 [0,1,2,3,9] ?_
 refine kA2 ?_
 refine WL.perm (Del.perm (r:=lnR b a16 r.tail.length u16) De) ?_
 refine A1 (Ev.tmp rfl) Evs.nil (ht a16 u16 r.tail _ hk16 (hs.trans Sb)) Lb (fun v hv hx=>?_) fun v24 h24 hr24=>?_
 · obtain⟨e,hx1,rfl,rfl⟩:=hx;rw[hx1] at hq;exact lnP Tryz.f166 hq Sb
 obtain⟨x24,r24,a24,u24,hM24,⟨rfl,hw24⟩,hk24,rfl⟩:=hr24
 rw[hM24,I1] at hq
 have hln:(l++[x24]).length=l.length+1:=List.length_append
 have hn2:most - (l++[x24]).length=n:=by omega
 refine xY c1h (EvP.cons Et EvP.nil) fun b25=>?_
 refine xD c1h (Ev.tmp rfl) (Ev.tmp rfl) (show l.length+1=(l++[x24]).length by simp) (F7 (enc:=foE) _ (x24)) fun a26 c26=>?_
 refine kA1 ?_
 refine WL.nil (A6 (most - (l++[x24]).length) [(9,.slice a26 (l++[x24]).length c26)] (h'':=lnR b a24 r24.length u24::.row (.slice a26 (l++[x24]).length c26) 97 6 (l++[x24]).length (fl foE (l++[x24]))::h) (by omega) ?_ Su Sb ⟨a26,c26,l++[x24],a24,u24,r24,⟨⟨by omega,by omega⟩,hk24,W7 hW hw24,by rw[hn2];exact hq⟩,rfl,rfl,rfl⟩)
 exact Su
 replace he16:=he16.trans (if_neg (H3 c16))
 subst r16
 rw[a5n c16] at hJ
 refine P7 (a:=a9) Me fun p9 q9 r9=>?_
 refine kQ0 [9] ?_
 refine kQ2 [8] ?_
 refine WC.ret (toX (.inl rfl) (I2 (h':=lnR b a16 r.length u16::.row (.slice a9 l.length c9) 97 6 l.length (fl foE l)::h) (.inl rfl) rfl (RV.tmp rfl) (View.le.refl m) Sb ?_))
 exact⟨_,r,_,_,[.row (.slice a9 l.length c9) 97 6 l.length (fl foE l)],hJ,⟨a9,c9,rfl,Rd.inRow (List.Mem.head _) r9 p9 q9,hW⟩,hk16,rfl⟩
theorem c2i {m:View} (q:FuncId) (take:List Tok→E Ex) (b:Nat) (a:Option Addr) (c:Nat) (ts:List Tok) (h hT:List Res) (hk:Tk2 m hT a c ts) (hs:hT.Sublist h)
   (ht:∀ (a:Option Addr) (c:Nat) (ts:List Tok) (h:List Res),Tk2 m hT a c ts→hT.Sublist h→LnX m q [ptV b] b a c ts hT h (take ts) (OE m)) :
   LnX m 123 [ptV b,.func (.func q) #[ptV b] #[]] b a c ts hT h (brM take ts) (OL m):=by
 have hq:brM take ts=Z4 5 [40] ts fun r=>if isM 5 [41] r then .ok ([],r.tail) else O9 (P9 take [44] 8 r) fun l r=>Z4 5 [41] r fun r=>.ok (l,r):=rfl
 refine CX.body Tryz.call123 Tryz.func123 rfl Tryz.ntmps123 Lb rfl ?_
 refine kQ1 [0,1] ?_
 refine kA1 ?_
 refine xf (E1 Ev.const) (H0 _ _ _) ?_
 refine xY A9 (EvP.cons Et EvP.nil) fun b8=>?_
 refine WL.perm (Del.perm (r:=lnR b a ts.length c) De) ?_
 refine A1 Ev.func (E2 Et Et) (N7 b a c ts _ _ _ _ _ hk (hs.trans Sb) (Rd.ofPt rfl (by decide) Me)) Lb (fun v hv hx=>?_) fun v9 h9 hr9=>?_
 · obtain⟨hx1,rfl,rfl⟩:=hx;exact lnP Tryz.f123 (hq.trans (a3D hx1)) Sb
 obtain⟨hi9,a9,u9,hk9,rfl⟩:=hr9
 rw[a3m hi9] at hq
 refine kQ0 [0,1] ?_
 refine kA1 ?_
 refine xf (E1 Ev.const) (H0 _ _ _) ?_
 refine WL.perm (Del.perm (r:=lnR b a9 ts.tail.length u9) De) ?_
 refine xg (E2 Et Et) (K5 b a9 u9 ts.tail _ _ _ hk9 (hs.trans Sb)) ?_
 rintro _ _ ⟨a12,u12,r12,rfl,he12,hk12,rfl⟩
 refine kQ0 [0,1,12] ?_
 refine wc (fun c12=>?_) fun c12=>?_
 replace he12:=he12.trans (if_pos c12)
 subst r12
 rw[if_pos c12] at hq
 refine kQ1 [4] ?_
 refine WC.ret (toX (.inl rfl) (I2 (h':=lnR b a12 ts.tail.tail.length u12::h) (.inl rfl) rfl (RV.tmp rfl) (View.le.refl m) Sb ?_))
 exact⟨_,_,_,_,[],hq,⟨⟨none,0,[]⟩,rfl,rfl,Rd.nilF exE 6 m _,fun _ hx=>(List.not_mem_nil hx).elim⟩,hk12,rfl⟩
 replace he12:=he12.trans (if_neg (H3 c12))
 subst r12
 rw[if_neg (H3 c12)] at hq
 refine kQ0 [0,1] ?_
 refine kA2 ?_
 refine WL.perm (Del.perm (r:=lnR b a12 ts.tail.length u12) De) ?_
 refine A1 Ev.func (E4 Et Ev.const Ev.const Et) (a0D q take [44] 8 b a12 u12 ts.tail _ _ hk12 (hs.trans Sb) (by decide) ht) Lb (fun v hv hx=>?_) fun v15 h15 hr15=>?_
 · obtain⟨e,hx1,rfl,rfl⟩:=hx;rw[hx1] at hq;exact lnP Tryz.f123 hq Sb
 obtain⟨x15,r15,a15,u15,bl15,hM15,⟨s15,rfl,rfl,hO15⟩,hk15,rfl⟩:=hr15
 refine WL.perm ((Mv.perm (by (repeat (first | apply Mv.cons | exact Mv.stop)))).cons _) ?_
 rw[hM15,I1] at hq
 refine kQ1 [0,5] ?_
 refine kA1 ?_
 refine xf (E1 Ev.const) (H0 _ _ _) ?_
 refine xY A9 (EvP.cons Et EvP.nil) fun b18=>?_
 refine WL.perm (Del.perm (r:=lnR b a15 r15.length u15) De) ?_
 refine A1 Ev.func (E2 Et Et) (N7 b a15 u15 r15 _ _ _ _ _ hk15 (hs.trans Sb) (Rd.ofPt rfl (by decide) Me)) Lb (fun v hv hx=>?_) fun v19 h19 hr19=>?_
 · obtain⟨hx1,rfl,rfl⟩:=hx;exact lnP Tryz.f123 (hq.trans (a3D hx1)) Sb
 obtain⟨hi19,a19,u19,hk19,rfl⟩:=hr19
 rw[a3m hi19] at hq
 refine kQ0 [5] ?_
 refine kQ2 [4] ?_
 refine WC.ret (toX (.inl rfl) (I2 (h':=lnR b a19 r15.tail.length u19::(bl15++h)) (.inl rfl) rfl (RV.tmp rfl) (View.le.refl m) Sb ?_))
 exact⟨_,_,_,_,bl15,hq,⟨s15,rfl,rfl,hO15⟩,hk19,rfl⟩
theorem c0S {m:View} (q:FuncId) (take:List Tok→E Fo) (b:Nat) (a:Option Addr) (c:Nat) (ts:List Tok) (h hT:List Res) (hk:Tk2 m hT a c ts) (hs:hT.Sublist h)
   (ht:∀ (a:Option Addr) (c:Nat) (ts:List Tok) (h:List Res),Tk2 m hT a c ts→hT.Sublist h→LnY m q [ptV b] b a c ts hT h (take ts) WF) :
   LnX m 103 [ptV b,.func (.func q) #[ptV b] #[]] b a c ts hT h (brM take ts) (OLs m foE 6 FoW):=by
 have hq:brM take ts=Z4 5 [40] ts fun r=>if isM 5 [41] r then .ok ([],r.tail) else O9 (P9 take [44] 8 r) fun l r=>Z4 5 [41] r fun r=>.ok (l,r):=rfl
 refine CX.body Tryz.call103 Tryz.func103 rfl Tryz.ntmps103 Lb rfl ?_
 refine kQ1 [0,1] ?_
 refine kA1 ?_
 refine xf (E1 Ev.const) (H0 _ _ _) ?_
 refine xY A9 (EvP.cons Et EvP.nil) fun b8=>?_
 refine WL.perm (Del.perm (r:=lnR b a ts.length c) De) ?_
 refine A1 Ev.func (E2 Et Et) (N7 b a c ts _ _ _ _ _ hk (hs.trans Sb) (Rd.ofPt rfl (by decide) Me)) Lb (fun v hv hx=>?_) fun v9 h9 hr9=>?_
 · obtain⟨hx1,rfl,rfl⟩:=hx;exact lnP Tryz.f103 (hq.trans (a3D hx1)) Sb
 obtain⟨hi9,a9,u9,hk9,rfl⟩:=hr9
 rw[a3m hi9] at hq
 refine kQ0 [0,1] ?_
 refine kA1 ?_
 refine xf (E1 Ev.const) (H0 _ _ _) ?_
 refine WL.perm (Del.perm (r:=lnR b a9 ts.tail.length u9) De) ?_
 refine xg (E2 Et Et) (K5 b a9 u9 ts.tail _ _ _ hk9 (hs.trans Sb)) ?_
 rintro _ _ ⟨a12,u12,r12,rfl,he12,hk12,rfl⟩
 refine kQ0 [0,1,12] ?_
 refine wc (fun c12=>?_) fun c12=>?_
 replace he12:=he12.trans (if_pos c12)
 subst r12
 rw[if_pos c12] at hq
 refine kQ1 [4] ?_
 refine WC.ret (toX (.inl rfl) (I2 (h':=lnR b a12 ts.tail.tail.length u12::h) (.inl rfl) rfl (RV.tmp rfl) (View.le.refl m) Sb ?_))
 exact⟨_,_,_,_,[],hq,⟨none,0,rfl,Rd.nilF foE 6 m _,fun _ hx=>(List.not_mem_nil hx).elim⟩,hk12,rfl⟩
 replace he12:=he12.trans (if_neg (H3 c12))
 subst r12
 rw[if_neg (H3 c12)] at hq
 refine kQ0 [0,1] ?_
 refine kA2 ?_
 refine WL.perm (Del.perm (r:=lnR b a12 ts.tail.length u12) De) ?_
 refine A1 Ev.func (E4 Et Ev.const Ev.const Et) (b7p q take [44] 8 b a12 u12 ts.tail _ _ hk12 (hs.trans Sb) (by decide) ht) Lb (fun v hv hx=>?_) fun v15 h15 hr15=>?_
 · obtain⟨e,hx1,rfl,rfl⟩:=hx;rw[hx1] at hq;exact lnP Tryz.f103 hq Sb
 obtain⟨x15,r15,a15,u15,bl15,hM15,⟨p15,q15,rfl,hR15,hO15⟩,hk15,rfl⟩:=hr15
 refine WL.perm ((Mv.perm (by (repeat (first | apply Mv.cons | exact Mv.stop)))).cons _) ?_
 rw[hM15,I1] at hq
 refine kQ1 [0,5] ?_
 refine kA1 ?_
 refine xf (E1 Ev.const) (H0 _ _ _) ?_
 refine xY A9 (EvP.cons Et EvP.nil) fun b18=>?_
 refine WL.perm (Del.perm (r:=lnR b a15 r15.length u15) De) ?_
 refine A1 Ev.func (E2 Et Et) (N7 b a15 u15 r15 _ _ _ _ _ hk15 (hs.trans Sb) (Rd.ofPt rfl (by decide) Me)) Lb (fun v hv hx=>?_) fun v19 h19 hr19=>?_
 · obtain⟨hx1,rfl,rfl⟩:=hx;exact lnP Tryz.f103 (hq.trans (a3D hx1)) Sb
 obtain⟨hi19,a19,u19,hk19,rfl⟩:=hr19
 rw[a3m hi19] at hq
 refine kQ0 [5] ?_
 refine kQ2 [4] ?_
 refine WC.ret (toX (.inl rfl) (I2 (h':=lnR b a19 r15.tail.length u19::(bl15++h)) (.inl rfl) rfl (RV.tmp rfl) (View.le.refl m) Sb ?_))
 exact⟨_,_,_,_,bl15,hq,⟨p15,q15,rfl,hR15,hO15⟩,hk19,rfl⟩
end Go.Proofs.YtkemgjnejlkkcaaGreatDoor
end
section
namespace Go.Proofs.YtkemgjnejlkkcaaGreatDoor
set_option maxRecDepth 100000
set_option maxHeartbeats 2000000
open Go.Eng Go.Pc Go.Sx Go
open Go.Xp hiding B D9
open Go.Ty (Ty Vr Tok eqT tyV J2 B4 B7 S1 zeroK M5 D6)
open Go.Lx (encB D1)
theorem b9y (a b c:List Res):c.Sublist (a++(b++c)):=(List.sublist_append_right b c).trans (List.sublist_append_right a _)
theorem c0e (a b c:List Res):b.Sublist (a++(b++c)):=(List.sublist_append_left b c).trans (List.sublist_append_right a _)
theorem c1W (ts:List Tok):b1m ts=((a4I ts==0)&&isM 5 [38] (ts.drop (a04 ts))):=by
 unfold b1m a4I a04
 cases hf:Q8 ts with
 | ok x=>obtain⟨x,k⟩:=x;rfl
 | error e=>
   rcases b1s hf with rfl | rfl <;> rfl
abbrev OG (m:View) (x:Gu) (v:Value) (bl:List Res):Prop:=∃ g,v=guV g∧stG g=x∧GOk m bl g
theorem gok {m:View} {h:List Res} {k:Int} {n:B} {cond ch:Ex} {tg vl:Sli Ex} {time:Ex} (hk:0≤k∧k≤255) (hn:n.length≤Big) (h1:EOk m h cond) (h2:EOk m h ch) (h3:LOk m h tg) (h4:LOk m h vl) (h5:EOk m h time) :
   GOk m h (.mk k n cond ch tg vl time none 0 []):=⟨hk,hn,h1,h2,h3,h4,h5,Rd.nilF prE 42 m h⟩
abbrev g0 (k:Int) (n:B) (cond ch:Ex) (tg vl:Sli Ex) (time:Ex):Gu:=.mk k n cond ch tg vl time none 0 []
abbrev gR (b:Nat) (g:Gu):Res:=.pt b (.cells (guE g).toArray 86 (0,0))
theorem c1c {m:View} (hg:Glob m) (b:Nat) (a:Option Addr) (c:Nat) (ts:List Tok) (h hT:List Res) (hb:lnR b a ts.length c ∈ h) (hk:Tk2 m hT a c ts) (hs:hT.Sublist h) :
   CT Tryz.prog 223 [ptV b] h m (A7 h (.bool (b1m ts))):=by
 have hle:=b2n (ts:=ts)
 refine CT.body Tryz.call223 Tryz.func223 rfl Tryz.ntmps223 Lb rfl ?_
 refine kQ1 [0] ?_
 refine kA3 ?_
 refine xG (D4 a05 rfl Et hb rfl) ?_
 refine xg (E1 Et) (a9x hg a c ts _ (hk.k.mono (hs.trans Sb)) hk.n) ?_
 rintro _ _ ⟨t12,bl,rfl,⟨hst,hU,hW⟩,rfl⟩
 refine WL.perm (Mv.perm (by (repeat (first | apply Mv.cons | exact Mv.stop)))) ?_
 refine kA4 ?_
 refine xW fun b3=>?_
 refine kQ3 [0,4,5] ?_
 refine kA3 ?_
 refine xG (D4 a05 rfl Et (List.mem_cons_of_mem _ (List.mem_append_right _ hb)) rfl) ?_
 refine kA1 ?_
 refine xG (a0l A9.und A9.size Et Et rfl (by omega)) ?_
 refine kA1 ?_
 refine xW fun b6=>?_
 refine kQ1 [5,6] ?_
 refine kA3 ?_
 refine A8 (GU.t rfl rfl) (fun hc=>⟨Ev.func,(E1 Ev.const),H0 _ _ _⟩) Lb ?_
 refine A8 (GU.t rfl rfl) (fun hc=>⟨Ev.func,(E2 Et (Eg hc)),a2A b6 _ _ (ts.drop (a04 ts)) _ _ hT (by rw[List.length_drop];exact List.mem_cons_self ..) (hk.drop hle) (hs.trans Sb)⟩) Lb ?_
 refine kQ2 [2] ?_
 refine WC.ret (wR (h) ?_)
 exact⟨by rw[c1W],rfl⟩
theorem c5C {m:View} (hg:Glob m) (b:Nat) (a:Option Addr) (c:Nat) (ts:List Tok) (h hT:List Res) (hk:Tk2 m hT a c ts) (hs:hT.Sublist h):LnX m 173 [ptV b] b a c ts hT h (ifM ts) (OG m):=by
 have hq:ifM ts=O9 (M2 ts) fun c r=>.ok (guM 1 [] c A3 [] [] A3,r):=rfl
 refine CX.body Tryz.call173 Tryz.func173 rfl Tryz.ntmps173 Lb rfl ?_
 refine j0 ?_
 refine xW fun b2=>?_
 refine kQ0 [0,2] ?_
 refine kA1 ?_
 refine WL.perm (Del.perm (r:=lnR b a ts.length c) De) ?_
 refine A1 Ev.func (E1 Et) (T8 hg b a c ts _ _ hk (hs.trans Sb)) Lb (fun v hv hx=>?_) fun v4 h4 hr4=>?_
 · obtain⟨e,hx1,rfl,rfl⟩:=hx;rw[hx1] at hq;exact lnP Tryz.f173 hq Sb
 obtain⟨x4,r4,a4,u4,bl4,hM4,⟨t4,rfl,rfl,hO4⟩,hk4,rfl⟩:=hr4
 refine WL.perm ((Mv.perm (by (repeat (first | apply Mv.cons | exact Mv.stop)))).cons _) ?_
 rw[hM4,I1] at hq
 refine kQ2 [2] ?_
 refine WC.ret (toX (.inl rfl) (I2 (h':=lnR b a4 r4.length u4::(bl4++h)) (.inl rfl) rfl (A4 b0f rfl rfl rfl Me rfl) (View.le.refl m) Sb ?_))
 exact⟨_,_,_,_,bl4,hq,⟨g0 1 [] t4 A3 B5 B5 A3,rfl,rfl,gok (by decide) (Nat.zero_le _) hO4 (F1 _ _) (F3 _ _) (F3 _ _) (F1 _ _)⟩,hk4,rfl⟩
theorem b9u {m:View} (hg:Glob m) (b:Nat) (a:Option Addr) (c:Nat) (ts:List Tok) (h hT:List Res) (hk:Tk2 m hT a c ts) (hs:hT.Sublist h):LnX m 172 [ptV b] b a c ts hT h (a8R ts) (OG m):=by
 have hq:a8R ts=if b1m ts then O9 (M2 ts) fun c r=>Z4 5 [38] r fun r=>if isM 2 [83,75,73,80] r then .ok (guM 2 [] c A3 [] [] A3,r.tail) else a9C c r else a9C A3 ts:=rfl
 refine CX.body Tryz.call172 Tryz.func172 rfl Tryz.ntmps172 Lb rfl ?_
 refine j0 ?_
 refine xW fun b2=>?_
 refine kQ0 [0,2] ?_
 refine kA1 ?_
 refine xW fun b3=>?_
 refine kQ1 [0,2,3] ?_
 refine kA1 ?_
 refine xf (E1 Et) (c1c hg b a c ts _ hT Me hk (hs.trans Sb)) ?_
 refine WL.perm (Del.perm (r:=lnR b a ts.length c) De) ?_
 refine kP0 [0,2,3,6] ?_
 refine H7 KKh [0,2,3] rfl (fun F' h'=>∃ tc:Ex,∃ bl:List Res,∃ x:Option Addr,∃ y:Nat,∃ r:List Tok,(EOk m bl tc∧Tk2 m hT x y r∧a8R ts=a9C (C1 tc) r)∧F'=[]∧lnR b x r.length y::gR b3 (g0 3 [] tc A3 B5 B5 A3)::gR b2 (g0 0 [] A3 A3 B5 B5 A3)::(bl++h)=h') ?_ ?_
 refine jE ?_
 refine wc (fun c6=>?_) fun c6=>?_
 rw[if_pos c6] at hq
 refine kA1 ?_
 refine WL.perm (Del.perm (r:=lnR b a ts.length c) De) ?_
 refine A1 Ev.func (E1 Et) (T8 hg b a c ts _ _ hk (hs.trans Sb)) Lb (fun v hv hx=>?_) fun v8 h8 hr8=>?_
 · obtain⟨e,hx1,rfl,rfl⟩:=hx;rw[hx1] at hq;exact lnP Tryz.f172 hq Sb
 obtain⟨x8,r8,a8,u8,bl8,hM8,⟨t8,rfl,rfl,hO8⟩,hk8,rfl⟩:=hr8
 refine WL.perm ((Mv.perm (by (repeat (first | apply Mv.cons | exact Mv.stop)))).cons _) ?_
 rw[hM8,I1] at hq
 refine kQ2 [0,2,3] ?_
 refine kA1 ?_
 refine xf (E1 Ev.const) (H0 _ _ _) ?_
 refine xY A9 (EvP.cons Et EvP.nil) fun b12=>?_
 refine WL.perm (Del.perm (r:=lnR b a8 r8.length u8) De) ?_
 refine A1 Ev.func (E2 Et Et) (N7 b a8 u8 r8 _ _ _ _ _ hk8 (hs.trans Sb) (Rd.ofPt rfl (by decide) Me)) Lb (fun v hv hx=>?_) fun v13 h13 hr13=>?_
 · obtain⟨hx1,rfl,rfl⟩:=hx;exact lnP Tryz.f172 (hq.trans (a3D hx1)) Sb
 obtain⟨hi13,a13,u13,hk13,rfl⟩:=hr13
 rw[a3m hi13] at hq
 refine kQ0 [0,2,3] ?_
 refine kA1 ?_
 refine xf (E1 Ev.const) (K2 _ _ _) ?_
 refine WL.perm (Del.perm (r:=lnR b a13 r8.tail.length u13) De) ?_
 refine xg (E2 Et Et) (K5 b a13 u13 r8.tail _ _ _ hk13 (hs.trans Sb)) ?_
 rintro _ _ ⟨a16,u16,r16,rfl,he16,hk16,rfl⟩
 refine kQ0 [0,2,3,16] ?_
 refine wc (fun c16=>?_) fun c16=>?_
 replace he16:=he16.trans (if_pos c16)
 subst r16
 rw[if_pos c16] at hq
 refine kQ2 [2,3] ?_
 refine kQ2 [2] ?_
 refine WC.ret (toX (.inl rfl) (I2 (h':=lnR b a16 r8.tail.tail.length u16::(bl8++h)) (.inl rfl) rfl (A4 b0f rfl rfl rfl Me rfl) (View.le.refl m) Sb ?_))
 exact⟨_,_,_,_,bl8,hq,⟨g0 2 [] t8 A3 B5 B5 A3,rfl,rfl,gok (by decide) (Nat.zero_le _) hO8 (F1 _ _) (F3 _ _) (F3 _ _) (F1 _ _)⟩,hk16,rfl⟩
 replace he16:=he16.trans (if_neg (H3 c16))
 subst r16
 rw[if_neg (H3 c16)] at hq
 refine WC.skip (D0 [] (h'':=lnR b a16 (r8.tail).length u16::gR b3 (g0 3 [] t8 A3 B5 B5 A3)::gR b2 (g0 0 [] A3 A3 B5 B5 A3)::(bl8++h)) ?_ Su Sb ⟨t8,bl8,a16,u16,r8.tail,⟨hO8,hk16,hq⟩,rfl,rfl⟩)
 exact Su
 rw[if_neg (H3 c6)] at hq
 refine WC.skip (D0 [] (h'':=lnR b a ts.length c::gR b3 (g0 3 [] A3 A3 B5 B5 A3)::gR b2 (g0 0 [] A3 A3 B5 B5 A3)::(([])++h)) ?_ Su Sb ⟨A3,[],a,c,ts,⟨F1 _ _,hk,hq⟩,rfl,rfl⟩)
 exact Su
 rintro _ _ ⟨tc,bl,x,y,r,⟨hC,hk1,hq⟩,rfl,rfl⟩
 refine B3 rfl ?_
 replace hq:a8R ts=O9 (L3 r) fun ch r=>Z4 5 [63] r fun r=>if isM 2 [65,70,84,69,82] r then O9 (M2 r.tail) fun t r=>.ok (guM 4 [] (C1 tc) ch [] [] t,r) else O9 (P9 L3 [59] 8 r) fun l r=>.ok (guM 3 [] (C1 tc) ch l [] A3,r):=hq
 refine kA1 ?_
 refine WL.perm (Del.perm (r:=lnR b x r.length y) De) ?_
 refine A1 Ev.func (E1 Et) (a0r hg b x y r _ _ hk1 (hs.trans Sb)) Lb (fun v hv hx=>?_) fun v20 h20 hr20=>?_
 · obtain⟨e,hx1,rfl,rfl⟩:=hx;rw[hx1] at hq;exact lnP Tryz.f172 hq Sb
 obtain⟨x20,r20,a20,u20,bl20,hM20,⟨t20,rfl,rfl,hO20⟩,hk20,rfl⟩:=hr20
 refine WL.perm ((Mv.perm (by (repeat (first | apply Mv.cons | exact Mv.stop)))).cons _) ?_
 rw[hM20,I1] at hq
 refine kQ2 [0,2,3] ?_
 refine kA1 ?_
 refine xf (E1 Ev.const) (H0 _ _ _) ?_
 refine xY A9 (EvP.cons Et EvP.nil) fun b24=>?_
 refine WL.perm (Del.perm (r:=lnR b a20 r20.length u20) De) ?_
 refine A1 Ev.func (E2 Et Et) (N7 b a20 u20 r20 _ _ _ _ _ hk20 (hs.trans Sb) (Rd.ofPt rfl (by decide) Me)) Lb (fun v hv hx=>?_) fun v25 h25 hr25=>?_
 · obtain⟨hx1,rfl,rfl⟩:=hx;exact lnP Tryz.f172 (hq.trans (a3D hx1)) Sb
 obtain⟨hi25,a25,u25,hk25,rfl⟩:=hr25
 rw[a3m hi25] at hq
 refine kQ0 [0,2,3] ?_
 refine kA1 ?_
 refine xf (E1 Ev.const) (K2 _ _ _) ?_
 refine WL.perm (Del.perm (r:=lnR b a25 r20.tail.length u25) De) ?_
 refine xg (E2 Et Et) (K5 b a25 u25 r20.tail _ _ _ hk25 (hs.trans Sb)) ?_
 rintro _ _ ⟨a28,u28,r28,rfl,he28,hk28,rfl⟩
 refine kQ0 [0,2,3,28] ?_
 refine wc (fun c28=>?_) fun c28=>?_
 replace he28:=he28.trans (if_pos c28)
 subst r28
 rw[if_pos c28] at hq
 refine kA1 ?_
 refine WL.perm (Del.perm (r:=lnR b a28 r20.tail.tail.length u28) De) ?_
 refine A1 Ev.func (E1 Et) (T8 hg b a28 u28 r20.tail.tail _ _ hk28 (hs.trans Sb)) Lb (fun v hv hx=>?_) fun v30 h30 hr30=>?_
 · obtain⟨e,hx1,rfl,rfl⟩:=hx;rw[hx1] at hq;exact lnP Tryz.f172 hq Sb
 obtain⟨x30,r30,a30,u30,bl30,hM30,⟨t30,rfl,rfl,hO30⟩,hk30,rfl⟩:=hr30
 refine WL.perm ((Mv.perm (by (repeat (first | apply Mv.cons | exact Mv.stop)))).cons _) ?_
 rw[hM30,I1] at hq
 refine kQ4 [2,3] ?_
 refine kQ2 [2] ?_
 refine WC.ret (toX (.inl rfl) (I2 (h':=lnR b a30 r30.length u30::(bl30++(bl20++(bl++h)))) (.inl rfl) rfl (A4 b0f rfl rfl rfl Me rfl) (View.le.refl m) Sb ?_))
 exact⟨_,_,_,_,bl30++(bl20++bl),hq,⟨g0 4 [] tc t20 B5 B5 t30,rfl,rfl,gok (by decide) (Nat.zero_le _) (hC.mono (b9y _ _ _)) (hO20.mono (c0e _ _ _)) (F3 _ _) (F3 _ _) (hO30.mono (List.sublist_append_left _ _))⟩,hk30,by simp only[List.append_assoc]⟩
 replace he28:=he28.trans (if_neg (H3 c28))
 subst r28
 rw[if_neg (H3 c28)] at hq
 refine kQ0 [0,2,3] ?_
 refine kA2 ?_
 refine xG (PO.makeFunc (E1 Et) Evs.nil) ?_
 refine WL.perm (Del.perm (r:=lnR b a28 r20.tail.length u28) De) ?_
 refine A1 Ev.func (E4 Et Ev.const Ev.const Et) (a0D 112 L3 [59] 8 b a28 u28 r20.tail _ _ hk28 (hs.trans Sb) (by decide) (fun a c ts h hk hs=>a0r hg b a c ts h _ hk hs)) Lb (fun v hv hx=>?_) fun v37 h37 hr37=>?_
 · obtain⟨e,hx1,rfl,rfl⟩:=hx;rw[hx1] at hq;exact lnP Tryz.f172 hq Sb
 obtain⟨x37,r37,a37,u37,bl37,hM37,⟨s37,rfl,rfl,hO37⟩,hk37,rfl⟩:=hr37
 refine WL.perm ((Mv.perm (by (repeat (first | apply Mv.cons | exact Mv.stop)))).cons _) ?_
 rw[hM37,I1] at hq
 refine kQ2 [2,3] ?_
 refine kQ2 [2] ?_
 refine WC.ret (toX (.inl rfl) (I2 (h':=lnR b a37 r37.length u37::(bl37++(bl20++(bl++h)))) (.inl rfl) rfl (A4 b0f rfl rfl rfl Me rfl) (View.le.refl m) Sb ?_))
 exact⟨_,_,_,_,bl37++(bl20++bl),hq,⟨g0 3 [] tc t20 s37 B5 A3,rfl,rfl,gok (by decide) (Nat.zero_le _) (hC.mono (b9y _ _ _)) (hO20.mono (c0e _ _ _)) (hO37.mono (List.sublist_append_left _ _)) (F3 _ _) (F1 _ _)⟩,hk37,by simp only[List.append_assoc]⟩
theorem c3E {m:View} (hg:Glob m) (b:Nat) (a:Option Addr) (c:Nat) (ts:List Tok) (h hT:List Res) (hk:Tk2 m hT a c ts) (hs:hT.Sublist h):LnX m 174 [ptV b] b a c ts hT h (b6L ts) (OG m):=by
 have hq:b6L ts=if isM 2 [69,76,83,69] ts then .ok (guM 6 [] A3 A3 [] [] A3,ts.tail) else O9 (P9 M2 [44] 8 ts) fun l r=>.ok (guM 5 [] A3 A3 [] l A3,r):=rfl
 refine CX.body Tryz.call174 Tryz.func174 rfl Tryz.ntmps174 Lb rfl ?_
 refine j0 ?_
 refine xW fun b2=>?_
 refine kQ0 [0,2] ?_
 refine kA1 ?_
 refine xf (E1 Ev.const) (K2 _ _ _) ?_
 refine WL.perm (Del.perm (r:=lnR b a ts.length c) De) ?_
 refine xg (E2 Et Et) (K5 b a c ts _ _ _ hk (hs.trans Sb)) ?_
 rintro _ _ ⟨a5,u5,r5,rfl,he5,hk5,rfl⟩
 refine kQ0 [0,2,5] ?_
 refine wc (fun c5=>?_) fun c5=>?_
 replace he5:=he5.trans (if_pos c5)
 subst r5
 rw[if_pos c5] at hq
 refine kQ2 [2] ?_
 refine WC.ret (toX (.inl rfl) (I2 (h':=lnR b a5 ts.tail.length u5::h) (.inl rfl) rfl (A4 b0f rfl rfl rfl Me rfl) (View.le.refl m) Sb ?_))
 exact⟨_,_,_,_,[],hq,⟨g0 6 [] A3 A3 B5 B5 A3,rfl,rfl,gok (by decide) (Nat.zero_le _) (F1 _ _) (F1 _ _) (F3 _ _) (F3 _ _) (F1 _ _)⟩,hk5,rfl⟩
 replace he5:=he5.trans (if_neg (H3 c5))
 subst r5
 rw[if_neg (H3 c5)] at hq
 refine kQ0 [0,2] ?_
 refine kA2 ?_
 refine xG (PO.makeFunc (E1 Et) Evs.nil) ?_
 refine WL.perm (Del.perm (r:=lnR b a5 ts.length u5) De) ?_
 refine A1 Ev.func (E4 Et Ev.const Ev.const Et) (a0D 109 M2 [44] 8 b a5 u5 ts _ _ hk5 (hs.trans Sb) (by decide) (fun a c ts h hk hs=>T8 hg b a c ts h _ hk hs)) Lb (fun v hv hx=>?_) fun v10 h10 hr10=>?_
 · obtain⟨e,hx1,rfl,rfl⟩:=hx;rw[hx1] at hq;exact lnP Tryz.f174 hq Sb
 obtain⟨x10,r10,a10,u10,bl10,hM10,⟨s10,rfl,rfl,hO10⟩,hk10,rfl⟩:=hr10
 refine WL.perm ((Mv.perm (by (repeat (first | apply Mv.cons | exact Mv.stop)))).cons _) ?_
 rw[hM10,I1] at hq
 refine kQ2 [2] ?_
 refine WC.ret (toX (.inl rfl) (I2 (h':=lnR b a10 r10.length u10::(bl10++h)) (.inl rfl) rfl (A4 b0f rfl rfl rfl Me rfl) (View.le.refl m) Sb ?_))
 exact⟨_,_,_,_,bl10,hq,⟨g0 5 [] A3 A3 B5 s10 A3,rfl,rfl,gok (by decide) (Nat.zero_le _) (F1 _ _) (F1 _ _) (F3 _ _) hO10 (F1 _ _)⟩,hk10,rfl⟩
theorem c3M {m:View} (hg:Glob m) (b:Nat) (a:Option Addr) (c:Nat) (ts:List Tok) (h hT:List Res) (hk:Tk2 m hT a c ts) (hs:hT.Sublist h):LnX m 126 [ptV b] b a c ts hT h (b3o ts) (OG m):=by
 have hq:b3o ts=O9 (V9 ts) fun n r=>if isM 5 [59] r then O9 (P9 L3 [59] 8 r.tail) fun l r=>.ok (guM 7 n A3 A3 l [] A3,r) else .ok (guM 7 n A3 A3 [] [] A3,r):=rfl
 refine CX.body Tryz.call126 Tryz.func126 rfl Tryz.ntmps126 Lb rfl ?_
 refine j0 ?_
 refine xW fun b2=>?_
 refine kQ0 [0,2] ?_
 refine kA1 ?_
 refine WL.perm (Del.perm (r:=lnR b a ts.length c) De) ?_
 refine A1 Ev.func (E1 Et) (a0Z b a c ts _ _ hk (hs.trans Sb)) Lb (fun v hv hx=>?_) fun v5 h5 hr5=>?_
 · obtain⟨e,hx1,rfl,rfl⟩:=hx;rw[hx1] at hq;exact lnP Tryz.f126 hq Sb
 obtain⟨x5,r5,a5,u5,hM5,⟨rfl,hw5⟩,hk5,rfl⟩:=hr5
 rw[hM5,I1] at hq
 refine kA1 ?_
 refine xW fun b3=>?_
 refine kQ1 [0,2,3] ?_
 refine kA1 ?_
 refine xf (E1 Ev.const) (H0 _ _ _) ?_
 refine WL.perm (Del.perm (r:=lnR b a5 r5.length u5) De) ?_
 refine xg (E2 Et Et) (K5 b a5 u5 r5 _ _ _ hk5 (hs.trans Sb)) ?_
 rintro _ _ ⟨a9,u9,r9,rfl,he9,hk9,rfl⟩
 refine kP0 [0,2,3,9] ?_
 refine H7 KKh [2,3] rfl (fun F' h'=>∃ l:Sli Ex,∃ bl:List Res,∃ x:Option Addr,∃ y:Nat,∃ r:List Tok,(LOk m bl l∧Tk2 m hT x y r∧b3o ts=.ok (guM 7 x5 A3 A3 (l.l.map C1) [] A3,r))∧F'=[]∧lnR b x r.length y::gR b3 (g0 7 x5 A3 A3 l B5 A3)::gR b2 (g0 0 [] A3 A3 B5 B5 A3)::(bl++h)=h') ?_ ?_
 refine jE ?_
 refine wc (fun c9=>?_) fun c9=>?_
 replace he9:=he9.trans (if_pos c9)
 subst r9
 rw[if_pos c9] at hq
 refine kA2 ?_
 refine xG (PO.makeFunc (E1 Et) Evs.nil) ?_
 refine WL.perm (Del.perm (r:=lnR b a9 r5.tail.length u9) De) ?_
 refine A1 Ev.func (E4 Et Ev.const Ev.const Et) (a0D 112 L3 [59] 8 b a9 u9 r5.tail _ _ hk9 (hs.trans Sb) (by decide) (fun a c ts h hk hs=>a0r hg b a c ts h _ hk hs)) Lb (fun v hv hx=>?_) fun v13 h13 hr13=>?_
 · obtain⟨e,hx1,rfl,rfl⟩:=hx;rw[hx1] at hq;exact lnP Tryz.f126 hq Sb
 obtain⟨x13,r13,a13,u13,bl13,hM13,⟨s13,rfl,rfl,hO13⟩,hk13,rfl⟩:=hr13
 refine WL.perm ((Mv.perm (by (repeat (first | apply Mv.cons | exact Mv.stop)))).cons _) ?_
 rw[hM13,I1] at hq
 refine kA2 ?_
 refine WL.nil (D0 [] (h'':=lnR b a13 r13.length u13::gR b3 (g0 7 x5 A3 A3 s13 B5 A3)::gR b2 (g0 0 [] A3 A3 B5 B5 A3)::(bl13++h)) ?_ Su Sb ⟨s13,bl13,a13,u13,r13,⟨hO13,hk13,hq⟩,rfl,rfl⟩)
 exact Su
 replace he9:=he9.trans (if_neg (H3 c9))
 subst r9
 rw[if_neg (H3 c9)] at hq
 refine WC.skip (D0 [] (h'':=lnR b a9 r5.length u9::gR b3 (g0 7 x5 A3 A3 B5 B5 A3)::gR b2 (g0 0 [] A3 A3 B5 B5 A3)::(([])++h)) ?_ Su Sb ⟨B5,[],a9,u9,r5,⟨F3 _ _,hk9,hq⟩,rfl,rfl⟩)
 exact Su
 rintro _ _ ⟨l,bl,x,y,r,⟨hL,hk1,hq⟩,rfl,rfl⟩
 refine B3 rfl ?_
 refine kQ2 [2] ?_
 refine WC.ret (toX (.inl rfl) (I2 (h':=lnR b x r.length y::(bl++h)) (.inl rfl) rfl (A4 b0f rfl rfl rfl Me rfl) (View.le.refl m) Sb ?_))
 exact⟨_,_,_,_,bl,hq,⟨g0 7 x5 A3 A3 l B5 A3,rfl,rfl,gok (by decide) hw5 (F1 _ _) (F1 _ _) hL (F3 _ _) (F1 _ _)⟩,hk1,rfl⟩
end Go.Proofs.YtkemgjnejlkkcaaGreatDoor
end
section
namespace Go.Proofs.YtkemgjnejlkkcaaGreatDoor
set_option maxRecDepth 100000
set_option maxHeartbeats 2000000
open Go.Eng Go.Lx Go.Ty
theorem c2v (b:Nat) (line:B) (p:Nat) (h:List Res) (m:View) (hr:rdr b line p ∈ h) (hp:p < line.length) (hs:line.length≤140737488355328):CT Tryz.prog 179 [.pointer (some ⟨b,0,none⟩)] h m (A7 h (tkR (a06 (line.drop p)))):=by
 have hl0:(line.drop p).length=line.length - p:=List.length_drop
 have hl':((line.drop p).drop 1).length≤9223372036854775807:=by rw[List.length_drop];omega
 have hl2:((line.drop p).drop 1).length≤140737488355328:=by rw[List.length_drop];omega
 have hle:=b1C ((line.drop p).drop 1)
 generalize hs0:(line.drop p).drop 1=s at *
 have hq:(L0 s).2 < s.length→s[(L0 s).2]?=some (s.getD (L0 s).2 0):=fun hi=>by rw[List.getD_eq_getElem?_getD,List.getElem?_eq_getElem hi];rfl
 refine CT.body Tryz.call179 Tryz.func179 rfl Tryz.ntmps179 Lb rfl ?_
 refine j0 ?_
 refine xW fun b2=>?_
 refine kQ1 [0,2] ?_
 refine kA1 ?_
 refine xf (E1 Et) (a0S b line p _ _ (List.Mem.tail _ hr) (by omega)) ?_
 refine xG (a4T uu9 Et Ev.const (l:=1) rfl (by omega)) ?_
 refine WL.val (v':=str s) (congrArg str hs0) ?_
 refine kQ1 [2,4] ?_
 refine kA1 ?_
 refine xf (E1 Et) (c1K s _ _ hl') ?_
 refine kQ5 [2,4,5,6] ?_
 refine kA5 ?_
 refine zG (fun hc=>I0 uu9 (Eg hc)) ?_
 refine kA5 ?_
 refine E8 (GU.f rfl rfl) (fun hc=>G9 uu9 (Eg hc) (Eg hc) rfl (hq (by simp at hc;omega))) Lb ?_
 refine kQ2 [2,5,6,28] ?_
 refine wc (fun c28=>?_) fun c28=>?_
 have d28:noQ s (L0 s).2=true:=c28
 refine kQ3 [2,3] ?_
 refine WC.ret (J3 (h':=h) (.inl rfl) rfl (A4 H9 rfl rfl rfl Me rfl) (RV.tmp rfl) (View.le.refl m) Sb ?_)
 exact⟨by unfold a06;rw[hs0,d28];rfl,rfl⟩
 have d28:noQ s (L0 s).2=false:=c28
 refine kQ0 [2,5,6] ?_
 refine kQ6 [2,3] ?_
 refine WC.ret (J3 (h':=h) (.inl rfl) rfl (A4 H9 rfl rfl rfl Me rfl) (RV.tmp rfl) (View.le.refl m) Sb ?_)
 exact⟨by unfold a06;rw[hs0,d28];rfl,rfl⟩
theorem c1x (b:Nat) (line:B) (p:Nat) (h:List Res) (m:View) (hg:Glob m) (hr:rdr b line p ∈ h) (hp:p≤line.length) (hs:line.length≤140737488355328):CT Tryz.prog 180 [.pointer (some ⟨b,0,none⟩)] h m (A7 h (tkR (a6E (line.drop p)))):=by
 have hl:(line.drop p).length≤140737488355328:=by rw[List.length_drop];omega
 have hE:=b7J (line.drop p)
 refine CT.body Tryz.call180 Tryz.func180 rfl Tryz.ntmps180 Lb rfl ?_
 refine j0 ?_
 refine xW fun b2=>?_
 refine kQ1 [0,2] ?_
 refine kA1 ?_
 refine xf (E1 Et) (a0S b line p _ _ (List.Mem.tail _ hr) hp) ?_
 refine xG (I0 uu9 Et) ?_
 refine xG (PO.min Ev.const Et) ?_
 refine WL.val (v':=.int .i64 ((min 2 (line.drop p).length:Nat):Int)) (congrArg (Value.int .i64) (by omega)) ?_
 refine kQ1 [0,2,4] ?_
 refine B1 [0,2] rfl (fun μ F' h'=>∃ k:Nat,((k≤2∧k≤(line.drop p).length)∧a6E (line.drop p)=a7X (line.drop p) k)∧k=μ∧F'=[(4,.int .i64 k)]∧.pt b2 (.cells (B4 zeroK).toArray 106 (0,0))::h=h') (((min 2 (line.drop p).length:Nat))) [(4,.int .i64 ((min 2 (line.drop p).length:Nat)))] (h0:=.pt b2 (.cells (B4 zeroK).toArray 106 (0,0))::h) ?_ Sb ⟨(min 2 (line.drop p).length:Nat),⟨by omega,hE⟩,rfl,rfl,rfl⟩ ?_
 exact Su
 rintro _ _ _ ⟨k,⟨hk,hJ⟩,rfl,rfl,rfl⟩
 refine B3 rfl ?_
 refine kQ2 [0,2,4,11] ?_
 refine wc (fun c11=>?_) fun c11=>?_
 replace c11:=dT c11
 obtain⟨j,rfl⟩:∃ j,k=j+1:=⟨k - 1,by omega⟩
 rw[a7X] at hJ
 refine kQ0 [0,2,4] ?_
 refine kA1 ?_
 refine xf (E1 Et) (a0S b line p _ _ (List.Mem.tail _ hr) hp) ?_
 refine kA1 ?_
 refine xG (a4F uu9 Et Et rfl (by omega)) ?_
 refine kQ1 [0,2,4,5] ?_
 refine kA1 ?_
 refine xf (E1 Et) (b1u _ _ _ hg) ?_
 refine kQ0 [0,2,4,5,19] ?_
 refine wc (fun c19=>?_) fun c19=>?_
 rw[c19] at hJ
 refine kQ5 [2,3] ?_
 refine WC.ret (J3 (h':=h) (.inl rfl) rfl (A4 H9 rfl rfl rfl Me rfl) (RV.tmp rfl) (View.le.refl m) Sb ?_)
 exact⟨by rw[hJ];rfl,rfl⟩
 rw[c19] at hJ
 refine kQ0 [0,2,4] ?_
 refine kA1 ?_
 refine xG (P4 Et Ev.const (by omega)) ?_
 refine kA1 ?_
 refine WL.nil (A6 (j) [(4,.int .i64 j)] (h'':=.pt b2 (.cells (B4 zeroK).toArray 106 (0,0))::h) (by omega) ?_ Su Sb ⟨j,⟨by omega,by simpa using hJ⟩,rfl,rfl,rfl⟩)
 exact Su
 replace c11:=dF c11
 have e:k=0:=by omega
 subst e
 refine kQ0 [2] ?_
 refine kQ3 [2,3] ?_
 refine WC.ret (J3 (h':=h) (.inl rfl) rfl (A4 H9 rfl rfl rfl Me rfl) (RV.tmp rfl) (View.le.refl m) Sb ?_)
 exact⟨by rw[hJ];rfl,rfl⟩
def nxF (c:UInt8):FuncId:=if ltr c.toNat then 175 else if dig c.toNat then 177 else if (c.toNat:Int)==35 then 178 else if (c.toNat:Int)==39 then 179 else 180
theorem b5V (b:Nat) (line:B) (p:Nat) (c:UInt8) (h:List Res) (m:View) (hr:rdr b line p ∈ h) (hc:line[p]?=some c):CT Tryz.prog 127 [.pointer (some ⟨b,0,none⟩)] h m (A7 h (.func (.func (nxF c)) #[.pointer (some ⟨b,0,none⟩)] #[])):=by
 have hp:p < line.length:=(List.getElem?_eq_some_iff.1 hc).1
 refine CT.body Tryz.call127 Tryz.func127 rfl Tryz.ntmps127 Lb rfl ?_
 refine kQ1 [0] ?_
 refine dS [] (.op 0 (.op 1 (.op 2 (.op 3 (.op 4 (.op 5 (.op 6 (.op 7 .nil)))))))) [8,9] D8 ?_
 refine kA3 ?_
 refine yG rfl (D4 uu9 rfl Et hr rfl) ?_
 refine kA3 ?_
 refine yG rfl (D4 uu3 rfl Et hr rfl) ?_
 refine SR.nil rfl rfl ?_
 refine xG (G9 uu9 Et Et rfl (by assumption)) ?_
 refine kQ1 [0,3] ?_
 refine kA1 ?_
 refine xf (E1 Et) (a4e _ _ _) ?_
 refine kQ1 [0,3,13] ?_
 refine wc (fun c13=>?_) fun c13=>?_
 refine kA1 ?_
 refine xG (PO.makeFunc (E1 Et) Evs.nil) ?_
 refine kQ1 [2] ?_
 refine WC.ret (wR (h) ?_)
 exact⟨by unfold nxF;rw[c13];rfl,rfl⟩
 refine kA1 ?_
 refine xf (E1 Et) (a8h _ _ _) ?_
 refine kQ1 [0,3,18] ?_
 refine wc (fun c18=>?_) fun c18=>?_
 refine kA1 ?_
 refine xG (PO.makeFunc (E1 Et) Evs.nil) ?_
 refine kQ1 [2] ?_
 refine WC.ret (wR (h) ?_)
 exact⟨by unfold nxF;rw[c13,c18];rfl,rfl⟩
 refine kQ3 [0,3,23] ?_
 refine wc (fun c23=>?_) fun c23=>?_
 refine kA1 ?_
 refine xG (PO.makeFunc (E1 Et) Evs.nil) ?_
 refine kQ1 [2] ?_
 refine WC.ret (wR (h) ?_)
 exact⟨by unfold nxF;rw[c13,c18,c23];rfl,rfl⟩
 refine kQ3 [0,28] ?_
 refine wc (fun c28=>?_) fun c28=>?_
 refine kA1 ?_
 refine xG (PO.makeFunc (E1 Et) Evs.nil) ?_
 refine kQ1 [2] ?_
 refine WC.ret (wR (h) ?_)
 exact⟨by unfold nxF;rw[c13,c18,c23,c28];rfl,rfl⟩
 refine kQ0 [0] ?_
 refine kA1 ?_
 refine xG (PO.makeFunc (E1 Et) Evs.nil) ?_
 refine kQ1 [2] ?_
 refine WC.ret (wR (h) ?_)
 exact⟨by unfold nxF;rw[c13,c18,c23,c28];rfl,rfl⟩
theorem c0N (b:Nat) (line:B) (p:Nat) (c:UInt8) (h:List Res) (m:View) (hg:Glob m) (hr:rdr b line p ∈ h) (hc:line[p]?=some c) (hs:line.length≤140737488355328):CT Tryz.prog (nxF c) [.pointer (some ⟨b,0,none⟩)] h m (A7 h (tkR (tok (line.drop p)))):=by
 have hp:p < line.length:=(List.getElem?_eq_some_iff.1 hc).1
 have e0:chB (line.drop p) 0=(c.toNat:Int):=b1f (by rw[List.getElem?_drop];simpa using hc)
 unfold nxF tok
 rw[e0]
 split
 · exact b6q b line p h m hg hr (by omega) hs
 · split
   · exact c3b b line p h m hr (by omega) hs
   · split
     · exact c4x b line p h m hr hp hs
     · split
       · exact c2v b line p h m hr hp hs
       · exact c1x b line p h m hg hr (by omega) hs
def c5X (h:List Res) (o:List Tok × Int × Int):Value→View→List Res→Prop:=fun v _ h'=>∃ a c,v=.tuple #[.slice a o.1.length c,.int .i64 o.2.1,.int .i64 o.2.2]∧h'=.row (.slice a o.1.length c) 106 4 o.1.length (fl B4 o.1)::h
theorem b1X (line:B) (h:List Res) (m:View) (hg:Glob m) (hs:line.length≤140737488355328):CT Tryz.prog 54 [str line] h m (c5X h (lexO line)):=by
 refine CT.body Tryz.call54 Tryz.func54 rfl Tryz.ntmps54 Lb rfl ?_
 refine j0 ?_
 refine WL.addNil 106 4 ?_
 refine kQ3 [0,2] ?_
 refine kA1 ?_
 refine xG (I0 uu9 Et) ?_
 refine kQ1 [0,2,10] ?_
 refine wc (fun c10=>?_) fun c10=>?_
 refine kQ3 [2,3,4] ?_
 refine WC.ret (a8W (h':=.row (.slice none 0 0) 106 4 0 []::h) (.inl rfl) rfl (RV.tmp rfl) (RV.tmp rfl) (RV.tmp rfl) (View.le.refl m) Sb ?_)
 exact⟨none,0,by rw[a46 c10];rfl,by rw[a46 c10];rfl⟩
 have h256:line.length≤256:=by have:=of_decide_eq_false c10;omega
 have hO:=a4W c10
 refine kQ0 [0,2] ?_
 refine kA2 ?_
 refine xX fun b13=>?_
 refine kQ1 [0,2,5] ?_
 refine B1 [0,5] rfl (fun μ F' h'=>∃ p:Nat,∃ n:Nat,∃ l:List Tok,∃ a:Option Addr,∃ c:Nat,((p≤line.length∧n≤p∧l.length=n)∧lx line 0=a5Q l (lx (line.drop p) p))∧line.length - p=μ∧F'=[(2,.slice a n c)]∧rdr b13 line p::.row (.slice a n c) 106 4 n (fl B4 l)::h=h') (line.length - 0) [(2,.slice none 0 0)] (h0:=rdr b13 line 0::.row (.slice none 0 0) 106 4 0 (fl B4 ([]))::h) ?_ Sb ⟨0,0,[],none,0,⟨⟨by omega,by decide,rfl⟩,by rw[b7I];rfl⟩,rfl,rfl,rfl⟩ ?_
 exact Su
 rintro _ _ _ ⟨p,n,l,a,c,⟨⟨hp,hnp,hl⟩,hJ⟩,rfl,rfl,rfl⟩
 refine B3 rfl ?_
 refine kA5 ?_
 refine xG (I0 uu9 Et) ?_
 refine kQ1 [0,2,5,20] ?_
 refine wc (fun c20=>?_) fun c20=>?_
 replace c20:=dT c20
 obtain⟨x,hx⟩:=A5 (l:=line) (k:=p) (by omega)
 refine kQ0 [0,2,5] ?_
 refine kA5 ?_
 refine xG (G9 uu9 Et Et rfl (by assumption)) ?_
 refine kQ1 [0,2,5,27] ?_
 refine wc (fun c27=>?_) fun c27=>?_
 rw[b5j] at c27
 have hx32:line[p]?=some 32:=by rw[hx,eq_of_beq c27]
 refine kQ8 [0,2,5] ?_
 refine WC.exit (A6 (line.length - (p+1)) [(2,.slice a n c)] (h'':=rdr b13 line (p+1)::.row (.slice a n c) 106 4 n (fl B4 l)::h) (by omega) ?_ Su Sb ⟨p+1,n,l,a,c,⟨⟨by omega,by omega,hl⟩,b3K hx32 hJ⟩,rfl,rfl,rfl⟩)
 exact Su
 rw[b5j] at c27
 have hne:x≠32:=by simpa using c27
 have hn:=b4k (line.drop p)
 rw[List.length_drop] at hn
 refine kQ0 [0,2,5] ?_
 refine kA1 ?_
 refine xf (E1 Et) (b5V b13 line p x _ _ Me hx) ?_
 refine M7 (Ev.tmp rfl) Evs.nil (c0N b13 line p x _ _ hg Me hx hs) Lb ?_
 refine kA3 ?_
 refine xW fun b6=>?_
 refine kQ2 [0,2,5,6,7] ?_
 refine kQ2 [0,2,5,6,7,42] ?_
 refine wc (fun c42=>?_) fun c42=>?_
 have hn0:(tok (line.drop p)).2=0:=by simp at c42;omega
 have hE:=b8k hx hne hn0 hJ
 refine jE ?_
 refine dS [] (.op 0 (.op 1 (.op 2 (.op 3 (.op 4 .nil))))) [5,6] D8 ?_
 refine kA4 ?_
 refine yG rfl (PO.assign Ev.const) ?_
 refine SR.nil rfl rfl ?_
 refine WL.addNil 106 4 ?_
 refine kQ2 [2,3,4] ?_
 refine WC.ret (a8W (h':=.row (.slice none 0 0) 106 4 0 []::h) (.inl rfl) rfl (RV.tmp rfl) (RV.tmp rfl) (RV.tmp rfl) (View.le.refl m) Sb ?_)
 exact⟨none,0,by rw[hO,hE];rfl,by rw[hO,hE];rfl⟩
 have hn0:(tok (line.drop p)).2≠0:=by simp at c42;omega
 have hE:=b9H hx hne hn0 hJ
 refine kQ0 [0,2,5,6,7] ?_
 refine kQ6 [0,2,5,6,7] ?_
 refine kA2 ?_
 refine xY A9 (EvP.cons Et EvP.nil) fun b54=>?_
 refine xD A9 (Ev.tmp rfl) (Ev.tmp rfl) rfl (F7 (enc:=B4) _ ({ (tok (line.drop p)).1 with at_:=p })) fun a55 c55=>?_
 refine kQ1 [0,2,5,7] ?_
 refine kA5 ?_
 refine xG (I7 Et Et (by omega)) ?_
 refine kA3 ?_
 refine WL.nil (A6 (line.length - (p+(tok (line.drop p)).2)) [(2,.slice a55 (n+1) c55)] (h'':=rdr b13 line (p+(tok (line.drop p)).2)::.row (.slice a55 (n+1) c55) 106 4 (n+1) (fl B4 (l++[{ (tok (line.drop p)).1 with at_:=p }]))::h) (by omega) ?_ Su Sb ⟨p+(tok (line.drop p)).2,n+1,l++[{ (tok (line.drop p)).1 with at_:=p }],a55,c55,⟨⟨by omega,by omega,by rw[List.length_append,List.length_singleton,hl]⟩,hE⟩,rfl,rfl,rfl⟩)
 exact Su
 replace c20:=dF c20
 rw[List.drop_eq_nil_of_le (by omega),c3G] at hJ
 have hE:lx line 0=.ok l:=by rw[hJ];simp[a5Q]
 subst hl
 refine kQ0 [2] ?_
 refine kQ4 [2,3,4] ?_
 refine WC.ret (a8W (h':=.row (.slice a l.length c) 106 4 l.length (fl B4 l)::h) (.inl rfl) rfl (RV.tmp rfl) (RV.tmp rfl) (RV.tmp rfl) (View.le.refl m) Sb ?_)
 exact⟨a,c,by rw[hO,hE];rfl,by rw[hO,hE];rfl⟩
end Go.Proofs.YtkemgjnejlkkcaaGreatDoor
end
section
namespace Go.Proofs.YtkemgjnejlkkcaaGreatDoor
set_option maxRecDepth 100000
set_option maxHeartbeats 2000000
open Go.Eng Go.Pc Go.Sx Go
open Go.Xp hiding B D9
open Go.Ty (Ty Vr Tok eqT tyV J2 B4 B7 S1 zeroK M5 D6)
open Go.Lx (encB D1 lexO)
open Go.Ly (Rw I6 C7)
abbrev psR (z:Pz) (i:Nat):Res:=.pt z.bp (.cells [.slice z.ra z.R.length z.rc,.int .i64 (i:Nat)].toArray 68 (0,0))
abbrev tkW (a:Option Addr) (c:Nat) (ts:List Tok):Res:=.row (.slice a ts.length c) 106 4 ts.length (fl B4 ts)
abbrev prR (b:Nat) (p:Pr):Res:=.pt b (.cells (prE p).toArray 52 (0,0))
abbrev PrE {β:Type} (z:Pz) (M:Except (Int × Nat) β) (h:List Res) (v:Value) (h':List Res):Prop:=∃ e j,M=.error (e,j)∧v=wrV e∧h'=psR z j::h
abbrev PrX {α:Type} (m:View) (z:Pz) (f:FuncId) (args:List Value) (i:Nat) (h0 h:List Res) (M:PE α) (O:α→Value→List Res→Prop):Prop:=
 CX Tryz.prog f args (psR z i::h0) m (fun v _ h'=>∃ x j bl,M=.ok (x,j)∧(i < j∧j≤z.R.length)∧O x v bl∧h'=psR z j::(bl++h)) (fun v h'=>PrE z M h v h')
abbrev OP (m:View) (x:Pr) (v:Value) (bl:List Res):Prop:=∃ p,v=prV p∧stP p=x∧POk m bl p
abbrev OGs (m:View) (x:List Gu) (v:Value) (bl:List Res):Prop:=∃ a c l,v=.slice a l.length c∧l.map stG=x∧Gs m bl a c l
theorem G2 {x:Res} {l:List Res} (h:x ∈ l):[x].Sublist l:=List.singleton_sublist.2 h
theorem prP {β:Type} (fn:Func) {n:Cx} {F:Fm} {H h:List Res} {m:View} {z:Pz} {R:Value→View→List Res→Prop} {M:Except (Int × Nat) β} {e:Int} {j:Nat} (hq:M=.error (e,j)) (hd:(psR z j::h).Sublist H) (hds:n.ds=[]:=by rfl) :
   ∀ a w,Fr n F a→St m H w→bodyPost Tryz.prog fn (RX m R (fun v h'=>PrE z M h v h')) (.panic [{ v:=wrV e,recovered:=false }]) a w:=a1E (psR z j::h) (View.le.refl m) hd ⟨e,j,hq,rfl,rfl⟩ hds
theorem a5f {m:View} {z:Pz} (hz:Pok m z) (i:Nat) (d:Int) (h:List Res) (hb:psR z i ∈ h):CT Tryz.prog 55 [ptV z.bp,.int .i64 d] h m (A7 h (.bool (N6 z.R d i))):=by
 have hrd:=hz.rd.mono (View.le.refl m) (List.nil_sublist h)
 obtain⟨x,hx⟩:∃ x,x=z.R.getD i ⟨0,0,[]⟩:=⟨_,rfl⟩
 have hel:i < z.R.length→z.R[i]?=some x:=fun hq=>by rw[hx,List.getD_eq_getElem?_getD,List.getElem?_eq_getElem hq];rfl
 have hH:N6 z.R d i=(decide ((i:Int) < z.R.length)&&(x.depth==d)):=by
   unfold N6
   by_cases hq:i < z.R.length
   · rw[hel hq,decide_eq_true (by omega:(i:Int) < z.R.length)];rfl
   · rw[List.getElem?_eq_none (by omega),decide_eq_false (by omega:¬ (i:Int) < z.R.length)];rfl
 refine CT.body Tryz.call55 Tryz.func55 rfl Tryz.ntmps55 Lb rfl ?_
 refine kQ1 [0,1] ?_
 refine dS [] (.op 0 (.op 1 (.op 2 (.op 3 (.op 4 (.op 5 (.op 6 (.op 7 (.op 8 (.op 9 (.op 10 (.op 11 (.op 12 (.op 13 (.op 14 (.op 15 (.op 16 (.op 17 (.op 18 (.op 19 (.op 20 (.op 21 (.op 22 .nil))))))))))))))))))))))) [23,24,25] D8 ?_
 refine kA3 ?_
 refine yG rfl (D4 uu3 rfl Et hb rfl) ?_
 refine kA3 ?_
 refine yG rfl (D4 a6T rfl Et hb rfl) ?_
 refine yG rfl (U5 a6T Et) ?_
 refine yG rfl (O6 Et Et rfl) ?_
 refine kA1 ?_
 refine B9 rfl rfl (GU.t rfl rfl) (fun hc=>PO.move Et) Lb ?_
 refine B9 rfl rfl (GU.t rfl rfl) (fun hc=>PO.nilCheck (Eg hc)) Lb ?_
 refine B9 rfl rfl (GU.t rfl rfl) (fun hc=>PO.fieldAddr c2Z rfl (Nat.ne_of_beq_eq_false rfl) (Eg hc)) Lb ?_
 refine B9 rfl rfl (GU.t rfl rfl) (fun hc=>D4 a6T rfl (Eg hc) hb rfl) Lb ?_
 refine B9 rfl rfl (GU.t rfl rfl) (fun hc=>PO.move Et) Lb ?_
 refine B9 rfl rfl (GU.t rfl rfl) (fun hc=>PO.nilCheck (Eg hc)) Lb ?_
 refine B9 rfl rfl (GU.t rfl rfl) (fun hc=>PO.fieldAddr c2Z rfl (Nat.ne_of_beq_eq_false rfl) (Eg hc)) Lb ?_
 refine B9 rfl rfl (GU.t rfl rfl) (fun hc=>D4 uu3 rfl (Eg hc) hb rfl) Lb ?_
 refine B9 rfl rfl (GU.t rfl rfl) (fun hc=>F4 S8.und S8.size S8.posz (Eg hc) (Eg hc) Rr rfl (by simp at hc;omega)) Lb ?_
 refine B9 rfl rfl (GU.t rfl rfl) (fun hc=>F5 a6R rfl (Nat.ne_of_beq_eq_false rfl) C7 (Nat.succ_pos _) Rr (hel (by simp at hc;omega)) (Eg hc)) Lb ?_
 refine B9 rfl rfl (GU.t rfl rfl) (fun hc=>F8 uu3 rfl C7 Rr (Eg hc) (hel (by simp at hc;omega)) rfl) Lb ?_
 refine B9 rfl rfl (GU.t rfl rfl) (fun hc=>PO.move Et) Lb ?_
 refine SR.nil rfl rfl ?_
 refine kQ3 [4] ?_
 refine WC.ret (wR (h) ?_)
 exact⟨by rw[hH],rfl⟩
theorem b9Y {m:View} (hg:Glob m) (line:B) (h:List Res) (hs:line.length≤140737488355328):CX Tryz.prog 54 [str line] h m (fun v _ h'=>∃ hp',h'=hp'++h∧∃ a c,v=.tuple #[.slice a (lexO line).1.length c,.int .i64 (lexO line).2.1,.int .i64 (lexO line).2.2]∧hp'=[tkW a c (lexO line).1]) (fun _ _=>False):=
 CX.ofCT (CT.conv (b1X line h m hg hs) fun _ m' _ _ _ st ⟨a,c,e1,e2⟩=>⟨m',[tkW a c (lexO line).1]++h,View.le.refl _,by rw[e2] at st;exact st,_,rfl,a,c,e1,rfl⟩)
theorem a2O {m:View} (hg:Glob m) {z:Pz} (hz:Pok m z) (i:Nat) (d:Int) (h:List Res) (hi:i≤z.R.length):CX Tryz.prog 34 [ptV z.bp,.int .i64 d] (psR z i::h) m
   (fun v _ h'=>∃ ts b a c,Y9 z.R d i=.ok ts∧v=ptV b∧Tk2 m [tkW a c ts] a c ts∧h'=lnR b a ts.length c::tkW a c ts::psR z i::h) (fun v h'=>PrE z (Y9 z.R d i) h v h'):=by
 have hrd:=hz.rd.mono (View.le.refl m) (List.nil_sublist (psR z i::h))
 obtain⟨x,hx⟩:∃ x,x=z.R.getD i ⟨0,0,[]⟩:=⟨_,rfl⟩
 have hel:i < z.R.length→z.R[i]?=some x:=fun hq=>by rw[hx,List.getD_eq_getElem?_getD,List.getElem?_eq_getElem hq];rfl
 have hq:Y9 z.R d i=if i < z.R.length then (if (lexO x.text).2.2≠0 then .error ((lexO x.text).2.2,i) else if x.depth≠d then .error (110,i) else .ok (lexO x.text).1) else .error (110,i):=by
   by_cases hq:i < z.R.length
   · rw[if_pos hq];unfold Y9;rw[hel hq]
   · rw[if_neg hq];exact a2F (by omega)
 have hH:i < z.R.length→N6 z.R d i=(x.depth==d):=fun hq=>by unfold N6;rw[hel hq]
 refine CX.body Tryz.call34 Tryz.func34 rfl Tryz.ntmps34 Lb rfl ?_
 refine kQ1 [0,1] ?_
 refine dS [] (.op 0 (.op 1 (.op 2 (.op 3 (.op 4 (.op 5 (.op 6 (.op 7 (.op 8 .nil))))))))) [9] D8 ?_
 refine kA8 ?_
 refine yG rfl (U5 a6T Et) ?_
 refine SR.nil rfl rfl ?_
 refine kQ1 [0,1,17] ?_
 refine wc (fun c17=>?_) fun c17=>?_
 replace c17:=G4 c17
 rw[if_neg (by omega)] at hq
 refine j0 ?_
 refine A1 Ev.func Evs.nil (I4 _ _) Lb (fun v hv hx=>?_) fun v18 h18 hr18=>?_
 · obtain⟨rfl,rfl⟩:=hx;exact prP Tryz.f34 hq Sb
 exact hr18.elim
 replace c17:=G3 c17
 have hi2:i < z.R.length:=by omega
 rw[if_pos hi2] at hq
 have hel:=hel hi2
 have hH:=hH hi2
 have htx:=(hz.ok.2 x (List.mem_of_getElem? hel)).2.2
 refine kQ0 [0,1] ?_
 refine G1 [11] (.op 0 (.op 1 (.op 2 (.op 3 (.op 4 (.op 5 (.op 6 (.op 7 (.op 8 (.op 9 (.op 10 (.op 11 (.op 12 (.op 13 (.op 14 (.op 15 .nil)))))))))))))))) [16,17,18] _ [] D8 (fun _ _ _ _ _ h=>h) [14,15] (by kernel_rfl) ?_
 refine kA8 ?_
 refine yG rfl (F4 S8.und S8.size S8.posz (Ev.tmp rfl) (Ev.tmp rfl) Rr rfl (q:=i) (by omega)) ?_
 refine kA2 ?_
 refine a1x rfl rfl Ev.func (E1 Et) (fun fr=>b9Y hg x.text _ (by omega)) Lb (fun fr v hv hx=>?_) fun v31 h31 hr31=>?_
 · exact hx.elim
 obtain⟨a31,c31,rfl,rfl⟩:=hr31
 refine kA1 ?_
 refine yG rfl (PO.extract Et rfl) ?_
 refine yG rfl (PO.extract Et rfl) ?_
 refine yG rfl (PO.extract Et rfl) ?_
 refine SR.nil rfl rfl ?_
 refine kQ3 [0,1,5,7] ?_
 refine kQ2 [0,1,5,7,36] ?_
 refine wc (fun c36=>?_) fun c36=>?_
 replace c36:=a1p c36
 rw[if_pos c36] at hq
 refine kA2 ?_
 refine xG (V5 c1D Et) ?_
 refine WL.panic Et (a1E (P:=Tryz.prog) (fn:=Tryz.f34) (psR z i::h) (View.le.refl m) Sb ?_)
 exact⟨_,_,hq,rfl,rfl⟩
 replace c36:=a1y c36
 rw[if_neg (by omega)] at hq
 refine kQ0 [0,1,5] ?_
 refine kA2 ?_
 refine xf (E2 Et Et) (CT.val (a5f hz i d _ Me) (congrArg Value.bool hH)) ?_
 refine kQ1 [5,43] ?_
 refine wc (fun c43=>?_) fun c43=>?_
 have d43:x.depth≠d:=by simpa using c43
 rw[if_pos d43] at hq
 refine j0 ?_
 refine A1 Ev.func Evs.nil (I4 _ _) Lb (fun v hv hx=>?_) fun v44 h44 hr44=>?_
 · obtain⟨rfl,rfl⟩:=hx;exact prP Tryz.f34 hq Sb
 exact hr44.elim
 have d43:x.depth=d:=by simpa using c43
 rw[if_neg (by rw[d43];exact fun q=>q rfl)] at hq
 have hb:=a8z x.text
 refine P7 (a:=a31) Me fun p31 q31 r31=>?_
 refine kQ0 [5] ?_
 refine kA2 ?_
 refine xX fun b47=>?_
 refine kQ1 [4] ?_
 refine WC.ret (toX (.inl rfl) (I2 (h':=lnR b47 a31 (lexO x.text).1.length c31::tkW a31 c31 (lexO x.text).1::psR z i::h) (.inl rfl) rfl (RV.tmp rfl) (View.le.refl m) Sb ?_))
 exact⟨(lexO x.text).1,b47,a31,c31,hq,rfl,⟨⟨Rd.inRow (List.Mem.head _) r31 p31 q31,by omega,c0H _⟩,fun t ht=>(hb.2 t ht).2⟩,rfl⟩
theorem L1 {m:View} {z:Pz} (hz:Pok m z) (i:Nat) (b:Nat) (a:Option Addr) (c:Nat) (ts:List Tok) (h:List Res) (hi:i≤z.R.length):CX Tryz.prog 105 [ptV z.bp,ptV b] (psR z i::lnR b a ts.length c::h) m
   (fun _ _ h'=>ts=[]∧h'=psR z (i+1)::h) (fun v h'=>ts≠[]∧v=wrV 110∧h'=psR z i::h):=by
 have hR:=hz.ok.1
 refine CX.body Tryz.call105 Tryz.func105 rfl Tryz.ntmps105 Lb rfl ?_
 refine kQ6 [0,9] ?_
 refine wc (fun c9=>?_) fun c9=>?_
 replace c9:=dT c9
 refine j0 ?_
 refine A1 Ev.func Evs.nil (I4 _ _) Lb (fun v hv hx=>?_) fun v10 h10 hr10=>?_
 · obtain⟨rfl,rfl⟩:=hx
   exact a1E (P:=Tryz.prog) (fn:=Tryz.f105) (psR z i::h) (View.le.refl m) Sb ⟨by rintro rfl;simp at c9,rfl,rfl⟩
 exact hr10.elim
 replace c9:=dF c9
 refine kQ0 [0] ?_
 refine kA5 ?_
 refine WL.val (v':=.int .i64 ((i+1:Nat):Int)) (congrArg (Value.int .i64) (by omega)) ?_
 refine kA3 ?_
 refine WL.nil (toX (.inr rfl) (W1 (h':=psR z (i+1)::h) (.inr rfl) rfl  (View.le.refl m) Sb ?_))
 exact⟨List.eq_nil_of_length_eq_zero (by omega),rfl⟩
theorem b0x {m:View} (hg:Glob m) {z:Pz} (hz:Pok m z) (i:Nat) (d:Int) (u:Tok) (a1:Option Addr) (c1:Nat) (h:List Res) (hi:i≤z.R.length) (hu:Rd m h a1 1 c1 4 (fl B4 [u])) :
   CX Tryz.prog 106 [ptV z.bp,.int .i64 d,.slice a1 1 c1] (psR z i::h) m
   (fun _ _ h'=>i < z.R.length∧(∀ (β:Type) (f:Nat→PE β),a0Q z.R d u.kind u.text i f=f (i+1))∧h'=psR z (i+1)::h) (fun v h'=>∃ e,(∀ (β:Type) (f:Nat→PE β),a0Q z.R d u.kind u.text i f=.error (e,i))∧v=wrV e∧h'=psR z i::h):=by
 have hR:=hz.ok.1
 have hq:∀ (β:Type) (f:Nat→PE β),a0Q z.R d u.kind u.text i f=a03 z.R d i fun ts=>V7 u.kind u.text ts i fun r=>F9 r i f:=fun _ _=>rfl
 refine CX.body Tryz.call106 Tryz.func106 rfl Tryz.ntmps106 Lb rfl ?_
 refine kA2 ?_
 refine WL.perm (Del.perm (r:=psR z i) De) ?_
 refine A1 Ev.func (E2 Et Et) (a2O hg hz i _ _ (by omega)) Lb (fun v hv hx=>?_) fun v9 h9 hr9=>?_
 · obtain⟨e,j,hx1,rfl,rfl⟩:=hx
   obtain rfl:i=j:=by
     unfold Y9 at hx1
     split at hx1
     · cases hx1;rfl
     · split at hx1
       · cases hx1;rfl
       · split at hx1
         · cases hx1;rfl
         · cases hx1
   exact a1E (P:=Tryz.prog) (fn:=Tryz.f106) (psR z i::h) (View.le.refl m) Sb ⟨e,fun β f=>(hq β f).trans (J1 hx1),rfl,rfl⟩
 obtain⟨r9,b9,a9,u9,hM9,rfl,hk9,rfl⟩:=hr9
 have ho9:=a1c hz hM9
 replace hq:∀ (β:Type) (f:Nat→PE β),a0Q z.R d u.kind u.text i f=V7 u.kind u.text r9 i fun r=>F9 r i f:=fun β f=>(hq β f).trans (a3t hM9)
 refine kQ1 [0,2,6] ?_
 refine kA2 ?_
 refine WL.perm (Del.perm (r:=lnR b9 a9 r9.length u9) De) ?_
 refine A1 Ev.func (E2 Et Et) (N7 b9 a9 u9 r9 u _ _ _ _ hk9 (G2 Me) (hu.mono (View.le.refl m) Sb)) Lb (fun v hv hx=>?_) fun v12 h12 hr12=>?_
 · obtain⟨hx1,rfl,rfl⟩:=hx
   exact a1E (P:=Tryz.prog) (fn:=Tryz.f106) (psR z i::h) (View.le.refl m) Sb ⟨_,fun β f=>(hq β f).trans (a2e hx1),rfl,rfl⟩
 obtain⟨hi12,a12,u12,hk12,rfl⟩:=hr12
 replace hq:∀ (β:Type) (f:Nat→PE β),a0Q z.R d u.kind u.text i f=F9 r9.tail i f:=fun β f=>(hq β f).trans (a1P hi12)
 refine kQ0 [0,6] ?_
 refine kA2 ?_
 refine WL.perm ((Del.perm (r:=psR z i) De).trans ((Del.perm (r:=lnR b9 a12 r9.tail.length u12) De).cons _)) ?_
 refine A1 Ev.func (E2 Et Et) (L1 hz i b9 a12 u12 r9.tail _ hi) Lb (fun v hv hx=>?_) fun v15 h15 hr15=>?_
 · obtain⟨hx1,rfl,rfl⟩:=hx
   exact a1E (P:=Tryz.prog) (fn:=Tryz.f106) (psR z i::h) (View.le.refl m) Sb ⟨_,fun β f=>(hq β f).trans (M6 hx1),rfl,rfl⟩
 obtain⟨hz15,rfl⟩:=hr15
 refine WL.nil (toX (.inr rfl) (W1 (h':=psR z (i+1)::h) (.inr rfl) rfl  (View.le.refl m) Sb ?_))
 exact⟨ho9.1.1,fun β f=>(hq β f).trans (M3 hz15),rfl⟩
abbrev p0 (k:Int) (nm:B) (ch:Ex) (tg ex:Sli Ex) (rep:Rp):Pr:=.mk k nm ch tg ex rep none 0 [] none 0 [] B5 D2
theorem b1b {m:View} {z:Pz} (hz:Pok m z) (k:Int) (i:Nat) (b:Nat) (a:Option Addr) (c:Nat) (ts:List Tok) (h:List Res) (hi:i < z.R.length) :
   CX Tryz.prog 169 [ptV z.bp,.int .u8 k,ptV b] (psR z i::lnR b a ts.length c::h) m
   (fun v _ h'=>ts=[]∧v=prV (p0 k [] A3 B5 B5 D5)∧h'=psR z (i+1)::h) (fun v h'=>ts≠[]∧v=wrV 110∧h'=psR z i::h):=by
 refine CX.body Tryz.call169 Tryz.func169 rfl Tryz.ntmps169 Lb rfl ?_
 refine j0 ?_
 refine xW fun b6=>?_
 refine kQ0 [0,1,2,6] ?_
 refine kA2 ?_
 refine WL.perm ((Del.perm (r:=psR z i) De).trans ((Del.perm (r:=lnR b a ts.length c) De).cons _)) ?_
 refine A1 Ev.func (E2 Et Et) (L1 hz i b a c ts _ (by omega)) Lb (fun v hv hx=>?_) fun v9 h9 hr9=>?_
 · obtain⟨hx1,rfl,rfl⟩:=hx
   exact a1E (P:=Tryz.prog) (fn:=Tryz.f169) (psR z i::h) (View.le.refl m) Sb ⟨hx1,rfl,rfl⟩
 obtain⟨hz9,rfl⟩:=hr9
 refine kQ0 [1,6] ?_
 refine kQ3 [6] ?_
 refine WC.ret (toX (.inl rfl) (I2 (h':=psR z (i+1)::h) (.inl rfl) rfl (A4 P3 rfl rfl rfl Me rfl) (View.le.refl m) Sb ?_))
 exact⟨hz9,rfl,rfl⟩
theorem b7m (m:View) (h:List Res) {k:Int} (hk:0≤k∧k≤255):POk m h (p0 k [] A3 B5 B5 D5):=a3f hk (Nat.zero_le _) (F1 _ _) (F3 _ _) (F3 _ _) (R4 _ _) (X9 _ _) (a2P _ _) (U9 _ _) (Q3 _ _)
end Go.Proofs.YtkemgjnejlkkcaaGreatDoor
end
section
namespace Go.Proofs.YtkemgjnejlkkcaaGreatDoor
set_option maxRecDepth 100000
set_option maxHeartbeats 2000000
open Go.Eng Go.Pc Go.Sx Go
open Go.Xp hiding B D9
open Go.Ty (Ty Vr Tok eqT tyV J2 B4 B7 S1 zeroK M5 D6)
open Go.Lx (encB D1 lexO)
open Go.Ly (Rw I6 C7)
abbrev REC (m:View) (z:Pz) (n:Nat):Prop:=∀ (i:Nat) (d:Int) (top:Bool) (h:List Res),i≤z.R.length→z.R.length≤i+n→(0≤d∧d≤34) →
 PrX m z 33 [ptV z.bp,.int .i64 d,.bool top] i h h (C0 z.R n d top i) (OP m)
abbrev QrX {α:Type} (m:View) (z:Pz) (f:FuncId) (args:List Value) (i b:Nat) (a:Option Addr) (c:Nat) (ts:List Tok) (h:List Res) (M:PE α) (O:α→Value→List Res→Prop):Prop:=PrX m z f args i (lnR b a ts.length c::h) h M O
theorem a08 {α:Type} {p:α→Prop} {x:α} (h:p x):∀ y ∈ [x],p y:=fun _ hy=>(List.mem_singleton.1 hy) ▸ h
theorem c1e {α:Type} {p:α→Prop} {x y:α} (h:p x) (h2:p y):∀ u ∈ [x,y],p u:=fun u hu=>by
 rcases List.mem_cons.1 hu with rfl | hu
 · exact h
 · exact(List.mem_singleton.1 hu) ▸ h2
abbrev exR (b:Nat) (t:Ex):Res:=.pt b (.cells (exE t).toArray 35 (0,0))
abbrev b4q (b:Nat) (p q:Pr):Res:=.pt b (.cells (prE p++prE q).toArray 52 (0,0))
theorem c4n {m:View} {h:List Res} {t:Ex} (b:Nat) (q:EOk m h t):LOk m (exR b t::h) ⟨some ⟨b,0,none⟩,1,[t]⟩:=
 ⟨Rd.ofPt rfl (by show 1≤_;decide) (List.Mem.head _),a08 (q.mono (List.sublist_cons_self _ _))⟩
theorem c4h {m:View} {z:Pz} {n:Nat} (hrec:REC m z n) (i:Nat) (d:Int) (top:Bool) (h:List Res) (h1:i≤z.R.length) (h2:z.R.length≤i+n) (h3:0≤d∧d≤34) :
   CX Tryz.prog 33 [ptV z.bp,.int .i64 d,.bool top] (psR z i::h) m (fun v _ h'=>∃ hp,h'=hp++h∧∃ p j bl,C0 z.R n d top i=.ok (stP p,j)∧(i < j∧j≤z.R.length)∧v=prV p∧POk m bl p∧hp=psR z j::bl) (fun v h'=>PrE z (C0 z.R n d top i) h v h'):=
 (hrec i d top h h1 h2 h3).mono (fun _ _ _ ⟨_,j,bl,hM,hj,⟨p,e1,e2,hO⟩,e3⟩=>⟨psR z j::bl,e3,p,j,bl,e2 ▸ hM,hj,e1,hO,rfl⟩) fun _ _ q=>q
abbrev PrY {α:Type} (m:View) (z:Pz) (f:FuncId) (args:List Value) (i:Nat) (h:List Res) (M:PE α) (O:α→Value→List Res→Prop):Prop:=
 CX Tryz.prog f args (psR z i::h) m (fun v _ h'=>∃ x j bl,M=.ok (x,j)∧(i≤j∧j≤z.R.length)∧O x v bl∧h'=psR z j::(bl++h)) (fun v h'=>PrE z M h v h')
abbrev a3s (g:Gu) (b:Nat) (p:Pr):Gu:=.mk g.k g.name g.cond g.ch g.tg g.vl g.time (some ⟨b,0,none⟩) 1 [p]
theorem b9S (g:Gu) (b:Nat) (p:Pr):stG (a3s g b p)=b5i (stG g) (stP p):=by cases g;rfl
theorem b8C {m:View} {h:List Res} {g:Gu} {b:Nat} {p:Pr} (q:GOk m h g):GOk m (prR b p::h) (a3s g b p):=
 have q:=q.mono (List.sublist_cons_self (prR b p) h)
 ⟨q.k,q.n,q.cond,q.ch,q.tg,q.vl,q.time,Rd.ofPt rfl (by show 1≤_;decide) (List.Mem.head _)⟩
theorem S9 (p:Pr):stP p=prM p.k p.name (C1 p.ch) (p.tg.l.map C1) (p.ex.l.map C1) (stR p.rep) (p.gl.map stG) (p.ll.map stP) p.pn.l (stS p.sp):=by
 cases p
 rw[stP,a8a,a3k]
 rfl
theorem a6q {m:View} (hg:Glob m) {z:Pz} (hz:Pok m z) {n:Nat} (hrec:REC m z n) (q:FuncId) (row:List Tok→E Gu) (least most:Nat) (d:Int) (i:Nat) (h:List Res) (hi:i≤z.R.length) (hf:z.R.length≤i+n+1) (hd:0≤d∧d≤33)
   (hrow:∀ (b:Nat) (a:Option Addr) (c:Nat) (ts:List Tok) (h hT:List Res),Tk2 m hT a c ts→hT.Sublist h→LnX m q [ptV b] b a c ts hT h (row ts) (OG m)) :
   PrY m z 125 [ptV z.bp,.int .i64 d,.agg #[.int .i64 least,.int .i64 most],.func (.func q) #[] #[]] i h (a07 z.R (C0 z.R n) row least most d i) (OGs m):=by
 have hR:=hz.ok.1
 refine CX.body Tryz.call125 Tryz.func125 rfl Tryz.ntmps125 Lb rfl ?_
 refine j0 ?_
 refine xX fun b6=>?_
 refine kQ1 [0,1,3,6] ?_
 refine WL.addNil 86 23 ?_
 refine kA1 ?_
 refine WL.perm (Del.perm (r:=psR z i) De) ?_
 refine kQ0 [0,1,3,6,9] ?_
 refine B1 [0,1,3,6] rfl (fun μ F' h'=>∃ a9:Option Addr,∃ c9:Nat,∃ l:List Gu,∃ bl:List Res,∃ k:Nat,∃ j:Nat,((l.length+i≤j∧j≤z.R.length∧z.R.length≤j+k)∧((∀ g ∈ l,GOk m bl g)∧∀ g ∈ l,∀ x ∈ g.bl,POk m bl x)∧a07 z.R (C0 z.R n) row least most d i=T7 z.R (C0 z.R n) row least most d k (l.map stG) j)∧k=μ∧F'=[(9,.slice a9 l.length c9)]∧psR z j::.row (.slice a9 l.length c9) 86 23 l.length (fl guE l)::.pt b6 (.cells [Value.int .i64 least,.int .i64 most].toArray 145 (0,0))::(bl++h)=h') ((z.R.length - i)) [(9,.slice none ([]).length 0)] (h0:=psR z i::.row (.slice none ([]).length 0) 86 23 ([]).length (fl guE ([]))::.pt b6 (.cells [Value.int .i64 least,.int .i64 most].toArray 145 (0,0))::(([])++h)) ?_ Sb ⟨none,0,[],[],z.R.length - i,i,⟨⟨by simp,hi,by omega⟩,⟨fun _ hx=>(List.not_mem_nil hx).elim,fun _ hx=>(List.not_mem_nil hx).elim⟩,rfl⟩,rfl,rfl,rfl⟩ ?_
 exact Su
 rintro _ _ _ ⟨a9,c9,l,bl,k,j,⟨⟨hl,hj,hk⟩,⟨hG,hS⟩,hJ⟩,rfl,rfl,rfl⟩
 refine B3 rfl ?_
 refine a7F ?_
 refine kA2 ?_
 refine A8 (Z1 rfl rfl) (fun hc=>⟨Ev.func,(E2 (Eg hc) (Eg hc)),a5f hz j d _ Me⟩) Lb ?_
 refine zG (fun hc=>R2 hc rfl rfl) ?_
 refine kQ1 [0,1,3,6,9,28] ?_
 refine wc (fun c28=>?_) fun c28=>?_
 have hlm:(l.map stG).length=l.length:=List.length_map _
 have hc:(l.map stG).length < least∨((l.map stG).length < most∧N6 z.R d j=true):=by
   simp only[Bool.or_eq_true,Bool.and_eq_true,decide_eq_true_eq] at c28
   rw[hlm]
   exact c28.imp (fun q=>by omega) fun q=>⟨by omega,q.2⟩
 have hq:=hJ.trans (b6v hk hc)
 refine kQ0 [0,1,3,6,9] ?_
 refine kA2 ?_
 refine WL.perm (Del.perm (r:=psR z j) De) ?_
 refine A1 Ev.func (E2 Et Et) (a2O hg hz j _ _ (by omega)) Lb (fun v hv hx=>?_) fun v31 h31 hr31=>?_
 · obtain⟨e,j,hx1,rfl,rfl⟩:=hx;(first | rw[hx1] at hq | rw[J1 hx1] at hq);exact prP Tryz.f125 hq Sb
 obtain⟨r31,b31,a31,u31,hM31,rfl,hk31,rfl⟩:=hr31
 have ho31:=a1c hz hM31
 rw[a3t hM31] at hq
 refine kQ1 [0,1,3,6,9,10] ?_
 refine kA2 ?_
 refine WL.perm (Del.perm (r:=lnR b31 a31 r31.length u31) De) ?_
 refine A1 (Ev.tmp rfl) (E1 (Ev.tmp rfl)) (hrow b31 a31 u31 r31 _ _ hk31 (G2 Me)) Lb (fun v hv hx=>?_) fun v34 h34 hr34=>?_
 · obtain⟨e,hx1,rfl,rfl⟩:=hx;rw[hx1] at hq;exact prP Tryz.f125 hq Sb
 obtain⟨x34,r34,a34,u34,bl34,hM34,⟨g34,rfl,rfl,hO34⟩,hk34,rfl⟩:=hr34
 refine WL.perm ((Mv.perm (by (repeat (first | apply Mv.cons | exact Mv.stop)))).cons _) ?_
 rw[hM34,I9] at hq
 refine xW fun b11=>?_
 refine kQ1 [0,1,3,6,9,10,11] ?_
 refine kA2 ?_
 refine WL.perm ((Del.perm (r:=psR z j) De).trans ((Del.perm (r:=lnR b31 a34 r34.length u34) De).cons _)) ?_
 refine A1 Ev.func (E2 Et Et) (L1 hz j b31 a34 u34 r34 _ (by omega)) Lb (fun v hv hx=>?_) fun v37 h37 hr37=>?_
 · obtain⟨hx1,rfl,rfl⟩:=hx;rw[M6 hx1] at hq;exact prP Tryz.f125 hq Sb
 obtain⟨hz37,rfl⟩:=hr37
 rw[M3 hz37] at hq
 refine kQ0 [0,1,3,6,9,11] ?_
 refine kA3 ?_
 refine WL.perm (Del.perm (r:=psR z (j+1)) De) ?_
 refine A1 Ev.func (E3 Et Et Ev.const) (hrec (j+1) _ _ _ (by omega) (by omega) (by omega)) Lb (fun v hv hx=>?_) fun v41 h41 hr41=>?_
 · obtain⟨e,j,hx1,rfl,rfl⟩:=hx;(first | rw[hx1] at hq | rw[J1 hx1] at hq);exact prP Tryz.f125 hq Sb
 obtain⟨x41,j41,bl41,hM41,hj41,⟨p41,rfl,rfl,hO41⟩,rfl⟩:=hr41
 refine WL.perm ((Mv.perm (by (repeat (first | apply Mv.cons | exact Mv.stop)))).cons _) ?_
 rw[hM41,O8] at hq
 refine xY Z9 (EvP.cons Et EvP.nil) fun b42=>?_
 refine WL.perm (Mv.perm (bl:=[_]) (by (repeat (first | apply Mv.cons | exact Mv.stop)))) ?_
 refine kQ2 [0,1,3,6,9,11] ?_
 refine kA2 ?_
 refine xY c3L (EvP.cons Et EvP.nil) fun b46=>?_
 have hln:(l++[a3s g34 b42 p41]).length=l.length+1:=List.length_append
 refine xD c3L (Ev.tmp rfl) (Ev.tmp rfl) (show l.length+1=(l++[a3s g34 b42 p41]).length by simp) (F7 (enc:=guE) _ (a3s g34 b42 p41)) fun a47 c47=>?_
 refine kA1 ?_
 rw[← List.append_assoc bl34 bl h,← List.append_assoc bl41]
 have s1:bl.Sublist (prR b42 p41::(bl41++(bl34++bl))):=(b9y bl41 bl34 bl).cons _
 have s2:(prR b42 p41::bl34).Sublist (prR b42 p41::(bl41++(bl34++bl))):=(c0e bl41 bl34 bl).cons_cons _
 have s3:bl41.Sublist (prR b42 p41::(bl41++(bl34++bl))):=(List.sublist_append_left _ _).cons _
 have hm2:(l++[a3s g34 b42 p41]).map stG=l.map stG++[b5i (stG g34) (stP p41)]:=by rw[List.map_append,List.map_singleton,b9S]
 refine WL.nil (A6 ((k - 1)) [(9,.slice a47 (l++[a3s g34 b42 p41]).length c47)] (h'':=psR z j41::.row (.slice a47 (l++[a3s g34 b42 p41]).length c47) 86 23 (l++[a3s g34 b42 p41]).length (fl guE (l++[a3s g34 b42 p41]))::.pt b6 (.cells [Value.int .i64 least,.int .i64 most].toArray 145 (0,0))::((prR b42 p41::(bl41++(bl34++bl)))++h)) (by omega) ?_ Su Sb ⟨a47,c47,l++[a3s g34 b42 p41],prR b42 p41::(bl41++(bl34++bl)),k - 1,j41,⟨⟨by omega,by omega,by omega⟩,⟨W7 (fun y hy=>(hG y hy).mono s1) ((b8C hO34).mono s2),W7 (fun y hy x hx=>(hS y hy x hx).mono s1) (fun x hx=>(List.mem_singleton.1 (show x ∈ [p41] from hx)) ▸ hO41.mono s3)⟩,hq.trans (by rw[hm2])⟩,rfl,rfl,rfl⟩)
 exact Su
 have hlm:(l.map stG).length=l.length:=List.length_map _
 have hc:¬ ((l.map stG).length < least∨((l.map stG).length < most∧N6 z.R d j=true)):=fun q=>by
   rw[hlm] at q
   have:(decide ((l.length:Int) < least)||(decide ((l.length:Int) < most)&&N6 z.R d j))=true:=by
     simp only[Bool.or_eq_true,Bool.and_eq_true,decide_eq_true_eq]
     exact q.imp (fun q=>by omega) fun q=>⟨by omega,q.2⟩
   rw[this] at c28
   cases c28
 have hq:=hJ.trans (b2i hc)
 refine P7 (a:=a9) Me fun p9 q9 r9=>?_
 refine kQ0 [9] ?_
 refine kQ2 [8] ?_
 refine WC.ret (toX (.inl rfl) (I2 (h':=psR z j::.row (.slice a9 l.length c9) 86 23 l.length (fl guE l)::(bl++h)) (.inl rfl) rfl (RV.tmp rfl) (View.le.refl m) Sb ?_))
 exact⟨_,j,.row (.slice a9 l.length c9) 86 23 l.length (fl guE l)::bl,hq,⟨by omega,hj⟩,⟨a9,c9,l,rfl,rfl,Rd.inRow (List.Mem.head _) r9 p9 q9,fun g hg=>(hG g hg).mono (List.sublist_cons_self _ _),fun g hg x hx=>(hS g hg x hx).mono (List.sublist_cons_self _ _)⟩,rfl⟩
theorem b1x {m:View} (hg:Glob m) {z:Pz} (hz:Pok m z) {n:Nat} (hrec:REC m z n) (kd:Int) (hk0:0≤kd∧kd≤255) (d:Int) (i b:Nat) (a:Option Addr) (c:Nat) (ts:List Tok) (h hT:List Res) (hk:Tk2 m hT a c ts) (hs:hT.Sublist h) (hi:i < z.R.length) (hf:z.R.length≤i+n+1) (hd:0≤d∧d≤32) :
   QrX m z 170 [ptV z.bp,.int .u8 kd,.int .i64 d,ptV b] i b a c ts h (a1n z.R (C0 z.R n) kd d ts i) (OP m):=by
 have hR:=hz.ok.1
 have hq:a1n z.R (C0 z.R n) kd d ts i=I3 (b3x ts) i fun r ts=>F9 ts i fun i=>if r.name≠[] then R0 (C0 z.R n (d+1) false i) fun x i=>.ok (prM kd [] A3 [] [] r [] [x] [] D2,i)
   else R0 (a0s z.R (C0 z.R n) (d+1) (z.R.length - i) [] i) fun l i=>.ok (prM kd [] A3 [] [] r [] l [] D2,i):=rfl
 refine CX.body Tryz.call170 Tryz.func170 rfl Tryz.ntmps170 Lb rfl ?_
 refine j0 ?_
 refine xW fun b8=>?_
 refine kQ0 [0,1,2,3,8] ?_
 refine kA2 ?_
 refine WL.perm (Del.perm (r:=lnR b a ts.length c) De) ?_
 refine A1 Ev.func (E1 Et) (b8R hg b a c ts _ _ hk (hs.trans Sb)) Lb (fun v hv hx=>?_) fun v12 h12 hr12=>?_
 · obtain⟨e,hx1,rfl,rfl⟩:=hx;rw[hx1] at hq;exact prP Tryz.f170 hq Sb
 obtain⟨x12,r12,a12,u12,bl12,hM12,⟨p12,rfl,rfl,hn12,hu12,hv12⟩,hk12,rfl⟩:=hr12
 refine WL.perm ((Mv.perm (by (repeat (first | apply Mv.cons | exact Mv.stop)))).cons _) ?_
 rw[hM12,I9] at hq
 refine kA1 ?_
 refine xW fun b9=>?_
 refine kQ1 [0,2,3,8,9] ?_
 refine kA2 ?_
 refine WL.perm ((Del.perm (r:=psR z i) De).trans ((Del.perm (r:=lnR b a12 r12.length u12) De).cons _)) ?_
 refine A1 Ev.func (E2 Et Et) (L1 hz i b a12 u12 r12 _ (by omega)) Lb (fun v hv hx=>?_) fun v16 h16 hr16=>?_
 · obtain⟨hx1,rfl,rfl⟩:=hx;rw[M6 hx1] at hq;exact prP Tryz.f170 hq Sb
 obtain⟨hz16,rfl⟩:=hr16
 rw[M3 hz16] at hq
 refine kQ0 [0,2,8,9] ?_
 refine kA3 ?_
 refine xG (Q2 Et Ev.const) ?_
 refine kQ0 [0,2,8,9,20] ?_
 refine wc (fun c20=>?_) fun c20=>?_
 have c20:p12.name≠[]:=by simpa using c20
 rw[if_pos (show(stR p12).name≠[] from c20)] at hq
 refine kA3 ?_
 refine WL.perm (Del.perm (r:=psR z (i+1)) De) ?_
 refine A1 Ev.func (E3 Et Et Ev.const) (hrec (i+1) _ _ _ (by omega) (by omega) (by omega)) Lb (fun v hv hx=>?_) fun v24 h24 hr24=>?_
 · obtain⟨e,j,hx1,rfl,rfl⟩:=hx;(first | rw[hx1] at hq | rw[J1 hx1] at hq);exact prP Tryz.f170 hq Sb
 obtain⟨x24,j24,bl24,hM24,hj24,⟨p24,rfl,rfl,hO24⟩,rfl⟩:=hr24
 refine WL.perm ((Mv.perm (by (repeat (first | apply Mv.cons | exact Mv.stop)))).cons _) ?_
 rw[hM24,O8] at hq
 refine xY Z9 (EvP.cons Et EvP.nil) fun b25=>?_
 refine WL.perm (Mv.perm (bl:=[_]) (by (repeat (first | apply Mv.cons | exact Mv.stop)))) ?_
 refine kQ2 [8,9] ?_
 refine kQ2 [8] ?_
 refine WC.ret (toX (.inl rfl) (I2 (h':=psR z j24::(prR b25 p24::(bl24++(bl12++h)))) (.inl rfl) rfl (A4 P3 rfl rfl rfl Me rfl) (View.le.refl m) Sb ?_))
 exact⟨_,_,prR b25 p24::(bl24++bl12),hq,⟨by omega,hj24.2⟩,⟨.mk kd [] A3 B5 B5 p12 none 0 [] (some ⟨b25,0,none⟩) 1 [p24] B5 D2,rfl,S9 _,a3f hk0 (Nat.zero_le _) (F1 _ _) (F3 _ _) (F3 _ _) (Rs.mono (h:=bl12) ⟨hn12,hu12,hv12⟩ ((List.sublist_append_right _ _).cons _)) (X9 _ _) ⟨Rd.ofPt rfl (by show 1≤_;decide) (List.Mem.head _),a08 (hO24.mono ((List.sublist_append_left _ _).cons _))⟩ (U9 _ _) (Q3 _ _)⟩,by rw[List.cons_append,List.append_assoc]⟩
 have c20:p12.name=[]:=by simpa using c20
 rw[if_neg (show ¬ (stR p12).name≠[] from fun q=>q c20)] at hq
 refine WC.addNil 52 42 ?_
 refine WC.take (r:=psR z (i+1)) De ?_
 refine kQ0 [0,2,8,9] ?_
 refine B1 [0,2,8,9] rfl (fun μ F' h'=>∃ a9:Option Addr,∃ c9:Nat,∃ l:List Pr,∃ bl:List Res,∃ k:Nat,∃ j:Nat,((l.length+i+1≤j∧j≤z.R.length∧z.R.length≤j+k)∧(∀ x ∈ l,POk m bl x)∧a1n z.R (C0 z.R n) kd d ts i=R0 (a0s z.R (C0 z.R n) (d+1) k (l.map stP) j) fun l i=>.ok (prM kd [] A3 [] [] (stR p12) [] l [] D2,i))∧k=μ∧F'=[]∧psR z j::.row (.slice a9 l.length c9) 52 42 l.length (fl prE l)::prR b9 (.mk kd [] A3 B5 B5 p12 none 0 [] a9 c9 l B5 D2)::prR b8 (p0 0 [] A3 B5 B5 D5)::(bl++(bl12++h))=h') ((z.R.length - (i+1))) [] (h0:=psR z (i+1)::.row (.slice none ([]).length 0) 52 42 ([]).length (fl prE ([]))::prR b9 (.mk kd [] A3 B5 B5 p12 none 0 [] none 0 ([]) B5 D2)::prR b8 (p0 0 [] A3 B5 B5 D5)::(([])++(bl12++h))) ?_ Sb ⟨none,0,[],[],z.R.length - (i+1),i+1,⟨⟨by simp,by omega,by omega⟩,fun _ hx=>(List.not_mem_nil hx).elim,hq⟩,rfl,rfl,rfl⟩ ?_
 exact Su
 rintro _ _ _ ⟨a9,c9,l,bl,k,j,⟨⟨hl,hj,hk⟩,hS,hJ⟩,rfl,rfl,rfl⟩
 refine B3 rfl ?_
 refine kA3 ?_
 refine xf (E2 Et Et) (a5f hz j (d+1) _ Me) ?_
 refine kQ0 [0,2,8,9,31] ?_
 refine wc (fun c31=>?_) fun c31=>?_
 rw[b8q hk c31] at hJ
 refine WC.take (r:=psR z j) De ?_
 refine kQ0 [0,2,8,9] ?_
 refine G1 [5,6] (.op 0 (.op 1 (.op 2 (.op 3 (.op 4 (.op 5 (.op 6 .nil))))))) [7,8,9] _ [_] D8 (fun _ _ _ _ _ h=>h) [] (by kernel_rfl) ?_
 refine kA4 ?_
 refine yG rfl (I7 Et Ev.const (by omega)) ?_
 refine a1x rfl rfl Ev.func (E3 Et Et Ev.const) (fun fr=>c4h hrec j (d+1) false _ (by omega) (by omega) (by omega)) Lb (fun fr v hv hx=>?_) fun v37 h37 hr37=>?_
 · obtain⟨e,j2,hx1,rfl,rfl⟩:=hx
   rw[hx1] at hJ
   exact prP Tryz.f170 hJ ((a1X Sb fr).cons_cons _)
 obtain⟨p37,j37,bl37,hM37,hj37,rfl,hO37,rfl⟩:=hr37
 refine SR.buildSlice rfl rfl Z9 rfl (EvP.cons Et EvP.nil) rfl rfl (by decide) rfl Lb fun b38=>?_
 refine a1N (H:=prR b38 p37::psR z j37::.row (.slice a9 l.length c9) 52 42 l.length (fl prE l)::prR b9 (.mk kd [] A3 B5 B5 p12 none 0 [] a9 c9 l B5 D2)::prR b8 (p0 0 [] A3 B5 B5 D5)::(bl37++(bl++(bl12++h)))) rfl (((X0 bl37 [_,_,_] (bl++(bl12++h))).cons _).cons _) ?_
 have hln:(l++[p37]).length=l.length+1:=List.length_append
 refine xD Z9 (Ev.tmp rfl) (Ev.tmp rfl) (show l.length+1=(l++[p37]).length by simp) (F7 (enc:=prE) _ (p37)) fun a39 c39=>?_
 refine kA2 ?_
 rw[hM37,O8] at hJ
 rw[← List.append_assoc bl37 bl]
 have hm2:(l++[p37]).map stP=l.map stP++[stP p37]:=by rw[List.map_append,List.map_singleton]
 refine WL.nil (A6 ((k - 1)) [] (h'':=psR z j37::.row (.slice a39 (l++[p37]).length c39) 52 42 (l++[p37]).length (fl prE (l++[p37]))::prR b9 (.mk kd [] A3 B5 B5 p12 none 0 [] a39 c39 (l++[p37]) B5 D2)::prR b8 (p0 0 [] A3 B5 B5 D5)::((bl37++bl)++(bl12++h))) (by omega) ?_ Su Sb ⟨a39,c39,l++[p37],bl37++bl,k - 1,j37,⟨⟨by omega,by omega,by omega⟩,W7 (fun y hy=>(hS y hy).mono (List.sublist_append_right _ _)) (hO37.mono (List.sublist_append_left _ _)),hJ.trans (by rw[hm2])⟩,rfl,rfl,rfl⟩)
 exact Su
 rw[b3S c31,O8] at hJ
 refine P7 (a:=a9) Me fun p9 q9 r9=>?_
 refine kQ0 [8,9] ?_
 refine kQ2 [8] ?_
 refine WC.ret (toX (.inl rfl) (I2 (h':=psR z j::(.row (.slice a9 l.length c9) 52 42 l.length (fl prE l)::(bl++(bl12++h)))) (.inl rfl) rfl (A4 P3 rfl rfl rfl Me rfl) (View.le.refl m) Sb ?_))
 exact⟨_,_,.row (.slice a9 l.length c9) 52 42 l.length (fl prE l)::(bl++bl12),hJ,⟨by omega,hj⟩,⟨.mk kd [] A3 B5 B5 p12 none 0 [] a9 c9 l B5 D2,rfl,S9 _,a3f hk0 (Nat.zero_le _) (F1 _ _) (F3 _ _) (F3 _ _) (Rs.mono (h:=bl12) ⟨hn12,hu12,hv12⟩ ((List.sublist_append_right _ _).cons _)) (X9 _ _) ⟨Rd.inRow (List.Mem.head _) r9 p9 q9,fun x hx=>(hS x hx).mono ((List.sublist_append_left _ _).cons _)⟩ (U9 _ _) (Q3 _ _)⟩,by rw[List.cons_append,List.append_assoc]⟩
theorem a6d {m:View} (hg:Glob m) {z:Pz} (hz:Pok m z) {n:Nat} (hrec:REC m z n) (kd:Int) (hk0:0≤kd∧kd≤255) (q:FuncId) (row:List Tok→E Gu) (hrow:∀ (b:Nat) (a:Option Addr) (c:Nat) (ts:List Tok) (h hT:List Res),Tk2 m hT a c ts→hT.Sublist h→LnX m q [ptV b] b a c ts hT h (row ts) (OG m)) (d:Int) (i b:Nat) (a:Option Addr) (c:Nat) (ts:List Tok) (h hT:List Res) (hk:Tk2 m hT a c ts) (hs:hT.Sublist h) (hi:i < z.R.length) (hf:z.R.length≤i+n+1) (hd:0≤d∧d≤32) :
   QrX m z 171 [ptV z.bp,.int .u8 kd,.int .i64 d,ptV b,.func (.func q) #[] #[]] i b a c ts h (X5 z.R (C0 z.R n) kd row d ts i) (OP m):=by
 have hR:=hz.ok.1
 have hq:X5 z.R (C0 z.R n) kd row d ts i=I3 (b3x ts) i fun r ts=>F9 ts i fun i=>
   R0 (a07 z.R (C0 z.R n) row (if r.name≠[] then 1 else 0) (if r.name≠[] then 1 else 16) (d+1) i) fun l i=>.ok (prM kd [] A3 [] [] r l [] [] D2,i):=rfl
 refine CX.body Tryz.call171 Tryz.func171 rfl Tryz.ntmps171 Lb rfl ?_
 refine j0 ?_
 refine xW fun b10=>?_
 refine kQ0 [0,1,2,3,4,10] ?_
 refine kA2 ?_
 refine WL.perm (Del.perm (r:=lnR b a ts.length c) De) ?_
 refine A1 Ev.func (E1 Et) (b8R hg b a c ts _ _ hk (hs.trans Sb)) Lb (fun v hv hx=>?_) fun v15 h15 hr15=>?_
 · obtain⟨e,hx1,rfl,rfl⟩:=hx;rw[hx1] at hq;exact prP Tryz.f171 hq Sb
 obtain⟨x15,r15,a15,u15,bl15,hM15,⟨p15,rfl,rfl,hn15,hu15,hv15⟩,hk15,rfl⟩:=hr15
 refine WL.perm ((Mv.perm (by (repeat (first | apply Mv.cons | exact Mv.stop)))).cons _) ?_
 rw[hM15,I9] at hq
 refine kA1 ?_
 refine xW fun b11=>?_
 refine kQ1 [0,2,3,4,10,11] ?_
 refine kA2 ?_
 refine WL.perm ((Del.perm (r:=psR z i) De).trans ((Del.perm (r:=lnR b a15 r15.length u15) De).cons _)) ?_
 refine A1 Ev.func (E2 Et Et) (L1 hz i b a15 u15 r15 _ (by omega)) Lb (fun v hv hx=>?_) fun v19 h19 hr19=>?_
 · obtain⟨hx1,rfl,rfl⟩:=hx;rw[M6 hx1] at hq;exact prP Tryz.f171 hq Sb
 obtain⟨hz19,rfl⟩:=hr19
 rw[M3 hz19] at hq
 refine kQ0 [0,2,4,10,11] ?_
 refine kA1 ?_
 refine xW fun b12=>?_
 refine kA1 ?_
 refine WL.perm (Del.perm (r:=psR z (i+1)) De) ?_
 refine kQ0 [0,2,4,10,11,12] ?_
 refine kA3 ?_
 refine xG (Q2 Et Ev.const) ?_
 refine kP0 [0,2,4,10,11,12,24] ?_
 refine H7 KKh [0,2,4,10,11,12] rfl (fun F' h'=>∃ lo:Nat,∃ hi2:Nat,(lo=(if (stR p15).name≠[] then 1 else 0)∧hi2=(if (stR p15).name≠[] then 1 else 16))∧F'=[]∧psR z (i+1)::.pt b12 (.cells [Value.int .i64 lo,Value.int .i64 hi2].toArray 145 (0,0))::prR b11 (.mk kd [] A3 B5 B5 p15 none 0 [] none 0 [] B5 D2)::prR b10 (p0 0 [] A3 B5 B5 D5)::(bl15++h)=h') ?_ ?_
 refine jE ?_
 refine wc (fun c24=>?_) fun c24=>?_
 have c24:(stR p15).name≠[]:=show p15.name≠[] by simpa using c24
 refine j0 ?_
 refine xG (I5 (vs:=a8v) S2 rfl rfl Ev.global rfl (fun j v hj=>by rw[Nat.zero_add];exact hg.sOne j v hj)) ?_
 refine kA1 ?_
 refine WL.nil (D0 [] (h'':=psR z (i+1)::.pt b12 (.cells [Value.int .i64 1,Value.int .i64 1].toArray 145 (0,0))::prR b11 (.mk kd [] A3 B5 B5 p15 none 0 [] none 0 [] B5 D2)::prR b10 (p0 0 [] A3 B5 B5 D5)::(bl15++h)) ?_ Su Sb ⟨1,1,⟨(if_pos c24).symm,(if_pos c24).symm⟩,rfl,rfl⟩)
 exact Su
 have c24:¬ (stR p15).name≠[]:=show ¬ p15.name≠[] by simpa using c24
 refine WC.skip (D0 [] (h'':=psR z (i+1)::.pt b12 (.cells [Value.int .i64 0,Value.int .i64 16].toArray 145 (0,0))::prR b11 (.mk kd [] A3 B5 B5 p15 none 0 [] none 0 [] B5 D2)::prR b10 (p0 0 [] A3 B5 B5 D5)::(bl15++h)) ?_ Su Sb ⟨0,16,⟨(if_neg c24).symm,(if_neg c24).symm⟩,rfl,rfl⟩)
 exact Su
 rintro _ _ ⟨lo,hi2,⟨hlo,hhi⟩,rfl,rfl⟩
 refine B3 rfl ?_
 rw[← hlo,← hhi] at hq
 refine kA5 ?_
 refine WL.perm (Del.perm (r:=psR z (i+1)) De) ?_
 refine A1 Ev.func (E4 Et Et Et Et) (a6q hg hz hrec q row lo hi2 _ (i+1) _ (by omega) (by omega) (by omega) hrow) Lb (fun v hv hx=>?_) fun v31 h31 hr31=>?_
 · obtain⟨e,j,hx1,rfl,rfl⟩:=hx;(first | rw[hx1] at hq | rw[J1 hx1] at hq);exact prP Tryz.f171 hq Sb
 obtain⟨x31,j31,bl31,hM31,hj31,⟨q31,w31,l31,rfl,rfl,hG31⟩,rfl⟩:=hr31
 refine WL.perm ((Mv.perm (by (repeat (first | apply Mv.cons | exact Mv.stop)))).cons _) ?_
 rw[hM31,O8] at hq
 refine kQ2 [10,11] ?_
 refine kQ2 [10] ?_
 refine WC.ret (toX (.inl rfl) (I2 (h':=psR z j31::(bl31++(bl15++h))) (.inl rfl) rfl (A4 P3 rfl rfl rfl Me rfl) (View.le.refl m) Sb ?_))
 exact⟨_,_,bl31++bl15,hq,⟨by omega,hj31.2⟩,⟨.mk kd [] A3 B5 B5 p15 q31 w31 l31 none 0 [] B5 D2,rfl,S9 _,a3f hk0 (Nat.zero_le _) (F1 _ _) (F3 _ _) (F3 _ _) (Rs.mono (h:=bl15) ⟨hn15,hu15,hv15⟩ (List.sublist_append_right _ _)) (hG31.mono (List.sublist_append_left _ _)) (a2P _ _) (U9 _ _) (Q3 _ _)⟩,by rw[List.append_assoc]⟩
theorem c2q {m:View} {z:Pz} (hz:Pok m z) (d:Int) (i b:Nat) (a:Option Addr) (c:Nat) (ts:List Tok) (h:List Res) (hi:i < z.R.length) :
   QrX m z 113 [ptV z.bp,.int .i64 d,ptV b] i b a c ts h (b5L 1 ts i) (OP m):=by
 have hq:b5L 1 ts i=F9 ts i fun i=>.ok (prM 1 [] A3 [] [] D5 [] [] [] D2,i):=rfl
 refine CX.body Tryz.call113 Tryz.func113 rfl Tryz.ntmps113 Lb rfl ?_
 refine j0 ?_
 refine xW fun b6=>?_
 refine kQ0 [0,2,6] ?_
 refine kA2 ?_
 refine WL.perm ((Del.perm (r:=psR z i) De).trans ((Del.perm (r:=lnR b a ts.length c) De).cons _)) ?_
 refine A1 Ev.func (E3 Et Ev.const Et) (b1b hz 1 i b a c ts _ hi) Lb (fun v hv hx=>?_) fun v9 h9 hr9=>?_
 · obtain⟨hx1,rfl,rfl⟩:=hx;rw[M6 hx1] at hq;exact prP Tryz.f113 hq Sb
 obtain⟨hz9,rfl,rfl⟩:=hr9
 rw[M3 hz9] at hq
 refine kQ1 [6] ?_
 refine WC.ret (toX (.inl rfl) (I2 (h':=psR z (i+1)::h) (.inl rfl) rfl (A4 P3 rfl rfl rfl Me rfl) (View.le.refl m) Sb ?_))
 exact⟨_,_,[],hq,⟨by omega,by omega⟩,⟨p0 1 [] A3 B5 B5 D5,rfl,S9 _,b7m _ _ (by decide)⟩,rfl⟩
theorem c2o {m:View} {z:Pz} (hz:Pok m z) (d:Int) (i b:Nat) (a:Option Addr) (c:Nat) (ts:List Tok) (h:List Res) (hi:i < z.R.length) :
   QrX m z 114 [ptV z.bp,.int .i64 d,ptV b] i b a c ts h (b5L 2 ts i) (OP m):=by
 have hq:b5L 2 ts i=F9 ts i fun i=>.ok (prM 2 [] A3 [] [] D5 [] [] [] D2,i):=rfl
 refine CX.body Tryz.call114 Tryz.func114 rfl Tryz.ntmps114 Lb rfl ?_
 refine j0 ?_
 refine xW fun b6=>?_
 refine kQ0 [0,2,6] ?_
 refine kA2 ?_
 refine WL.perm ((Del.perm (r:=psR z i) De).trans ((Del.perm (r:=lnR b a ts.length c) De).cons _)) ?_
 refine A1 Ev.func (E3 Et Ev.const Et) (b1b hz 2 i b a c ts _ hi) Lb (fun v hv hx=>?_) fun v9 h9 hr9=>?_
 · obtain⟨hx1,rfl,rfl⟩:=hx;rw[M6 hx1] at hq;exact prP Tryz.f114 hq Sb
 obtain⟨hz9,rfl,rfl⟩:=hr9
 rw[M3 hz9] at hq
 refine kQ1 [6] ?_
 refine WC.ret (toX (.inl rfl) (I2 (h':=psR z (i+1)::h) (.inl rfl) rfl (A4 P3 rfl rfl rfl Me rfl) (View.le.refl m) Sb ?_))
 exact⟨_,_,[],hq,⟨by omega,by omega⟩,⟨p0 2 [] A3 B5 B5 D5,rfl,S9 _,b7m _ _ (by decide)⟩,rfl⟩
theorem c1Z {m:View} (hg:Glob m) {z:Pz} (hz:Pok m z) {n:Nat} (hrec:REC m z n) (d:Int) (i b:Nat) (a:Option Addr) (c:Nat) (ts:List Tok) (h hT:List Res) (hk:Tk2 m hT a c ts) (hs:hT.Sublist h) (hi:i < z.R.length) (hf:z.R.length≤i+n+1) (hd:0≤d∧d≤32) :
   QrX m z 115 [ptV z.bp,.int .i64 d,ptV b] i b a c ts h (a1n z.R (C0 z.R n) 8 d ts i) (OP m):=by
 refine CX.body Tryz.call115 Tryz.func115 rfl Tryz.ntmps115 Lb rfl ?_
 refine j0 ?_
 refine xW fun b6=>?_
 refine kQ0 [0,1,2,6] ?_
 refine kA3 ?_
 refine WL.perm ((Del.perm (r:=psR z i) De).trans ((Del.perm (r:=lnR b a ts.length c) De).cons _)) ?_
 refine A1 Ev.func (E4 Et Ev.const Et Et) (b1x hg hz hrec 8 (by decide) d i b a c ts _ _ hk (hs.trans Sb) hi hf hd) Lb (fun v hv hx=>?_) fun v10 h10 hr10=>?_
 · obtain⟨e,j,hx1,rfl,rfl⟩:=hx
   exact prP Tryz.f115 hx1 Sb
 obtain⟨x10,j10,bl10,hM10,hj10,⟨p10,rfl,rfl,hO10⟩,rfl⟩:=hr10
 refine WL.perm ((Mv.perm (by (repeat (first | apply Mv.cons | exact Mv.stop)))).cons _) ?_
 have hq:=hM10
 refine kQ1 [6] ?_
 refine WC.ret (toX (.inl rfl) (I2 (h':=psR z j10::(bl10++h)) (.inl rfl) rfl (A4 P3 rfl rfl rfl Me rfl) (View.le.refl m) Sb ?_))
 exact⟨_,_,bl10,hq,hj10,⟨p10,rfl,rfl,hO10⟩,rfl⟩
theorem c0P {m:View} (hg:Glob m) {z:Pz} (hz:Pok m z) {n:Nat} (hrec:REC m z n) (d:Int) (i b:Nat) (a:Option Addr) (c:Nat) (ts:List Tok) (h hT:List Res) (hk:Tk2 m hT a c ts) (hs:hT.Sublist h) (hi:i < z.R.length) (hf:z.R.length≤i+n+1) (hd:0≤d∧d≤32) :
   QrX m z 116 [ptV z.bp,.int .i64 d,ptV b] i b a c ts h (a1n z.R (C0 z.R n) 9 d ts i) (OP m):=by
 refine CX.body Tryz.call116 Tryz.func116 rfl Tryz.ntmps116 Lb rfl ?_
 refine j0 ?_
 refine xW fun b6=>?_
 refine kQ0 [0,1,2,6] ?_
 refine kA3 ?_
 refine WL.perm ((Del.perm (r:=psR z i) De).trans ((Del.perm (r:=lnR b a ts.length c) De).cons _)) ?_
 refine A1 Ev.func (E4 Et Ev.const Et Et) (b1x hg hz hrec 9 (by decide) d i b a c ts _ _ hk (hs.trans Sb) hi hf hd) Lb (fun v hv hx=>?_) fun v10 h10 hr10=>?_
 · obtain⟨e,j,hx1,rfl,rfl⟩:=hx
   exact prP Tryz.f116 hx1 Sb
 obtain⟨x10,j10,bl10,hM10,hj10,⟨p10,rfl,rfl,hO10⟩,rfl⟩:=hr10
 refine WL.perm ((Mv.perm (by (repeat (first | apply Mv.cons | exact Mv.stop)))).cons _) ?_
 have hq:=hM10
 refine kQ1 [6] ?_
 refine WC.ret (toX (.inl rfl) (I2 (h':=psR z j10::(bl10++h)) (.inl rfl) rfl (A4 P3 rfl rfl rfl Me rfl) (View.le.refl m) Sb ?_))
 exact⟨_,_,bl10,hq,hj10,⟨p10,rfl,rfl,hO10⟩,rfl⟩
theorem c1i {m:View} (hg:Glob m) {z:Pz} (hz:Pok m z) {n:Nat} (hrec:REC m z n) (d:Int) (i b:Nat) (a:Option Addr) (c:Nat) (ts:List Tok) (h hT:List Res) (hk:Tk2 m hT a c ts) (hs:hT.Sublist h) (hi:i < z.R.length) (hf:z.R.length≤i+n+1) (hd:0≤d∧d≤32) :
   QrX m z 118 [ptV z.bp,.int .i64 d,ptV b] i b a c ts h (X5 z.R (C0 z.R n) 12 a8R d ts i) (OP m):=by
 refine CX.body Tryz.call118 Tryz.func118 rfl Tryz.ntmps118 Lb rfl ?_
 refine j0 ?_
 refine xW fun b6=>?_
 refine kQ0 [0,1,2,6] ?_
 refine kA3 ?_
 refine WL.perm ((Del.perm (r:=psR z i) De).trans ((Del.perm (r:=lnR b a ts.length c) De).cons _)) ?_
 refine A1 Ev.func (Evs.cons Et (Evs.cons Ev.const (Evs.cons Et (Evs.cons Et (Evs.cons Ev.func Evs.nil))))) (a6d hg hz hrec 12 (by decide) _ a8R (fun b a c ts h hT=>b9u hg b a c ts h hT) d i b a c ts _ _ hk (hs.trans Sb) hi hf hd) Lb (fun v hv hx=>?_) fun v10 h10 hr10=>?_
 · obtain⟨e,j,hx1,rfl,rfl⟩:=hx
   exact prP Tryz.f118 hx1 Sb
 obtain⟨x10,j10,bl10,hM10,hj10,⟨p10,rfl,rfl,hO10⟩,rfl⟩:=hr10
 refine WL.perm ((Mv.perm (by (repeat (first | apply Mv.cons | exact Mv.stop)))).cons _) ?_
 have hq:=hM10
 refine kQ1 [6] ?_
 refine WC.ret (toX (.inl rfl) (I2 (h':=psR z j10::(bl10++h)) (.inl rfl) rfl (A4 P3 rfl rfl rfl Me rfl) (View.le.refl m) Sb ?_))
 exact⟨_,_,bl10,hq,hj10,⟨p10,rfl,rfl,hO10⟩,rfl⟩
theorem b4p {m:View} (hg:Glob m) {z:Pz} (hz:Pok m z) {n:Nat} (hrec:REC m z n) (d:Int) (i b:Nat) (a:Option Addr) (c:Nat) (ts:List Tok) (h hT:List Res) (hk:Tk2 m hT a c ts) (hs:hT.Sublist h) (hi:i < z.R.length) (hf:z.R.length≤i+n+1) (hd:0≤d∧d≤32) :
   QrX m z 119 [ptV z.bp,.int .i64 d,ptV b] i b a c ts h (X5 z.R (C0 z.R n) 14 ifM d ts i) (OP m):=by
 refine CX.body Tryz.call119 Tryz.func119 rfl Tryz.ntmps119 Lb rfl ?_
 refine j0 ?_
 refine xW fun b6=>?_
 refine kQ0 [0,1,2,6] ?_
 refine kA3 ?_
 refine WL.perm ((Del.perm (r:=psR z i) De).trans ((Del.perm (r:=lnR b a ts.length c) De).cons _)) ?_
 refine A1 Ev.func (Evs.cons Et (Evs.cons Ev.const (Evs.cons Et (Evs.cons Et (Evs.cons Ev.func Evs.nil))))) (a6d hg hz hrec 14 (by decide) _ ifM (fun b a c ts h hT=>c5C hg b a c ts h hT) d i b a c ts _ _ hk (hs.trans Sb) hi hf hd) Lb (fun v hv hx=>?_) fun v10 h10 hr10=>?_
 · obtain⟨e,j,hx1,rfl,rfl⟩:=hx
   exact prP Tryz.f119 hx1 Sb
 obtain⟨x10,j10,bl10,hM10,hj10,⟨p10,rfl,rfl,hO10⟩,rfl⟩:=hr10
 refine WL.perm ((Mv.perm (by (repeat (first | apply Mv.cons | exact Mv.stop)))).cons _) ?_
 have hq:=hM10
 refine kQ1 [6] ?_
 refine WC.ret (toX (.inl rfl) (I2 (h':=psR z j10::(bl10++h)) (.inl rfl) rfl (A4 P3 rfl rfl rfl Me rfl) (View.le.refl m) Sb ?_))
 exact⟨_,_,bl10,hq,hj10,⟨p10,rfl,rfl,hO10⟩,rfl⟩
theorem c3t {m:View} (hg:Glob m) {z:Pz} (hz:Pok m z) {n:Nat} (hrec:REC m z n) (d:Int) (i b:Nat) (a:Option Addr) (c:Nat) (ts:List Tok) (h hT:List Res) (hk:Tk2 m hT a c ts) (hs:hT.Sublist h) (hi:i < z.R.length) (hf:z.R.length≤i+n+1) (hd:0≤d∧d≤32) :
   QrX m z 120 [ptV z.bp,.int .i64 d,ptV b] i b a c ts h (b7k z.R (C0 z.R n) d ts i) (OP m):=by
 have hR:=hz.ok.1
 have hq:b7k z.R (C0 z.R n) d ts i=I3 (M2 ts) i fun e r=>F9 r i fun i=>R0 (a07 z.R (C0 z.R n) b6L 0 16 (d+1) i) fun l i=>.ok (prM 15 [] A3 [] [e] D5 l [] [] D2,i):=rfl
 refine CX.body Tryz.call120 Tryz.func120 rfl Tryz.ntmps120 Lb rfl ?_
 refine j0 ?_
 refine xW fun b6=>?_
 refine kQ0 [0,1,2,6] ?_
 refine kA1 ?_
 refine WL.perm (Del.perm (r:=lnR b a ts.length c) De) ?_
 refine A1 Ev.func (E1 Et) (T8 hg b a c ts _ _ hk (hs.trans Sb)) Lb (fun v hv hx=>?_) fun v9 h9 hr9=>?_
 · obtain⟨e,hx1,rfl,rfl⟩:=hx;rw[hx1] at hq;exact prP Tryz.f120 hq Sb
 obtain⟨x9,r9,a9,u9,bl9,hM9,⟨t9,rfl,rfl,hO9⟩,hk9,rfl⟩:=hr9
 refine WL.perm ((Mv.perm (by (repeat (first | apply Mv.cons | exact Mv.stop)))).cons _) ?_
 rw[hM9,I9] at hq
 refine xY a0e (EvP.cons Et EvP.nil) fun b10=>?_
 refine WL.perm (Mv.perm (bl:=[_]) (by (repeat (first | apply Mv.cons | exact Mv.stop)))) ?_
 refine kA1 ?_
 refine xW fun b7=>?_
 refine kQ1 [0,1,2,6,7] ?_
 refine kA2 ?_
 refine WL.perm ((Del.perm (r:=psR z i) De).trans ((Del.perm (r:=lnR b a9 r9.length u9) De).cons _)) ?_
 refine A1 Ev.func (E2 Et Et) (L1 hz i b a9 u9 r9 _ (by omega)) Lb (fun v hv hx=>?_) fun v14 h14 hr14=>?_
 · obtain⟨hx1,rfl,rfl⟩:=hx;rw[M6 hx1] at hq;exact prP Tryz.f120 hq Sb
 obtain⟨hz14,rfl⟩:=hr14
 rw[M3 hz14] at hq
 refine kQ0 [0,1,6,7] ?_
 refine kA4 ?_
 refine WL.perm (Del.perm (r:=psR z (i+1)) De) ?_
 refine A1 Ev.func (E4 Et Et Et Ev.func) (a6q hg hz hrec _ b6L 0 16 _ (i+1) _ (by omega) (by omega) (by omega) (fun b a c ts h hT=>c3E hg b a c ts h hT)) Lb (fun v hv hx=>?_) fun v19 h19 hr19=>?_
 · obtain⟨e,j,hx1,rfl,rfl⟩:=hx;(first | rw[hx1] at hq | rw[J1 hx1] at hq);exact prP Tryz.f120 hq Sb
 obtain⟨x19,j19,bl19,hM19,hj19,⟨q19,w19,l19,rfl,rfl,hG19⟩,rfl⟩:=hr19
 refine WL.perm ((Mv.perm (by (repeat (first | apply Mv.cons | exact Mv.stop)))).cons _) ?_
 rw[hM19,O8] at hq
 refine kQ2 [6,7] ?_
 refine kQ2 [6] ?_
 refine WC.ret (toX (.inl rfl) (I2 (h':=psR z j19::(exR b10 t9::(bl19++(bl9++h)))) (.inl rfl) rfl (A4 P3 rfl rfl rfl Me rfl) (View.le.refl m) Sb ?_))
 exact⟨_,_,exR b10 t9::(bl19++bl9),hq,⟨by omega,hj19.2⟩,⟨.mk 15 [] A3 B5 ⟨some ⟨b10,0,none⟩,1,[t9]⟩ D5 q19 w19 l19 none 0 [] B5 D2,rfl,S9 _,a3f (by decide) (Nat.zero_le _) (F1 _ _) (F3 _ _) ((c4n b10 hO9).mono ((List.sublist_append_right _ _).cons_cons _)) (R4 _ _) (hG19.mono ((List.sublist_append_left _ _).cons _)) (a2P _ _) (U9 _ _) (Q3 _ _)⟩,by rw[List.cons_append,List.append_assoc]⟩
theorem c2g {m:View} (hg:Glob m) {z:Pz} (hz:Pok m z) {n:Nat} (hrec:REC m z n) (d:Int) (i b:Nat) (a:Option Addr) (c:Nat) (ts:List Tok) (h hT:List Res) (hk:Tk2 m hT a c ts) (hs:hT.Sublist h) (hi:i < z.R.length) (hf:z.R.length≤i+n+1) (hd:0≤d∧d≤32) :
   QrX m z 121 [ptV z.bp,.int .i64 d,ptV b] i b a c ts h (b9v (C0 z.R n) d ts i) (OP m):=by
 have hR:=hz.ok.1
 have hq:b9v (C0 z.R n) d ts i=I3 (M2 ts) i fun e r=>F9 r i fun i=>R0 (C0 z.R n (d+1) false i) fun x i=>.ok (prM 16 [] A3 [] [e] D5 [] [x] [] D2,i):=rfl
 refine CX.body Tryz.call121 Tryz.func121 rfl Tryz.ntmps121 Lb rfl ?_
 refine j0 ?_
 refine xW fun b6=>?_
 refine kQ0 [0,1,2,6] ?_
 refine kA1 ?_
 refine WL.perm (Del.perm (r:=lnR b a ts.length c) De) ?_
 refine A1 Ev.func (E1 Et) (T8 hg b a c ts _ _ hk (hs.trans Sb)) Lb (fun v hv hx=>?_) fun v9 h9 hr9=>?_
 · obtain⟨e,hx1,rfl,rfl⟩:=hx;rw[hx1] at hq;exact prP Tryz.f121 hq Sb
 obtain⟨x9,r9,a9,u9,bl9,hM9,⟨t9,rfl,rfl,hO9⟩,hk9,rfl⟩:=hr9
 refine WL.perm ((Mv.perm (by (repeat (first | apply Mv.cons | exact Mv.stop)))).cons _) ?_
 rw[hM9,I9] at hq
 refine xY a0e (EvP.cons Et EvP.nil) fun b10=>?_
 refine WL.perm (Mv.perm (bl:=[_]) (by (repeat (first | apply Mv.cons | exact Mv.stop)))) ?_
 refine kA1 ?_
 refine xW fun b7=>?_
 refine kQ1 [0,1,2,6,7] ?_
 refine kA2 ?_
 refine WL.perm ((Del.perm (r:=psR z i) De).trans ((Del.perm (r:=lnR b a9 r9.length u9) De).cons _)) ?_
 refine A1 Ev.func (E2 Et Et) (L1 hz i b a9 u9 r9 _ (by omega)) Lb (fun v hv hx=>?_) fun v14 h14 hr14=>?_
 · obtain⟨hx1,rfl,rfl⟩:=hx;rw[M6 hx1] at hq;exact prP Tryz.f121 hq Sb
 obtain⟨hz14,rfl⟩:=hr14
 rw[M3 hz14] at hq
 refine kQ0 [0,1,6,7] ?_
 refine kA3 ?_
 refine WL.perm (Del.perm (r:=psR z (i+1)) De) ?_
 refine A1 Ev.func (E3 Et Et Ev.const) (hrec (i+1) _ _ _ (by omega) (by omega) (by omega)) Lb (fun v hv hx=>?_) fun v18 h18 hr18=>?_
 · obtain⟨e,j,hx1,rfl,rfl⟩:=hx;(first | rw[hx1] at hq | rw[J1 hx1] at hq);exact prP Tryz.f121 hq Sb
 obtain⟨x18,j18,bl18,hM18,hj18,⟨p18,rfl,rfl,hO18⟩,rfl⟩:=hr18
 refine WL.perm ((Mv.perm (by (repeat (first | apply Mv.cons | exact Mv.stop)))).cons _) ?_
 rw[hM18,O8] at hq
 refine xY Z9 (EvP.cons Et EvP.nil) fun b19=>?_
 refine WL.perm (Mv.perm (bl:=[_]) (by (repeat (first | apply Mv.cons | exact Mv.stop)))) ?_
 refine kQ2 [6,7] ?_
 refine kQ2 [6] ?_
 refine WC.ret (toX (.inl rfl) (I2 (h':=psR z j18::(exR b10 t9::prR b19 p18::(bl18++(bl9++h)))) (.inl rfl) rfl (A4 P3 rfl rfl rfl Me rfl) (View.le.refl m) Sb ?_))
 exact⟨_,_,exR b10 t9::prR b19 p18::(bl18++bl9),hq,⟨by omega,hj18.2⟩,⟨.mk 16 [] A3 B5 ⟨some ⟨b10,0,none⟩,1,[t9]⟩ D5 none 0 [] (some ⟨b19,0,none⟩) 1 [p18] B5 D2,rfl,S9 _,a3f (by decide) (Nat.zero_le _) (F1 _ _) (F3 _ _) ((c4n b10 hO9).mono (((List.sublist_append_right _ _).cons _).cons_cons _)) (R4 _ _) (X9 _ _) ⟨Rd.ofPt rfl (by show 1≤_;decide) (List.Mem.tail _ (List.Mem.head _)),a08 (hO18.mono (((List.sublist_append_left _ _).cons _).cons _))⟩ (U9 _ _) (Q3 _ _)⟩,by rw[List.cons_append,List.cons_append,List.append_assoc]⟩
end Go.Proofs.YtkemgjnejlkkcaaGreatDoor
end
section
namespace Go.Proofs.YtkemgjnejlkkcaaGreatDoor
set_option maxRecDepth 100000
set_option maxHeartbeats 2000000
open Go.Eng Go.Pc Go.Sx Go
open Go.Xp hiding B D9
open Go.Ty (Ty Vr Tok eqT tyV J2 B4 B7 S1 zeroK M5 D6)
open Go.Lx (encB D1 lexO)
open Go.Ly (Rw I6 C7)
theorem ls2 {m:View} {h:List Res} {p q:Pr} (b:Nat) (hp:POk m h p) (hq:POk m h q):Ls m (b4q b p q::h) (some ⟨b,0,none⟩) 2 [p,q]:=
 ⟨by
   have e:fl prE [p,q]=prE p++prE q:=by simp[fl]
   rw[e]
   exact Rd.ofPt (by rw[List.length_append,a1W,a1W];rfl) (by show 2≤_;decide) (List.Mem.head _),c1e (hp.mono (List.sublist_cons_self _ _)) (hq.mono (List.sublist_cons_self _ _))⟩
theorem c3A {m:View} (hg:Glob m) {z:Pz} (hz:Pok m z) {n:Nat} (hrec:REC m z n) (d:Int) (i b:Nat) (a:Option Addr) (c:Nat) (ts:List Tok) (h hT:List Res) (hk:Tk2 m hT a c ts) (hs:hT.Sublist h) (hi:i < z.R.length) (hf:z.R.length≤i+n+1) (hd:0≤d∧d≤32) :
   QrX m z 117 [ptV z.bp,.int .i64 d,ptV b] i b a c ts h (b6G z.R (C0 z.R n) d ts i) (OP m):=by
 have hR:=hz.ok.1
 have hq:b6G z.R (C0 z.R n) d ts i=if isM 2 [80,65,82] ts then F9 ts.tail i fun i=>R0 (C0 z.R n (d+1) false i) fun x i=>R0 (C0 z.R n (d+1) false i) fun y i=>.ok (prM 10 [] A3 [] [] D5 [] [x,y] [] D2,i)
   else V7 2 [65,76,84] ts i fun r=>X5 z.R (C0 z.R n) 13 a8R d r i:=rfl
 refine CX.body Tryz.call117 Tryz.func117 rfl Tryz.ntmps117 Lb rfl ?_
 refine j0 ?_
 refine xW fun b6=>?_
 refine kQ0 [0,1,2,6] ?_
 refine kA1 ?_
 refine xf (E1 Ev.const) (K2 _ _ _) ?_
 refine WL.perm (Del.perm (r:=lnR b a ts.length c) De) ?_
 refine xg (E2 Et Et) (K5 b a c ts _ _ _ hk (hs.trans Sb)) ?_
 rintro _ _ ⟨a10,u10,r10,rfl,he10,hk10,rfl⟩
 refine kQ0 [0,1,2,6,10] ?_
 refine wc (fun c10=>?_) fun c10=>?_
 replace he10:=he10.trans (if_pos c10)
 subst r10
 rw[if_pos c10] at hq
 refine kA2 ?_
 refine WL.perm ((Del.perm (r:=psR z i) De).trans ((Del.perm (r:=lnR b a10 ts.tail.length u10) De).cons _)) ?_
 refine A1 Ev.func (E3 Et Ev.const Et) (b1b hz 10 i b a10 u10 ts.tail _ hi) Lb (fun v hv hx=>?_) fun v13 h13 hr13=>?_
 · obtain⟨hx1,rfl,rfl⟩:=hx;rw[M6 hx1] at hq;exact prP Tryz.f117 hq Sb
 obtain⟨hz13,rfl,rfl⟩:=hr13
 rw[M3 hz13] at hq
 refine xW fun b7=>?_
 refine kQ1 [0,1,6,7] ?_
 refine kA3 ?_
 refine WL.perm (Del.perm (r:=psR z (i+1)) De) ?_
 refine A1 Ev.func (E3 Et Et Ev.const) (hrec (i+1) _ _ _ (by omega) (by omega) (by omega)) Lb (fun v hv hx=>?_) fun v17 h17 hr17=>?_
 · obtain⟨e,j,hx1,rfl,rfl⟩:=hx;(first | rw[hx1] at hq | rw[J1 hx1] at hq);exact prP Tryz.f117 hq Sb
 obtain⟨x17,j17,bl17,hM17,hj17,⟨p17,rfl,rfl,hO17⟩,rfl⟩:=hr17
 refine WL.perm ((Mv.perm (by (repeat (first | apply Mv.cons | exact Mv.stop)))).cons _) ?_
 rw[hM17,O8] at hq
 refine kA3 ?_
 refine WL.perm (Del.perm (r:=psR z j17) De) ?_
 refine A1 Ev.func (E3 Et Et Ev.const) (hrec j17 _ _ _ (by omega) (by omega) (by omega)) Lb (fun v hv hx=>?_) fun v21 h21 hr21=>?_
 · obtain⟨e,j,hx1,rfl,rfl⟩:=hx;(first | rw[hx1] at hq | rw[J1 hx1] at hq);exact prP Tryz.f117 hq Sb
 obtain⟨x21,j21,bl21,hM21,hj21,⟨p21,rfl,rfl,hO21⟩,rfl⟩:=hr21
 refine WL.perm ((Mv.perm (by (repeat (first | apply Mv.cons | exact Mv.stop)))).cons _) ?_
 rw[hM21,O8] at hq
 refine xY (cs:=prE p17++prE p21) Z9 (EvP.cons Et (EvP.cons Et EvP.nil)) fun b22=>?_
 refine WL.perm (Mv.perm (bl:=[_]) (by (repeat (first | apply Mv.cons | exact Mv.stop)))) ?_
 refine kQ2 [6,7] ?_
 refine kQ2 [6] ?_
 refine WC.ret (toX (.inl rfl) (I2 (h':=psR z j21::(b4q b22 p17 p21::(bl21++(bl17++h)))) (.inl rfl) rfl (A4 P3 rfl rfl rfl Me rfl) (View.le.refl m) Sb ?_))
 exact⟨_,_,b4q b22 p17 p21::(bl21++bl17),hq,⟨by omega,hj21.2⟩,⟨.mk 10 [] A3 B5 B5 D5 none 0 [] (some ⟨b22,0,none⟩) 2 [p17,p21] B5 D2,rfl,S9 _,a3f (by decide) (Nat.zero_le _) (F1 _ _) (F3 _ _) (F3 _ _) (R4 _ _) (X9 _ _) (ls2 b22 (hO17.mono (List.sublist_append_right _ _)) (hO21.mono (List.sublist_append_left _ _))) (U9 _ _) (Q3 _ _)⟩,by rw[List.cons_append,List.append_assoc]⟩
 replace he10:=he10.trans (if_neg (H3 c10))
 subst r10
 rw[if_neg (H3 c10)] at hq
 refine kQ0 [0,1,2,6] ?_
 refine kA1 ?_
 refine xf (E1 Ev.const) (K2 _ _ _) ?_
 refine xY A9 (EvP.cons Et EvP.nil) fun b27=>?_
 refine WL.perm (Del.perm (r:=lnR b a10 ts.length u10) De) ?_
 refine A1 Ev.func (E2 Et Et) (N7 b a10 u10 ts _ _ _ _ _ hk10 (hs.trans Sb) (Rd.ofPt rfl (by decide) Me)) Lb (fun v hv hx=>?_) fun v28 h28 hr28=>?_
 · obtain⟨hx1,rfl,rfl⟩:=hx;rw[a2e hx1] at hq;exact prP Tryz.f117 hq Sb
 obtain⟨hi28,a28,u28,hk28,rfl⟩:=hr28
 rw[a1P hi28] at hq
 refine kQ0 [0,1,2,6] ?_
 refine kA3 ?_
 refine WL.perm ((Del.perm (r:=psR z i) De).trans ((Del.perm (r:=lnR b a28 ts.tail.length u28) De).cons _)) ?_
 refine A1 Ev.func (Evs.cons Et (Evs.cons Ev.const (Evs.cons Et (Evs.cons Et (Evs.cons Ev.func Evs.nil))))) (a6d hg hz hrec 13 (by decide) _ a8R (fun b a c ts h hT=>b9u hg b a c ts h hT) d i b a28 u28 ts.tail _ _ hk28 (hs.trans Sb) hi hf hd) Lb (fun v hv hx=>?_) fun v32 h32 hr32=>?_
 · obtain⟨e,j,hx1,rfl,rfl⟩:=hx;(first | rw[hx1] at hq | rw[J1 hx1] at hq);exact prP Tryz.f117 hq Sb
 obtain⟨x32,j32,bl32,hM32,hj32,⟨p32,rfl,rfl,hO32⟩,rfl⟩:=hr32
 refine WL.perm ((Mv.perm (by (repeat (first | apply Mv.cons | exact Mv.stop)))).cons _) ?_
 rw[hM32] at hq
 refine kQ1 [6] ?_
 refine WC.ret (toX (.inl rfl) (I2 (h':=psR z j32::(bl32++h)) (.inl rfl) rfl (A4 P3 rfl rfl rfl Me rfl) (View.le.refl m) Sb ?_))
 exact⟨_,_,bl32,hq,hj32,⟨p32,rfl,rfl,hO32⟩,rfl⟩
theorem b91 (r:List Tok):b5k r=if r.length=1∧(r.getD 0 zeroK).kind=3∧0≤(r.getD 0 zeroK).n∧(r.getD 0 zeroK).n < 8 then some (r.getD 0 zeroK).n else none:=by
 cases r with
 | nil=>rfl
 | cons t r=>
   cases r with
   | nil=>
     show(if t.kind=3∧0≤t.n∧t.n < 8 then some t.n else none)=_
     by_cases h:t.kind=3∧0≤t.n∧t.n < 8
     · rw[if_pos h,if_pos ⟨rfl,h⟩];rfl
     · rw[if_neg h,if_neg fun q=>h q.2]
   | cons u r=>
     rw[if_neg]
     · rfl
     · intro q
       have:=q.1
       simp only[List.length_cons] at this
       omega
theorem b9P {n:Nat} (h:(!((n:Int) != 1))=true):0 < n:=by simp at h;omega
theorem b9G {n:Nat} {b:Bool} (h:(!(((n:Int) != 1)||b))=true):0 < n:=by simp at h;omega
theorem b96 {n:Nat} {b b2:Bool} (h:(!((((n:Int) != 1)||b)||b2))=true):0 < n:=by simp at h;omega
theorem c0l {n:Nat} {k v:Int} (h:(((((n:Int) != 1)||(k != 3))||decide (v < 0))||decide (v ≥ 8))=true):¬ (n=1∧k=3∧0≤v∧v < 8):=by
 rintro ⟨rfl,rfl,h1,h2⟩
 rw[decide_eq_false (by omega),decide_eq_false (by omega)] at h
 cases h
theorem b7K {n:Nat} {k v:Int} (h:(((((n:Int) != 1)||(k != 3))||decide (v < 0))||decide (v ≥ 8))=false):n=1∧k=3∧0≤v∧v < 8:=by
 simp at h
 omega
abbrev plX (a:Option Addr) (c:Nat) (l:List Pr) (a2:Option Addr) (c2:Nat) (ns:List Int):Pr:=.mk 11 [] A3 B5 B5 D5 none 0 [] a c l ⟨a2,c2,ns⟩ D2
theorem b6T {m:View} (hg:Glob m) {z:Pz} (hz:Pok m z) {n:Nat} (hrec:REC m z n) (d:Int) (i b:Nat) (a:Option Addr) (c:Nat) (ts:List Tok) (h hT:List Res) (hk:Tk2 m hT a c ts) (hs:hT.Sublist h) (hi:i < z.R.length) (hf:z.R.length≤i+n+1) (hd:0≤d∧d≤32) :
   QrX m z 122 [ptV z.bp,.int .i64 d,ptV b] i b a c ts h (a2K z.R (C0 z.R n) d ts i) (OP m):=by
 have hR:=hz.ok.1
 have hq:a2K z.R (C0 z.R n) d ts i=V7 2 [80,65,82] ts i fun r=>F9 r i fun i=>R0 (R5 z.R (C0 z.R n) d (z.R.length - i) [] [] i) fun x i=>.ok (prM 11 [] A3 [] [] D5 [] x.2 x.1 D2,i):=rfl
 refine CX.body Tryz.call122 Tryz.func122 rfl Tryz.ntmps122 Lb rfl ?_
 refine j0 ?_
 refine xW fun b6=>?_
 refine kQ0 [0,1,2,6] ?_
 refine kA1 ?_
 refine xf (E1 Ev.const) (K2 _ _ _) ?_
 refine xY A9 (EvP.cons Et EvP.nil) fun b11=>?_
 refine WL.perm (Del.perm (r:=lnR b a ts.length c) De) ?_
 refine A1 Ev.func (E2 Et Et) (N7 b a c ts _ _ _ _ _ hk (by first | exact G2 Me | exact hs.trans Sb) (Rd.ofPt rfl (by decide) Me)) Lb (fun v hv hx=>?_) fun v12 h12 hr12=>?_
 · obtain⟨hx1,rfl,rfl⟩:=hx;rw[a2e hx1] at hq;exact prP Tryz.f122 hq Sb
 obtain⟨hi12,a12,u12,hk12,rfl⟩:=hr12
 rw[a1P hi12] at hq
 refine kQ0 [0,1,2,6] ?_
 refine kA2 ?_
 refine WL.perm ((Del.perm (r:=psR z i) De).trans ((Del.perm (r:=lnR b a12 ts.tail.length u12) De).cons _)) ?_
 refine A1 Ev.func (E3 Et Ev.const Et) (b1b hz 11 i b a12 u12 ts.tail _ hi) Lb (fun v hv hx=>?_) fun v15 h15 hr15=>?_
 · obtain⟨hx1,rfl,rfl⟩:=hx;rw[M6 hx1] at hq;exact prP Tryz.f122 hq Sb
 obtain⟨hz15,rfl,rfl⟩:=hr15
 rw[M3 hz15] at hq
 refine xW fun b7=>?_
 refine kA1 ?_
 refine WL.addNil 3 1 ?_
 refine WL.addNil 52 42 ?_
 refine WL.perm (Del.perm (r:=psR z (i+1)) De) ?_
 refine kQ0 [0,1,6,7] ?_
 refine B1 [0,1,6,7] rfl (fun μ F' h'=>∃ a9:Option Addr,∃ c9:Nat,∃ l:List Pr,∃ an:Option Addr,∃ cn:Nat,∃ ns:List Int,∃ bl:List Res,∃ k:Nat,∃ j:Nat,((l.length+i+1≤j∧j≤z.R.length∧z.R.length≤j+k)∧((∀ x ∈ l,POk m bl x)∧(∀ x ∈ ns,-9223372036854775808≤x∧x≤9223372036854775807)∧ns.length=l.length)∧a2K z.R (C0 z.R n) d ts i=R0 (R5 z.R (C0 z.R n) d k ns (l.map stP) j) fun x i=>.ok (prM 11 [] A3 [] [] D5 [] x.2 x.1 D2,i))∧k=μ∧F'=[]∧psR z j::.row (.slice a9 l.length c9) 52 42 l.length (fl prE l)::.row (.slice an ns.length cn) 3 1 ns.length (fl a3H ns)::prR b7 (plX a9 c9 l an cn ns)::prR b6 (p0 0 [] A3 B5 B5 D5)::(bl++h)=h') ((z.R.length - (i+1))) [] (h0:=psR z (i+1)::.row (.slice none ([]).length 0) 52 42 ([]).length (fl prE ([]))::.row (.slice none ([]).length 0) 3 1 ([]).length (fl a3H ([]))::prR b7 (plX none 0 ([]) none 0 ([]))::prR b6 (p0 0 [] A3 B5 B5 D5)::(([])++h)) ?_ Sb ⟨none,0,[],none,0,[],[],z.R.length - (i+1),i+1,⟨⟨by simp,by omega,by omega⟩,⟨fun _ hx=>(List.not_mem_nil hx).elim,fun _ hx=>(List.not_mem_nil hx).elim,rfl⟩,hq⟩,rfl,rfl,rfl⟩ ?_
 exact Su
 rintro _ _ _ ⟨a9,c9,l,an,cn,ns,bl,k,j,⟨⟨hl,hj,hk⟩,⟨hS,hN,hNl⟩,hq⟩,rfl,rfl,rfl⟩
 refine B3 rfl ?_
 have hlm:(l.map stP).length=l.length:=List.length_map _
 refine a7F ?_
 refine E8 (Z1 rfl rfl) (fun hc=>I7 (Eg hc) Ev.const (by first | omega | (simp at hc;omega))) Lb ?_
 refine A8 (Z1 rfl rfl) (fun hc=>⟨Ev.func,(E2 (Eg hc) (Eg hc)),a5f hz j (d+1) _ Me⟩) Lb ?_
 refine zG (fun hc=>R2 hc rfl rfl) ?_
 refine kQ1 [0,1,6,7,31] ?_
 refine wc (fun c31=>?_) fun c31=>?_
 change (((l.length:Int)==0)||(decide ((l.length:Int) < 8)&&N6 z.R (d+1) j))=true at c31
 have hc:(l.map stP).length=0∨((l.map stP).length < 8∧N6 z.R (d+1) j=true):=by
   simp only[Bool.or_eq_true,Bool.and_eq_true,decide_eq_true_eq,beq_iff_eq] at c31
   rw[hlm]
   exact c31.imp (fun q=>by omega) fun q=>⟨by omega,q.2⟩
 rw[b6W hk hc] at hq
 refine kQ0 [0,1,6,7] ?_
 refine kA3 ?_
 refine WL.perm (Del.perm (r:=psR z j) De) ?_
 refine A1 Ev.func (E2 Et Et) (a2O hg hz j _ _ (by omega)) Lb (fun v hv hx=>?_) fun v35 h35 hr35=>?_
 · obtain⟨e,j,hx1,rfl,rfl⟩:=hx;(first | rw[hx1] at hq | rw[J1 hx1] at hq);exact prP Tryz.f122 hq Sb
 obtain⟨r35,b35,a35,u35,hM35,rfl,hk35,rfl⟩:=hr35
 have ho35:=a1c hz hM35
 rw[a3t hM35] at hq
 refine kQ1 [0,1,6,7,8] ?_
 refine kA1 ?_
 refine xf (E1 Ev.const) (K2 _ _ _) ?_
 refine xY A9 (EvP.cons Et EvP.nil) fun b38=>?_
 refine WL.perm (Del.perm (r:=lnR b35 a35 r35.length u35) De) ?_
 refine A1 Ev.func (E2 Et Et) (N7 b35 a35 u35 r35 _ _ _ _ _ hk35 (by first | exact G2 Me | exact hs.trans Sb) (Rd.ofPt rfl (by decide) Me)) Lb (fun v hv hx=>?_) fun v39 h39 hr39=>?_
 · obtain⟨hx1,rfl,rfl⟩:=hx;rw[a2e hx1] at hq;exact prP Tryz.f122 hq Sb
 obtain⟨hi39,a39,u39,hk39,rfl⟩:=hr39
 rw[a1P hi39] at hq
 refine kQ0 [0,1,6,7,8] ?_
 obtain⟨t,ht⟩:∃ t,t=r35.tail.getD 0 zeroK:=⟨_,rfl⟩
 have hel0:0 < r35.tail.length→r35.tail[0]?=some t:=fun hq=>by rw[ht,List.getD_eq_getElem?_getD,List.getElem?_eq_getElem hq];rfl
 have hrd:=(hk39.mono (h':=tkW a35 u35 r35::[psR z j]) (G2 (List.Mem.head _))).k.rd
 have hpm:=b91 r35.tail
 rw[← ht] at hpm
 refine kA8 ?_
 refine zG (fun hc=>PO.nilCheck (Eg hc)) ?_
 refine kA2 ?_
 refine zG (fun hc=>F4 A9.und A9.size A9.posz (Eg hc) Ev.const Rr rfl (q:=0) (b9P hc)) ?_
 refine zG (fun hc=>F5 H9 rfl (Nat.ne_of_beq_eq_false rfl) B7 (Nat.succ_pos _) Rr (hel0 (b9P hc)) (Eg hc)) ?_
 refine zG (fun hc=>F8 a6N rfl B7 Rr (Eg hc) (hel0 (b9P hc)) rfl) ?_
 refine kA4 ?_
 refine zG (fun hc=>PO.nilCheck (Eg hc)) ?_
 refine kA2 ?_
 refine zG (fun hc=>F4 A9.und A9.size A9.posz (Eg hc) Ev.const Rr rfl (q:=0) (b9G hc)) ?_
 refine zG (fun hc=>F5 H9 rfl (Nat.ne_of_beq_eq_false rfl) B7 (Nat.succ_pos _) Rr (hel0 (b9G hc)) (Eg hc)) ?_
 refine zG (fun hc=>F8 a2U rfl B7 Rr (Eg hc) (hel0 (b9G hc)) rfl) ?_
 refine kA4 ?_
 refine zG (fun hc=>PO.nilCheck (Eg hc)) ?_
 refine kA2 ?_
 refine zG (fun hc=>F4 A9.und A9.size A9.posz (Eg hc) Ev.const Rr rfl (q:=0) (b96 hc)) ?_
 refine zG (fun hc=>F5 H9 rfl (Nat.ne_of_beq_eq_false rfl) B7 (Nat.succ_pos _) Rr (hel0 (b96 hc)) (Eg hc)) ?_
 refine zG (fun hc=>F8 a2U rfl B7 Rr (Eg hc) (hel0 (b96 hc)) rfl) ?_
 refine kQ2 [0,1,6,7,8,75] ?_
 refine wc (fun c75=>?_) fun c75=>?_
 rw[if_neg (c0l c75)] at hpm
 rw[hpm] at hq
 refine j0 ?_
 refine A1 Ev.func Evs.nil (I4 _ _) Lb (fun v hv hx=>?_) fun v76 h76 hr76=>?_
 · obtain⟨rfl,rfl⟩:=hx;exact prP Tryz.f122 hq Sb
 exact hr76.elim
 have d75:=b7K c75
 rw[if_pos d75] at hpm
 rw[hpm] at hq
 dsimp only at hq
 have hel:=hel0 (by omega)
 have h1l:=d75.1
 refine kQ0 [0,1,6,7,8] ?_
 refine dS [10] (.op 0 (.op 1 (.op 2 (.op 3 (.op 4 (.op 5 (.op 6 (.op 7 (.op 8 (.op 9 (.op 10 .nil))))))))))) [11,12,13] D8 ?_
 refine kA6 ?_
 refine yG rfl (F4 A9.und A9.size A9.posz (Ev.tmp rfl) Ev.const Rr rfl (q:=0) (by omega)) ?_
 refine kA2 ?_
 refine yG rfl (PO.conv a2U uu3 Et) ?_
 refine SR.val (v':=.int .i64 t.n) (congrArg (Value.int .i64) (Go.Ty.wrapN ⟨by omega,by omega⟩)) ?_
 refine SR.buildSlice rfl rfl c3d rfl (EvP.cons Et EvP.nil) rfl rfl (by decide) rfl Lb fun b87=>?_
 refine SR.nil rfl rfl ?_
 have hln1:(ns++[t.n]).length=ns.length+1:=List.length_append
 refine xD c3d (Ev.tmp rfl) (Ev.tmp rfl) (show ns.length+1=(ns++[t.n]).length by simp) (F7 (enc:=a3H) _ (t.n)) fun a88 c88=>?_
 refine kQ2 [0,1,6,7,8] ?_
 refine kQ4 [0,1,6,7,8] ?_
 refine kA2 ?_
 refine WL.perm ((Del.perm (r:=psR z j) De).trans ((Del.perm (r:=lnR b35 none 0 0) De).cons _)) ?_
 refine A1 Ev.func (E2 Et Et) (L1 hz j b35 none 0 [] _ (by omega)) Lb (fun v hv hx=>?_) fun v95 h95 hr95=>?_
 · exact absurd rfl hx.1
 obtain⟨-,rfl⟩:=hr95
 refine wn [0,1,6,7] ?_
 refine jE ?_
 refine WC.drop (h':=psR z (j+1)::.row (.slice a9 l.length c9) 52 42 l.length (fl prE l)::.row (.slice a88 (ns++[t.n]).length c88) 3 1 (ns++[t.n]).length (fl a3H (ns++[t.n]))::prR b7 (plX a9 c9 l a88 c88 (ns++[t.n]))::prR b6 (p0 0 [] A3 B5 B5 D5)::(bl++h)) Sb ?_
 refine WC.take (r:=psR z (j+1)) De ?_
 refine G1 [5,6] (.op 0 (.op 1 (.op 2 (.op 3 (.op 4 (.op 5 (.op 6 .nil))))))) [7,8,9] _ [_] D8 (fun _ _ _ _ _ h=>h) [] (by kernel_rfl) ?_
 refine kA4 ?_
 refine yG rfl (I7 Et Ev.const (by omega)) ?_
 refine a1x rfl rfl Ev.func (E3 Et Et Ev.const) (fun fr=>c4h hrec (j+1) (d+2) false _ (by omega) (by omega) (by omega)) Lb (fun fr v hv hx=>?_) fun v101 h101 hr101=>?_
 · obtain⟨e,j2,hx1,rfl,rfl⟩:=hx
   rw[hx1] at hq
   exact prP Tryz.f122 hq ((a1X Sb fr).cons_cons _)
 obtain⟨p101,j101,bl101,hM101,hj101,rfl,hO101,rfl⟩:=hr101
 refine SR.buildSlice rfl rfl Z9 rfl (EvP.cons Et EvP.nil) rfl rfl (by decide) rfl Lb fun b102=>?_
 refine a1N (H:=prR b102 p101::psR z j101::.row (.slice a9 l.length c9) 52 42 l.length (fl prE l)::.row (.slice a88 (ns++[t.n]).length c88) 3 1 (ns++[t.n]).length (fl a3H (ns++[t.n]))::prR b7 (plX a9 c9 l a88 c88 (ns++[t.n]))::prR b6 (p0 0 [] A3 B5 B5 D5)::(bl101++(bl++h))) rfl (((X0 bl101 [_,_,_,_] (bl++h)).cons _).cons _) ?_
 have hln:(l++[p101]).length=l.length+1:=List.length_append
 refine xD Z9 (Ev.tmp rfl) (Ev.tmp rfl) (show l.length+1=(l++[p101]).length by simp) (F7 (enc:=prE) _ (p101)) fun a103 c103=>?_
 refine kA2 ?_
 rw[hM101,O8] at hq
 rw[← List.append_assoc bl101 bl]
 have hm2:(l++[p101]).map stP=l.map stP++[stP p101]:=by rw[List.map_append,List.map_singleton]
 refine WL.nil (A6 ((k - 1)) [] (h'':=psR z j101::.row (.slice a103 (l++[p101]).length c103) 52 42 (l++[p101]).length (fl prE (l++[p101]))::.row (.slice a88 (ns++[t.n]).length c88) 3 1 (ns++[t.n]).length (fl a3H (ns++[t.n]))::prR b7 (plX a103 c103 (l++[p101]) a88 c88 (ns++[t.n]))::prR b6 (p0 0 [] A3 B5 B5 D5)::((bl101++bl)++h)) (by omega) ?_ Su Sb ⟨a103,c103,l++[p101],a88,c88,ns++[t.n],bl101++bl,k - 1,j101,⟨⟨by omega,by omega,by omega⟩,⟨W7 (fun y hy=>(hS y hy).mono (List.sublist_append_right _ _)) (hO101.mono (List.sublist_append_left _ _)),W7 hN ⟨by omega,by omega⟩,by omega⟩,hq.trans (by rw[hm2])⟩,rfl,rfl,rfl⟩)
 exact Su
 change (((l.length:Int)==0)||(decide ((l.length:Int) < 8)&&N6 z.R (d+1) j))=false at c31
 have hc:¬ ((l.map stP).length=0∨((l.map stP).length < 8∧N6 z.R (d+1) j=true)):=fun q=>by
   rw[hlm] at q
   have:(((l.length:Int)==0)||(decide ((l.length:Int) < 8)&&N6 z.R (d+1) j))=true:=by
     simp only[Bool.or_eq_true,Bool.and_eq_true,decide_eq_true_eq,beq_iff_eq]
     exact q.imp (fun q=>by omega) fun q=>⟨by omega,q.2⟩
   rw[this] at c31
   cases c31
 rw[b2Z hc,O8] at hq
 refine P7 (a:=a9) Me fun p9 q9 r9=>?_
 refine P7 (a:=an) Me fun p8 q8 r8=>?_
 refine kQ0 [6,7] ?_
 refine kQ2 [6] ?_
 refine WC.ret (toX (.inl rfl) (I2 (h':=psR z j::(.row (.slice a9 l.length c9) 52 42 l.length (fl prE l)::.row (.slice an ns.length cn) 3 1 ns.length (fl a3H ns)::(bl++h))) (.inl rfl) rfl (A4 P3 rfl rfl rfl Me rfl) (View.le.refl m) Sb ?_))
 exact⟨_,_,.row (.slice a9 l.length c9) 52 42 l.length (fl prE l)::.row (.slice an ns.length cn) 3 1 ns.length (fl a3H ns)::bl,hq,⟨by omega,hj⟩,⟨plX a9 c9 l an cn ns,rfl,S9 _,a3f (by decide) (Nat.zero_le _) (F1 _ _) (F3 _ _) (F3 _ _) (R4 _ _) (X9 _ _) ⟨Rd.inRow (List.Mem.head _) r9 p9 q9,fun x hx=>(hS x hx).mono (((List.Sublist.refl _).cons _).cons _)⟩ ⟨Rd.inRow (List.Mem.tail _ (List.Mem.head _)) r8 p8 q8,hN⟩ (Q3 _ _)⟩,rfl⟩
end Go.Proofs.YtkemgjnejlkkcaaGreatDoor
end
section
namespace Go.Proofs.YtkemgjnejlkkcaaGreatDoor
set_option maxRecDepth 100000
set_option maxHeartbeats 2000000
open Go.Eng Go.Pc Go.Sx Go
open Go.Xp hiding B D9
open Go.Ty (Ty Vr Tok eqT tyV J2 B4 B7 S1 zeroK M5 D6)
open Go.Lx (encB D1 lexO)
open Go.Ly (Rw I6 C7)
theorem b3f {α:Type} {take:List Tok→E α} {sep:B}:∀ {n:Nat} {acc:List α} {ts:List Tok} {l:List α} {r:List Tok},1≤acc.length→a2r take sep n acc ts=.ok (l,r)→1≤l.length
 | 0,acc,ts,l,r,h0,h=>by
   unfold a2r at h
   split at h
   · cases h
   · cases h;exact h0
 | n+1,acc,ts,l,r,h0,h=>by
   unfold a2r at h
   split at h
   · cases ht:take ts.tail with
     | error e=>rw[ht] at h;cases h
     | ok x=>
       obtain⟨x,r2⟩:=x
       rw[ht,I1] at h
       exact b3f (by rw[List.length_append];omega) h
   · cases h;exact h0
theorem b8r {α:Type} {take:List Tok→E α} {sep:B} {n:Nat} {ts:List Tok} {l:List α} {r:List Tok} (h:P9 take sep n ts=.ok (l,r)):1≤l.length:=by
 unfold P9 at h
 cases ht:take ts with
 | error e=>rw[ht] at h;cases h
 | ok x=>
   obtain⟨x,r2⟩:=x
   rw[ht,I1] at h
   exact b3f (Nat.le_refl _) h
set_option maxHeartbeats 2000000 in
theorem b7g {m:View} (hg:Glob m) {z:Pz} (hz:Pok m z) {n:Nat} (hrec:REC m z n) (d:Int) (i b:Nat) (a:Option Addr) (c:Nat) (ts:List Tok) (h hT:List Res) (hk:Tk2 m hT a c ts) (hs:hT.Sublist h) (hi:i < z.R.length) (hf:z.R.length≤i+n+1) (hd:0≤d∧d≤32) (h0:0 < ts.length) :
   QrX m z 53 [ptV z.bp,.int .i64 d,ptV b] i b a c ts h (a1a z.R (C0 z.R n) d ts i) (OP m):=by
 have hR:=hz.ok.1
 have hq:a1a z.R (C0 z.R n) d ts i=if (ts.headD Go.Ty.zeroK).kind=1∧isM 5 [40] ts.tail=true then I3 (V9 ts) i fun n r=>I3 (brM M2 r) i fun l r=>F9 r i fun i=>.ok (prM 17 n A3 [] l D5 [] [] [] D2,i)
   else I3 (P9 L3 [44] 8 ts) i fun f r=>
   if isM 5 [58,61] r then I3 (P9 M2 [44] 8 r.tail) i fun l r=>F9 r i fun i=>.ok (prM 3 [] A3 f l D5 [] [] [] D2,i)
   else if f.length > 1 then .error (110,i)
   else if isM 5 [33] r then I3 (P9 M2 [59] 9 r.tail) i fun l r=>F9 r i fun i=>.ok (prM 5 [] (f.headD A3) [] l D5 [] [] [] D2,i)
   else V7 5 [63] r i fun r=>
     if isM 2 [67,65,83,69] r then F9 r.tail i fun i=>R0 (a07 z.R (C0 z.R n) b3o 1 16 (d+1) i) fun l i=>.ok (prM 7 [] (f.headD A3) [] [] D5 l [] [] D2,i)
     else if isM 2 [65,70,84,69,82] r then I3 (M2 r.tail) i fun e r=>F9 r i fun i=>.ok (prM 6 [] (f.headD A3) [] [e] D5 [] [] [] D2,i)
     else I3 (P9 L3 [59] 8 r) i fun l r=>F9 r i fun i=>.ok (prM 4 [] (f.headD A3) l [] D5 [] [] [] D2,i):=rfl
 have hrd:=(hk.mono hs).k.rd
 obtain⟨t,ht⟩:∃ t,t=ts.getD 0 zeroK:=⟨_,rfl⟩
 have hel:ts[0]?=some t:=by rw[ht,List.getD_eq_getElem?_getD,List.getElem?_eq_getElem h0];rfl
 rw[b6l,← ht] at hq
 refine CX.body Tryz.call53 Tryz.func53 rfl Tryz.ntmps53 Lb rfl ?_
 refine j0 ?_
 refine xW fun b6=>?_
 refine kQ0 [0,1,2,6] ?_
 refine kA1 ?_
 refine xW fun b7=>?_
 refine kQ1 [0,1,2,6,7] ?_
 refine kA4 ?_
 refine xG (a0l A9.und A9.size Et Ev.const (l:=1) rfl (by omega)) ?_
 refine kA1 ?_
 refine xW fun b8=>?_
 refine kQ1 [0,1,2,6,7,8] ?_
 refine kA4 ?_
 refine xG (F4 A9.und A9.size A9.posz (Ev.tmp rfl) Ev.const Rr rfl (q:=0) (by omega)) ?_
 refine kA4 ?_
 refine A8 (GU.t rfl rfl) (fun hc=>⟨Ev.func,(E1 Ev.const),H0 _ _ _⟩) Lb ?_
 refine A8 (GU.t rfl rfl) (fun hc=>⟨Ev.func,(E2 Et (Eg hc)),a2A b8 (sl1 a 1 c 4) (c - 1) ts.tail _ _ hT (by rw[List.length_tail];exact List.mem_cons_self ..) (hk.tail h0) (hs.trans Sb)⟩) Lb ?_
 refine kQ1 [0,1,2,6,7,28] ?_
 refine wc (fun c28=>?_) fun c28=>?_
 have d28:t.kind=1∧isM 5 [40] ts.tail=true:=by simpa using c28
 rw[if_pos d28] at hq
 refine kA1 ?_
 refine WL.perm (Del.perm (r:=lnR b a ts.length c) De) ?_
 refine A1 Ev.func (E1 Et) (a0Z b a c ts _ _ hk (hs.trans Sb)) Lb (fun v hv hx=>?_) fun v30 h30 hr30=>?_
 · obtain⟨e,hx1,rfl,rfl⟩:=hx;rw[hx1] at hq;exact prP Tryz.f53 hq Sb
 obtain⟨x30,r30,a30,u30,hM30,⟨rfl,hw30⟩,hk30,rfl⟩:=hr30
 rw[hM30,I9] at hq
 refine kQ4 [0,2,6,7] ?_
 refine kA2 ?_
 refine xG (PO.makeFunc (E1 Et) Evs.nil) ?_
 refine WL.perm (Del.perm (r:=lnR b a30 r30.length u30) De) ?_
 refine A1 Ev.func (E2 Et Et) (c2i 109 M2 b a30 u30 r30 _ _ hk30 (hs.trans Sb) (fun a c ts h hk hs=>T8 hg b a c ts h _ hk hs)) Lb (fun v hv hx=>?_) fun v36 h36 hr36=>?_
 · obtain⟨e,hx1,rfl,rfl⟩:=hx;rw[hx1] at hq;exact prP Tryz.f53 hq Sb
 obtain⟨x36,r36,a36,u36,bl36,hM36,⟨s36,rfl,rfl,hO36⟩,hk36,rfl⟩:=hr36
 refine WL.perm ((Mv.perm (by (repeat (first | apply Mv.cons | exact Mv.stop)))).cons _) ?_
 rw[hM36,I9] at hq
 refine kQ2 [0,2,6,7] ?_
 refine kA2 ?_
 refine WL.perm ((Del.perm (r:=psR z i) De).trans ((Del.perm (r:=lnR b a36 r36.length u36) De).cons _)) ?_
 refine A1 Ev.func (E2 Et Et) (L1 hz i b a36 u36 r36 _ (by omega)) Lb (fun v hv hx=>?_) fun v40 h40 hr40=>?_
 · obtain⟨hx1,rfl,rfl⟩:=hx;rw[M6 hx1] at hq;exact prP Tryz.f53 hq Sb
 obtain⟨hz40,rfl⟩:=hr40
 rw[M3 hz40] at hq
 refine kQ0 [6,7] ?_
 refine kQ2 [6] ?_
 refine WC.ret (toX (.inl rfl) (I2 (h':=psR z (i+1)::(bl36++h)) (.inl rfl) rfl (A4 P3 rfl rfl rfl Me rfl) (View.le.refl m) Sb ?_))
 exact⟨_,_,bl36,hq,⟨by omega,by omega⟩,⟨.mk 17 x30 A3 B5 s36 D5 none 0 [] none 0 [] B5 D2,rfl,S9 _,a3f (by decide) hw30 (F1 _ _) (F3 _ _) hO36 (R4 _ _) (X9 _ _) (a2P _ _) (U9 _ _) (Q3 _ _)⟩,rfl⟩
 have d28:¬ (t.kind=1∧isM 5 [40] ts.tail=true):=fun q=>by
   have:((t.kind==1)&&isM 5 [40] ts.tail)=true:=by simpa using q
   exact absurd (this.symm.trans c28) (by decide)
 rw[if_neg d28] at hq
 refine kQ0 [0,1,2,6,7] ?_
 refine kA2 ?_
 refine xG (PO.makeFunc (E1 Et) Evs.nil) ?_
 refine WL.perm (Del.perm (r:=lnR b a ts.length c) De) ?_
 refine A1 Ev.func (E4 Et Ev.const Ev.const Et) (a0D 112 L3 [44] 8 b a c ts _ _ hk (hs.trans Sb) (by decide) (fun a c ts h hk hs=>a0r hg b a c ts h _ hk hs)) Lb (fun v hv hx=>?_) fun v45 h45 hr45=>?_
 · obtain⟨e,hx1,rfl,rfl⟩:=hx;rw[hx1] at hq;exact prP Tryz.f53 hq Sb
 obtain⟨x45,r45,a45,u45,bl45,hM45,⟨s45,rfl,rfl,hO45⟩,hk45,rfl⟩:=hr45
 refine WL.perm ((Mv.perm (by (repeat (first | apply Mv.cons | exact Mv.stop)))).cons _) ?_
 rw[hM45,I9] at hq
 refine kQ1 [0,1,2,6,7,9] ?_
 refine kA1 ?_
 refine xf (E1 Ev.const) (H0 _ _ _) ?_
 refine WL.perm (Del.perm (r:=lnR b a45 r45.length u45) De) ?_
 refine xg (E2 Et Et) (K5 b a45 u45 r45 _ _ _ hk45 (hs.trans Sb)) ?_
 rintro _ _ ⟨a49,u49,r49,rfl,he49,hk49,rfl⟩
 refine kQ1 [0,1,2,6,7,9,46] ?_
 refine wc (fun c46=>?_) fun c46=>?_
 replace he49:=he49.trans (if_pos c46)
 subst r49
 rw[if_pos c46] at hq
 refine kA3 ?_
 refine xG (PO.makeFunc (E1 Et) Evs.nil) ?_
 refine WL.perm (Del.perm (r:=lnR b a49 r45.tail.length u49) De) ?_
 refine A1 Ev.func (E4 Et Ev.const Ev.const Et) (a0D 109 M2 [44] 8 b a49 u49 r45.tail _ _ hk49 (hs.trans Sb) (by decide) (fun a c ts h hk hs=>T8 hg b a c ts h _ hk hs)) Lb (fun v hv hx=>?_) fun v54 h54 hr54=>?_
 · obtain⟨e,hx1,rfl,rfl⟩:=hx;rw[hx1] at hq;exact prP Tryz.f53 hq Sb
 obtain⟨x54,r54,a54,u54,bl54,hM54,⟨s54,rfl,rfl,hO54⟩,hk54,rfl⟩:=hr54
 refine WL.perm ((Mv.perm (by (repeat (first | apply Mv.cons | exact Mv.stop)))).cons _) ?_
 rw[hM54,I9] at hq
 refine kQ4 [0,2,6,7] ?_
 refine kA2 ?_
 refine WL.perm ((Del.perm (r:=psR z i) De).trans ((Del.perm (r:=lnR b a54 r54.length u54) De).cons _)) ?_
 refine A1 Ev.func (E2 Et Et) (L1 hz i b a54 u54 r54 _ (by omega)) Lb (fun v hv hx=>?_) fun v59 h59 hr59=>?_
 · obtain⟨hx1,rfl,rfl⟩:=hx;rw[M6 hx1] at hq;exact prP Tryz.f53 hq Sb
 obtain⟨hz59,rfl⟩:=hr59
 rw[M3 hz59] at hq
 refine kQ0 [6,7] ?_
 refine kQ2 [6] ?_
 refine WC.ret (toX (.inl rfl) (I2 (h':=psR z (i+1)::(bl54++(bl45++h))) (.inl rfl) rfl (A4 P3 rfl rfl rfl Me rfl) (View.le.refl m) Sb ?_))
 exact⟨_,_,bl54++bl45,hq,⟨by omega,by omega⟩,⟨.mk 3 [] A3 s45 s54 D5 none 0 [] none 0 [] B5 D2,rfl,S9 _,a3f (by decide) (Nat.zero_le _) (F1 _ _) (hO45.mono (List.sublist_append_right _ _)) (hO54.mono (List.sublist_append_left _ _)) (R4 _ _) (X9 _ _) (a2P _ _) (U9 _ _) (Q3 _ _)⟩,by rw[List.append_assoc]⟩
 replace he49:=he49.trans (if_neg (H3 c46))
 subst r49
 rw[if_neg (H3 c46)] at hq
 refine kQ4 [0,1,2,6,7,9,61] ?_
 refine wc (fun c61=>?_) fun c61=>?_
 replace c61:=dT c61
 rw[if_pos (by rw[List.length_map];omega)] at hq
 refine j0 ?_
 refine A1 Ev.func Evs.nil (I4 _ _) Lb (fun v hv hx=>?_) fun v65 h65 hr65=>?_
 · obtain⟨rfl,rfl⟩:=hx;exact prP Tryz.f53 hq Sb
 exact hr65.elim
 replace c61:=dF c61
 rw[if_neg (by rw[List.length_map];omega)] at hq
 refine kQ0 [0,1,2,6,7,9] ?_
 have hp45:=b8r hM45
 rw[List.length_map] at hp45
 have hrd45:=hO45.rd
 obtain⟨e0,he0⟩:=A5 (l:=s45.l) (k:=0) (by omega)
 have hE0:EOk m bl45 e0:=hO45.ok e0 (List.mem_of_getElem? he0)
 have hf0:(s45.l.map C1).headD A3=C1 e0:=by
   cases hs45:s45.l with
   | nil=>rw[hs45] at he0;cases he0
   | cons y r=>rw[hs45] at he0;cases he0;rfl
 rw[hf0] at hq
 refine kA1 ?_
 refine xG (F4 a0e.und a0e.size a0e.posz (Ev.tmp rfl) Ev.const Rr rfl (q:=0) (by omega)) ?_
 refine kQ3 [0,1,2,6,7] ?_
 refine kA1 ?_
 refine xf (E1 Ev.const) (H0 _ _ _) ?_
 refine WL.perm (Del.perm (r:=lnR b a49 r45.length u49) De) ?_
 refine xg (E2 Et Et) (K5 b a49 u49 r45 _ _ _ hk49 (hs.trans Sb)) ?_
 rintro _ _ ⟨a72,u72,r72,rfl,he72,hk72,rfl⟩
 refine kQ0 [0,1,2,6,7,72] ?_
 refine wc (fun c72=>?_) fun c72=>?_
 replace he72:=he72.trans (if_pos c72)
 subst r72
 rw[if_pos c72] at hq
 refine kA2 ?_
 refine xG (PO.makeFunc (E1 Et) Evs.nil) ?_
 refine WL.perm (Del.perm (r:=lnR b a72 r45.tail.length u72) De) ?_
 refine A1 Ev.func (E4 Et Ev.const Ev.const Et) (a0D 109 M2 [59] 9 b a72 u72 r45.tail _ _ hk72 (hs.trans Sb) (by decide) (fun a c ts h hk hs=>T8 hg b a c ts h _ hk hs)) Lb (fun v hv hx=>?_) fun v76 h76 hr76=>?_
 · obtain⟨e,hx1,rfl,rfl⟩:=hx;rw[hx1] at hq;exact prP Tryz.f53 hq Sb
 obtain⟨x76,r76,a76,u76,bl76,hM76,⟨s76,rfl,rfl,hO76⟩,hk76,rfl⟩:=hr76
 refine WL.perm ((Mv.perm (by (repeat (first | apply Mv.cons | exact Mv.stop)))).cons _) ?_
 rw[hM76,I9] at hq
 refine kQ4 [0,2,6,7] ?_
 refine kA2 ?_
 refine WL.perm ((Del.perm (r:=psR z i) De).trans ((Del.perm (r:=lnR b a76 r76.length u76) De).cons _)) ?_
 refine A1 Ev.func (E2 Et Et) (L1 hz i b a76 u76 r76 _ (by omega)) Lb (fun v hv hx=>?_) fun v81 h81 hr81=>?_
 · obtain⟨hx1,rfl,rfl⟩:=hx;rw[M6 hx1] at hq;exact prP Tryz.f53 hq Sb
 obtain⟨hz81,rfl⟩:=hr81
 rw[M3 hz81] at hq
 refine kQ0 [6,7] ?_
 refine kQ2 [6] ?_
 refine WC.ret (toX (.inl rfl) (I2 (h':=psR z (i+1)::(bl76++(bl45++h))) (.inl rfl) rfl (A4 P3 rfl rfl rfl Me rfl) (View.le.refl m) Sb ?_))
 exact⟨_,_,bl76++bl45,hq,⟨by omega,by omega⟩,⟨.mk 5 [] e0 B5 s76 D5 none 0 [] none 0 [] B5 D2,rfl,S9 _,a3f (by decide) (Nat.zero_le _) (hE0.mono (List.sublist_append_right _ _)) (F3 _ _) (hO76.mono (List.sublist_append_left _ _)) (R4 _ _) (X9 _ _) (a2P _ _) (U9 _ _) (Q3 _ _)⟩,by rw[List.append_assoc]⟩
 replace he72:=he72.trans (if_neg (H3 c72))
 subst r72
 rw[if_neg (H3 c72)] at hq
 refine kQ0 [0,1,2,6,7] ?_
 refine kA1 ?_
 refine xf (E1 Ev.const) (H0 _ _ _) ?_
 refine xY A9 (EvP.cons Et EvP.nil) fun b85=>?_
 refine WL.perm (Del.perm (r:=lnR b a72 r45.length u72) De) ?_
 refine A1 Ev.func (E2 Et Et) (N7 b a72 u72 r45 _ _ _ _ _ hk72 (hs.trans Sb) (Rd.ofPt rfl (by decide) Me)) Lb (fun v hv hx=>?_) fun v86 h86 hr86=>?_
 · obtain⟨hx1,rfl,rfl⟩:=hx;rw[a2e hx1] at hq;exact prP Tryz.f53 hq Sb
 obtain⟨hi86,a86,u86,hk86,rfl⟩:=hr86
 rw[a1P hi86] at hq
 refine kQ0 [0,1,2,6,7] ?_
 refine kA1 ?_
 refine xf (E1 Ev.const) (K2 _ _ _) ?_
 refine WL.perm (Del.perm (r:=lnR b a86 r45.tail.length u86) De) ?_
 refine xg (E2 Et Et) (K5 b a86 u86 r45.tail _ _ _ hk86 (hs.trans Sb)) ?_
 rintro _ _ ⟨a96,u96,r96,rfl,he96,hk96,rfl⟩
 refine kQ1 [0,1,2,6,7,93] ?_
 refine wc (fun c93=>?_) fun c93=>?_
 replace he96:=he96.trans (if_pos c93)
 subst r96
 rw[if_pos c93] at hq
 refine kQ2 [0,1,2,6,7] ?_
 refine kA2 ?_
 refine WL.perm ((Del.perm (r:=psR z i) De).trans ((Del.perm (r:=lnR b a96 r45.tail.tail.length u96) De).cons _)) ?_
 refine A1 Ev.func (E2 Et Et) (L1 hz i b a96 u96 r45.tail.tail _ (by omega)) Lb (fun v hv hx=>?_) fun v100 h100 hr100=>?_
 · obtain⟨hx1,rfl,rfl⟩:=hx;rw[M6 hx1] at hq;exact prP Tryz.f53 hq Sb
 obtain⟨hz100,rfl⟩:=hr100
 rw[M3 hz100] at hq
 refine kQ0 [0,1,6,7] ?_
 refine kA4 ?_
 refine WL.perm (Del.perm (r:=psR z (i+1)) De) ?_
 refine A1 Ev.func (E4 Et Et Et Ev.func) (a6q hg hz hrec _ b3o 1 16 _ (i+1) _ (by omega) (by omega) (by omega) (fun b a c ts h hT=>c3M hg b a c ts h hT)) Lb (fun v hv hx=>?_) fun v105 h105 hr105=>?_
 · obtain⟨e,j,hx1,rfl,rfl⟩:=hx;(first | rw[hx1] at hq | rw[J1 hx1] at hq);exact prP Tryz.f53 hq Sb
 obtain⟨x105,j105,bl105,hM105,hj105,⟨q105,w105,l105,rfl,rfl,hG105⟩,rfl⟩:=hr105
 refine WL.perm ((Mv.perm (by (repeat (first | apply Mv.cons | exact Mv.stop)))).cons _) ?_
 rw[hM105,O8] at hq
 refine kQ2 [6,7] ?_
 refine kQ2 [6] ?_
 refine WC.ret (toX (.inl rfl) (I2 (h':=psR z j105::(bl105++(bl45++h))) (.inl rfl) rfl (A4 P3 rfl rfl rfl Me rfl) (View.le.refl m) Sb ?_))
 exact⟨_,_,bl105++bl45,hq,⟨by omega,hj105.2⟩,⟨.mk 7 [] e0 B5 B5 D5 q105 w105 l105 none 0 [] B5 D2,rfl,S9 _,a3f (by decide) (Nat.zero_le _) (hE0.mono (List.sublist_append_right _ _)) (F3 _ _) (F3 _ _) (R4 _ _) (hG105.mono (List.sublist_append_left _ _)) (a2P _ _) (U9 _ _) (Q3 _ _)⟩,by rw[List.append_assoc]⟩
 replace he96:=he96.trans (if_neg (H3 c93))
 subst r96
 rw[if_neg (H3 c93)] at hq
 refine kA1 ?_
 refine xf (E1 Ev.const) (K2 _ _ _) ?_
 refine WL.perm (Del.perm (r:=lnR b a96 r45.tail.length u96) De) ?_
 refine xg (E2 Et Et) (K5 b a96 u96 r45.tail _ _ _ hk96 (hs.trans Sb)) ?_
 rintro _ _ ⟨a111,u111,r111,rfl,he111,hk111,rfl⟩
 refine kQ1 [0,2,6,7,108] ?_
 refine wc (fun c108=>?_) fun c108=>?_
 replace he111:=he111.trans (if_pos c108)
 subst r111
 rw[if_pos c108] at hq
 refine kA1 ?_
 refine WL.perm (Del.perm (r:=lnR b a111 r45.tail.tail.length u111) De) ?_
 refine A1 Ev.func (E1 Et) (T8 hg b a111 u111 r45.tail.tail _ _ hk111 (hs.trans Sb)) Lb (fun v hv hx=>?_) fun v113 h113 hr113=>?_
 · obtain⟨e,hx1,rfl,rfl⟩:=hx;rw[hx1] at hq;exact prP Tryz.f53 hq Sb
 obtain⟨x113,r113,a113,u113,bl113,hM113,⟨t113,rfl,rfl,hO113⟩,hk113,rfl⟩:=hr113
 refine WL.perm ((Mv.perm (by (repeat (first | apply Mv.cons | exact Mv.stop)))).cons _) ?_
 rw[hM113,I9] at hq
 refine xY a0e (EvP.cons Et EvP.nil) fun b114=>?_
 refine WL.perm (Mv.perm (bl:=[_]) (by (repeat (first | apply Mv.cons | exact Mv.stop)))) ?_
 refine kQ4 [0,2,6,7] ?_
 refine kA2 ?_
 refine WL.perm ((Del.perm (r:=psR z i) De).trans ((Del.perm (r:=lnR b a113 r113.length u113) De).cons _)) ?_
 refine A1 Ev.func (E2 Et Et) (L1 hz i b a113 u113 r113 _ (by omega)) Lb (fun v hv hx=>?_) fun v119 h119 hr119=>?_
 · obtain⟨hx1,rfl,rfl⟩:=hx;rw[M6 hx1] at hq;exact prP Tryz.f53 hq Sb
 obtain⟨hz119,rfl⟩:=hr119
 rw[M3 hz119] at hq
 refine kQ0 [6,7] ?_
 refine kQ2 [6] ?_
 refine WC.ret (toX (.inl rfl) (I2 (h':=psR z (i+1)::(exR b114 t113::(bl113++(bl45++h)))) (.inl rfl) rfl (A4 P3 rfl rfl rfl Me rfl) (View.le.refl m) Sb ?_))
 exact⟨_,_,exR b114 t113::(bl113++bl45),hq,⟨by omega,by omega⟩,⟨.mk 6 [] e0 B5 ⟨some ⟨b114,0,none⟩,1,[t113]⟩ D5 none 0 [] none 0 [] B5 D2,rfl,S9 _,a3f (by decide) (Nat.zero_le _) (hE0.mono ((List.sublist_append_right _ _).cons _)) (F3 _ _) ((c4n b114 hO113).mono ((List.sublist_append_left _ _).cons_cons _)) (R4 _ _) (X9 _ _) (a2P _ _) (U9 _ _) (Q3 _ _)⟩,by rw[List.cons_append,List.append_assoc]⟩
 replace he111:=he111.trans (if_neg (H3 c108))
 subst r111
 rw[if_neg (H3 c108)] at hq
 refine kA2 ?_
 refine xG (PO.makeFunc (E1 Et) Evs.nil) ?_
 refine WL.perm (Del.perm (r:=lnR b a111 r45.tail.length u111) De) ?_
 refine A1 Ev.func (E4 Et Ev.const Ev.const Et) (a0D 112 L3 [59] 8 b a111 u111 r45.tail _ _ hk111 (hs.trans Sb) (by decide) (fun a c ts h hk hs=>a0r hg b a c ts h _ hk hs)) Lb (fun v hv hx=>?_) fun v90 h90 hr90=>?_
 · obtain⟨e,hx1,rfl,rfl⟩:=hx;rw[hx1] at hq;exact prP Tryz.f53 hq Sb
 obtain⟨x90,r90,a90,u90,bl90,hM90,⟨s90,rfl,rfl,hO90⟩,hk90,rfl⟩:=hr90
 refine WL.perm ((Mv.perm (by (repeat (first | apply Mv.cons | exact Mv.stop)))).cons _) ?_
 rw[hM90,I9] at hq
 refine kQ4 [0,2,6,7] ?_
 refine kA2 ?_
 refine WL.perm ((Del.perm (r:=psR z i) De).trans ((Del.perm (r:=lnR b a90 r90.length u90) De).cons _)) ?_
 refine A1 Ev.func (E2 Et Et) (L1 hz i b a90 u90 r90 _ (by omega)) Lb (fun v hv hx=>?_) fun v119 h119 hr119=>?_
 · obtain⟨hx1,rfl,rfl⟩:=hx;rw[M6 hx1] at hq;exact prP Tryz.f53 hq Sb
 obtain⟨hz119,rfl⟩:=hr119
 rw[M3 hz119] at hq
 refine kQ0 [6,7] ?_
 refine kQ2 [6] ?_
 refine WC.ret (toX (.inl rfl) (I2 (h':=psR z (i+1)::(bl90++(bl45++h))) (.inl rfl) rfl (A4 P3 rfl rfl rfl Me rfl) (View.le.refl m) Sb ?_))
 exact⟨_,_,bl90++bl45,hq,⟨by omega,by omega⟩,⟨.mk 4 [] e0 s90 B5 D5 none 0 [] none 0 [] B5 D2,rfl,S9 _,a3f (by decide) (Nat.zero_le _) (hE0.mono (List.sublist_append_right _ _)) (hO90.mono (List.sublist_append_left _ _)) (F3 _ _) (R4 _ _) (X9 _ _) (a2P _ _) (U9 _ _) (Q3 _ _)⟩,by rw[List.append_assoc]⟩
end Go.Proofs.YtkemgjnejlkkcaaGreatDoor
end

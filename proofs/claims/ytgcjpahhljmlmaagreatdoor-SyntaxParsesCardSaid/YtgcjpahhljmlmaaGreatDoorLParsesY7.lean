import Derived.Test.YtgcjpahhljmlmaaGreatDoorLParsesY6
set_option maxRecDepth 100000
set_option maxHeartbeats 4000000
set_option linter.defProp false
namespace Go.Proofs.YtgcjpahhljmlmaaGreatDoor
open Go.Proofs.Tryz
section
open Go.Eng Go.Pc Go.Sx Go
open Go.Xp hiding B E8
open Go.Ty (Ty Vr Tok eqT tyV E9 B1 A7 I6 zeroK H3 E5)
open Go.Lx (encB C0)
inductive Mv1(x:Res):Lr->Lr->Prop
 |stop {h:Lr}:Mv1 x h (x::h)
 |cons {y:Res} {s d:Lr} (q:Mv1 x s d):Mv1 x (y::s) (y::d)
theorem Mv1.perm{x:Res}{s d:Lr}(q:Mv1 x s d):(x::s).Perm d:=by
 induction q with
 |stop=>exact List.Perm.refl _
 |cons _ ih=>exact(qF _ _ _).trans (ih.cons _)
theorem a1K(s:B)(hk:Go.Lx.key s=true)(h:Lr)(m:View):CT prog 54 [str s] h m (A5 h (I6 (A6 s))):=by
 have hw:A6 s=⟨2,0,s,0⟩:=by unfold A6;rw[if_pos hk]
 refine cB [0,2] func54 λ_=>?_;refine xW λb2=>?_
 refine ZZ [0,3,0] ?_;refine wT h (h1:=cA C7) ?_;exact⟨by rw[hw];rfl,rfl⟩
theorem kyW(s:B)(h:Lr)(m:View)(hk:Go.Lx.key s=true:=by decide +kernel):CT prog 54 [str s] h m (A5 h (I6 (A6 s))):=a1K s hk h m
theorem b5k(s:B)(h:Lr)(m:View):CT prog 62 [str s] h m (A5 h (I6 ⟨5,0,s,0⟩)):=by
 refine cB [0,2] func62 λ_=>?_;refine xW λb2=>?_
 refine ZZ [0,3,0] ?_;refine wT h (h1:=cA C7) ?_;exact⟨rfl,rfl⟩
theorem d0k{s:B}(hk:Go.Lx.key s=false):A6 s=⟨5,0,s,0⟩:=by unfold A6;rw[if_neg (by rw[hk];decide)]
theorem c5H(s:B)(hk:Go.Lx.key s=false)(h:Lr)(m:View):CT prog 62 [str s] h m (A5 h (I6 (A6 s))):=by rw[d0k hk];exact b5k s h m
theorem smW(s:B)(h:Lr)(m:View)(hk:Go.Lx.key s=false:=by decide +kernel):CT prog 62 [str s] h m (A5 h (I6 (A6 s))):=c5H s hk h m
end
end Go.Proofs.YtgcjpahhljmlmaaGreatDoor
namespace Go.Proofs.YtgcjpahhljmlmaaGreatDoor.L8
open Go.Proofs.Tryz
section
open Go.Eng Go.Lx Go.Ty
theorem c1p(h:Lr)(m:View):CT prog 207 [] h m (λv _ h'=>∃b,v=.slice (some ⟨b,0,none⟩) 28 28/\h'=.pt b (.cells (fl encB a8t).toArray 9 (0,0))::h):=by
 refine cB [0] func207 λ_=>?_;refine Z1 ?_;refine xY M3 Eb λb1=>?_
 refine Z1 ?_;refine wT (.pt b1 (.cells (fl encB a8t).toArray 9 (0,0))::h) ?_;exact⟨b1,rfl,rfl⟩
theorem a0A(s:B)(h:Lr)(m:View):CT prog 141 [str s] h m (A5 h (.bool (b02 s))):=by
 refine cB [0,2] func141 λ_=>?_;refine ZZ [1,1] ?_;refine xg E0 (c1p _ _) ?_;rintro _ _ ⟨b4,rfl,rfl⟩;refine xf (E2 Et Et) (b2a _ _ _ _ a8t _ _ Rr) ?_;refine Z1 ?_;refine wT h ?_;exact⟨rfl,rfl⟩
theorem rMay_ct(t:Tok)(h:Lr)(m:View)(hs:t.text.length<=140737488355328):CT prog 306 [I6 t] h m (A5 h (.bool (mayK t))):=by
 have hs':t.text.length<=9223372036854775807:=by omega
 refine cB [1,2,10,12,13,23,33,38,53] func306 λ_=>?_;refine xX λb1=>?_
 refine ZZ [1,8,0] ?_;refine wc ?_ ?_<;>intro c10
 have d:mayK t=false:=by unfold mayK;rw[show(decide (t.at_<0)||decide (t.at_>=256))=true by simp at c10⊢;omega];rfl
 refine Z1 ?_;refine wT h ?_;rw[d];exact⟨rfl,rfl⟩
 have d10:(decide (t.at_<0)||decide (t.at_>=256))=false:=by simp at c10⊢;omega
 refine ZZ [0,2,2,0] ?_;refine wc ?_ ?_<;>intro c13
 refine kA2 ?_;refine xf (E1 Et) (a1f _ _ _ (by assumption)) ?_;refine Z6 ?_;refine wT h ?_;exact⟨by unfold mayK;rw[d10,c13,<-name_eq];simp[Bool.and_comm],rfl⟩;refine y2 ?_ ?_<;>intro c23
 refine kA2 ?_;refine xf (E1 Et) (a6F _ _ _) ?_;refine Z6 ?_;refine wT h ?_;exact⟨by unfold mayK;rw[d10,c13,c23,<-key_eq];simp[Bool.and_comm],rfl⟩;refine y2 ?_ ?_<;>intro c33
 have k5:(t.kind==5)=false:=by rw[eq_of_beq c33];rfl
 have k4:(t.kind==4)=false:=by rw[eq_of_beq c33];rfl
 refine kA2 ?_;refine xG (H0 Et Ek) ?_;refine Z1 ?_;refine wT h ?_;exact⟨by unfold mayK;rw[d10,c13,c23,k5,k4,c33];rfl,rfl⟩;refine y2 ?_ ?_<;>intro c38
 have k5:(t.kind==5)=false:=by rw[eq_of_beq c38];rfl
 refine kA2 ?_;refine xG (H0 Et Ek) ?_;refine Z11 ?_;refine wT h ?_;exact⟨by unfold mayK;rw[d10,c13,c23,k5,c38];simp only[qp,if_false,if_true];congr 2;apply decide_eq_decide.2;omega,rfl⟩;refine y2 ?_ ?_<;>intro c53
 refine kA2 ?_;refine xf (E1 Et) (a0A _ _ _) ?_;refine Z6 ?_;refine wT h ?_;exact⟨by unfold mayK;rw[d10,c13,c23,c53,<-b2Z];simp[Bool.and_comm],rfl⟩;refine ZZ [0,1,0] ?_;refine wT h ?_;exact⟨by unfold mayK;rw[d10,c13,c23,c53,c38,c33];rfl,rfl⟩
end
end Go.Proofs.YtgcjpahhljmlmaaGreatDoor.L8
namespace Go.Proofs.YtgcjpahhljmlmaaGreatDoor.Xq
open Go.Proofs.Tryz
section
open Go.Eng Go.Xp Go
open Go.Ty (Tok B1 A7 I6)
open Go.Lx (mayK)
theorem a8q{m:View}(a:Oa)(c:Nat)(ts:Lt)(k:Nat)(h:Lr)(hk:Tks m h a c ts):CT prog 271 [.slice a ts.length c,.int .i64 k] h m (A5 h (I6 (C1 (ts.drop k)))):=by
 have hrd:=hk.rd;have hle:=hk.le;obtain⟨t,ht⟩:∃t,t=ts.getD k zeroT:=⟨_,rfl⟩;have hel:k<ts.length->ts[k]?=some t:=λhq=>by rw[ht,ql,qk hq];rfl
 have htx:t.text.length<=140737488355328:=by
  rcases ze k ts.length with hq|hq
  ·exact hk.tx t (qe (hel hq))
  ·rw[ht,ql,qS hq];decide
 refine cB [0,1,4,5,17] func271 λ_=>?_;refine xW λb4=>?_
 refine ZZ [0,7] ?_;refine C2 (GU.f rfl rfl) (λhc=>D7 B3.und B3.size B3.posz (Eg hc) (Eg hc) Rr rfl (by simp at hc;omega)) Lb ?_;refine C2 (GU.f rfl rfl) (λhc=>a2q C7 rfl rfl A7 Rr (Eg hc) (hel (by simp at hc;omega)) rfl rfl (qu _)) Lb ?_;refine A3 (GU.f rfl rfl) (λhc=>⟨Ef,(E1 (Eg hc)),L8.rMay_ct t _ _ htx⟩) Lb ?_;refine y2 ?_ ?_<;>intro c17
 have hz:C1 (ts.drop k)=zeroT:=by
  rcases ze k ts.length with hq|hq
  ·rw[P9 (hel hq),a1z]
   have h1:decide ((k:Int)>=(ts.length:Int))=false:=zd (by omega);rw[h1]at c17;have h2:mayK t=false:=by simpa using c17
   rw[h2];rfl
  ·rw[qb hq];rfl
 refine Z2 ?_;refine wT h (h1:=cA C7) ?_;exact⟨by rw[hz];rfl,rfl⟩;have hq:k<ts.length:=by
  rcases ze k ts.length with hq|hq
  ·exact hq
  ·have h1:decide ((k:Int)>=(ts.length:Int))=true:=zh (by omega)
   rw[h1]at c17;cases c17
 have hx:=hel hq;have hz:C1 (ts.drop k)={ t with at_:=0 }:=by
  have h1:decide ((k:Int)>=(ts.length:Int))=false:=zd (by omega);rw[h1]at c17;have h2:mayK t=true:=by simpa using c17
  rw[P9 hx,a1z,h2];rfl
 refine ZZ [0,4] ?_;refine xW λb5=>?_;refine ZZ [1,2,2,0] ?_;refine wT h (h1:=cA C7) ?_;exact⟨by rw[hz];rfl,rfl⟩
theorem b7Q(t:Tok)(p z n:Nat)(hn:z+1-p=n)(hp:p<=z/\z<=100)(h:Lr)(m:View) :
 CT prog 274 [I6 t,.int .u8 p,.int .u8 z] h m (A5 h (.int .u8 (opF t n p))):=by
 subst hn;refine cB [1,2,3,6,7,11,17] func274 λ_=>?_;refine xX λb3=>?_
 refine ZZ [1,2,0] ?_;refine lI [2,3] (λμ F' h'=>∃j:Nat,((p<=j/\j<=z+1)/\opF t (z+1-p) p=opF t (z+1-j) j)/\z+1-j=μ/\F'=[(7,.int .u8 j)]/\.pt b3 (.cells (B1 t).toArray 116 (0,0))::h=h') (z+1-p) [(7,.int .u8 p)] (.pt b3 (.cells (B1 t).toArray 116 (0,0))::h) ⟨p,⟨⟨by omega,by omega⟩,rfl⟩,rfl,rfl,rfl⟩ ?_;rintro _ _ _ ⟨j,⟨hj,hJ⟩,rfl,rfl,rfl⟩;refine A9 rfl ?_;refine Z3 ?_;refine wD ?_ ?_<;>intro c11
 obtain⟨n,hn⟩:∃n,z+1-j=n+1:=⟨z-j,by omega⟩;have hn2:z+1-(j+1)=n:=by omega
 rw[hn,b4K]at hJ;refine Z0 ?_;refine dS [2] (.op 0 (.op 1 (.op 2 .nil))) [3] C9 ?_;refine kA2 ?_;refine yf rfl (E1 Et) (λfr=>c3z j (by omega) _ _) ?_;refine nS ?_;refine xG (U4 C7 (by kernel_rfl) (by kernel_rfl) Et Et rfl) ?_;refine y0 ?_ ?_<;>intro c17
 have d17:t=P8 j:=L7 c17;rw[if_pos d17]at hJ;refine Z2 ?_;refine wT h ?_;exact⟨by rw[hJ],rfl⟩;have d17:t≠P8 j:=L6 c17;rw[if_neg d17]at hJ;refine ZZ [0,2] ?_;refine WL.val (v':=.int .u8 (j+1:Nat)) (congrArg (Value.int .u8) (by unfold IntKind.wrap;simp[IntKind.bits,IntKind.signed];omega)) ?_;refine kA1 ?_;exact WL.nil (lN (z+1-(j+1)) [(7,.int .u8 (j+1))] (.pt b3 (.cells (B1 t).toArray 116 (0,0))::h) ⟨j+1,⟨⟨by omega,by omega⟩,by rw[hn2];exact hJ⟩,rfl,rfl,rfl⟩);rw[show z+1-j=0 by omega]at hJ;replace hJ:opF t (z+1-p) p=0:=hJ;refine ZZ [0,1,0] ?_;refine wT h ?_;exact⟨by rw[hJ];rfl,rfl⟩
abbrev RdO(m:View)(ts:Lt)(res:a0E)(h:Lr)(v:Value)(h':Lr):Prop:=
 ∃(t:Ex)(bl:Lr)(k:Nat)(e:Int),v=.tuple #[exV t,.int .i64 k,.int .i64 e]/\TOk m bl t/\Wf t/\h'=bl++h/\((e=0/\k<=ts.length/\res=.ok (B5 t,ts.drop k))\/(e≠0/\res=.error e))
abbrev RDC(m:View)(a:Oa)(c:Nat)(ts:Lt)(f:Nat):Prop:=∀(h:Lr)(k:Nat),Tks m h a c ts->k<=ts.length->CT prog 198 [.slice a ts.length c,.int .i64 k,.int .i64 (32-(f:Int))] h m (λv _ h'=>RdO m ts (a1H (T9 f) (ts.drop k)) h v h')
abbrev TKC(m:View)(a:Oa)(c:Nat)(ts:Lt)(f:Nat):Prop:=∀(h:Lr)(k:Nat),Tks m h a c ts->k<=ts.length->CT prog 275 [.slice a ts.length c,.int .i64 k,.int .i64 (32-(f:Int))] h m (λv _ h'=>RdO m ts (R0 (T9 f) (ts.drop k)) h v h')
def c7B(ins:B->B->Lt->a0E)(t:Tok)(ts:Lt):a0E:=if C1 ts=D3 [91]then(match ins [91] [93] ts with
 | .ok (x,r)=>.ok (sx 5 0 0 0 t.text [x],r)
 | .error e=>.error e)else .ok (sx 4 0 0 0 t.text [],ts)
abbrev NMC(m:View)(a:Oa)(c:Nat)(ts:Lt)(f:Nat):Prop:=∀(h:Lr)(k:Nat),Tks m h a c ts->k<ts.length->CT prog 308 [.slice a ts.length c,.int .i64 k,.int .i64 (32-(f:Int))] h m (λv _ h'=>RdO m ts (c7B (T9 f) (C1 (ts.drop k)) (ts.drop (k+1))) h v h')
abbrev Htn(ts:Lt):Prop:=∀k,(-2147483648<=(C1 (ts.drop k)).n/\(C1 (ts.drop k)).n<=2147483647)/\(C1 (ts.drop k)).text.length<=140737488355328
theorem a7R{m:View}{ts:Lt}{res:a0E}{h:Lr}{t:Ex}{bl:Lr}{e:Int}(hT:TOk m bl t)(hW:Wf t)(he:e≠0)(hq:res=.error e)(k:Nat):RdO m ts res h (.tuple #[exV t,.int .i64 k,.int .i64 e]) (bl++h):=⟨t,bl,k,e,rfl,hT,hW,rfl,.inr ⟨he,hq⟩⟩
theorem a4A:Wf A0:=Y0 (by decide) (by decide) (by decide) (by decide) (qi _)
theorem b4F{f:Nat}{o s:B}{ts:Lt}(h:C1 ts=D3 o):T9 (f+1) o s ts=match a1H (T9 f) ts.tail with
 | .error e=>.error e
 | .ok (x,r)=>if C1 r=D3 s then .ok (x,r.tail)else .error 100:=if_pos h
section
variable {m:View}{a:Oa}{c:Nat}{ts:Lt}
theorem c8U{f:Nat}(hf:f<=32)(htn:Htn ts)(hR:∀f',f=f'+1->RDC m a c ts f'):NMC m a c ts f:=by
 intro h k hk hkl;obtain⟨t,ht⟩:∃t,t=C1 (ts.drop k):=⟨_,rfl⟩;have htn1:=(htn k).2;rw[<-ht]at htn1⊢;have hle:=hk.le;have hq:c7B (T9 f) t (ts.drop (k+1))=if C1 (ts.drop (k+1))=D3 [91]then(match T9 f [91] [93] (ts.drop (k+1))with
  | .ok (x,r)=>.ok (sx 5 0 0 0 t.text [x],r)
  | .error e=>.error e)else .ok (sx 4 0 0 0 t.text [],ts.drop (k+1)):=rfl
 have hwn:Wf (.mk 4 0 0 0 t.text none 0 []):=Y0 (by omega) (by omega) (by omega) (by omega) htn1;refine cB [0,1,2,6,7,8,9,10,11,12,23,28,41,48] func308 λ_=>?_;refine xW λb6=>?_
 refine ZZ [2,2] ?_;refine xf (E2 Et Et) (a8q a c ts k _ (hk.mono Sb)) ?_;rw[<-ht];refine xG (b1x C7 rfl rfl rfl Et rfl) ?_;refine kA1 ?_;refine xW λb9=>?_;refine ZZ [1,3] ?_;refine xf (E2 Et Et) (a8q a c ts (k+1) _ (hk.mono Sb)) ?_;refine xf (E1 Ek) (a0A _ _ _) ?_;refine xG (a3j C7 (by kernel_rfl) (by kernel_rfl) Et Et rfl) ?_;refine y0 ?_ ?_<;>intro c23
 have d23:C1 (ts.drop (k+1))≠D3 [91]:=L6 (by have c23':(!Go.Ty.eqK (C1 (ts.drop (k+1))) (D3 [91]))=true:=c23;simpa using c23');rw[if_neg d23]at hq;refine Z6 ?_;refine w3 h (h1:=cA P7) ?_;exact⟨.mk 4 0 0 0 t.text none 0 [],[],k+1,0,rfl,J2 _ _ _ _ _ _ _,hwn,rfl,.inl ⟨rfl,hkl,hq⟩⟩;have d23:C1 (ts.drop (k+1))=D3 [91]:=L7 (by have c23':(!Go.Ty.eqK (C1 (ts.drop (k+1))) (D3 [91]))=false:=c23;simpa using c23');rw[if_pos d23]at hq;refine ZZ [0,2,0] ?_;refine wE ?_ ?_<;>intro c28
 have hf0:f=0:=by omega
 subst hf0;refine Z4 ?_;refine w3 h (h1:=cA P7) ?_;exact⟨.mk 4 0 0 0 t.text none 0 [],[],0,3,rfl,J2 _ _ _ _ _ _ _,hwn,rfl,.inr ⟨by decide,hq⟩⟩;obtain⟨f',rfl⟩:∃f',f=f'+1:=⟨f-1,by omega⟩;rw[b4F d23,J9]at hq;have hkl2:k+1<ts.length:=M6 (by rw[d23];exact(by decide:(5:Int)≠0));refine ZZ [0,5] ?_;refine WL.val (v':=.int .i64 (32-(f':Int))) (congrArg (Value.int .i64) (by omega)) ?_;refine xg (E3 Et Et Et) (hR f' rfl _ (k+1+1) (hk.mono Sb) (by omega)) ?_;rintro _ _ ⟨tx,bl,k2,e,rfl,hT,hW,rfl,hres⟩;refine WL.perm (Mv.perm) ?_;refine kA4 ?_;refine xW λb10=>?_
 refine ZZ [3,2,0] ?_;refine wN ?_ ?_<;>intro c41
 have hres:=hres.resolve_left λq=>c41 q.1
 rw[hres.2]at hq;refine Z5 ?_;refine w3 h (h1:=cA P7) ?_;exact⟨.mk 4 0 0 0 t.text none 0 [],[],0,e,rfl,J2 _ _ _ _ _ _ _,hwn,rfl,.inr ⟨c41,hq⟩⟩;obtain⟨-,hk2,hres⟩:=hres.resolve_right λq=>q.1 c41
 rw[hres]at hq;refine ZZ [0,2] ?_;refine xf (E2 Et Et) (a8q a c ts k2 _ (hk.mono Sb)) ?_;refine xf (E1 Ek) (a0A _ _ _) ?_;refine xG (a3j C7 (by kernel_rfl) (by kernel_rfl) Et Et rfl) ?_;refine y0 ?_ ?_<;>intro c48
 have d48:C1 (ts.drop k2)≠D3 [93]:=L6 (by have c48':(!Go.Ty.eqK (C1 (ts.drop k2)) (D3 [93]))=true:=c48;simpa using c48');simp only[if_neg d48]at hq;refine Z4 ?_;refine w3 h (h1:=cA P7) ?_;exact⟨.mk 4 0 0 0 t.text none 0 [],[],0,100,rfl,J2 _ _ _ _ _ _ _,hwn,rfl,.inr ⟨by decide,hq⟩⟩;have d48:C1 (ts.drop k2)=D3 [93]:=L7 (by have c48':(!Go.Ty.eqK (C1 (ts.drop k2)) (D3 [93]))=false:=c48;simpa using c48');simp only[if_pos d48,J9]at hq;have hkl3:k2<ts.length:=M6 (by rw[d48];exact(by decide:(5:Int)≠0));refine ZZ [0,3] ?_;refine xY U9 Eb λb53=>?_;refine Z6 ?_;refine w3 (.pt b53 (.cells (exE tx).toArray 29 (0,0))::(bl++h)) (h1:=cA P7) ?_;exact⟨.mk 5 0 0 0 t.text (some ⟨b53,0,none⟩) 1 [tx],.pt b53 (.cells (exE tx).toArray 29 (0,0))::bl,k2+1,0,rfl,a6Z hT b53 _ _ _ _ _,b0p hW (by omega) (by omega) (by omega) (by omega) htn1,rfl,.inl ⟨rfl,hkl3,hq⟩⟩
theorem c9G{f:Nat}(hf:f<=32)(htn:Htn ts)(hR:∀f',f=f'+1->RDC m a c ts f')(hN:NMC m a c ts f):TKC m a c ts f:=by
 intro h k hk hkl;obtain⟨t,ht⟩:∃t,t=C1 (ts.drop k):=⟨_,rfl⟩;have hq:R0 (T9 f) (ts.drop k)=if t.kind=3 then .ok (sx 1 0 0 t.n [] [],ts.drop (k+1))else if t.kind=4 then .ok (sx 2 0 0 t.n [] [],ts.drop (k+1))
  else if t=F7 [70,65,76,83,69]then .ok (sx 3 0 0 0 [] [],ts.drop (k+1))else if t=F7 [84,82,85,69]then .ok (sx 3 0 0 1 [] [],ts.drop (k+1))
  else if t.kind=1 then c7B (T9 f) t (ts.drop (k+1))
  else if t=D3 [40]then T9 f [40] [41] (ts.drop k)else .error 100:=by rw[ht,<-J9];rfl
 rw[a4c (by decide +kernel),a4c (by decide +kernel)]at hq;have hle:=hk.le;obtain⟨htn1,htx1⟩:=htn k;rw[<-ht]at htn1 htx1;have hpos:t.kind≠0->k<ts.length:=λq=>M6 (by rw[<-ht];exact q)
 refine cB [0,1,2,6,7,8,9,10,11,12,16,25,34,41,48,59,64,79,86] func275 λ_=>?_;refine xW λb6=>?_
 refine ZZ [2,2] ?_;refine xf (E2 Et Et) (a8q a c ts k _ (hk.mono Sb)) ?_;rw[<-ht];refine xW λb9=>?_;refine ZZ [1,4,0] ?_;refine wE ?_ ?_<;>intro c16
 rw[if_pos c16]at hq;have hkl2:=hpos (by omega);refine Z8 ?_;refine w3 h (h1:=cA P7) ?_;exact⟨.mk 1 0 0 t.n [] none 0 [],[],k+1,0,rfl,J2 _ _ _ _ _ _ _,Y0 (by omega) (by omega) (by omega) htn1 (qi _),rfl,.inl ⟨rfl,hkl2,hq⟩⟩;rw[if_neg c16]at hq;refine Z4 ?_;refine wE ?_ ?_<;>intro c25
 rw[if_pos c25]at hq;have hkl2:=hpos (by omega);refine Z8 ?_;refine w3 h (h1:=cA P7) ?_;exact⟨.mk 2 0 0 t.n [] none 0 [],[],k+1,0,rfl,J2 _ _ _ _ _ _ _,Y0 (by omega) (by omega) (by omega) htn1 (qi _),rfl,.inl ⟨rfl,hkl2,hq⟩⟩;rw[if_neg c25]at hq;refine jE ?_;refine dS [1] (.op 0 (.op 1 .nil)) [2,3] C9 ?_;refine kA1 ?_;refine yf rfl (E1 Ek) (λfr=>a4Z _ _ _) ?_;refine nS ?_;refine xG (U4 C7 (by kernel_rfl) (by kernel_rfl) Et Et rfl) ?_;refine y1 ?_ ?_<;>intro c34
 have d34:t=I2 [70,65,76,83,69]:=L7 c34;rw[if_pos d34]at hq;have hkl2:=hpos (by rw[d34];exact(by decide:(2:Int)≠0));refine Z6 ?_;refine w3 h (h1:=cA P7) ?_;exact⟨.mk 3 0 0 0 [] none 0 [],[],k+1,0,rfl,J2 _ _ _ _ _ _ _,Y0 (by omega) (by omega) (by omega) (by omega) (qi _),rfl,.inl ⟨rfl,hkl2,hq⟩⟩;have d34:t≠I2 [70,65,76,83,69]:=L6 c34;rw[if_neg d34]at hq;refine jE ?_;refine dS [1] (.op 0 (.op 1 .nil)) [2,3] C9 ?_;refine kA1 ?_;refine yf rfl (E1 Ek) (λfr=>a4Z _ _ _) ?_;refine nS ?_;refine xG (U4 C7 (by kernel_rfl) (by kernel_rfl) Et Et rfl) ?_;refine y1 ?_ ?_<;>intro c41
 have d41:t=I2 [84,82,85,69]:=L7 c41;rw[if_pos d41]at hq;have hkl2:=hpos (by rw[d41];exact(by decide:(2:Int)≠0));refine Z6 ?_;refine w3 h (h1:=cA P7) ?_;exact⟨.mk 3 0 0 1 [] none 0 [],[],k+1,0,rfl,J2 _ _ _ _ _ _ _,Y0 (by omega) (by omega) (by omega) (by omega) (qi _),rfl,.inl ⟨rfl,hkl2,hq⟩⟩;have d41:t≠I2 [84,82,85,69]:=L6 c41;rw[if_neg d41]at hq;refine Z4 ?_;refine wE ?_ ?_<;>intro c48
 rw[if_pos c48]at hq;have hkl2:=hpos (by omega);refine kA3 ?_;refine xg (E3 Et Et Et) (hN _ k (hk.mono Sb) hkl2) ?_;rintro _ _ ⟨tx,bl,k2,e,rfl,hT,hW,rfl,hres⟩;refine WL.perm (Mv.perm) ?_;refine Z6 ?_;refine w3 (bl++h) (h1:=cA P7) ?_;exact⟨tx,bl,k2,e,rfl,hT,hW,rfl,by rw[hq,ht];exact hres⟩;rw[if_neg c48]at hq;refine jE ?_;refine dS [1] (.op 0 (.op 1 .nil)) [2,3] C9 ?_;refine kA1 ?_;refine yf rfl (E1 Ek) (λfr=>a0A _ _ _) ?_;refine nS ?_;refine xG (a3j C7 (by kernel_rfl) (by kernel_rfl) Et Et rfl) ?_;refine y1 ?_ ?_<;>intro c59
 have d59:t≠D3 [40]:=L6 (by have c59':(!Go.Ty.eqK t (D3 [40]))=true:=c59;simpa using c59');rw[if_neg d59]at hq;refine Z4 ?_;refine w3 h (h1:=cA P7) ?_;exact a7R (bl:=[]) (J2 _ _ _ _ _ _ _) a4A (by decide) hq 0;have d59:t=D3 [40]:=L7 (by have c59':(!Go.Ty.eqK t (D3 [40]))=false:=c59;simpa using c59');rw[if_pos d59]at hq;have hkl2:=hpos (by rw[d59];exact(by decide:(5:Int)≠0));refine Z3 ?_;refine wE ?_ ?_<;>intro c64
 have hf0:f=0:=by omega
 subst hf0;refine Z4 ?_;refine w3 h (h1:=cA P7) ?_;exact a7R (bl:=[]) (J2 _ _ _ _ _ _ _) a4A (by decide) hq 0;obtain⟨f',rfl⟩:∃f',f=f'+1:=⟨f-1,by omega⟩;rw[b4F (by rw[<-ht];exact d59),J9]at hq;refine ZZ [0,5] ?_;refine WL.val (v':=.int .i64 (32-(f':Int))) (congrArg (Value.int .i64) (by omega)) ?_;refine xg (E3 Et Et Et) (hR f' rfl _ (k+1) (hk.mono Sb) (by omega)) ?_;rintro _ _ ⟨tx,bl,k2,e,rfl,hT,hW,rfl,hres⟩;refine WL.perm (Mv.perm) ?_;refine kA4 ?_;refine xW λb10=>?_
 refine ZZ [3,2,0] ?_;refine wN ?_ ?_<;>intro c79
 have hres:=hres.resolve_left λq=>c79 q.1
 rw[hres.2]at hq;refine Z5 ?_;refine w3 h (h1:=cA P7) ?_;exact a7R (bl:=[]) (J2 _ _ _ _ _ _ _) a4A c79 hq 0;obtain⟨-,hk2,hres⟩:=hres.resolve_right λq=>q.1 c79
 rw[hres]at hq;refine ZZ [0,2] ?_;refine xf (E2 Et Et) (a8q a c ts k2 _ (hk.mono Sb)) ?_;refine xf (E1 Ek) (a0A _ _ _) ?_;refine xG (a3j C7 (by kernel_rfl) (by kernel_rfl) Et Et rfl) ?_;refine y0 ?_ ?_<;>intro c86
 have d86:C1 (ts.drop k2)≠D3 [41]:=L6 (by have c86':(!Go.Ty.eqK (C1 (ts.drop k2)) (D3 [41]))=true:=c86;simpa using c86');simp only[if_neg d86]at hq;refine Z4 ?_;refine w3 h (h1:=cA P7) ?_;exact a7R (bl:=[]) (J2 _ _ _ _ _ _ _) a4A (by decide) hq 0;have d86:C1 (ts.drop k2)=D3 [41]:=L7 (by have c86':(!Go.Ty.eqK (C1 (ts.drop k2)) (D3 [41]))=false:=c86;simpa using c86');simp only[if_pos d86,J9]at hq;have hkl3:k2<ts.length:=M6 (by rw[d86];exact(by decide:(5:Int)≠0));refine ZZ [0,6,0] ?_;refine w3 (bl++h) (h1:=cA P7) ?_;exact⟨tx,bl,k2+1,0,rfl,hT,hW,rfl,.inl ⟨rfl,hkl3,hq⟩⟩
theorem b6c{i:Nat}(h:1<=i/\i<=3):I2 (S9 (i:Int))=F7 (L3 (i:Int)):=by
 obtain rfl|rfl|rfl:i=1\/i=2\/i=3:=by omega
 ·exact(a4c (by decide +kernel)).symm
 ·exact(a4c (by decide +kernel)).symm
 ·exact(a4c (by decide +kernel)).symm
def a7c(t:Tok):Nat->Nat
 |0=>0
 |i+1=>if t=I2 (S9 ((i+1:Nat):Int))then i+1 else a7c t i
theorem b6N(t:Tok):a7c t 3=O1 t:=by
 have e:∀i:Nat,1<=i/\i<=3->F7 (L3 (i:Int))=I2 (S9 (i:Int)):=λi hi=>(b6c hi).symm
 have e1:=e 1 (by omega);have e2:=e 2 (by omega);have e3:=e 3 (by omega);have n12:I2 (S9 ((1:Nat):Int))≠I2 (S9 ((2:Nat):Int)):=by decide +kernel
 have n13:I2 (S9 ((1:Nat):Int))≠I2 (S9 ((3:Nat):Int)):=by decide +kernel
 have n23:I2 (S9 ((2:Nat):Int))≠I2 (S9 ((3:Nat):Int)):=by decide +kernel
 unfold O1;rw[show F7 (L3 1)=_ from e1,show F7 (L3 2)=_ from e2,show F7 (L3 3)=_ from e3];show(if t=I2 (S9 ((3:Nat):Int))then 3 else if t=I2 (S9 ((2:Nat):Int))then 2 else if t=I2 (S9 ((1:Nat):Int))then 1 else 0)=_;by_cases h1:t=I2 (S9 ((1:Nat):Int))
 ·rw[if_neg (by rw[h1];exact n13),if_neg (by rw[h1];exact n12),if_pos h1,if_pos h1]
 ·rw[if_neg h1]
  by_cases h2:t=I2 (S9 ((2:Nat):Int))
  ·rw[if_neg (by rw[h2];exact n23),if_pos h2,if_neg h1,if_pos h2]
  ·rw[if_neg h2,if_neg h1,if_neg h2]
theorem c5k{t:Tok}(h:O1 t≠0):opF t 4 23=0:=by
 have key:∀i:Nat,1<=i/\i<=3->opF (F7 (L3 (i:Int))) 4 23=0:=λi hi=>by
  obtain rfl|rfl|rfl:i=1\/i=2\/i=3:=by omega
  ·decide +kernel
  ·decide +kernel
  ·decide +kernel
 unfold O1 at h;split at h
 ·rename_i q;rw[q];exact key 1 (by omega)
 split at h
 ·rename_i q;rw[q];exact key 2 (by omega)
 split at h
 ·rename_i q;rw[q];exact key 3 (by omega)
 ·exact absurd rfl h
theorem b9u{t:Tok}(h:O1 t≠0):t.kind≠0:=by
 have key:∀s,(F7 s).kind≠0:=λs=>by rcases a1v s with h|h<;>rw[h]<;>decide
 unfold O1 at h;split at h
 ·rename_i q;rw[q];exact key _
 split at h
 ·rename_i q;rw[q];exact key _
 split at h
 ·rename_i q;rw[q];exact key _
 ·exact absurd rfl h
theorem c6w(t:Tok):O1 t<=3:=by
 unfold O1;repeat' split
 all_goals decide
theorem b9r{ts:Lt}{k:Nat}(h:(C1 (ts.drop k)).kind≠0):∃u,ts[k]?=some u/\C1 (ts.drop k)={ u with at_:=0 }:=by
 have hk:=M6 h;have hx:ts[k]?=some ts[k]:=qk hk;refine⟨_,hx,?_⟩;rw[P9 hx,a1z]at h⊢;split
 ·rfl
 ·rename_i q
  rw[if_neg q]at h;exact absurd rfl h
def xK(i:Nat):Ex:=.mk (if i=0 then 0 else 8) 0 i 0 [] none 0 []
def xO(t:Tok):Ex:=if opF t 4 23≠0 then .mk 6 (opF t 4 23) 0 0 [] none 0 []else xK (O1 t)
theorem a8D(t:Tok):xO t=.mk (xO t).k (xO t).o (xO t).t 0 [] none 0 []/\(xO t).n=0/\(xO t).s=[]:=by unfold xO xK;split<;>exact⟨rfl,rfl,rfl⟩
theorem c9o(t:Tok):(0<=(xO t).k/\(xO t).k<=255)/\(0<=(xO t).o/\(xO t).o<=255)/\(0<=(xO t).t/\(xO t).t<=255):=by
 have h:=c6w t;unfold xO xK;split
 ·rename_i q
  have:=a9w t 4 23 q;exact⟨(by decide:(0:Int)<=6/\(6:Int)<=255),⟨by show(0:Int)<=(opF t 4 23:Nat);omega,by show((opF t 4 23:Nat):Int)<=255;omega⟩,(by decide:(0:Int)<=0/\(0:Int)<=255)⟩
 ·refine⟨?_,(by decide:(0:Int)<=0/\(0:Int)<=255),by show(0:Int)<=(O1 t:Nat);omega,by show((O1 t:Nat):Int)<=255;omega⟩
  show 0<=(if O1 t=0 then(0:Int)else 8)/\(if O1 t=0 then(0:Int)else 8)<=255;split<;>decide
theorem c9Y{t:Tok}(h:(xO t).k=0):O1 t=0/\opF t 4 23=0:=by
 unfold xO xK at h;split at h
 ·exact absurd (show(6:Int)=0 from h) (by decide)
 ·rename_i q
  have h:(if O1 t=0 then(0:Int)else 8)=0:=h;split at h
  ·rename_i q2;exact⟨q2,by omega⟩
  ·exact absurd h (by decide)
theorem c7N{t:Tok}(h:(xO t).k≠0):t.kind≠0/\∀(A:a0E)(C:a0E),(if O1 t≠0 then unQ (λx=>sx 8 0 (O1 t) 0 [] [x]) A else if opF t 4 23≠0 then unQ (λx=>sx 6 (opF t 4 23) 0 0 [] [x]) A else C)=unQ (λx=>sx (xO t).k (xO t).o (xO t).t 0 [] [x]) A:=by
 by_cases h4:opF t 4 23≠0
 ·have h3:O1 t=0:=by
   by_cases q:O1 t=0
   ·exact q
   ·exact absurd (c5k q) h4
  refine⟨a4S h4,λA C=>?_⟩;rw[if_neg (by omega),if_pos h4];unfold xO;rw[if_pos h4];rfl
 ·have h3:O1 t≠0:=λq=>by
   unfold xO xK at h;rw[if_neg h4,q]at h;exact h rfl
  refine⟨b9u h3,λA C=>?_⟩;rw[if_pos h3];unfold xO xK;rw[if_neg h4,if_neg h3];rfl
theorem c1y(mk:Ex->Ex)(x:Ex)(r:Lt):unQ mk (.ok (x,r))=.ok (mk x,r):=rfl
theorem b9Y(k o t n:Int)(s:B)(a:Oa)(c:Nat)(x:Ex):B5 (.mk k o t n s a c [x])=sx k o t n s [B5 x]:=by rw[a06];rfl
theorem b9p(k o t n:Int)(s:B)(a:Oa)(c:Nat)(x y:Ex):B5 (.mk k o t n s a c [x,y])=sx k o t n s [B5 x,B5 y]:=by rw[a06];rfl
theorem c9A{f:Nat}(htn:Htn ts)(hT0:TKC m a c ts f):RDC m a c ts f:=by
 intro h k hk hkl;obtain⟨t,ht⟩:∃t,t=C1 (ts.drop k):=⟨_,rfl⟩;have hle:=hk.le;have hq:a1H (T9 f) (ts.drop k)=if t=I2 [83,73,90,69]then(if(C1 (ts.drop (k+1))).kind=1 then .ok (sx 9 0 0 0 (C1 (ts.drop (k+1))).text [],ts.drop (k+1+1))else .error 100)
  else if O1 t≠0 then unQ (λx=>sx 8 0 (O1 t) 0 [] [x]) (R0 (T9 f) (ts.drop (k+1)))
  else if opF t 4 23≠0 then unQ (λx=>sx 6 (opF t 4 23) 0 0 [] [x]) (R0 (T9 f) (ts.drop (k+1)))
  else match R0 (T9 f) (ts.drop k)with
   | .error e=>.error e
   | .ok (a,r)=>if opF (C1 r) 22 1≠0 then unQ (λb=>sx 7 (opF (C1 r) 22 1) 0 0 [] [a,b]) (R0 (T9 f) r.tail)else .ok (a,r):=by
  rw[ht,<-J9,<-J9,<-J9,<-a4c (s:=[83,73,90,69]) (by decide +kernel)];rfl
 have hpos:t.kind≠0->k<ts.length:=λq=>M6 (by rw[<-ht];exact q)
 refine cB [0,1,2,6,7,8,9,10,11,12,13,14,15,16,17,18,19,25,31,44,51,62,87,95] func198 λ_=>?_;refine xW λb6=>?_
 refine ZZ [2,2] ?_;refine xf (E2 Et Et) (a8q a c ts k _ (hk.mono Sb)) ?_;rw[<-ht];refine xW λb9=>?_;refine Z1 ?_;refine dS [1] (.op 0 (.op 1 .nil)) [2] C9 ?_;refine kA1 ?_;refine yf rfl (E1 Ek) (λfr=>a4Z _ _ _) ?_;refine nS ?_;refine xG (U4 C7 (by kernel_rfl) (by kernel_rfl) Et Et rfl) ?_;refine y0 ?_ ?_<;>intro c25
 have d25:t=I2 [83,73,90,69]:=L7 c25;rw[if_pos d25]at hq;have hkl2:=hpos (by rw[d25];exact(by decide:(2:Int)≠0));refine kA3 ?_;refine xf (E2 Et Et) (a8q a c ts (k+1) _ (hk.mono Sb)) ?_;refine xG (b1x C7 rfl rfl rfl Et rfl) ?_;refine Z1 ?_;refine wN ?_ ?_<;>intro c31
 rw[if_neg c31]at hq;refine Z4 ?_;refine w3 h (h1:=cA P7) ?_;exact a7R (bl:=[]) (J2 _ _ _ _ _ _ _) a4A (by decide) hq 0;rw[if_pos c31]at hq;obtain⟨u,hu,hnu⟩:=b9r (ts:=ts) (k:=k+1) (by rw[c31];decide);have hkl3:=(qd.1 hu).1;have hrd:=hk.rd;have htu:=(htn (k+1)).2;rw[hnu]at hq htu;refine ZZ [0,12,0] ?_;refine w3 h (h1:=cA P7) ?_;exact⟨.mk 9 0 0 0 u.text none 0 [],[],k+1+1,0,rfl,J2 _ _ _ _ _ _ _,Y0 (by omega) (by omega) (by omega) (by omega) htu,rfl,.inl ⟨rfl,hkl3,hq⟩⟩;have d25:t≠I2 [83,73,90,69]:=L6 c25;rw[if_neg d25]at hq;refine ZZ [0,1] ?_;refine xW λb10=>?_
 refine ZZ [1,1,0] ?_;refine lI [0,1,2,6,9,10] (λμ F' h'=>∃i:Nat,(i<=3)/\3-i=μ/\F'=[(11,.int .u8 (i+1:Nat))]/\.pt b10 (.cells (exE (xK (a7c t i))).toArray 29 (0,0))::.pt b9 (.cells (B1 t).toArray 116 (0,0))::.pt b6 (.cells (exE A0).toArray 29 (0,0))::h=h') (3-0) [(11,.int .u8 (0+1:Nat))] (.pt b10 (.cells (exE (xK (a7c t 0))).toArray 29 (0,0))::.pt b9 (.cells (B1 t).toArray 116 (0,0))::.pt b6 (.cells (exE A0).toArray 29 (0,0))::h) ⟨0,by omega,rfl,rfl,rfl⟩ ?_;rintro _ _ _ ⟨i,hi,rfl,rfl,rfl⟩;refine A9 rfl ?_;refine Z2 ?_;refine wD ?_ ?_<;>intro c44
 have hls:a7c t (i+1)=if t=I2 (S9 ((i+1:Nat):Int))then i+1 else a7c t i:=rfl
 refine Z0 ?_;refine dS [2,3] (.op 0 (.op 1 (.op 2 (.op 3 .nil)))) [4] C9 ?_;refine kA2 ?_;refine yf rfl (E1 Et) (λfr=>c0l ((i+1:Nat):Int) _ _) ?_;refine yf rfl (E1 Et) (λfr=>a4Z _ _ _) ?_;refine nS ?_;refine xG (U4 C7 (by kernel_rfl) (by kernel_rfl) Et Et rfl) ?_;refine y0 ?_ ?_<;>intro c51
 have d51:t=I2 (S9 ((i+1:Nat):Int)):=L7 c51;rw[if_pos d51]at hls;refine kA3 ?_;refine a4q (h':=.pt b10 (.cells (exE (xK (a7c t (i+1)))).toArray 29 (0,0))::_) (by rw[hls];rfl) ?_;refine ZZ [0,2] ?_;refine WL.val (v':=.int .u8 (i+1+1:Nat)) (congrArg (Value.int .u8) (by unfold IntKind.wrap;simp[IntKind.bits,IntKind.signed];omega)) ?_;refine kA1 ?_;exact WL.nil (lN (3-(i+1)) [(11,.int .u8 ((i+1)+1:Nat))] (.pt b10 (.cells (exE (xK (a7c t (i+1)))).toArray 29 (0,0))::.pt b9 (.cells (B1 t).toArray 116 (0,0))::.pt b6 (.cells (exE A0).toArray 29 (0,0))::h) ⟨i+1,by omega,rfl,rfl,rfl⟩);have d51:t≠I2 (S9 ((i+1:Nat):Int)):=L6 c51;rw[if_neg d51]at hls;rw[<-hls];refine ZZ [0,2] ?_;refine WL.val (v':=.int .u8 (i+1+1:Nat)) (congrArg (Value.int .u8) (by unfold IntKind.wrap;simp[IntKind.bits,IntKind.signed];omega)) ?_;refine kA1 ?_
 exact WL.nil (lN (3-(i+1)) [(11,.int .u8 ((i+1)+1:Nat))] (.pt b10 (.cells (exE (xK (a7c t (i+1)))).toArray 29 (0,0))::.pt b9 (.cells (B1 t).toArray 116 (0,0))::.pt b6 (.cells (exE A0).toArray 29 (0,0))::h) ⟨i+1,by omega,rfl,rfl,rfl⟩);obtain rfl:i=3:=by omega
 rw[b6N];refine ZZ [0,1] ?_;refine xf (E3 Et Ek Ek) (b7Q t 23 26 4 rfl (by decide) _ _) ?_;refine Z1 ?_;refine kP2 [0,1,2,6,10,12,57] ?_;refine D6 KKh [0,1,2,6,10] rfl (λF' h'=>∃X:Ex,(X=xO t)/\F'=[]/\.pt b10 (.cells (exE X).toArray 29 (0,0))::.pt b9 (.cells (B1 t).toArray 116 (0,0))::.pt b6 (.cells (exE A0).toArray 29 (0,0))::h=h') ?_ ?_;refine jE ?_;refine wN ?_ ?_<;>intro c57
 have d57:opF t 4 23≠0:=by omega
 refine kA3 ?_;exact WL.nil (mN [] (.pt b10 (.cells (exE (.mk 6 (opF t 4 23) 0 0 [] none 0 [])).toArray 29 (0,0))::.pt b9 (.cells (B1 t).toArray 116 (0,0))::.pt b6 (.cells (exE A0).toArray 29 (0,0))::h) ⟨.mk 6 (opF t 4 23) 0 0 [] none 0 [],(by unfold xO;rw[if_pos d57]),rfl,rfl⟩);have d57:¬(opF t 4 23≠0):=by omega
 exact WC.skip (mN [] (.pt b10 (.cells (exE (xK (O1 t))).toArray 29 (0,0))::.pt b9 (.cells (B1 t).toArray 116 (0,0))::.pt b6 (.cells (exE A0).toArray 29 (0,0))::h) ⟨xK (O1 t),(by unfold xO;rw[if_neg d57]),rfl,rfl⟩);rintro _ _ ⟨X,hX,rfl,rfl⟩;refine A9 rfl ?_;subst hX;obtain⟨hk1,ho1,ht1⟩:=c9o t;refine Z3 ?_;refine wN ?_ ?_<;>intro c62
 obtain⟨hk0,hU⟩:=c7N c62;rw[hU]at hq;have hkl2:=hpos hk0;refine kA4 ?_;refine xg (E3 Et Et Et) (hT0 _ (k+1) (hk.mono Sb) hkl2) ?_;rintro _ _ ⟨tx,bl,k2,e,rfl,hT,hW,rfl,hres⟩;refine WL.perm (Mv.perm) ?_;refine kA4 ?_;refine xW λb13=>?_
 refine ZZ [3,1] ?_;refine xY U9 Eb λb73=>?_;refine ZZ [2,6,0] ?_;refine w3 (.pt b73 (.cells (exE tx).toArray 29 (0,0))::(bl++h)) (h1:=cA P7) ?_;exact⟨.mk (xO t).k (xO t).o (xO t).t (xO t).n (xO t).s (some ⟨b73,0,none⟩) 1 [tx],.pt b73 (.cells (exE tx).toArray 29 (0,0))::bl,k2,e,rfl,a6Z hT b73 _ _ _ _ _,b0p hW hk1 ho1 ht1 (by rw[(a8D t).2.1];omega) (by rw[(a8D t).2.2];exact qi _),rfl,by rw[hq,b9Y,(a8D t).2.1,(a8D t).2.2];exact hres.imp (λq=>⟨q.1,q.2.1,by rw[q.2.2];rfl⟩) λq=>⟨q.1,by rw[q.2];rfl⟩⟩;obtain⟨hc3,ho4⟩:=c9Y c62;rw[if_neg (by omega),if_neg (by omega)]at hq;refine ZZ [0,3] ?_;refine xg (E3 Et Et Et) (hT0 _ k (hk.mono Sb) hkl) ?_;rintro _ _ ⟨tx,bl,k2,e,rfl,hT,hW,rfl,hres⟩;refine WL.perm (Mv.perm) ?_;refine kA4 ?_;refine xW λb16=>?_
 refine ZZ [3,2,0] ?_;refine wN ?_ ?_<;>intro c87
 have hres:=hres.resolve_left λq=>c87 q.1
 rw[hres.2]at hq;refine Z5 ?_;refine w3 h (h1:=cA P7) ?_;exact a7R (bl:=[]) (J2 _ _ _ _ _ _ _) a4A c87 hq 0;obtain⟨-,hk2,hres⟩:=hres.resolve_right λq=>q.1 c87
 rw[hres]at hq;obtain⟨t2,ht2⟩:∃t2,t2=C1 (ts.drop k2):=⟨_,rfl⟩;replace hq:=hq.trans (show _=if opF (C1 (ts.drop k2)) 22 1≠0 then unQ (λb=>sx 7 (opF (C1 (ts.drop k2)) 22 1) 0 0 [] [B5 tx,b]) (R0 (T9 f) (ts.drop k2).tail)else .ok (B5 tx,ts.drop k2) from rfl);rw[<-ht2,J9]at hq;refine ZZ [0,2] ?_;refine xf (E2 Et Et) (a8q a c ts k2 _ (hk.mono Sb)) ?_;rw[<-ht2];refine xf (E3 Et Ek Ek) (b7Q t2 1 22 22 rfl (by decide) _ _) ?_;refine ZZ [1,2,0] ?_;refine wE ?_ ?_<;>intro c95
 have d95:opF t2 22 1=0:=by omega
 rw[if_neg (by omega)]at hq;refine Z5 ?_;refine w3 (bl++h) (h1:=cA P7) ?_;exact⟨tx,bl,k2,0,rfl,hT,hW,rfl,.inl ⟨rfl,hk2,hq⟩⟩;have d95:opF t2 22 1≠0:=by omega
 rw[if_pos d95]at hq;have hkl4:k2<ts.length:=M6 (by rw[<-ht2];exact a4S d95);have hob:=a9w t2 22 1 d95;refine ZZ [0,4] ?_;refine xg (E3 Et Et Et) (hT0 _ (k2+1) (hk.mono Sb) hkl4) ?_;rintro _ _ ⟨ty,bl2,k3,e3,rfl,hT2,hW2,rfl,hres2⟩;refine WL.perm (Mv.perm) ?_;refine kA4 ?_;refine xW λb19=>?_
 refine ZZ [3,3] ?_;refine xY U9 Eb λb110=>?_;refine Z6 ?_;refine w3 (.pt b110 (.cells (exE tx++exE ty).toArray 29 (0,0))::(bl2++(bl++h))) (h1:=cA P7) ?_;exact⟨.mk 7 (opF t2 22 1) 0 0 [] (some ⟨b110,0,none⟩) 2 [tx,ty],.pt b110 (.cells (exE tx++exE ty).toArray 29 (0,0))::(bl2++bl),k3,e3,rfl,b7l hT hT2 b110 _ _ _ _ _,c1M hW hW2 (by omega) (by omega) (by omega) (by omega) (qi _),by rw[qN,qj],by rw[hq,b9p];exact hres2.imp (λq=>⟨q.1,q.2.1,by rw[q.2.2];rfl⟩) λq=>⟨q.1,by rw[q.2];rfl⟩⟩
theorem c6Z(htn:Htn ts):∀f,f<=32->RDC m a c ts f
 |0,hf=>c9A htn (c9G hf htn (λ_ h=>by cases h) (c8U hf htn λ_ h=>by cases h))
 |f+1,hf=>by
  have ih:=c6Z htn f (by omega);have hR:∀f',f+1=f'+1->RDC m a c ts f':=λf' h=>by
   obtain rfl:f=f':=by omega
   exact ih
  exact c9A htn (c9G hf htn hR (c8U hf htn hR))
end
theorem b8O{ts:Lt}{tx:Ex}{k2:Nat}{e:Int}(hres:(e=0/\k2<=ts.length/\a1H (T9 32) (ts.drop 0)=.ok (B5 tx,ts.drop k2))\/(e≠0/\a1H (T9 32) (ts.drop 0)=.error e)) :
 a05 ts=(if e=0 then(if K0 tx=true then 0 else 3)else e)/\(a05 ts=0->R1 ts=k2/\a2X ts=B5 tx)/\(a05 ts≠0->R1 ts=0/\a2X ts=A0):=by
 rcases hres with⟨rfl,hk2,hres⟩|⟨he,hres⟩
 ·have hfr:Q2 ts=_:=a5w hres hk2
  rw[S5]at hfr;unfold a05 R1 a2X;rw[hfr,if_pos rfl];by_cases hm:K0 tx=true
  ·rw[if_pos hm,if_pos hm]
   exact⟨rfl,λ_=>⟨rfl,rfl⟩,λq=>absurd rfl q⟩
  ·rw[if_neg hm,if_neg hm]
   exact⟨rfl,λq=>absurd q (by decide),λ_=>⟨rfl,rfl⟩⟩
 ·have hfe:Q2 ts=.error e:=by
   have h2:b0u ts=.error e:=hres;unfold Q2;rw[h2]
  unfold a05 R1 a2X;rw[hfe,if_neg he];exact⟨rfl,λq=>absurd q he,λ_=>⟨rfl,rfl⟩⟩
theorem front10_ct{m:View}(a:Oa)(c:Nat)(ts:Lt)(h:Lr)(hk:Tks m h a c ts)(htn0:∀t∈ts,-2147483648<=t.n/\t.n<=2147483647) :
 CT prog 123 [.slice a ts.length c] h m (λv _ h'=>∃(t:Ex)(bl:Lr),v=.tuple #[exV t,.int .i64 (R1 ts:Nat),.int .i64 (a05 ts)]/\(B5 t=a2X ts/\TOk m bl t/\Wf t)/\h'=bl++h):=by
 have htn:Htn ts:=λk=>by
  cases hd:ts.drop k with
  |nil=>exact⟨by decide,by decide⟩
  |cons u r=>
   have hu:u∈ts:=z5 (by rw[hd];exact qm _);rw[a1z];split
   ·exact⟨htn0 u hu,hk.tx u hu⟩
   ·exact⟨by decide,by decide⟩
 have hR:=c6Z (m:=m) (a:=a) (c:=c) htn 32 (by omega);refine cB [0,2,3,4,5,6,7,22] func123 λ_=>?_;refine xW λb2=>?_
 refine ZZ [2,1] ?_;refine xg (E3 Et Ek Ek) (hR _ 0 (hk.mono Sb) (by omega)) ?_;rintro _ _ ⟨tx,bl,k2,e,rfl,hT,hW,rfl,hres⟩;refine WL.perm (Mv.perm) ?_;refine kA4 ?_;refine xW λb5=>?_;refine Z3 ?_;have hq:=b8O hres;refine kA3 ?_;refine zG (λ_=>pA P7) ?_;refine A3 (GU.t rfl rfl) (λhc=>⟨Ef,(E1 (Eg hc)),mayR_ct tx _ (hT.mono Sb) hW⟩) Lb ?_;refine kP2 [2,5,6,7,20] ?_;refine D6 KKh [2,5,6] rfl (λF' h'=>∃e2:Int,(e2=a05 ts)/\F'=[(7,.int .i64 e2)]/\.pt b5 (.cells (exE tx).toArray 29 (0,0))::.pt b2 (.cells (exE A0).toArray 29 (0,0))::(bl++h)=h') ?_ ?_;refine jE ?_;refine wc ?_ ?_<;>intro c20
 have d20:e=0/\K0 tx=false:=by have c20':((e==0)&&!K0 tx)=true:=c20;simpa using c20'
 refine kA1 ?_;exact WL.nil (mN [(7,.int .i64 3)] (.pt b5 (.cells (exE tx).toArray 29 (0,0))::.pt b2 (.cells (exE A0).toArray 29 (0,0))::(bl++h)) ⟨3,(by rw[hq.1,if_pos d20.1,if_neg (by rw[d20.2];decide)]),rfl,rfl⟩);have d20:a05 ts=e:=by
  have c20':((e==0)&&!K0 tx)=false:=c20;rw[hq.1];by_cases he:e=0
  ·subst he
   have hm:K0 tx=true:=by simpa using c20'
   rw[if_pos rfl,if_pos hm]
  ·rw[if_neg he]
 exact WC.skip (mN [(7,.int .i64 e)] (.pt b5 (.cells (exE tx).toArray 29 (0,0))::.pt b2 (.cells (exE A0).toArray 29 (0,0))::(bl++h)) ⟨e,d20.symm,rfl,rfl⟩);rintro _ _ ⟨e2,he2,rfl,rfl⟩;refine A9 rfl ?_;refine Z2 ?_;refine wN ?_ ?_<;>intro c22
 have h2:=hq.2.2 (by rw[<-he2];exact c22);refine Z5 ?_;refine w3 h (h1:=cA P7) ?_;exact⟨A0,[],by rw[h2.1,he2];rfl,⟨by rw[h2.2];rfl,J2 _ _ _ _ _ _ _,a4A⟩,rfl⟩;have h2:=hq.2.1 (by rw[<-he2];exact c22);refine ZZ [0,5,0] ?_;refine w3 (bl++h) (h1:=cA P7) ?_;exact⟨tx,bl,by rw[h2.1,<-he2,c22];rfl,⟨h2.2.symm,hT,hW⟩,rfl⟩
end
end Go.Proofs.YtgcjpahhljmlmaaGreatDoor.Xq
namespace Go.Proofs.YtgcjpahhljmlmaaGreatDoor.Ty9
open Go.Proofs.Tryz
section
open Go.Eng Go.Lx Go.Ty
theorem b8z(s1:Oa)(n1 c1:Nat)(s2:Oa)(n2 c2:Nat)(l w:Lt)(h:Lr)(m:View)(h1:Rd m h s1 n1 c1 4 (fl B1 l))(h2:Rd m h s2 n2 c2 4 (fl B1 w)) :
 CT prog 197 [.slice s1 n1 c1,.slice s2 n2 c2] h m (A5 h (.bool (a6r l w))):=by
 have hl1:=h1.lenF A7 (by decide);have hl2:=h2.lenF A7 (by decide);subst hl1 hl2;have hmx1:=h1.mx;have hle1:=h1.le;have hmx2:=h2.mx;have hle2:=h2.le;refine cB [0,1,4,5,6,11,15,28] func197 λ_=>?_;refine ZZ [1,5,0] ?_;refine wD ?_ ?_<;>intro c11
 refine Z1 ?_;refine wT h ?_;exact⟨by rw[b0t (by omega)],rfl⟩;refine ZZ [0,1,0] ?_;refine lI [0,1] (λμ F' h'=>∃j:Nat,(j<=w.length/\a6r l w=a6r (l.drop j) (w.drop j))/\w.length-j=μ/\F'=[(5,.int .i64 j)]/\h=h') (w.length-0) [(5,.int .i64 0)] h ⟨0,⟨by omega,rfl⟩,rfl,rfl,rfl⟩ ?_;rintro _ _ _ ⟨j,⟨hk,hJ⟩,rfl,rfl,rfl⟩;refine A9 rfl ?_;refine Z4 ?_;refine wD ?_ ?_<;>intro c15
 obtain⟨x,hx⟩:=A8 (l:=l) (k:=j) (by omega);obtain⟨y,hy⟩:=A8 (l:=w) (k:=j) (by omega);rw[b9V hx hy]at hJ;refine ZZ [0,4] ?_;refine xW λb6=>?_
 refine ZZ [1,2,0] ?_;refine dS [] (.op 0 (.op 1 (.op 2 (.op 3 (.op 4 .nil))))) [5] C9 ?_;refine kA5 ?_;refine nS ?_;refine xG (a3j C7 (by kernel_rfl) (by kernel_rfl) Et Et rfl) ?_;refine y0 ?_ ?_<;>intro c28
 have d28:eqK (B5 x) y=false:=c8H c28;rw[d28]at hJ;refine Z1 ?_;refine wT h ?_;exact⟨by rw[hJ];rfl,rfl⟩;have d28:eqK (B5 x) y=true:=c7m c28;rw[d28]at hJ;refine ZZ [0,3] ?_;exact WL.nil (lN (w.length-(j+1)) [(5,.int .i64 (j+1))] h ⟨j+1,⟨by omega,by simpa using hJ⟩,rfl,rfl,rfl⟩);rw[c1R l (by omega)]at hJ;refine ZZ [0,1,0] ?_;refine wT h ?_;exact⟨by rw[hJ],rfl⟩
theorem b8p{n:Nat}(h:n<255):IntKind.u8.wrap ((n:Int)+1)=(n:Int)+1:=by unfold IntKind.wrap;simp[IntKind.bits,IntKind.signed];omega
theorem frontR_ct(a:Oa)(k c:Nat)(l:Lt)(h:Lr)(m:View)(hs:Rd m h a k c 4 (fl B1 l))(hT:TkOk l) :
 CT prog 122 [.slice a k c] h m (A5 h (.tuple #[tyV (front l).1,.int .i64 (front l).2.1,.int .i64 (front l).2.2])):=by
 have hl:=hs.lenF A7 (by decide);subst hl;have hmx:=hs.mx;have hle:=hs.le;have hq:∀n:Nat,n<l.length->l[n]?=some (G1 l n):=λn=>a1q
 refine cB [0,2,3,4,5,6,7,8,9,10,11,42,46,56,92] func122 λ_=>?_;refine xW λb2=>?_
 refine ZZ [2,1,5] ?_;refine C2 (GU.t rfl rfl) (λhc=>D7 B3.und B3.size B3.posz (Eg hc) Ek Rr rfl (q:=0) (by simp at hc;omega)) Lb ?_;refine C2 (GU.t rfl rfl) (λhc=>D0 C7 rfl (qf rfl) A7 (qu _) Rr (hq 0 (by simp at hc;omega)) (Eg hc)) Lb ?_;refine C2 (GU.t rfl rfl) (λhc=>D2 uu9 rfl A7 Rr (Eg hc) (hq _ (by simp at hc;omega)) rfl) Lb ?_;refine zG (λhc=>H0 (Eg hc) Ek) ?_;refine kA3 ?_;refine C2 (GU.t rfl rfl) (λhc=>D7 B3.und B3.size B3.posz (Eg hc) Ek Rr rfl (q:=1) (by simp at hc;omega)) Lb ?_;refine C2 (GU.t rfl rfl) (λhc=>D0 C7 rfl (qf rfl) A7 (qu _) Rr (hq 1 (by simp at hc;omega)) (Eg hc)) Lb ?_;refine C2 (GU.t rfl rfl) (λhc=>D2 a0R rfl A7 Rr (Eg hc) (hq _ (by simp at hc;omega)) rfl) Lb ?_;refine kA4 ?_
 refine C2 (GU.t rfl rfl) (λhc=>D7 B3.und B3.size B3.posz (Eg hc) Ek Rr rfl (q:=1) (by simp at hc;omega)) Lb ?_;refine C2 (GU.t rfl rfl) (λhc=>D0 C7 rfl (qf rfl) A7 (qu _) Rr (hq 1 (by simp at hc;omega)) (Eg hc)) Lb ?_;refine C2 (GU.t rfl rfl) (λhc=>D2 a0R rfl A7 Rr (Eg hc) (hq _ (by simp at hc;omega)) rfl) Lb ?_;refine kP2 [0,2,5,35] ?_;refine D6 KKh [0,2] rfl (λF' h'=>∃d:Int,(b2Y l=d)/\F'=[(5,.int .i64 d)]/\.pt b2 (.cells (E9 zeroT).toArray 37 (0,0))::h=h') ?_ ?_;refine jE ?_;refine wc ?_ ?_<;>intro c35
 have d35:b4E l=true:=c35;have hl1:1<l.length:=by unfold b4E at d35;simp at d35;omega
 have h1:=hq 1 hl1;have hw:=(hT _ (qe h1)).1;have hD:b2Y l=(G1 l 1).n:=by unfold b2Y;rw[d35];rfl
 refine kA1 ?_;refine xG (D7 B3.und B3.size B3.posz (Ev.tmp rfl) Ek Rr rfl (q:=1) (by omega)) ?_;refine kA2 ?_;refine xG (PO.conv a0R uu3 Et) ?_;refine WL.val (v':=.int .i64 (G1 l 1).n) (congrArg (Value.int .i64) (wrapN hw)) ?_;refine kA1 ?_;exact WL.nil (mN [(5,.int .i64 ((G1 l 1).n))] (.pt b2 (.cells (E9 zeroT).toArray 37 (0,0))::h) ⟨(G1 l 1).n,hD,rfl,rfl⟩);have d35:b4E l=false:=c35;have hD:b2Y l=0:=by unfold b2Y;rw[d35];rfl
 exact WC.skip (mN [(5,.int .i64 0)] (.pt b2 (.cells (E9 zeroT).toArray 37 (0,0))::h) ⟨0,hD,rfl,rfl⟩);rintro _ _ ⟨d,hd,rfl,rfl⟩;refine A9 rfl ?_;refine Z1 ?_;refine lI [0,2,5] (λμ F' h'=>∃x:Nat,((1<=x/\x<=6)/\∀(p q r:Nat),1<=p->p<x->q<4->r<=l.length->r<7->a6d l (a6f l p q r)=false)/\6-x=μ/\F'=[(6,.int .u8 x)]/\.pt b2 (.cells (E9 zeroT).toArray 37 (0,0))::h=h') (6-1) [(6,.int .u8 1)] (.pt b2 (.cells (E9 zeroT).toArray 37 (0,0))::h) ⟨1,⟨by omega,λp q r h1 h2=>by omega⟩,rfl,rfl,rfl⟩ ?_;rintro _ _ _ ⟨x,⟨hx,hA⟩,rfl,rfl,rfl⟩;refine A9 rfl ?_;refine Z2 ?_;refine wD ?_ ?_<;>intro c42
 refine ZZ [0,1,0] ?_;refine lI [0,2,5,6] (λμ F' h'=>∃y:Nat,(y<=4/\∀(q r:Nat),q<y->r<=l.length->r<7->a6d l (a6f l x q r)=false)/\4-y=μ/\F'=[(7,.int .u8 y)]/\.pt b2 (.cells (E9 zeroT).toArray 37 (0,0))::h=h') (4-0) [(7,.int .u8 0)] (.pt b2 (.cells (E9 zeroT).toArray 37 (0,0))::h) ⟨0,⟨by omega,λq r h1=>by omega⟩,rfl,rfl,rfl⟩ ?_;rintro _ _ _ ⟨y,⟨hy,hB⟩,rfl,rfl,rfl⟩;refine A9 rfl ?_;refine Z2 ?_;refine wD ?_ ?_<;>intro c46
 refine ZZ [0,1,0] ?_;refine lI [0,2,5,6,7] (λμ F' h'=>∃i:Nat,(i<=7/\∀(r:Nat),r<i->r<=l.length->a6d l (a6f l x y r)=false)/\7-i=μ/\F'=[(8,.int .i64 i)]/\.pt b2 (.cells (E9 zeroT).toArray 37 (0,0))::h=h') (7-0) [(8,.int .i64 0)] (.pt b2 (.cells (E9 zeroT).toArray 37 (0,0))::h) ⟨0,⟨by omega,λr h1=>by omega⟩,rfl,rfl,rfl⟩ ?_;rintro _ _ _ ⟨i,⟨hi,hC⟩,rfl,rfl,rfl⟩;refine A9 rfl ?_;refine Z8 ?_;refine wc ?_ ?_<;>intro c56
 have hil:i<=l.length/\i<7:=by simp at c56;omega
 refine ZZ [0,4] ?_;refine xW λb9=>?_;refine ZZ [1,7] ?_;refine C2 (GU.t rfl rfl) (λhc=>D7 B3.und B3.size B3.posz (Eg hc) (Eg hc) Rr rfl (by simp at hc;omega)) Lb ?_;refine C2 (GU.t rfl rfl) (λhc=>D0 C7 rfl (qf rfl) A7 (qu _) Rr (hq _ (by simp at hc;omega)) (Eg hc)) Lb ?_;refine C2 (GU.t rfl rfl) (λhc=>D2 a2H rfl A7 Rr (Eg hc) (hq _ (by simp at hc;omega)) rfl) Lb ?_;refine kP2 [0,2,5,6,7,8,9,74] ?_;refine D6 KKh [0,2,5,6,7,8,9] rfl (λF' h'=>∃s:B,(a1D l i=s/\s.length<=9223372036854775807)/\F'=[]/\.pt b9 (.cells (E9 ⟨x,d,y,s⟩).toArray 37 (0,0))::.pt b2 (.cells (E9 zeroT).toArray 37 (0,0))::h=h') ?_ ?_;refine jE ?_;refine wc ?_ ?_<;>intro c74
 have d74:a6l l i=true:=c74;have hli:i<l.length:=by unfold a6l at d74;simp at d74;omega
 have hi1:=hq i hli;have hw:=(hT _ (qe hi1)).2;have hP:a1D l i=(G1 l i).text:=by unfold a1D;rw[d74];rfl
 refine kA7 ?_;exact WL.nil (mN [] (.pt b9 (.cells (E9 ⟨x,d,y,((G1 l i).text)⟩).toArray 37 (0,0))::.pt b2 (.cells (E9 zeroT).toArray 37 (0,0))::h) ⟨(G1 l i).text,⟨hP,hw⟩,rfl,rfl⟩);have d74:a6l l i=false:=c74;have hP:a1D l i=[]:=by unfold a1D;rw[d74];rfl
 exact WC.skip (mN [] (.pt b9 (.cells (E9 ⟨x,d,y,([])⟩).toArray 37 (0,0))::.pt b2 (.cells (E9 zeroT).toArray 37 (0,0))::h) ⟨[],⟨hP,by decide⟩,rfl,rfl⟩);rintro _ _ ⟨s,⟨hs1,hsl⟩,rfl,rfl⟩;refine A9 rfl ?_;refine kA1 ?_;refine xg (E1 Et) (b6u ⟨x,d,y,s⟩ _ _ hsl) ?_;rintro _ _ ⟨a83,c83,rfl,rfl⟩;refine kR a83 λp83 q83 r83=>?_;refine ZZ [5,5] ?_;refine A3 (GU.t rfl rfl) (λhc=>⟨Ef,(E2 (Eg hc) (Eg hc)),b8z _ _ _ _ _ _ l (tokens ⟨x,d,y,s⟩).1 _ _ Rr (iR r83 p83 q83)⟩) Lb ?_;refine y1 ?_ ?_<;>intro c92
 rw[a8r]at c92;have hF:=b6G c92;have hm:may ⟨x,d,y,s⟩=true:=by unfold a6d at c92;simp at c92;exact c92.1
 refine Z6 ?_;refine w3 h (h1:=cA a7s) ?_;exact⟨by rw[hF,K1 hm];rfl,rfl⟩;rw[a8r]at c92;have hG:a6d l (a6f l x y i)=false:=by unfold a6f;rw[hd,hs1];exact c92
 have hC2:∀(r:Nat),r<i+1->r<=l.length->a6d l (a6f l x y r)=false:=λr h1 h2=>(z7.1 h1).elim (λe=>hC r e h2) (λe=>e▸hG)
 refine ZZ [0,3] ?_;exact WL.nil (lN (7-(i+1)) [(8,.int .i64 (i+1))] (.pt b2 (.cells (E9 zeroT).toArray 37 (0,0))::h) ⟨i+1,⟨by omega,hC2⟩,rfl,rfl,rfl⟩);have hC':∀r:Nat,r<=l.length->r<7->a6d l (a6f l x y r)=false:=λr h1 h2=>hC r (by simp at c56;omega) h1
 have hB2:∀(q r:Nat),q<y+1->r<=l.length->r<7->a6d l (a6f l x q r)=false:=λq r h1 h2 h3=>(z7.1 h1).elim (λe=>hB q r e h2 h3) (λe=>e▸hC' r h2 h3)
 refine ZZ [0,2] ?_;refine WL.val (v':=.int .u8 ((y:Int)+1)) (congrArg (Value.int .u8) (b8p (by omega))) ?_;refine kA1 ?_;exact WL.nil (lN (4-(y+1)) [(7,.int .u8 (y+1))] (.pt b2 (.cells (E9 zeroT).toArray 37 (0,0))::h) ⟨y+1,⟨by omega,hB2⟩,rfl,rfl,rfl⟩);have hA2:∀(p q r:Nat),1<=p->p<x+1->q<4->r<=l.length->r<7->a6d l (a6f l p q r)=false:=λp q r h0 h1 h2 h3 h4=>(z7.1 h1).elim (λe=>hA p q r h0 e h2 h3 h4) (λe=>e▸hB q r (by omega) h3 h4)
 refine ZZ [0,2] ?_;refine WL.val (v':=.int .u8 ((x:Int)+1)) (congrArg (Value.int .u8) (b8p (by omega))) ?_;refine kA1 ?_;exact WL.nil (lN (6-(x+1)) [(6,.int .u8 (x+1))] (.pt b2 (.cells (E9 zeroT).toArray 37 (0,0))::h) ⟨x+1,⟨by omega,hA2⟩,rfl,rfl,rfl⟩);have hF:=b6C λk it i h0 h1 h2 h3 h4=>hA k it i h0 (by omega) h2 h3 h4
 refine ZZ [0,4,0] ?_;refine w3 h (h1:=cA a7s) ?_;exact⟨by rw[hF];rfl,rfl⟩
end
end Go.Proofs.YtgcjpahhljmlmaaGreatDoor.Ty9
namespace Go.Proofs.YtgcjpahhljmlmaaGreatDoor
open Go.Proofs.Tryz
section
open Go.Eng Go.Pc Go
open Go.Xp hiding B E8
open Go.Ty (Ty Vr eqT tyV E9 PrOk VOk encV D8 H3 E5 eqI a3a a2S)
open Go.Lx (encB C0)
end
section
open Go.Eng Go.Pc Go.Sx Go
open Go.Xp hiding B E8
open Go.Ty (Ty Vr Tok eqT tyV E9 B1 A7 I6 zeroK)
structure Tk3(m:View)(h:Lr)(a:Oa)(c:Nat)(ts:Lt):Prop where
 t:Tk2 m h a c ts
 y:∀x∈ts,Go.Lx.mayK x=true
theorem Tk3.mono{m:View}{h h':Lr}{a:Oa}{c:Nat}{ts:Lt}(q:Tk3 m h a c ts)(s:h.Sublist h'):Tk3 m h' a c ts:=⟨q.t.mono s,q.y⟩
theorem Tk3.drop{m:View}{h:Lr}{a:Oa}{c:Nat}{ts:Lt}(q:Tk3 m h a c ts){i:Nat}(hi:i<=ts.length):Tk3 m h (sl1 a i c 4) (c-i) (ts.drop i):=⟨q.t.drop hi,λx hx=>q.y x (z5 hx)⟩
theorem Tk3.tail{m:View}{h:Lr}{a:Oa}{c:Nat}{ts:Lt}(q:Tk3 m h a c ts)(hi:0<ts.length):Tk3 m h (sl1 a 1 c 4) (c-1) ts.tail:=⟨q.t.tail hi,λx hx=>q.y x (List.mem_of_mem_tail hx)⟩
theorem Tk3.k{m:View}{h:Lr}{a:Oa}{c:Nat}{ts:Lt}(q:Tk3 m h a c ts):Tks m h a c ts:=q.t.k
theorem Tk3.n{m:View}{h:Lr}{a:Oa}{c:Nat}{ts:Lt}(q:Tk3 m h a c ts):∀t∈ts,-2147483648<=t.n/\t.n<=2147483647:=q.t.n
theorem Tk3.ok{m:View}{h:Lr}{a:Oa}{c:Nat}{ts:Lt}(q:Tk3 m h a c ts):Go.Ty.TkOk ts:=q.t.ok
abbrev tqR(b:Nat)(a:Oa)(c:Nat)(n:Nat)(bad:Bool):Res:=.pt b (.cells [.slice a c n,.bool bad].toArray 121 (0,0))
abbrev TkX{α:Type}(m:View)(f:FuncId)(args:Lv)(b:Nat)(a:Oa)(c:Nat)(ts:Lt)(bad:Bool)(hT h:Lr)(M:E α)(O:α->Value->Lr->Prop):Prop:=
 CT prog f args (tqR b a ts.length c bad::h) m (λv _ h'=>∃(x:α)(r:Lt)(a':Oa)(c':Nat)(bad':Bool)(bl:Lr),TO M bad x r bad'/\O x v bl/\Tk3 m hT a' c' r/\h'=tqR b a' r.length c' bad'::(bl++h))
abbrev TkV{α:Type}(m:View)(f:FuncId)(args:Lv)(b:Nat)(a:Oa)(c:Nat)(ts:Lt)(bad:Bool)(hT h:Lr)(M:E α)(W:α->Value->Prop):Prop:=
 CT prog f args (tqR b a ts.length c bad::h) m (λv _ h'=>∃(x:α)(r:Lt)(a':Oa)(c':Nat)(bad':Bool),TO M bad x r bad'/\W x v/\Tk3 m hT a' c' r/\h'=tqR b a' r.length c' bad'::h)
theorem a0Y(b:Nat)(a:Oa)(c:Nat)(ts:Lt)(bad:Bool)(u:Tok)(h hT:Lr){m:View}(hb:tqR b a ts.length c bad∈h)(hk:Tk3 m hT a c ts)(hs:hT.Sublist h) :
 CT prog 61 [ptV b,I6 u] h m (A5 h (.bool (isM u.kind u.text ts))):=by
 have hrd:=(hk.mono hs).k.rd;obtain⟨t,ht⟩:∃t,t=ts.getD 0 zeroK:=⟨_,rfl⟩;have hel:0<ts.length->ts[0]?=some t:=λhq=>by rw[ht,ql,qk hq];rfl
 refine cB [0,3,4] func61 λ_=>?_;refine xX λb3=>?_
 refine Z1 ?_;refine dS [] (.op 0 (.op 1 (.op 2 (.op 3 (.op 4 (.op 5 (.op 6 (.op 7 (.op 8 (.op 9 (.op 10 (.op 11 (.op 12 (.op 13 (.op 14 (.op 15 (.op 16 (.op 17 (.op 18 (.op 19 (.op 20 (.op 21 (.op 22 (.op 23 (.op 24 (.op 25 (.op 26 (.op 27 .nil)))))))))))))))))))))))))))) [28,29,30] C9 ?_;refine kA3 ?_;refine yG rfl (C8 a2O rfl Et (qt _ hb) rfl) ?_;refine yG rfl (R8 a2O Et) ?_;refine yG rfl (O4 Et Ek rfl) ?_;refine kA1 ?_;refine B2 rfl rfl (GU.t rfl rfl) (λhc=>PO.move Et) Lb ?_;refine B2 rfl rfl (GU.t rfl rfl) (λhc=>PO.nilCheck (Eg hc)) Lb ?_;refine B2 rfl rfl (GU.t rfl rfl) (λhc=>PO.fieldAddr c2c rfl (qf rfl) (Eg hc)) Lb ?_;refine B2 rfl rfl (GU.t rfl rfl) (λhc=>C8 a2O rfl (Eg hc) (qt _ hb) rfl) Lb ?_
 refine B2 rfl rfl (GU.t rfl rfl) (λhc=>D7 B3.und B3.size B3.posz (Eg hc) Ek Rr rfl (q:=0) (by simp at hc;omega)) Lb ?_;refine B2 rfl rfl (GU.t rfl rfl) (λhc=>D0 C7 rfl (qf rfl) A7 (qu _) Rr (hel (by simp at hc;omega)) (Eg hc)) Lb ?_;refine B2 rfl rfl (GU.t rfl rfl) (λhc=>D2 a2H rfl A7 Rr (Eg hc) (hel (by simp at hc;omega)) rfl) Lb ?_;refine kA2 ?_;refine B2 rfl rfl (GU.t rfl rfl) (λhc=>O4 (Eg hc) (Eg hc) rfl) Lb ?_;refine kA2 ?_;refine B2 rfl rfl (GU.t rfl rfl) (λhc=>PO.move Et) Lb ?_;refine B2 rfl rfl (GU.t rfl rfl) (λhc=>PO.nilCheck (Eg hc)) Lb ?_;refine B2 rfl rfl (GU.t rfl rfl) (λhc=>PO.fieldAddr c2c rfl (qf rfl) (Eg hc)) Lb ?_;refine B2 rfl rfl (GU.t rfl rfl) (λhc=>C8 a2O rfl (Eg hc) (qt _ hb) rfl) Lb ?_
 refine B2 rfl rfl (GU.t rfl rfl) (λhc=>D7 B3.und B3.size B3.posz (Eg hc) Ek Rr rfl (q:=0) (by simp at hc;omega)) Lb ?_;refine B2 rfl rfl (GU.t rfl rfl) (λhc=>D0 C7 rfl (qf rfl) A7 (qu _) Rr (hel (by simp at hc;omega)) (Eg hc)) Lb ?_;refine B2 rfl rfl (GU.t rfl rfl) (λhc=>D2 uu9 rfl A7 Rr (Eg hc) (hel (by simp at hc;omega)) rfl) Lb ?_;refine kA2 ?_;refine nS ?_;refine zG (λhc=>H0 (Eg hc) (Eg hc)) ?_;refine Z2 ?_;refine wT h ?_;exact⟨by rw[c1b,<-ht],rfl⟩
theorem G4(b:Nat)(a:Oa)(c:Nat)(ts:Lt)(bad:Bool)(u:Tok)(h hT:Lr){m:View}(hk:Tk3 m hT a c ts)(hs:hT.Sublist h) :
 CT prog 53 [ptV b,I6 u] (tqR b a ts.length c bad::h) m
  (λv _ h'=>∃a' c' r,v=.bool (isM u.kind u.text ts&&!bad)/\r=(if(isM u.kind u.text ts&&!bad)=true then ts.tail else ts)/\Tk3 m hT a' c' r/\h'=tqR b a' r.length c' bad::h):=by
 refine cB [0,3,4,5,16] func53 λ_=>?_;refine xX λb3=>?_
 refine ZZ [1,2] ?_;refine xf (E2 Et Et) (a0Y b a c ts bad u _ hT Me hk (hs.trans Sb)) ?_;refine kA2 ?_;refine zG (λhc=>PO.nilCheck (Eg hc)) ?_;refine ZZ [5,1,0] ?_;refine wc ?_ ?_<;>intro c16
 have d16:(isM u.kind u.text ts&&!bad)=true:=c16;have hp:=a4G (qa ..▸d16).1;refine kA5 ?_;refine xG (S4 B3.und B3.size Et Ek (l:=1) rfl (by omega)) ?_;refine ZZ [3,2,0] ?_;refine wT (tqR b (sl1 a 1 c 4) (ts.length-1) (c-1) bad::h) ?_;exact⟨_,_,ts.tail,by rw[d16],by rw[d16];rfl,hk.tail hp,by rw[zg]⟩;have d16:(isM u.kind u.text ts&&!bad)=false:=c16;refine ZZ [0,2,0] ?_;refine wT (tqR b a ts.length c bad::h) ?_;exact⟨a,c,ts,by rw[d16],by rw[d16];rfl,hk,rfl⟩
theorem L4(b:Nat)(a:Oa)(c:Nat)(ts:Lt)(bad:Bool)(u:Tok)(h hT:Lr){m:View}(hk:Tk3 m hT a c ts)(hs:hT.Sublist h) :
 CT prog 59 [ptV b,I6 u] (tqR b a ts.length c bad::h) m
  (λv _ h'=>∃a' c' r bad',v=.tuple #[]/\Mu u.kind u.text ts bad r bad'/\Tk3 m hT a' c' r/\h'=tqR b a' r.length c' bad'::h):=by
 refine cB [0,3,7] func59 λ_=>?_;refine xX λb3=>?_
 refine ZZ [0,2] ?_;refine WL.take (r:=tqR b a ts.length c bad) De ?_;refine xg (E2 Et Et) (G4 b a c ts bad u _ hT hk (hs.trans Sb)) ?_;rintro _ _ ⟨a6,u6,r6,rfl,he6,hk6,rfl⟩;refine y1 ?_ ?_<;>intro c7
 have d7:(isM u.kind u.text ts&&!bad)=false:=by rw[<-qK];exact c7
 rw[d7,if_neg (by decide)]at he6;subst r6;refine kA4 ?_;refine WL.nil (w0 (tqR b a6 ts.length u6 true::h) ?_);exact⟨_,_,ts,true,rfl,⟨by rw[Bool.and_eq_false_iff]at d7;cases bad<;>simp_all,nofun⟩,hk6,rfl⟩;have d7:(isM u.kind u.text ts&&!bad)=true:=by rw[<-zy];exact c7
 rw[d7,if_pos rfl]at he6;subst r6;refine WC.skip (a6p (h':=tqR b a6 ts.tail.length u6 bad::h) (.inr rfl) rfl  Vl Sb ?_);exact⟨_,_,ts.tail,bad,rfl,⟨by rw[qa]at d7;cases bad<;>simp_all,λ_=>rfl⟩,hk6,rfl⟩
theorem b4M(b:Nat)(a:Oa)(c:Nat)(ts:Lt)(bad:Bool)(h:Lr)(m:View):CT prog 129 [ptV b] (tqR b a ts.length c bad::h) m (λv _ h'=>v=.tuple #[]/\h'=tqR b a ts.length c (bad||!ts.isEmpty)::h):=by
 refine cB [0,7] func129 λ_=>?_;refine Z6 ?_;refine wD ?_ ?_<;>intro c7
 have d7:ts.isEmpty=false:=by cases ts with|nil=>exact absurd c7 (by decide)|cons=>rfl
 refine kA4 ?_;refine WL.nil (w0 (tqR b a ts.length c true::h) ?_);exact⟨rfl,by rw[d7];simp⟩;have d7:ts.isEmpty=true:=by rw[List.isEmpty_iff];exact qB (by omega)
 refine WC.skip (a6p (h':=tqR b a ts.length c bad::h) (.inr rfl) rfl  Vl Sb ?_);exact⟨rfl,by rw[d7];simp⟩
theorem a5X{b:Bool}{n:Nat}(h:(!(b||((n:Int)==0)))=true):0<n:=by
 cases b<;>simp at h
 omega
theorem X2(b:Nat)(a:Oa)(c:Nat)(ts:Lt)(bad:Bool)(h hT:Lr){m:View}(hk:Tk3 m hT a c ts)(hs:hT.Sublist h):TkV m 55 [ptV b] b a c ts bad hT h (O0 ts) WN:=by
 have hrd:=(hk.mono hs).k.rd;have hq:=a9F ts;obtain⟨t,ht⟩:∃t,t=ts.getD 0 zeroK:=⟨_,rfl⟩;have hel:0<ts.length->ts[0]?=some t:=λhq=>by rw[ht,ql,qk hq];rfl
 rw[<-ht]at hq;refine cB [0,2,3,25] func55 λ_=>?_
 refine ZZ [1,6] ?_;refine zG (λhc=>PO.nilCheck (Eg hc)) ?_;refine kA7 ?_;refine zG (λhc=>PO.nilCheck (Eg hc)) ?_;refine kA2 ?_;refine zG (λhc=>D7 B3.und B3.size B3.posz (Eg hc) Ek Rr rfl (q:=0) (a5X hc)) ?_;refine zG (λhc=>D0 C7 rfl (qf rfl) A7 (qu _) Rr (hel (a5X hc)) (Eg hc)) ?_;refine zG (λhc=>D2 a2H rfl A7 Rr (Eg hc) (hel (a5X hc)) rfl) ?_;refine y2 ?_ ?_<;>intro c25
 have d25:bad=true\/t.kind≠1:=by have c25':((bad||((ts.length:Int)==0))||(t.kind !=1))=true:=c25;rw[Bool.or_assoc,qv]at c25';exact c25'.imp id (c5f ht)
 refine ZZ [4,1,0] ?_;refine wT (tqR b a ts.length c true::h) ?_;exact⟨[],ts,a,c,true,d25.elim (λq=>by subst q;exact a9V _ _ _) (λq=>by rw[hq,if_neg q];exact a8n _ _ _ _),⟨rfl,qi _⟩,hk,rfl⟩;have d25:bad=false/\(0<ts.length/\t.kind=1):=by have c25':((bad||((ts.length:Int)==0))||(t.kind !=1))=false:=c25;rw[Bool.or_assoc,qA]at c25';exact⟨c25'.1,c4O c25'.2⟩
 have hel:=hel d25.2.1;have htx:=hk.k.tx t (qe hel);have hp:=d25.2.1;rw[if_pos d25.2.2]at hq;refine ZZ [0,4] ?_;refine xG (D7 B3.und B3.size B3.posz (Ev.tmp rfl) Ek Rr rfl (q:=0) (by omega)) ?_;refine ZZ [3,5] ?_;refine xG (S4 B3.und B3.size Et Ek (l:=1) rfl (by omega)) ?_;refine ZZ [3,2,0] ?_;refine wT (tqR b (sl1 a 1 c 4) (ts.length-1) (c-1) bad::h) ?_;exact⟨t.text,ts.tail,_,_,bad,by rw[hq];exact a0f _ _ _,⟨rfl,htx⟩,hk.tail hp,by rw[zg]⟩
theorem Q7{m:View}(b:Nat)(a:Oa)(c:Nat)(ts:Lt)(bad:Bool)(h hT:Lr)(hk:Tk3 m hT a c ts)(hs:hT.Sublist h):TkX m 60 [ptV b] b a c ts bad hT h (G6 ts) (OE m):=by
 have hq:=a6M ts;have hle:=b00 (ts:=ts);refine cB [0,2,3,4,5,22] func60 λ_=>?_;refine xW λb2=>?_
 refine ZZ [0,4] ?_;refine xg (E1 Et) (Xq.front10_ct a c ts _ (hk.k.mono (hs.trans Sb)) hk.n) ?_;rintro _ _ ⟨t11,bl,rfl,⟨hst,hU,hW⟩,rfl⟩;refine WL.perm (Mv.perm) ?_;refine kA4 ?_;refine xW λb3=>?_;refine ZZ [3,8,0] ?_;refine wc ?_ ?_<;>intro c22
 have d22:bad=true\/a05 ts≠0:=by simpa using c22
 refine ZZ [4,2,0] ?_;refine wT (tqR b a ts.length c true::h) (h1:=cA P7) ?_;exact⟨A0,ts,a,c,true,[],d22.elim (λq=>by subst q;exact a9V _ _ _) (λq=>by rw[hq,if_neg q];exact a8n _ _ _ _),⟨A0,rfl,rfl,B6 _ _⟩,hk,rfl⟩;have d22:bad=false/\a05 ts=0:=by simpa using c22
 rw[if_pos d22.2]at hq;refine ZZ [0,6] ?_;refine xG (S4 B3.und B3.size Et Et rfl (by omega)) ?_;refine ZZ [3,2,0] ?_;refine wT (tqR b (sl1 a (R1 ts) c 4) (ts.length-R1 ts) (c-R1 ts) bad::(bl++h)) (h1:=cA P7) ?_;exact⟨a2X ts,ts.drop (R1 ts),_,_,bad,bl,by rw[hq];exact a0f _ _ _,⟨t11,rfl,hst,hU,hW⟩,hk.drop hle,by rw[qx]⟩
theorem a8W{m:View}(b:Nat)(a:Oa)(c:Nat)(ts:Lt)(bad:Bool)(h hT:Lr)(hk:Tk3 m hT a c ts)(hs:hT.Sublist h):TkV m 58 [ptV b] b a c ts bad hT h (a1Y ts) WT:=by
 have hq:a1Y ts=if(Go.Ty.front ts).2.2=0 then .ok ((Go.Ty.front ts).1,ts.drop (Go.Ty.front ts).2.1)else .error 110:=rfl
 have hle:=c3E ts;refine cB [0,2,3,4,5,22] func58 λ_=>?_;refine xW λb2=>?_
 refine ZZ [0,4] ?_;refine xf (E1 Et) (Ty9.frontR_ct a _ c ts _ _ (hk.k.mono (hs.trans Sb)).rd hk.ok) ?_;refine kA4 ?_;refine xW λb3=>?_;refine ZZ [3,8,0] ?_;refine wc ?_ ?_<;>intro c22
 have d22:bad=true\/(Go.Ty.front ts).2.2≠0:=by simpa using c22
 refine ZZ [4,2,0] ?_;refine wT (tqR b a ts.length c true::h) (h1:=cA a7s) ?_;exact⟨Go.Ty.zeroT,ts,a,c,true,d22.elim (λq=>by subst q;exact a9V _ _ _) (λq=>by rw[hq,if_neg q];exact a8n _ _ _ _),⟨rfl,by decide,by decide,by decide,qi _⟩,hk,rfl⟩;have d22:bad=false/\(Go.Ty.front ts).2.2=0:=by simpa using c22
 rw[if_pos d22.2]at hq;refine ZZ [0,6] ?_;refine xG (S4 B3.und B3.size Et Et rfl (by omega)) ?_;refine ZZ [3,2,0] ?_;refine wT (tqR b (sl1 a (Go.Ty.front ts).2.1 c 4) (ts.length-(Go.Ty.front ts).2.1) (c-(Go.Ty.front ts).2.1) bad::h) (h1:=cA a7s) ?_;exact⟨_,ts.drop (Go.Ty.front ts).2.1,_,_,bad,by rw[hq];exact a0f _ _ _,⟨rfl,c7g ts⟩,hk.drop hle,by rw[qx]⟩
end
end Go.Proofs.YtgcjpahhljmlmaaGreatDoor
namespace Go.Sx
section
open Go.Eng Go.Pc Go
open Go.Xp hiding B
open Go.Ty (Ty Vr Tok)
variable {α β:Type}
def SvI(take:Lt->E α)(sep:B)(most:Nat)(ts:Lt)(bad:Bool)(acc:List α)(r:Lt)(b:Bool):Prop:=
 (b=true->bad=true\/∃e,H1 take sep most ts=.error e) /\
 (b=false->bad=false/\(acc.length<=most->H1 take sep most ts=R6 take sep (most-acc.length) acc r)/\(most<acc.length->∃e,H1 take sep most ts=.error e))
theorem a3S{take:Lt->E α}{sep:B}{most:Nat}{ts:Lt}{bad b:Bool}{x:α}{r:Lt}(h1:1<=most)(h:TO (take ts) bad x r b):SvI take sep most ts bad [x] r b:=by refine⟨λhb=>(h.1 hb).imp id λ⟨e,he⟩=>⟨e,by unfold H1;rw[he];rfl⟩,λhb=>?_⟩;obtain⟨h2,h3⟩:=h.2 hb;exact⟨h2,λ_=>by unfold H1;rw[h3];rfl,λq=>absurd q (by simp only[qO];omega)⟩
theorem a7a{take:Lt->E α}{sep:B}{most:Nat}{ts:Lt}{bad b b2:Bool}{acc:List α}{x:α}{r r2:Lt}(h:SvI take sep most ts bad acc r b)(hm:(isM 5 sep r&&!b)=true)(k:TO (take r.tail) b x r2 b2) :
 SvI take sep most ts bad (acc++[x]) r2 b2:=by
 rw[qa]at hm;have hb:b=false:=by rw[<-qK];exact hm.2
 obtain⟨h2,h3,h4⟩:=h.2 hb;have hl:(acc++[x]).length=acc.length+1:=qh;have hk:acc.length+1<=most->H1 take sep most ts=I3 (take r.tail) λx r=>R6 take sep (most-(acc.length+1)) (acc++[x]) r:=λq=>by
  rw[h3 (by omega),show most-acc.length=(most-(acc.length+1))+1 by omega];conv=>lhs;unfold R6
  rw[if_pos hm.1]
 have hf:¬acc.length+1<=most->∃e,H1 take sep most ts=.error e:=λq=>by
  by_cases w:acc.length<=most
  ·refine⟨110,?_⟩
   rw[h3 w,show most-acc.length=0 by omega];unfold R6;rw[if_pos hm.1]
  ·exact h4 (by omega)
 refine⟨λq=>?_,λq=>?_⟩
 ·by_cases w:acc.length+1<=most
  ·rcases k.1 q with v|⟨e,v⟩
   ·rw[hb]at v;cases v
   ·exact .inr ⟨e,by rw[hk w,v];rfl⟩
  ·exact .inr (hf w)
 ·obtain⟨-,v⟩:=k.2 q
  exact⟨h2,λw=>by rw[hl]at w⊢;rw[hk w,v];rfl,λw=>hf (by rw[hl]at w;omega)⟩
theorem a6P{take:Lt->E α}{sep:B}{most:Nat}{ts:Lt}{bad b:Bool}{acc:List α}{r:Lt}(h:SvI take sep most ts bad acc r b)(hm:(isM 5 sep r&&!b)=false):TO (H1 take sep most ts) bad acc r (b||decide (most<acc.length)):=by
 cases hb:b with
 |true=>rw[zl];exact⟨λ_=>h.1 hb,nofun⟩
 |false=>rw[hb,zf,za]at hm;obtain⟨h2,h3,h4⟩:=h.2 hb;rw[zC];refine⟨λq=>.inr (h4 (zq q)),λq=>⟨h2,?_⟩⟩;have q:=zz q;rw[h3 (by omega)];cases most-acc.length<;>(unfold R6;rw[if_neg (by rw[hm];decide)])
theorem c9B{p:Prop}[Decidable p]{A C:E α}{bad:Bool}{x:α}{r:Lt}{b2:Bool}(hp:p)(q:TO A bad x r b2):TO (if p then A else C) bad x r b2:=by rw[if_pos hp];exact q
theorem b8g{ts r:Lt}{bad b1 b2:Bool}{x:Ex}(h1:b1=(bad||!((ts.getD 0 Go.Ty.zeroK).kind==1)))(h2:TO (G6 ts) b1 x r b2):TO (C5 ts) bad x r (b2||!L5 x):=by
 rw[a3v];by_cases hk:(ts.getD 0 Go.Ty.zeroK).kind=1
 ·rw[if_pos hk]
  have hb:b1=bad:=by rw[h1,hk];cases bad<;>rfl
  rw[hb]at h2;refine V7 h2 ?_;cases he:L5 x with
  |true=>rw[if_pos rfl,zX,zp];exact a0f _ _ _
  |false=>rw[if_neg (by decide),zf,zW];exact a8n _ _ _ _
 ·rw[if_neg hk]
  have hb:b1=true:=by rw[h1,qW.2 hk];cases bad<;>rfl
  have hb2:b2=true:=by
   cases hq:b2 with
   |true=>rfl
   |false=>have:=(h2.2 hq).1;rw[hb]at this;cases this
  rw[hb2,zl];exact a8n _ _ _ _
end
end Go.Sx
namespace Go.Proofs.YtgcjpahhljmlmaaGreatDoor
open Go.Proofs.Tryz
section
open Go.Eng Go.Pc Go.Sx Go
open Go.Xp hiding B E8
open Go.Ty (Ty Vr Tok eqT tyV E9 B1 A7 I6 zeroK)
theorem a2j{m:View}(b:Nat)(a:Oa)(c:Nat)(ts:Lt)(bad:Bool)(h hT:Lr)(hk:Tk3 m hT a c ts)(hs:hT.Sublist h):TkX m 63 [ptV b] b a c ts bad hT h (C5 ts) (OE m):=by
 have hrd:=(hk.mono hs).k.rd;obtain⟨t,ht⟩:∃t,t=ts.getD 0 zeroK:=⟨_,rfl⟩;have hel:0<ts.length->ts[0]?=some t:=λhq=>by rw[ht,ql,qk hq];rfl
 refine cB [0,2,3,27] func63 λ_=>?_;refine xW λb2=>?_
 refine ZZ [0,8] ?_;refine zG (λhc=>PO.nilCheck (Eg hc)) ?_;refine kA2 ?_;refine zG (λhc=>D7 B3.und B3.size B3.posz (Eg hc) Ek Rr rfl (q:=0) (a4m hc)) ?_;refine zG (λhc=>D0 C7 rfl (qf rfl) A7 (qu _) Rr (hel (a4m hc)) (Eg hc)) ?_;refine zG (λhc=>D2 a2H rfl A7 Rr (Eg hc) (hel (a4m hc)) rfl) ?_;refine kP2 [0,2,19] ?_;refine D6 KKh [0,2] rfl (λF' h'=>∃w:Bool,(w=(bad||!((ts.getD 0 zeroK).kind==1)))/\F'=[]/\.pt b2 (.cells (exE A0).toArray 29 (0,0))::tqR b a ts.length c w::h=h') ?_ ?_;refine jE ?_;refine wc ?_ ?_<;>intro c19
 have d19:=c5f ht c19;refine kA4 ?_;exact WL.nil (mN [] (.pt b2 (.cells (exE A0).toArray 29 (0,0))::tqR b a ts.length c true::h) ⟨true,(by rw[<-ht,qW.2 d19];cases bad<;>rfl),rfl,rfl⟩);have d19:=c4O c19;exact WC.skip (mN [] (.pt b2 (.cells (exE A0).toArray 29 (0,0))::tqR b a ts.length c bad::h) ⟨bad,(by rw[<-ht,d19.2];cases bad<;>rfl),rfl,rfl⟩);rintro _ _ ⟨w,hw,rfl,rfl⟩;refine A9 rfl ?_;refine kA1 ?_;refine WL.take (r:=tqR b a ts.length c w) De ?_;refine xg (E1 Et) (Q7 b a c ts w _ _ hk (hs.trans Sb)) ?_;rintro _ _ ⟨x24,r24,a24,u24,w24,bl24,hM24,⟨t24,rfl,rfl,hO24⟩,hk24,rfl⟩;refine mP ?_;refine xW λb3=>?_;refine ZZ [1,1] ?_;refine xf (E1 Et) (b3y t24 (hO24.mono Sb)) ?_;refine y1 ?_ ?_<;>intro c27
 have d27:L5 (B5 t24)=false:=by rw[V5];simpa using c27
 have hE:=b8g hw hM24;rw[d27,zf,zW]at hE;refine ZZ [4,2,0] ?_;refine wT (tqR b a24 r24.length u24 true::(bl24++h)) (h1:=cA P7) ?_;exact⟨_,r24,a24,u24,true,bl24,hE,⟨t24,rfl,rfl,hO24⟩,hk24,rfl⟩;have d27:L5 (B5 t24)=true:=by rw[V5];simpa using c27
 have hE:=b8g hw hM24;rw[d27,zX,zp]at hE;refine ZZ [0,2,0] ?_;refine wT (tqR b a24 r24.length u24 w24::(bl24++h)) (h1:=cA P7) ?_;exact⟨_,r24,a24,u24,w24,bl24,hE,⟨t24,rfl,rfl,hO24⟩,hk24,rfl⟩
theorem b5e{ts r:Lt}{x:Ex}(h:G6 ts=.ok (x,r)):r.length<=ts.length:=by
 rw[a6M]at h;split at h
 ·injection h with h;injection h with h1 h2
  subst h2;rw[qx];omega
 ·cases h
theorem b3Z{ts r:Lt}{x:Ex}(h:C5 ts=.ok (x,r)):r.length<=ts.length:=by
 rw[a3v]at h;split at h
 ·cases he:G6 ts with
  |error e=>rw[he]at h;cases h
  |ok p=>
   obtain⟨y,r1⟩:=p;have h1:=b5e he;rw[he]at h;have h2:(if L5 y then(.ok (y,r1):E Ex)else .error 110)=.ok (x,r):=h;split at h2
   ·injection h2 with h2;injection h2 with h3 h4
    subst h4;exact h1
   ·cases h2
 ·cases h
def b3R(only:Bool):Lt->E Ex:=if only=true then C5 else G6
theorem c1n{only:Bool}{ts r:Lt}{x:Ex}(h:b3R only ts=.ok (x,r)):r.length<=ts.length:=by
 cases only
 ·exact b5e h
 ·exact b3Z h
abbrev OLb(m:View)(l:List Ex)(v:Value)(bl:Lr):Prop:=∃s:Sli Ex,v=.slice s.a s.l.length s.c/\s.l.map B5=l/\LOk m bl s/\1<=s.l.length/\s.l.length<=1000001
theorem Y9{m:View}(sep:B)(most:Nat)(only:Bool)(b:Nat)(a:Oa)(c:Nat)(ts:Lt)(bad:Bool)(h hT:Lr)(hk:Tk3 m hT a c ts)(hs:hT.Sublist h)(h1:1<=most/\most<=100) :
 TkX m 71 [ptV b,str sep,.int .i64 most,.bool only] b a c ts bad hT h (H1 (b3R only) sep most ts) (OLb m):=by
 have hle0:=hk.k.le;refine cB [0,1,2,3,8,9,25,29] func71 λ_=>?_;refine Z1 ?_;refine WL.addNil 29 6 ?_;refine kA1 ?_;refine WL.perm (qF _ _ _) ?_;refine Z0 ?_;refine lI [0,1,2,3] (λμ F' h'=>∃a9:Oa,∃c9:Nat,∃l:List Ex,∃bl:Lr,∃x:Oa,∃y:Nat,∃r:Lt,∃w:Bool,((∀x' r2 b2,TO (b3R only r) w x' r2 b2->SvI (b3R only) sep most ts bad (l.map B5++[x']) r2 b2)/\l.length+r.length<=ts.length/\Tk3 m hT x y r/\(∀z∈l,EOk m bl z))/\r.length=μ/\F'=[(9,.slice a9 l.length c9)]/\tqR b x r.length y w::.row (.slice a9 l.length c9) 29 6 l.length (fl exE l)::(bl++h)=h') (ts.length) [(9,.slice none ([]).length 0)] (tqR b a ts.length c bad::.row (.slice none ([]).length 0) 29 6 ([]).length (fl exE ([]))::(([])++h)) ⟨none,0,[],[],a,c,ts,bad,⟨λx' r2 b2 q=>a3S h1.1 q,by simp,hk,by simp⟩,rfl,rfl,rfl⟩ ?_;rintro _ _ _ ⟨a9,c9,l,bl,x,y,r,w,⟨hJ,hlr,hk1,hW⟩,rfl,rfl,rfl⟩;refine A9 rfl ?_;refine kP1 [0,1,2,3,9,10] ?_
 refine D6 KKh [0,1,2,3] rfl (λF' h'=>∃a8:Oa,∃c8:Nat,∃t:Ex,∃bl2:Lr,∃x2:Oa,∃y2:Nat,∃r2:Lt,∃w2:Bool,(Tk3 m hT x2 y2 r2/\EOk m bl2 t/\TO (b3R only r) w (B5 t) r2 w2)/\F'=[(9,.slice a8 (l++[t]).length c8)]/\tqR b x2 r2.length y2 w2::.row (.slice a8 (l++[t]).length c8) 29 6 (l++[t]).length (fl exE (l++[t]))::(bl2++(bl++h))=h') ?_ ?_;refine jE ?_;refine wc ?_ ?_<;>intro c10
 have d10:only=true:=c10;refine kA2 ?_;refine WL.take (r:=tqR b x r.length y w) De ?_;refine xg (E1 Et) (a2j b x y r w _ _ hk1 (hs.trans Sb)) ?_;rintro _ _ ⟨x13,r13,a13,u13,w13,bl13,hM13,⟨t13,rfl,rfl,hO13⟩,hk13,rfl⟩;refine mP ?_;have hln:(l++[t13]).length=l.length+1:=qh;refine xY U9 Eb λb14=>?_;refine xD U9 (Ev.tmp rfl) (Ev.tmp rfl) (show l.length+1=(l++[t13]).length by simp) (D9 (enc:=exE) _ (t13)) λa15 c15=>?_
 refine kA1 ?_;exact WL.nil (mN [(9,.slice a15 (l++[t13]).length c15)] (tqR b a13 r13.length u13 w13::.row (.slice a15 (l++[t13]).length c15) 29 6 (l++[t13]).length (fl exE (l++[t13]))::(bl13++(bl++h))) ⟨a15,c15,t13,bl13,a13,u13,r13,w13,⟨hk13,hO13,by rw[d10];exact hM13⟩,rfl,rfl⟩);have d10:only=false:=c10;refine kA2 ?_;refine WL.take (r:=tqR b x r.length y w) De ?_;refine xg (E1 Et) (Q7 b x y r w _ _ hk1 (hs.trans Sb)) ?_;rintro _ _ ⟨x18,r18,a18,u18,w18,bl18,hM18,⟨t18,rfl,rfl,hO18⟩,hk18,rfl⟩;refine mP ?_;have hln:(l++[t18]).length=l.length+1:=qh;refine xY U9 Eb λb19=>?_;refine xD U9 (Ev.tmp rfl) (Ev.tmp rfl) (show l.length+1=(l++[t18]).length by simp) (D9 (enc:=exE) _ (t18)) λa20 c20=>?_
 refine kA1 ?_;exact WL.nil (mN [(9,.slice a20 (l++[t18]).length c20)] (tqR b a18 r18.length u18 w18::.row (.slice a20 (l++[t18]).length c20) 29 6 (l++[t18]).length (fl exE (l++[t18]))::(bl18++(bl++h))) ⟨a20,c20,t18,bl18,a18,u18,r18,w18,⟨hk18,hO18,by rw[d10];exact hM18⟩,rfl,rfl⟩);rintro _ _ ⟨a8,c8,t,bl2,x2,y2,r2,w2,⟨hk5,hO5,hM5⟩,rfl,rfl⟩;refine A9 rfl ?_;refine kA2 ?_;refine xf (E1 Et) (b5k _ _ _) ?_;refine WL.take (r:=tqR b x2 r2.length y2 w2) De ?_;refine xg (E2 Et Et) (G4 b x2 y2 r2 w2 _ _ _ hk5 (hs.trans Sb)) ?_;rintro _ _ ⟨a24,u24,r24,rfl,he24,hk24,rfl⟩;refine y1 ?_ ?_<;>intro c25
 have d25:(isM 5 sep r2&&!w2)=false:=by rw[<-qK];exact c25
 rw[d25,if_neg (by decide)]at he24;subst r24;refine H4 (a:=a8) Me λp9 q9 r9=>?_
 have hE:=a6P (hJ _ _ _ hM5) d25;have hm:l.map B5++[B5 t]=(l++[t]).map B5:=by simp
 rw[hm]at hE;have hln:(l++[t]).length=l.length+1:=qh;have hZ:OLb m ((l++[t]).map B5) (.slice a8 (l++[t]).length c8) (.row (.slice a8 (l++[t]).length c8) 29 6 (l++[t]).length (fl exE (l++[t]))::(bl2++bl)):=⟨⟨a8,c8,l++[t]⟩,rfl,rfl,⟨Rd.inRow (qm _) r9 p9 q9,J1 (λz hz=>(hW z hz).mono ((qc _ _).cons _)) (hO5.mono ((qg _ _).cons _))⟩,by show _<=(l++[t]).length;omega,by show(l++[t]).length<=_;omega⟩;refine ZZ [0,4,0] ?_;refine wD ?_ ?_<;>intro c29
 have d29:most<((l++[t]).map B5).length:=by rw[qP];omega
 rw[zh d29,zW]at hE;refine ZZ [4,2,0] ?_;refine wT (tqR b a24 r2.length u24 true::.row (.slice a8 (l++[t]).length c8) 29 6 (l++[t]).length (fl exE (l++[t]))::(bl2++(bl++h))) ?_;exact⟨_,r2,a24,u24,true,_,hE,hZ,hk24,by simp⟩;have d29:¬most<((l++[t]).map B5).length:=by rw[qP];omega
 rw[zd d29,zp]at hE;refine ZZ [0,2,0] ?_;refine wT (tqR b a24 r2.length u24 w2::.row (.slice a8 (l++[t]).length c8) 29 6 (l++[t]).length (fl exE (l++[t]))::(bl2++(bl++h))) ?_;exact⟨_,r2,a24,u24,w2,_,hE,hZ,hk24,by simp⟩;have d25:(isM 5 sep r2&&!w2)=true:=by rw[<-zy];exact c25
 rw[d25,if_pos rfl]at he24;subst r24;have d26:=qa ..▸d25
 have hp:=a4G d26.1;have hw2:w2=false:=by rw[<-qK];exact d26.2
 have hle:=c1n (hM5.2 hw2).2;have htl:r2.tail.length=r2.length-1:=zg;have hlt:r2.tail.length<r.length:=by omega
 rw[<-qj bl2 bl h];exact WC.skip (lN ((r2.tail).length) [(9,.slice a8 (l++[t]).length c8)] (tqR b a24 (r2.tail).length u24 w2::.row (.slice a8 (l++[t]).length c8) 29 6 (l++[t]).length (fl exE (l++[t]))::((bl2++bl)++h)) ⟨a8,c8,l++[t],bl2++bl,a24,u24,r2.tail,w2,⟨λx' r3 b3 q=>by rw[qZ];exact a7a (hJ _ _ _ hM5) d25 q,by rw[qh,qO];omega,hk24,J1 (λz hz=>(hW z hz).mono (qc _ _)) (hO5.mono (qg _ _))⟩,rfl,rfl,rfl⟩)
end
end Go.Proofs.YtgcjpahhljmlmaaGreatDoor
namespace Go.Sx
section
open Go.Eng Go.Pc Go
open Go.Xp hiding B E8
open Go.Ty (Ty Vr Tok next a0z G1 named a2i mid pre front)
theorem a8I{ts:Lt}(hy:∀x∈ts,Go.Lx.mayK x=true)(s:B):next ts 0 2 s=isM 2 s ts:=by
 cases ts with
 |nil=>rfl
 |cons t r=>
  by_cases hk:t.kind=2
  ·have hn:t.n=0:=by
    have h:=hy t (zx ..);unfold Go.Lx.mayK at h;split at h
    ·cases h
    ·rw[hk,if_neg (by decide),if_pos (by decide),qa]at h
     exact eq_of_beq h.1
   simp[next,a0z,G1,isM,hk,hn]
  ·have hb:(t.kind==2)=false:=qW.2 hk
   have hc:(t.kind !=2)=true:=by rw[bne,hb];rfl
   have h1:isM 2 s (t::r)=false:=by show((t.kind==2)&&(t.text==s))=false;rw[hb,zu]
   have h2:a0z (t::r) 0 2 s=true:=by unfold a0z;rw[show(G1 (t::r) 0).kind=t.kind from rfl,hc,zW,zl,zl]
   unfold next;rw[h1,h2];rfl
theorem c1K(ts:Lt):named ts 0=if next ts 0 2 Go.Ty.wINT then some 1 else if next ts 0 2 Go.Ty.wBYTE then some 2 else if next ts 0 2 Go.Ty.wBOOL then some 3 else none:=rfl
theorem c5p{l:Lt}{d:Int}{n:Nat}(h:pre l=(true,d,n)):(mid l).2.1.dim=d:=by
 unfold mid;rw[h];dsimp only;split
 ·rfl
 ·split
  ·split
   ·split
    ·rfl
    ·split<;>rfl
   ·rfl
  ·split<;>rfl
theorem c8M{ts:Lt}{ok:Bool}{y:Ty}{n:Nat}(hm:mid ts=(ok,y,n))(h:(!ok||!Go.Ty.may y)=true):a1Y ts=.error 110:=by
 have hf:Go.Ty.front ts=(Go.Ty.zeroT,0,90):=by unfold Go.Ty.front;rw[hm];exact if_pos h
 unfold a1Y;rw[hf];rfl
theorem b7L{ts:Lt}{y:Ty}{n:Nat}(hm:mid ts=(true,y,n))(h:Go.Ty.may y=true):a1Y ts=.ok (y,ts.drop n):=by
 have hf:Go.Ty.front ts=(y,n,0):=by unfold Go.Ty.front;rw[hm];exact if_neg (by rw[h];decide)
 unfold a1Y;rw[hf];rfl
theorem b8k{ts:Lt}(h:(mid ts).1=true->N4 (mid ts).2.1=false):S1 ts=.error 110:=by
 cases hmid:mid ts with
 |mk ok q=>
  obtain⟨y,n⟩:=q;rw[hmid]at h;unfold S1;cases hq:(!ok||!Go.Ty.may y)with
  |true=>rw[c8M hmid hq];rfl
  |false=>rw[qA,zy,zy]at hq;obtain⟨rfl,hm⟩:=hq;rw[b7L hmid hm];exact if_neg (by rw[show N4 y=false from h rfl];decide)
theorem b1j{ts:Lt}(h:next ts 0 5 Go.Ty.lb=false):pre ts=(true,0,0):=by unfold pre;rw[if_neg (by rw[h];decide)]
theorem b2H{ts:Lt}{k:Int}(h5:next ts 0 5 Go.Ty.lb=false)(h:named ts 0=some k)(hk:N4 ⟨k,0,0,[]⟩=true):S1 ts=.ok (k,ts.tail):=by
 have hm:mid ts=(true,⟨k,0,0,[]⟩,1):=by unfold mid;rw[b1j h5];dsimp only;rw[h]
 have hmay:Go.Ty.may ⟨k,0,0,[]⟩=true:=by unfold N4 at hk;simp only[qa]at hk;exact hk.1.1
 unfold S1;rw[b7L hm hmay];have h1:(if N4 ⟨k,0,0,[]⟩=true then(.ok (k,ts.drop 1):E Int)else .error 110)=.ok (k,ts.tail):=by rw[if_pos hk,List.drop_one]
 exact h1
theorem c6p{ts:Lt}(hy:∀x∈ts,Go.Lx.mayK x=true) :
 S1 ts=if isM 2 Go.Ty.wINT ts=true then .ok (1,ts.tail)else if isM 2 Go.Ty.wBYTE ts=true then .ok (2,ts.tail)else if isM 2 Go.Ty.wBOOL ts=true then .ok (3,ts.tail)else .error 110:=by
 cases h5:next ts 0 5 Go.Ty.lb with
 |true=>
  have hk:∀s,isM 2 s ts=false:=λs=>by
   rw[<-a8I hy];cases ts with
   |nil=>rfl
   |cons t r=>unfold next a0z at h5⊢;simp[G1]at h5⊢;intro q;omega
  rw[hk,hk,hk,if_neg (by decide),if_neg (by decide),if_neg (by decide)];refine b8k λho=>?_;unfold N4;have hp:∀d n,pre ts=(true,d,n)->d≠0:=λd n hp=>by
   unfold pre at hp;rw[if_pos h5]at hp;split at hp
   ·split at hp
    ·rename_i hq
     rw[qa]at hq;have:=zq hq.1;injection hp with h1 h2
     injection h2 with h2 h3
     omega
    ·injection hp with h1 h2;cases h1
   ·injection hp with h1 h2;cases h1
  cases hpp:pre ts with
  |mk ok q=>
   obtain⟨d,n⟩:=q;cases ok with
   |false=>unfold mid at ho;rw[hpp]at ho;cases ho
   |true=>have hd:=hp d n hpp;rw[c5p hpp];have:(d==0)=false:=qW.2 hd;rw[this,zB,zu]
 |false=>
  have hn:=c1K ts;rw[a8I hy,a8I hy,a8I hy]at hn;by_cases h1:isM 2 Go.Ty.wINT ts=true
  ·rw[if_pos h1]at hn⊢
   exact b2H h5 hn (by decide)
  ·rw[if_neg h1]at hn⊢
   by_cases h2:isM 2 Go.Ty.wBYTE ts=true
   ·rw[if_pos h2]at hn⊢
    exact b2H h5 hn (by decide)
   ·rw[if_neg h2]at hn⊢
    by_cases h3:isM 2 Go.Ty.wBOOL ts=true
    ·rw[if_pos h3]at hn⊢
     exact b2H h5 hn (by decide)
    ·rw[if_neg h3]at hn⊢
     refine b8k λ_=>?_;unfold mid;rw[b1j h5];dsimp only;rw[hn];dsimp only;have hz:∀a b c,N4 ⟨4,a,b,c⟩=false:=λa b c=>by unfold N4;simp
     have hz5:∀a b c,N4 ⟨5,a,b,c⟩=false:=λa b c=>by unfold N4;simp
     split
     ·split
      ·split
       ·exact hz _ _ _
       ·split<;>exact hz _ _ _
      ·exact hz _ _ _
     ·split
      ·exact hz5 _ _ _
      ·decide
def b6A(ts:Lt):E Rp:=I3 (a8A ts) λp r=>if r.isEmpty=true then .ok (p,r)else .error 110
theorem c4u{α:Type}{x:α}{r:Lt}{bad:Bool}:TO (if r.isEmpty=true then .ok (x,r)else .error 110:E α) bad x r (bad||!r.isEmpty):=by
 cases hr:r.isEmpty with
 |true=>rw[if_pos rfl,zX,zp];exact a0f _ _ _
 |false=>rw[if_neg (by decide),zf,zW];exact a8n _ _ _ _
end
end Go.Sx
namespace Go.Proofs.YtgcjpahhljmlmaaGreatDoor
open Go.Proofs.Tryz
section
open Go.Eng Go.Pc Go.Sx Go
open Go.Xp hiding B E8
open Go.Ty (Ty Vr Tok eqT tyV E9 B1 A7 I6 zeroK)
theorem a7B{m:View}(b:Nat)(a:Oa)(c:Nat)(ts:Lt)(bad:Bool)(h hT:Lr)(hk:Tk3 m hT a c ts)(hs:hT.Sublist h):TkV m 118 [ptV b] b a c ts bad hT h (S1 ts) WI:=by
 have hq:=c6p hk.y;refine cB [0,2,3,5,11] func118 λ_=>?_;refine ZZ [1,1,0] ?_;refine lI [0] (λμ F' h'=>∃k:Nat,∃x:Oa,∃y:Nat,((1<=k/\k<=4)/\(∀j:Nat,1<=j->j<k->(isM 2 (Go.Ty.wordR j) ts&&!bad)=false)/\Tk3 m hT x y ts)/\4-k=μ/\F'=[(3,.int .u8 k)]/\tqR b x ts.length y bad::h=h') (4-1) [(3,.int .u8 1)] (tqR b a ts.length c bad::h) ⟨1,a,c,⟨by omega,λj h1 h2=>absurd h2 (by omega),hk⟩,rfl,rfl,rfl⟩ ?_;rintro _ _ _ ⟨k,x,y,⟨⟨hk1,hk4⟩,hJ,hkk⟩,rfl,rfl,rfl⟩;refine A9 rfl ?_;refine Z2 ?_;refine wD ?_ ?_<;>intro c5
 refine ZZ [0,2] ?_;refine xf (E1 Et) (Ty9.wordR9_ct _ _ _) ?_;refine WL.take (r:=tqR b x ts.length y bad) De ?_;refine xg (E2 Et Et) (G4 b x y ts bad _ _ _ hkk (hs.trans Sb)) ?_;rintro _ _ ⟨a11,u11,r11,rfl,he11,hk11,rfl⟩;refine y0 ?_ ?_<;>intro c11
 replace he11:=he11.trans (if_pos c11);subst r11;have d11:(isM 2 (Go.Ty.wordR k) ts&&!bad)=true:=c11;have d12:=qa ..▸d11
 have hb:bad=false:=by rw[<-qK];exact d12.2
 have hM:S1 ts=.ok ((k:Int),ts.tail):=by
  rw[hq];have h3:k=1\/k=2\/k=3:=by omega
  rcases h3 with rfl|rfl|rfl
  ·exact if_pos d12.1
  ·have n1:=hJ 1 (by decide) (by decide)
   rw[hb,zf,za]at n1;rw[if_neg (by rw[show isM 2 Go.Ty.wINT ts=false from n1];decide)];exact if_pos d12.1
  ·have n1:=hJ 1 (by decide) (by decide)
   have n2:=hJ 2 (by decide) (by decide);rw[hb,zf,za]at n1 n2;rw[if_neg (by rw[show isM 2 Go.Ty.wINT ts=false from n1];decide),if_neg (by rw[show isM 2 Go.Ty.wBYTE ts=false from n2];decide)];exact if_pos d12.1
 refine Z2 ?_;refine wT (tqR b a11 ts.tail.length u11 bad::h) ?_;exact⟨(k:Int),ts.tail,a11,u11,bad,by rw[hM];exact a0f _ _ _,⟨rfl,by omega,by omega⟩,hk11,rfl⟩;replace he11:=he11.trans (if_neg (E6 c11));subst r11;have d11:(isM 2 (Go.Ty.wordR k) ts&&!bad)=false:=c11;have hw:IntKind.u8.wrap ((k:Int)+1)=((k+1:Nat):Int):=by
  have h3:k=1\/k=2\/k=3:=by omega
  rcases h3 with rfl|rfl|rfl<;>rfl
 refine ZZ [0,2] ?_;rw[hw];refine kA1 ?_;exact WL.nil (lN (4-(k+1)) [(3,.int .u8 (k+1))] (tqR b a11 ts.length u11 bad::h) ⟨k+1,a11,u11,⟨by omega,λj h1 h2=>(ze j k).elim (hJ j h1) λq=>by rw[show j=k by omega];exact d11,hk11⟩,rfl,rfl,rfl⟩);have h4:k=4:=by omega
 subst h4;have hE:TO (S1 ts) bad 0 ts true:=by
  cases hb:bad with
  |true=>exact a9V _ _ _
  |false=>have n1:=hJ 1 (by decide) (by decide);have n2:=hJ 2 (by decide) (by decide);have n3:=hJ 3 (by decide) (by decide);rw[hb,zf,za]at n1 n2 n3;rw[hq,if_neg (by rw[show isM 2 Go.Ty.wINT ts=false from n1];decide),if_neg (by rw[show isM 2 Go.Ty.wBYTE ts=false from n2];decide),if_neg (by rw[show isM 2 Go.Ty.wBOOL ts=false from n3];decide)];exact a8n _ _ _ _
 refine ZZ [0,4,1,0] ?_;refine wT (tqR b x ts.length y true::h) ?_;exact⟨0,ts,x,y,true,hE,⟨rfl,by decide,by decide⟩,hkk,rfl⟩
theorem b4i{m:View}(b:Nat)(a:Oa)(c:Nat)(ts:Lt)(bad:Bool)(h hT:Lr)(hk:Tk3 m hT a c ts)(hs:hT.Sublist h):TkX m 66 [ptV b] b a c ts bad hT h (b6A ts) (OR m):=by
 have hq:a8A ts=if ts.isEmpty then .ok (B0,ts)else I3 (O0 ts) λn r=>Q5 5 [61] r λr=>I3 (G6 r) λb r=>Q5 2 [70,79,82] r λr=>I3 (G6 r) λc r=>.ok (⟨n,b,c⟩,r):=rfl
 refine cB [0,2,3,9] func66 λ_=>?_;refine xW λb2=>?_
 refine ZZ [0,6,0] ?_;refine wE ?_ ?_<;>intro c9
 have d9:ts=[]:=qB (by omega);have hE:TO (b6A ts) bad B0 ts bad:=by subst d9;exact a0f _ _ _
 refine Z2 ?_;refine wT (tqR b a ts.length c bad::h) (h1:=cA c3s) ?_;exact⟨_,ts,a,c,bad,[],hE,⟨⟨[],A0,A0⟩,rfl,rfl,qi _,B6 _ _,B6 _ _⟩,hk,rfl⟩;have d9:ts.isEmpty=false:=by cases ts with|nil=>exact absurd rfl c9|cons=>rfl
 rw[if_neg (E6 d9)]at hq;refine ZZ [0,1] ?_;refine WL.take (r:=tqR b a ts.length c bad) De ?_;refine xg (E1 Et) (X2 b a c ts bad _ _ hk (hs.trans Sb)) ?_;rintro _ _ ⟨x12,r12,a12,u12,w12,hM12,⟨rfl,hw12⟩,hk12,rfl⟩;refine kA1 ?_;refine xW λb3=>?_
 refine ZZ [1,1] ?_;refine xf (E1 Ek) (smW _ _ _) ?_;refine WL.take (r:=tqR b a12 r12.length u12 w12) De ?_;refine xg (E2 Et Et) (L4 b a12 u12 r12 w12 _ _ _ hk12 (hs.trans Sb)) ?_;rintro _ _ ⟨a16,u16,r16,w16,rfl,hM16,hk16,rfl⟩;refine ZZ [0,1] ?_;refine WL.take (r:=tqR b a16 r16.length u16 w16) De ?_;refine xg (E1 Et) (Q7 b a16 u16 r16 w16 _ _ hk16 (hs.trans Sb)) ?_;rintro _ _ ⟨x18,r18,a18,u18,w18,bl18,hM18,⟨t18,rfl,rfl,hO18⟩,hk18,rfl⟩;refine mP ?_;refine ZZ [2,1] ?_;refine xf (E1 Ek) (kyW _ _ _) ?_;refine WL.take (r:=tqR b a18 r18.length u18 w18) De ?_;refine xg (E2 Et Et) (L4 b a18 u18 r18 w18 _ _ _ hk18 (hs.trans Sb)) ?_;rintro _ _ ⟨a22,u22,r22,w22,rfl,hM22,hk22,rfl⟩;refine ZZ [0,1] ?_;refine WL.take (r:=tqR b a22 r22.length u22 w22) De ?_;refine xg (E1 Et) (Q7 b a22 u22 r22 w22 _ _ hk22 (hs.trans Sb)) ?_;rintro _ _ ⟨x24,r24,a24,u24,w24,bl24,hM24,⟨t24,rfl,rfl,hO24⟩,hk24,rfl⟩
 refine mP ?_;refine ZZ [2,1] ?_;refine WL.take (r:=tqR b a24 r24.length u24 w24) De ?_;refine xg (E1 Et) (b4M b a24 u24 r24 w24 _ _) ?_;rintro _ _ ⟨rfl,rfl⟩;have hE:TO (b6A ts) bad (⟨x12,B5 t18,B5 t24⟩:Rp) r24 (w24||!r24.isEmpty):=V7 (by rw[hq];exact V7 hM12 (a4u hM16 (V7 hM18 (a4u hM22 (V7 hM24 (a0f _ _ _)))))) c4u;refine ZZ [0,2,0] ?_;refine wT (tqR b a24 r24.length u24 (w24||!r24.isEmpty)::(bl24++(bl18++h))) (h1:=cA c3s) ?_;exact⟨_,r24,a24,u24,_,bl24++bl18,hE,⟨⟨x12,t18,t24⟩,rfl,rfl,hw12,hO18.mono (qc _ _),hO24.mono (qg _ _)⟩,hk24,by rw[qj]⟩
end
end Go.Proofs.YtgcjpahhljmlmaaGreatDoor
namespace Go.Sx
section
open Go.Eng Go.Pc Go
open Go.Xp hiding B E8
open Go.Ty (Ty Vr Tok)
theorem b5l{ts r:Lt}{x:Ex}(h:G6 ts=.ok (x,r)):a7u ts=isM 5 [38] r:=by
 unfold G6 at h;unfold a7u;cases hf:Q2 ts with
 |ok p=>
  obtain⟨y,k⟩:=p;rw[hf]at h;injection h with h;injection h with h1 h2
  rw[<-h2]
 |error e=>rw[hf]at h;cases h
theorem c2p{ts:Lt}{e:Int}(h:G6 ts=.error e):a7u ts=false:=by
 unfold G6 at h;unfold a7u;cases hf:Q2 ts with
 |ok p=>rw[hf]at h;cases h
 |error e=>rfl
theorem c5I{ts r:Lt}{x:Ex}{bad w:Bool}(h:TO (G6 ts) bad x r w)(c:(isM 5 [38] r&&!w)=true) :
 bad=false/\a3D ts=if isM 2 [83,75,73,80] r.tail=true then .ok (guM 2 [] x A0 [] [] A0,r.tail.tail)else a6h x r.tail:=by
 rw[qa]at c;have hw:w=false:=by rw[<-qK];exact c.2
 obtain⟨h1,h2⟩:=h.2 hw;refine⟨h1,?_⟩;unfold a3D;rw[b5l h2,if_pos c.1,h2];simp only[I3,Q5,if_pos c.1]
theorem c7i{ts r:Lt}{x:Ex}{bad w:Bool}(h:TO (G6 ts) bad x r w)(c:(isM 5 [38] r&&!w)=false):bad=true\/a3D ts=a6h A0 ts:=by
 cases hw:w with
 |true=>
  refine(h.1 hw).imp id λ⟨e,he⟩=>?_
  unfold a3D;rw[c2p he,if_neg (by decide)]
 |false=>rw[hw,zf,za]at c;unfold a3D;rw[b5l (h.2 hw).2,if_neg (by rw[c];decide)];exact .inr rfl
theorem c0x{α:Type}{M N:E α}{bad w:Bool}{x:α}{r:Lt}(h:bad=true\/M=N)(q:TO N bad x r w):TO M bad x r w:=by
 rcases h with h|h
 ·exact b7t q h
 ·rw[h];exact q
end
end Go.Sx
namespace Go.Proofs.YtgcjpahhljmlmaaGreatDoor
open Go.Proofs.Tryz
section
open Go.Eng Go.Pc Go.Sx Go
open Go.Xp hiding B E8
open Go.Ty (Ty Vr Tok eqT tyV E9 B1 A7 I6 zeroK)
theorem b5r(r:Rp)(h:Lr)(m:View):CT prog 131 [rpV r] h m (A5 h (.tuple #[.int .i64 (if r.name≠[]then 1 else 0),.int .i64 (if r.name≠[]then 1 else 16)])):=by
 refine cB [1,2,3,6] func131 λ_=>?_;refine xX λb1=>?_
 refine ZZ [2,2] ?_;refine xG (P2 Et Ek) ?_;refine y0 ?_ ?_<;>intro c6
 have d6:r.name≠[]:=by simpa using c6
 refine Z2 ?_;refine w2 h ?_;exact⟨by rw[if_pos d6,if_pos d6],rfl⟩;have d6:¬r.name≠[]:=by simpa using c6
 refine ZZ [0,2,0] ?_;refine w2 h ?_;exact⟨by rw[if_neg d6,if_neg d6],rfl⟩
theorem c1G{m:View}(b:Nat)(a:Oa)(c:Nat)(ts:Lt)(bad:Bool)(h hT:Lr)(hk:Tk3 m hT a c ts)(hs:hT.Sublist h):TkX m 202 [ptV b] b a c ts bad hT h (a9u ts) (OG m):=by
 have hq:a9u ts=if isM 2 [69,76,83,69] ts then .ok (guM 6 [] A0 A0 [] [] A0,ts.tail)else I3 (H1 G6 [44] 8 ts) λl r=>.ok (guM 5 [] A0 A0 [] l A0,r):=rfl
 refine cB [0,2,5] func202 λ_=>?_;refine xW λb2=>?_
 refine ZZ [0,1] ?_;refine xf (E1 Ek) (kyW _ _ _) ?_;refine WL.take (r:=tqR b a ts.length c bad) De ?_;refine xg (E2 Et Et) (G4 b a c ts bad _ _ _ hk (hs.trans Sb)) ?_;rintro _ _ ⟨a5,u5,r5,rfl,he5,hk5,rfl⟩;refine y0 ?_ ?_<;>intro c5
 replace he5:=he5.trans (if_pos c5);subst r5;refine Z2 ?_;refine wT (tqR b a5 ts.tail.length u5 bad::h) (h1:=cA a4C) ?_;exact⟨_,ts.tail,a5,u5,bad,[],by rw[hq];exact b2x c5 (a0f _ _ _),⟨g0 6 [] A0 A0 A2 A2 A0,rfl,rfl,gok (by decide) (qi _) (B6 _ _) (B6 _ _) (B9 _ _) (B9 _ _) (B6 _ _)⟩,hk5,rfl⟩;replace he5:=he5.trans (if_neg (E6 c5));subst r5;refine ZZ [0,1] ?_;refine WL.take (r:=tqR b a5 ts.length u5 bad) De ?_;refine xg (E4 Et Ek Ek Ek) (Y9 [44] 8 false b a5 u5 ts bad _ _ hk5 (hs.trans Sb) (by decide)) ?_;rintro _ _ ⟨x8,r8,a8,u8,w8,bl8,hM8,⟨s8,rfl,rfl,hO8,-⟩,hk8,rfl⟩;refine mP ?_;refine Z2 ?_;refine wT (tqR b a8 r8.length u8 w8::(bl8++h)) (h1:=cA a4C) ?_
 exact⟨_,r8,a8,u8,w8,bl8,by rw[hq];exact b3E (by assumption) (V7 (show TO (H1 G6 [44] 8 ts) bad _ r8 w8 from hM8) (a0f _ _ _)),⟨g0 5 [] A0 A0 A2 s8 A0,rfl,rfl,gok (by decide) (qi _) (B6 _ _) (B6 _ _) (B9 _ _) hO8 (B6 _ _)⟩,hk8,rfl⟩
theorem c2r{m:View}(b:Nat)(a:Oa)(c:Nat)(ts:Lt)(bad:Bool)(h hT:Lr)(hk:Tk3 m hT a c ts)(hs:hT.Sublist h):TkX m 203 [ptV b] b a c ts bad hT h (a6q ts) (OG m):=by
 have hq:a6q ts=I3 (O0 ts) λn r=>if isM 5 [59] r then I3 (H1 C5 [59] 8 r.tail) λl r=>.ok (guM 7 n A0 A0 l [] A0,r)else .ok (guM 7 n A0 A0 [] [] A0,r):=rfl
 refine cB [0,2,3] func203 λ_=>?_;refine xW λb2=>?_
 refine ZZ [0,1] ?_;refine WL.take (r:=tqR b a ts.length c bad) De ?_;refine xg (E1 Et) (X2 b a c ts bad _ _ hk (hs.trans Sb)) ?_;rintro _ _ ⟨x5,r5,a5,u5,w5,hM5,⟨rfl,hw5⟩,hk5,rfl⟩;refine kA1 ?_;refine xW λb3=>?_;refine ZZ [1,1] ?_;refine xf (E1 Ek) (smW _ _ _) ?_;refine WL.take (r:=tqR b a5 r5.length u5 w5) De ?_;refine xg (E2 Et Et) (G4 b a5 u5 r5 w5 _ _ _ hk5 (hs.trans Sb)) ?_;rintro _ _ ⟨a9,u9,r9,rfl,he9,hk9,rfl⟩;refine kP0 [0,2,3,9] ?_;refine D6 KKh [2,3] rfl (λF' h'=>∃l:Sli Ex,∃bl:Lr,∃x:Oa,∃y:Nat,∃r:Lt,∃w:Bool,(LOk m bl l/\Tk3 m hT x y r/\TO (a6q ts) bad (guM 7 x5 A0 A0 (l.l.map B5) [] A0) r w)/\F'=[]/\tqR b x r.length y w::gR b3 (g0 7 x5 A0 A0 l A2 A0)::gR b2 (g0 0 [] A0 A0 A2 A2 A0)::(bl++h)=h') ?_ ?_;refine jE ?_;refine wc ?_ ?_<;>intro c9
 replace he9:=he9.trans (if_pos c9);subst r9;refine kA1 ?_;refine WL.take (r:=tqR b a9 r5.tail.length u9 w5) De ?_;refine xg (E4 Et Ek Ek Ek) (Y9 [59] 8 true b a9 u9 r5.tail w5 _ _ hk9 (hs.trans Sb) (by decide)) ?_;rintro _ _ ⟨x11,r11,a11,u11,w11,bl11,hM11,⟨s11,rfl,rfl,hO11,-⟩,hk11,rfl⟩;refine mP ?_;refine kA2 ?_;exact WL.nil (mN [] (tqR b a11 r11.length u11 w11::gR b3 (g0 7 x5 A0 A0 s11 A2 A0)::gR b2 (g0 0 [] A0 A0 A2 A2 A0)::(bl11++h)) ⟨s11,bl11,a11,u11,r11,w11,⟨hO11,hk11,by rw[hq];exact V7 hM5 (b2x (by assumption) (V7 (show TO (H1 C5 [59] 8 r5.tail) w5 _ r11 w11 from hM11) (a0f _ _ _)))⟩,rfl,rfl⟩);replace he9:=he9.trans (if_neg (E6 c9));subst r9;exact WC.skip (mN [] (tqR b a9 r5.length u9 w5::gR b3 (g0 7 x5 A0 A0 A2 A2 A0)::gR b2 (g0 0 [] A0 A0 A2 A2 A0)::(([])++h)) ⟨A2,[],a9,u9,r5,w5,⟨B9 _ _,hk9,by rw[hq];exact V7 hM5 (b3E (by assumption) (a0f _ _ _))⟩,rfl,rfl⟩)
 rintro _ _ ⟨l,bl,x,y,r,w,⟨hL,hk1,hE⟩,rfl,rfl⟩;refine A9 rfl ?_;refine Z2 ?_;refine wT (tqR b x r.length y w::(bl++h)) (h1:=cA a4C) ?_;exact⟨_,r,x,y,w,bl,hE,⟨g0 7 x5 A0 A0 l A2 A0,rfl,rfl,gok (by decide) hw5 (B6 _ _) (B6 _ _) hL (B9 _ _) (B6 _ _)⟩,hk1,rfl⟩
theorem c0V{m:View}(b:Nat)(a:Oa)(c:Nat)(ts:Lt)(bad:Bool)(h hT:Lr)(hk:Tk3 m hT a c ts)(hs:hT.Sublist h):TkX m 201 [ptV b] b a c ts bad hT h (a3D ts) (OG m):=by
 have hq2:∀c ts,a6h c ts=I3 (C5 ts) λch r=>Q5 5 [63] r λr=>if isM 2 [65,70,84,69,82] r then I3 (G6 r.tail) λt r=>.ok (guM 4 [] c ch [] [] t,r)else I3 (H1 C5 [59] 8 r) λl r=>.ok (guM 3 [] c ch l [] A0,r):=λ_ _=>rfl
 refine cB [0,2,3,4,5,33,44] func201 λ_=>?_;refine xW λb2=>?_
 refine ZZ [0,1] ?_;refine xW λb3=>?_;refine Z1 ?_;refine dS [] (.op 0 (.op 1 (.op 2 (.op 3 (.op 4 (.op 5 (.op 6 (.op 7 .nil)))))))) [8,9,10] C9 ?_;refine kA8 ?_;refine nS ?_;refine kA1 ?_;refine xX λb16=>?_
 refine ZZ [1,1] ?_;refine WL.take (r:=tqR b16 a ts.length c bad) De ?_;refine xg (E1 Et) (Q7 b16 a c ts bad _ _ hk (hs.trans Sb)) ?_;rintro _ _ ⟨x18,r18,a18,u18,w18,bl18,hM18,⟨t18,rfl,rfl,hO18⟩,hk18,rfl⟩;refine mP ?_;refine xW λb5=>?_;refine ZZ [1,1] ?_;refine xf (E1 Ek) (smW _ _ _) ?_;refine WL.take (r:=tqR b16 a18 r18.length u18 w18) De ?_;refine xg (E2 Et Et) (G4 b16 a18 u18 r18 w18 _ _ _ hk18 (hs.trans Sb)) ?_;rintro _ _ ⟨a21,u21,r21,rfl,he21,hk21,rfl⟩;refine pD (tqR b a ts.length c bad) ?_;refine kP0 [0,2,3,4,5,21] ?_;refine D6 KKh [0,2,3] rfl (λF' h'=>∃tc:Ex,∃bl:Lr,∃x:Oa,∃y:Nat,∃r:Lt,(EOk m bl tc/\Tk3 m hT x y r/\(bad=true\/a3D ts=a6h (B5 tc) r))/\F'=[]/\tqR b x r.length y bad::gR b3 (g0 3 [] tc A0 A2 A2 A0)::gR b2 (g0 0 [] A0 A0 A2 A2 A0)::(bl++h)=h') ?_ ?_;refine jE ?_;refine wc ?_ ?_<;>intro c21
 replace he21:=he21.trans (if_pos c21);subst r21;have hA:=c5I hM18 (by assumption);refine ZZ [3,8,1] ?_;refine xf (E1 Ek) (kyW _ _ _) ?_;refine WL.take (r:=tqR b a21 r18.tail.length u21 bad) De ?_;refine xg (E2 Et Et) (G4 b a21 u21 r18.tail bad _ _ _ hk21 (hs.trans Sb)) ?_;rintro _ _ ⟨a33,u33,r33,rfl,he33,hk33,rfl⟩;refine y0 ?_ ?_<;>intro c33
 replace he33:=he33.trans (if_pos c33);subst r33;refine ZZ [2,2,0] ?_;refine wT (tqR b a33 r18.tail.tail.length u33 bad::(bl18++h)) (h1:=cA a4C) ?_;exact⟨_,r18.tail.tail,a33,u33,bad,bl18,by rw[hA.2];exact b2x (by assumption) (a0f _ _ _),⟨g0 2 [] t18 A0 A2 A2 A0,rfl,rfl,gok (by decide) (qi _) hO18 (B6 _ _) (B9 _ _) (B9 _ _) (B6 _ _)⟩,hk33,rfl⟩;replace he33:=he33.trans (if_neg (E6 c33));subst r33;exact WC.skip (mN [] (tqR b a33 (r18.tail).length u33 bad::gR b3 (g0 3 [] t18 A0 A2 A2 A0)::gR b2 (g0 0 [] A0 A0 A2 A2 A0)::(bl18++h)) ⟨t18,bl18,a33,u33,r18.tail,⟨hO18,hk33,.inr (by rw[hA.2,if_neg (E6 (by rw[hA.1,zf,za]at *;assumption))])⟩,rfl,rfl⟩);replace he21:=he21.trans (if_neg (E6 c21));subst r21
 exact WC.skip (mN [] (tqR b a ts.length c bad::gR b3 (g0 3 [] A0 A0 A2 A2 A0)::gR b2 (g0 0 [] A0 A0 A2 A2 A0)::(([])++h)) ⟨A0,[],a,c,ts,⟨B6 _ _,hk,c7i hM18 (by assumption)⟩,rfl,rfl⟩);rintro _ _ ⟨tc,bl,x,y,r,⟨hC,hk1,hA⟩,rfl,rfl⟩;refine A9 rfl ?_;refine kA1 ?_;refine WL.take (r:=tqR b x r.length y bad) De ?_;refine xg (E1 Et) (a2j b x y r bad _ _ hk1 (hs.trans Sb)) ?_;rintro _ _ ⟨x37,r37,a37,u37,w37,bl37,hM37,⟨t37,rfl,rfl,hO37⟩,hk37,rfl⟩;refine mP ?_;refine ZZ [2,1] ?_;refine xf (E1 Ek) (smW _ _ _) ?_;refine WL.take (r:=tqR b a37 r37.length u37 w37) De ?_;refine xg (E2 Et Et) (L4 b a37 u37 r37 w37 _ _ _ hk37 (hs.trans Sb)) ?_;rintro _ _ ⟨a41,u41,r41,w41,rfl,hM41,hk41,rfl⟩;refine ZZ [0,1] ?_;refine xf (E1 Ek) (kyW _ _ _) ?_;refine WL.take (r:=tqR b a41 r41.length u41 w41) De ?_;refine xg (E2 Et Et) (G4 b a41 u41 r41 w41 _ _ _ hk41 (hs.trans Sb)) ?_;rintro _ _ ⟨a44,u44,r44,rfl,he44,hk44,rfl⟩
 refine y0 ?_ ?_<;>intro c44
 replace he44:=he44.trans (if_pos c44);subst r44;refine ZZ [2,1] ?_;refine WL.take (r:=tqR b a44 r41.tail.length u44 w41) De ?_;refine xg (E1 Et) (Q7 b a44 u44 r41.tail w41 _ _ hk44 (hs.trans Sb)) ?_;rintro _ _ ⟨x47,r47,a47,u47,w47,bl47,hM47,⟨t47,rfl,rfl,hO47⟩,hk47,rfl⟩;refine mP ?_;refine ZZ [2,2,0] ?_;refine wT (tqR b a47 r47.length u47 w47::(bl47++(bl37++(bl++h)))) (h1:=cA a4C) ?_;exact⟨_,r47,a47,u47,w47,bl47++(bl37++bl),c0x hA (by rw[hq2];exact V7 hM37 (a4u hM41 (b2x (by assumption) (V7 hM47 (a0f _ _ _))))),⟨g0 4 [] tc t37 A2 A2 t47,rfl,rfl,gok (by decide) (qi _) (hC.mono (b1o _ _ _)) (hO37.mono (b1U _ _ _)) (B9 _ _) (B9 _ _) (hO47.mono (qg _ _))⟩,hk47,by simp only[qj]⟩;replace he44:=he44.trans (if_neg (E6 c44));subst r44;refine ZZ [0,1] ?_;refine WL.take (r:=tqR b a44 r41.length u44 w41) De ?_
 refine xg (E4 Et Ek Ek Ek) (Y9 [59] 8 true b a44 u44 r41 w41 _ _ hk44 (hs.trans Sb) (by decide)) ?_;rintro _ _ ⟨x51,r51,a51,u51,w51,bl51,hM51,⟨s51,rfl,rfl,hO51,-⟩,hk51,rfl⟩;refine mP ?_;refine ZZ [2,2,0] ?_;refine wT (tqR b a51 r51.length u51 w51::(bl51++(bl37++(bl++h)))) (h1:=cA a4C) ?_;exact⟨_,r51,a51,u51,w51,bl51++(bl37++bl),c0x hA (by rw[hq2];exact V7 hM37 (a4u hM41 (b3E (by assumption) (V7 (show TO (H1 C5 [59] 8 r41) w41 _ r51 w51 from hM51) (a0f _ _ _))))),⟨g0 3 [] tc t37 s51 A2 A0,rfl,rfl,gok (by decide) (qi _) (hC.mono (b1o _ _ _)) (hO37.mono (b1U _ _ _)) (hO51.mono (qg _ _)) (B9 _ _) (B6 _ _)⟩,hk51,by simp only[qj]⟩
def a3I(k:Nat):Lt->E Gu:=if k=0 then ifM else if k=1 then a3D else if k=2 then a9u else a6q
theorem b1c{m:View}(k:Nat)(b:Nat)(a:Oa)(c:Nat)(ts:Lt)(bad:Bool)(h hT:Lr)(hk:Tk3 m hT a c ts)(hs:hT.Sublist h):TkX m 132 [ptV b,.int .i64 k] b a c ts bad hT h (a3I k ts) (OG m):=by
 have hif:∀ts,ifM ts=I3 (G6 ts) λc r=>.ok (guM 1 [] c A0 [] [] A0,r):=λ_=>rfl
 refine cB [0,1,4,5,6,11,15] func132 λ_=>?_;refine xW λb4=>?_
 refine ZZ [0,1,2,0] ?_;refine wE ?_ ?_<;>intro c6
 have d6:a3I k=ifM:=by unfold a3I;rw[if_pos (by omega)]
 refine kA1 ?_;refine WL.take (r:=tqR b a ts.length c bad) De ?_;refine xg (E1 Et) (Q7 b a c ts bad _ _ hk (hs.trans Sb)) ?_;rintro _ _ ⟨x9,r9,a9,u9,w9,bl9,hM9,⟨t9,rfl,rfl,hO9⟩,hk9,rfl⟩;refine mP ?_;refine Z2 ?_;refine wT (tqR b a9 r9.length u9 w9::(bl9++h)) (h1:=cA a4C) ?_;exact⟨_,r9,a9,u9,w9,bl9,by rw[d6,hif];exact V7 hM9 (a0f _ _ _),⟨g0 1 [] t9 A0 A2 A2 A0,rfl,rfl,gok (by decide) (qi _) hO9 (B6 _ _) (B9 _ _) (B9 _ _) (B6 _ _)⟩,hk9,rfl⟩;refine y3 ?_ ?_<;>intro c11
 have d11:a3I k=a3D:=by unfold a3I;rw[if_neg (by omega),if_pos (by omega)]
 refine kA1 ?_;refine WL.take (r:=tqR b a ts.length c bad) De ?_;refine xg (E1 Et) (c0V b a c ts bad _ _ hk (hs.trans Sb)) ?_;rintro _ _ ⟨x14,r14,a14,u14,w14,bl14,hM14,⟨g14,rfl,rfl,hG14⟩,hk14,rfl⟩;refine mP ?_;refine Z1 ?_;refine wT (tqR b a14 r14.length u14 w14::(bl14++h)) (h1:=cA a4C) ?_;exact⟨_,r14,a14,u14,w14,bl14,by rw[d11];exact hM14,⟨g14,rfl,rfl,hG14⟩,hk14,rfl⟩;refine y3 ?_ ?_<;>intro c15
 have d15:a3I k=a9u:=by unfold a3I;rw[if_neg (by omega),if_neg (by omega),if_pos (by omega)]
 refine kA1 ?_;refine WL.take (r:=tqR b a ts.length c bad) De ?_;refine xg (E1 Et) (c1G b a c ts bad _ _ hk (hs.trans Sb)) ?_;rintro _ _ ⟨x18,r18,a18,u18,w18,bl18,hM18,⟨g18,rfl,rfl,hG18⟩,hk18,rfl⟩;refine mP ?_;refine Z1 ?_;refine wT (tqR b a18 r18.length u18 w18::(bl18++h)) (h1:=cA a4C) ?_;exact⟨_,r18,a18,u18,w18,bl18,by rw[d15];exact hM18,⟨g18,rfl,rfl,hG18⟩,hk18,rfl⟩;have d16:a3I k=a6q:=by unfold a3I;rw[if_neg (by omega),if_neg (by omega),if_neg (by omega)]
 refine ZZ [0,1] ?_;refine WL.take (r:=tqR b a ts.length c bad) De ?_;refine xg (E1 Et) (c2r b a c ts bad _ _ hk (hs.trans Sb)) ?_;rintro _ _ ⟨x20,r20,a20,u20,w20,bl20,hM20,⟨g20,rfl,rfl,hG20⟩,hk20,rfl⟩;refine mP ?_;refine Z1 ?_;refine wT (tqR b a20 r20.length u20 w20::(bl20++h)) (h1:=cA a4C) ?_;exact⟨_,r20,a20,u20,w20,bl20,by rw[d16];exact hM20,⟨g20,rfl,rfl,hG20⟩,hk20,rfl⟩
end
end Go.Proofs.YtgcjpahhljmlmaaGreatDoor
namespace Go.Proofs.YtgcjpahhljmlmaaGreatDoor.L8
open Go.Proofs.Tryz
section
open Go.Eng Go.Lx Go.Ty
def b5V(k:Int):Lv:=[.int .i32 k]
theorem c0k(k:Int):(b5V k).length=1:=rfl
@[reducible,instance]def iencJ_len:=Go.Eng.Ln.mk c0k (by decide)
theorem b9w(base:Int)(c:UInt8)(l:B)(v:Int):a4i base (c::l) v=if decide (a4w base c<0)then none else a4i base l (base*v+a4w base c):=rfl
theorem b9a{base v:Int}{k most:Nat}(hb:(base=10/\most<=10)\/(base=16/\most<=8))(hk:k<most)(h0:0<=v)(hv:v<base^k):0<=base*v/\base*v<=200000000000:=by
 rcases hb with⟨rfl,hm⟩|⟨rfl,hm⟩
 ·have:=p10 hv (by omega)
  omega
 ·have:=p16 hv (by omega)
  omega
theorem b9d{base v d:Int}{k:Nat}(hb:0<base)(hd:d<base)(hv:v<base^k):base*v+d<base^(k+1):=by have h1:v+1<=base^k:=hv;have h2:=Int.mul_le_mul_of_nonneg_left h1 (Int.le_of_lt hb);rw[Int.mul_add,Int.mul_one]at h2;rw[Int.pow_succ,Int.mul_comm (base^k)];omega
theorem c9z{c:UInt8}(h:65<=(c.toNat:Int)/\(c.toNat:Int)<=70):IntKind.u8.wrap ((c.toNat:Int)-65)=(c.toNat:Int)-65:=by unfold IntKind.wrap;simp[IntKind.bits,IntKind.signed];omega
theorem b0D(s:B)(base:Int)(most:Nat)(limit:Int)(h:Lr)(m:View)(hb:(base=10/\most<=10)\/(base=16/\most<=8))(hs:s.length<=9223372036854775807) :
 CT prog 138 [str s,.int .i64 base,.int .i64 most,.int .i64 limit] h m (A5 h (.tuple #[.int .i64 (a2c s base most limit).1,.bool (a2c s base most limit).2])):=by
 have hb0:0<base:=by omega
 have hdl:∀c,a4w base c<base:=by
  rcases hb with⟨rfl,_⟩|⟨rfl,_⟩
  ·exact b1D
  ·exact a2s
 refine cB [0,1,2,3,8,9,10,11,12,21,25,58] func138 λ_=>?_;refine ZZ [2,1] ?_;refine xG (G0 uu9 Et) ?_;refine kA3 ?_;refine zG (λhc=>G0 uu9 (Eg hc)) ?_;refine Z3 ?_;refine wc ?_ ?_<;>intro c21
 have d21:(decide ((s.length:Int)<1)||decide ((s.length:Int)>most))=true:=c21;refine Z2 ?_;refine w2 h ?_;exact⟨by unfold a2c;rw[d21];rfl,rfl⟩;have d21:(decide ((s.length:Int)<1)||decide ((s.length:Int)>most))=false:=c21;have hlm:s.length<=most:=by simp at d21;omega
 refine ZZ [0,1,1,0] ?_;refine lI [0,1,3] (λμ F' h'=>∃k:Nat,∃v:Int,((k<=s.length/\a4i base s 0=a4i base (s.drop k) v)/\0<=v/\v<base^k)/\s.length-k=μ/\F'=[(10,.int .i64 v),(11,.int .i64 k)]/\h=h') (s.length-0) [(10,.int .i64 0),(11,.int .i64 0)] h ⟨0,0,⟨⟨by omega,rfl⟩,z4 _,by rw[Int.pow_zero];decide⟩,rfl,rfl,rfl⟩ ?_;rintro _ _ _ ⟨k,v,⟨⟨hk,hJ⟩,hv0,hv1⟩,rfl,rfl,rfl⟩;refine A9 rfl ?_;refine kA2 ?_;refine xG (G0 uu9 Et) ?_;refine y4 ?_ ?_<;>intro c25
 obtain⟨c,hc⟩:=A8 (l:=s) (k:=k) (by omega);obtain⟨hm0,hm1⟩:=b9a hb (by omega) hv0 hv1;rw[P9 hc,b9w]at hJ;refine ZZ [0,1,2] ?_;refine xG (F3 uu9 Et Et rfl (by assumption)) ?_;refine xf (E1 Et) (a7T _ _ _) ?_;refine kP0 [0,1,3,10,11,12,31] ?_;refine D6 KKh [0,1,3,10,11] rfl (λF' h'=>∃d:Int,(d=(if dig c.toNat then(c.toNat:Int)-48 else -1)/\d<10/\-1<=d)/\F'=[(12,.int .i64 d)]/\h=h') ?_ ?_;refine jE ?_;refine wc ?_ ?_<;>intro c31
 obtain⟨w1,w2,w3⟩:=c6G c31;refine kA2 ?_;refine xG (F3 uu9 Et Et rfl (by assumption)) ?_;refine kA1 ?_;refine WL.val (v':=.int .u8 ((c.toNat:Int)-48)) (congrArg (Value.int .u8) w1) ?_;refine xG (PO.conv uu5 uu2 Et) ?_;refine WL.val (v':=.int .i64 ((c.toNat:Int)-48)) (congrArg (Value.int .i64) (b6d ⟨w2,w3⟩)) ?_;refine kA1 ?_;exact WL.nil (mN [(12,.int .i64 ((c.toNat:Int)-48))] h ⟨(c.toNat:Int)-48,⟨by rw[c31];rfl,w3,by omega⟩,rfl,rfl⟩);exact WC.skip (mN [(12,.int .i64 (-1))] h ⟨-1,⟨by rw[c31];rfl,by decide,by decide⟩,rfl,rfl⟩);rintro _ _ ⟨d,⟨hd,hd1,hd2⟩,rfl,rfl⟩;refine A9 rfl ?_;refine kA5 ?_;refine zG (λhc=>F3 uu9 (Eg hc) (Eg hc) rfl (by assumption)) ?_;refine kA5 ?_;refine zG (λhc=>F3 uu9 (Eg hc) (Eg hc) rfl (by assumption)) ?_;refine kP2 [0,1,3,10,11,12,50] ?_
 refine D6 KKh [0,1,3,10,11] rfl (λF' h'=>∃q:Int,(q=a4w base c/\q<16/\-1<=q)/\F'=[(12,.int .i64 q)]/\h=h') ?_ ?_;refine jE ?_;refine wc ?_ ?_<;>intro c50
 have d50:((base==16)&&decide ((c.toNat:Int)>=65)&&decide ((c.toNat:Int)<=70))=true:=c50;have r65:65<=(c.toNat:Int)/\(c.toNat:Int)<=70:=by simp at d50;omega
 have hdv:a4w base c=(c.toNat:Int)-65+10:=by unfold a4w;rw[d50];rfl
 refine kA2 ?_;refine xG (F3 uu9 Et Et rfl (by assumption)) ?_;refine kA1 ?_;refine WL.val (v':=.int .u8 ((c.toNat:Int)-65)) (congrArg (Value.int .u8) (c9z r65)) ?_;refine xG (PO.conv uu5 uu2 Et) ?_;refine WL.val (v':=.int .i64 ((c.toNat:Int)-65)) (congrArg (Value.int .i64) (b6d (by omega))) ?_;refine kA2 ?_;exact WL.nil (mN [(12,.int .i64 ((c.toNat:Int)-65+10))] h ⟨(c.toNat:Int)-65+10,⟨hdv.symm,by omega,by omega⟩,rfl,rfl⟩);have d50:((base==16)&&decide ((c.toNat:Int)>=65)&&decide ((c.toNat:Int)<=70))=false:=c50;have hdv:a4w base c=d:=by unfold a4w;rw[d50,hd];rfl
 exact WC.skip (mN [(12,.int .i64 d)] h ⟨d,⟨hdv.symm,by omega,hd2⟩,rfl,rfl⟩);rintro _ _ ⟨q,⟨hq,hq1,hq2⟩,rfl,rfl⟩;refine A9 rfl ?_;refine y2 ?_ ?_<;>intro c58
 rw[<-hq,c58]at hJ;refine Z2 ?_;refine w2 h ?_;exact⟨by unfold a2c;rw[d21,hJ];rfl,rfl⟩;rw[<-hq,c58]at hJ;have q0:0<=q:=by have:=zz c58;omega
 have hst:=b9d (d:=q) hb0 (by rw[hq];exact hdl c) hv1;refine ZZ [0,2] ?_;refine xG (a6G Et Et (by omega)) ?_;refine kA1 ?_;refine xG (K3 Et Et (by omega)) ?_;refine ZZ [1,3] ?_;exact WL.nil (lN (s.length-(k+1)) [(10,.int .i64 (base*v+q)),(11,.int .i64 (k+1))] h ⟨k+1,base*v+q,⟨⟨by omega,by simpa using hJ⟩,by omega,hst⟩,rfl,rfl,rfl⟩);rw[qb (by omega)]at hJ;have hJ2:a4i base s 0=some v:=hJ;refine ZZ [0,6,0] ?_;refine w2 h ?_;exact⟨by unfold a2c;rw[d21,hJ2];rfl,rfl⟩
theorem b7j(s:B){l:List B}{v:List Int}{j:Nat}{x:B}{y:Int}(hx:l[j]?=some x)(hy:v[j]?=some y):a4J s (l.drop j) (v.drop j)=if s==x then some y else a4J s (l.drop (j+1)) (v.drop (j+1)):=by have h1:j<l.length:=(qd.1 hx).1;have h2:j<v.length:=(qd.1 hy).1;rw[qq h1,(qd.1 hx).2,qq h2,(qd.1 hy).2];rfl
theorem b8P(s:B)(h:Lr)(m:View)(_hs:s.length<=9223372036854775807):CT prog 206 [str s] h m (A5 h (.tuple #[.int .i32 (X4 s).1,.bool (X4 s).2])):=by
 have hq:0<s.length->s[0]?=some (s.getD 0 0):=λhi=>by rw[ql,qk hi];rfl
 refine cB [0,2,3,4,5,6,7,8,29,38,46,58] func206 λ_=>?_;refine ZZ [2,1] ?_;refine xG (G0 uu9 Et) ?_;refine kA3 ?_;refine C2 (GU.t rfl rfl) (λhc=>F3 uu9 (Eg hc) Ek (q:=0) rfl (hq (by simp at hc;omega))) Lb ?_;refine kA4 ?_;refine C2 (GU.t rfl rfl) (λhc=>F3 uu9 (Eg hc) Ek (q:=0) rfl (hq (by simp at hc;omega))) Lb ?_;refine kA4 ?_;refine zG (λhc=>P2 (Eg hc) Ek) ?_;refine kA3 ?_;refine zG (λhc=>P2 (Eg hc) Ek) ?_;refine y1 ?_ ?_<;>intro c29
 have d29:(((s.length:Int)==1)&&decide (chB s 0>=32)&&decide (chB s 0<=126)&&(s !=[39])&&(s !=[42]))=true:=c29;have h0:=hq (by simp at d29;omega);refine kA1 ?_;refine xG (F3 uu9 Et Ek (q:=0) rfl (by assumption)) ?_;refine xG (PO.conv uu5 a0R Et) ?_;refine WL.val (v':=.int .i32 (chB s 0)) (congrArg (Value.int .i32) (b2J _)) ?_;refine Z2 ?_;refine w2 h ?_;exact⟨by unfold X4;rw[d29];rfl,rfl⟩;have d29:(((s.length:Int)==1)&&decide (chB s 0>=32)&&decide (chB s 0<=126)&&(s !=[39])&&(s !=[42]))=false:=c29;refine Z0 ?_;refine xY M3 Eb λb33=>?_;refine Z1 ?_;refine xY c71 Eb λb34=>?_
 refine ZZ [1,1,0] ?_;refine lI [0,4,5] (λμ F' h'=>∃j:Nat,(j<=7/\a4J s a0l U3=a4J s (a0l.drop j) (U3.drop j))/\7-j=μ/\F'=[(6,.int .i64 j)]/\.pt b34 (.cells (fl b5V U3).toArray 21 (0,0))::.pt b33 (.cells (fl encB a0l).toArray 9 (0,0))::h=h') (7-0) [(6,.int .i64 0)] (.pt b34 (.cells (fl b5V U3).toArray 21 (0,0))::.pt b33 (.cells (fl encB a0l).toArray 9 (0,0))::h) ⟨0,⟨by omega,rfl⟩,rfl,rfl,rfl⟩ ?_;rintro _ _ _ ⟨j,⟨hk,hJ⟩,rfl,rfl,rfl⟩;refine A9 rfl ?_;refine Z4 ?_;refine wD ?_ ?_<;>intro c38
 obtain⟨x,hx⟩:=A8 (l:=a0l) (k:=j) (by show j<7;omega);obtain⟨y,hy⟩:=A8 (l:=U3) (k:=j) (by show j<7;omega);rw[b7j s hx hy]at hJ;have hR1:Rd m (.pt b34 (.cells (fl b5V U3).toArray 21 (0,0))::.pt b33 (.cells (fl encB a0l).toArray 9 (0,0))::h) (some ⟨b33,0,none⟩) 7 7 1 (fl encB a0l):=Rd.ofPt rfl (by decide) (qD _ (qm _));have hR2:Rd m (.pt b34 (.cells (fl b5V U3).toArray 21 (0,0))::.pt b33 (.cells (fl encB a0l).toArray 9 (0,0))::h) (some ⟨b34,0,none⟩) 7 7 1 (fl b5V U3):=Rd.ofPt rfl (by decide) (qm _);refine ZZ [0,5] ?_;refine xG (H0 Et Et) ?_;refine y0 ?_ ?_<;>intro c46
 rw[c46]at hJ;refine Z6 ?_;refine w2 h ?_;exact⟨by unfold X4;rw[d29,hJ];rfl,rfl⟩;rw[c46]at hJ;refine ZZ [0,3] ?_;exact WL.nil (lN (7-(j+1)) [(6,.int .i64 (j+1))] (.pt b34 (.cells (fl b5V U3).toArray 21 (0,0))::.pt b33 (.cells (fl encB a0l).toArray 9 (0,0))::h) ⟨j+1,⟨by omega,by simpa using hJ⟩,rfl,rfl,rfl⟩);rw[qb (by show 7<=j;omega)]at hJ;have hJ2:a4J s a0l U3=none:=hJ;refine ZZ [0,1] ?_;refine xG (G0 uu9 Et) ?_;refine kA3 ?_;refine C2 (GU.t rfl rfl) (λhc=>O6 uu9 (Eg hc) Ek (u:=2) rfl (by simp at hc;omega)) Lb ?_;refine zG (λhc=>H0 (Eg hc) Ek) ?_;refine y1 ?_ ?_<;>intro c58
 have d58:(((s.length:Int)==4)&&(s.take 2==[42,35]))=true:=c58;have hl4:s.length=4:=by simp at d58;omega
 have hl2:(s.drop 2).length<=9223372036854775807:=by rw[qx];omega
 refine kA1 ?_;refine xG (a2L uu9 Et Ek (l:=2) rfl (by omega)) ?_;refine xf (E4 Et Ek Ek Ek) (b0D (s.drop 2) 16 2 256 _ _ (.inr ⟨rfl,by decide⟩) hl2) ?_;refine ZZ [5,1] ?_;refine xG (PO.conv uu2 a0R Et) ?_;refine Z3 ?_;refine w2 h ?_;exact⟨by unfold X4;rw[d29,hJ2];simp only[qp,if_false,d58,if_true];rfl,rfl⟩;have d58:(((s.length:Int)==4)&&(s.take 2==[42,35]))=false:=c58;refine ZZ [0,2,0] ?_;refine w2 h ?_;exact⟨by unfold X4;rw[d29,hJ2];simp only[qp,if_false,d58],rfl⟩
theorem c0A(s:B)(h:Lr)(m:View)(hs:s.length<=140737488355328):CT prog 140 [str s] h m (A5 h (tkR (a3r s))):=by
 have hq:∀i:Nat,i<s.length->s[i]?=some (s.getD i 0):=λi hi=>by rw[ql,qk hi];rfl
 refine cB [0,2,3,4,5,6,14,32] func140 λ_=>?_;refine xW λb2=>?_
 refine ZZ [1,1,0] ?_;refine lI [0,2] (λμ F' h'=>∃n:Nat,((3<=n/\n<=7)/\a3r s=a6j s ([3,4,5,6].drop (n-3)))/\7-n=μ/\F'=[(4,.int .i64 n)]/\.pt b2 (.cells (B1 zeroK).toArray 116 (0,0))::h=h') (7-3) [(4,.int .i64 3)] (.pt b2 (.cells (B1 zeroK).toArray 116 (0,0))::h) ⟨3,⟨by omega,rfl⟩,rfl,rfl,rfl⟩ ?_;rintro _ _ _ ⟨n,⟨hn,hJ⟩,rfl,rfl,rfl⟩;refine A9 rfl ?_;refine kA5 ?_;refine zG (λhc=>G0 uu9 (Eg hc)) ?_;refine y2 ?_ ?_<;>intro c14
 have hn6:n<=6/\n<=s.length:=by simp at c14;omega
 have hst:[3,4,5,6].drop (n-3)=n::[3,4,5,6].drop (n+1-3):=by
  have:n=3\/n=4\/n=5\/n=6:=by omega
  rcases this with rfl|rfl|rfl|rfl<;>rfl
 have hlt:((s.drop 1).take (n-2)).length<=9223372036854775807:=by rw[qV,qx];omega
 rw[hst,a6j,show(!decide ((n:Int)<=s.length))=false by simp;exact hn6.2]at hJ;simp only[qp,if_false]at hJ;refine ZZ [0,2] ?_;refine xG (P3 Et Ek (by omega)) ?_;refine WL.val (v':=.int .i64 ((n-1:Nat):Int)) (congrArg (Value.int .i64) (by omega)) ?_;refine xG (a03 uu9 Et Ek Et (l:=1) rfl rfl (by omega) (by omega)) ?_;refine WL.val (v':=str ((s.drop 1).take (n-2))) (by rw[show n-1-1=n-2 by omega]) ?_;refine xf (E1 Et) (b8P _ _ _ (by assumption)) ?_;refine ZZ [5,4] ?_;refine C2 (GU.t rfl rfl) (λhc=>P3 (Eg hc) Ek (by first|omega|(simp at hc;omega))) Lb ?_;refine C2 (GU.t rfl rfl) (λhc=>F3 uu9 (Eg hc) (Eg hc) (q:=n-1) (by omega) (hq _ (by omega))) Lb ?_;refine y2 ?_ ?_<;>intro c32
 have d32:c5n s n=true:=c32;rw[d32]at hJ;refine Z5 ?_;refine w2 h (h1:=cA C7) ?_;exact⟨by rw[hJ];rfl,rfl⟩;have d32:c5n s n=false:=c32;rw[d32]at hJ;refine ZZ [0,3] ?_;exact WL.nil (lN (7-(n+1)) [(4,.int .i64 (n+1))] (.pt b2 (.cells (B1 zeroK).toArray 116 (0,0))::h) ⟨n+1,⟨by omega,by simpa using hJ⟩,rfl,rfl,rfl⟩);have hE:a3r s=(zeroK,0):=by
  rw[hJ];by_cases h7:n=7
  ·subst h7;rfl
  ·have hst:[3,4,5,6].drop (n-3)=n::[3,4,5,6].drop (n+1-3):=by
    have:n=3\/n=4\/n=5\/n=6:=by omega
    rcases this with rfl|rfl|rfl|rfl<;>rfl
   rw[hst,a6j,if_pos (by simp at c14⊢;omega)]
 refine ZZ [0,3,0] ?_;refine w2 h (h1:=cA C7) ?_;exact⟨by rw[hE];rfl,rfl⟩
theorem c3k{v:Int}(hv:0<=v/\v<4294967296):IntKind.i64.wrap (v.tmod 4294967296)=v/\v.tmod 4294967296=v:=by
 have e:v.tmod 4294967296=v:=by rw[Int.tmod_eq_emod_of_nonneg hv.1,Int.emod_eq_of_lt hv.1 hv.2]
 refine⟨?_,e⟩;rw[e];unfold IntKind.wrap;simp[IntKind.bits,IntKind.signed];omega
theorem c5r(v:Int)(h:Lr)(m:View)(hv:0<=v/\v<4294967296):CT prog 139 [.int .i64 v] h m (A5 h (.int .i32 (IntKind.i32.wrap v))):=by
 refine cB [0,2] func139 λ_=>?_;refine ZZ [1,1] ?_;refine xG (PO.rem Et Ek (by decide)) ?_;refine WL.val (v':=.int .i64 v) (congrArg (Value.int .i64) (by first|exact(c3k hv).1|exact(c3k hv).2)) ?_;refine Z1 ?_;refine kP2 [0,6] ?_;refine D6 KKh [] rfl (λF' h'=>∃w:Int,(w=v)/\F'=[(0,.int .i64 w)]/\h=h') ?_ ?_;refine jE ?_;refine wD ?_ ?_<;>intro c6
 omega;exact WC.skip (mN [(0,.int .i64 v)] h ⟨v,rfl,rfl,rfl⟩);rintro _ _ ⟨w,hw,rfl,rfl⟩;refine A9 rfl ?_;refine kP2 [0,10] ?_;refine D6 KKh [] rfl (λF' h'=>∃w2:Int,(IntKind.i32.wrap w2=IntKind.i32.wrap v)/\F'=[(0,.int .i64 w2)]/\h=h') ?_ ?_;refine jE ?_;refine wc ?_ ?_<;>intro c10
 refine kA1 ?_;refine xG (P3 Et Ek (by omega)) ?_;refine kA1 ?_;exact WL.nil (mN [(0,.int .i64 (w-4294967296))] h ⟨w-4294967296,by subst hw;unfold IntKind.wrap;simp[IntKind.bits,IntKind.signed],rfl,rfl⟩);exact WC.skip (mN [(0,.int .i64 w)] h ⟨w,by rw[hw],rfl,rfl⟩);rintro _ _ ⟨w2,hw2,rfl,rfl⟩;refine A9 rfl ?_;refine kA1 ?_;refine xG (PO.conv uu2 a0R Et) ?_;refine Z1 ?_;refine wT h ?_;exact⟨by rw[hw2],rfl⟩
theorem b5O{s:B}(h:(a2c s 16 8 4294967296).2=true):0<=(a2c s 16 8 4294967296).1/\(a2c s 16 8 4294967296).1<4294967296:=by
 unfold a2c at h⊢;split
 ·exact⟨z4 0,show(0:Int)<4294967296 by decide⟩
 ·rename_i hc
  rw[if_neg hc]at h;cases hv:a4i 16 s 0 with
  |none=>exact⟨z4 0,show(0:Int)<4294967296 by decide⟩
  |some v=>rw[hv]at h;exact⟨(a0I (by decide) a2s s 0 v (by decide) hv).1,zq h⟩
theorem c2U(c:UInt8)(r:B)(h:Lr)(m:View)(hs:(c::r).length<=140737488355328):CT prog 72 [str (c::r)] h m (A5 h (tkR (tok (c::r)))):=by
 have hs':(c::r).length<=9223372036854775807:=by omega
 have hq:∀i:Nat,i<(c::r).length->(c::r)[i]?=some ((c::r).getD i 0):=λi hi=>by rw[ql,qk hi];rfl
 have e0:chB (c::r) 0=(c.toNat:Int):=rfl;have e1:List.drop 1 (c::r)=r:=rfl;have hrl:=a4Q r;have hlen:(c::r).length=r.length+1:=rfl;rw[c8f];refine cB [0,2,3,4,5,6,7,8,18,21,28,37,44,56,62,74,80,88,100] func72 λ_=>?_;refine xW λb2=>?_
 refine ZZ [1,1,0] ?_;refine lI [0,2] (λμ F' h'=>∃n:Nat,((1<=n/\n<=(c::r).length)/\run r+1=n+run ((c::r).drop n))/\(c::r).length-n=μ/\F'=[(4,.int .i64 n)]/\.pt b2 (.cells (B1 zeroK).toArray 116 (0,0))::h=h') ((c::r).length-1) [(4,.int .i64 1)] (.pt b2 (.cells (B1 zeroK).toArray 116 (0,0))::h) ⟨1,⟨⟨by omega,by omega⟩,by rw[e1];omega⟩,rfl,rfl,rfl⟩ ?_;rintro _ _ _ ⟨n,⟨⟨hn1,hn2⟩,hJ⟩,rfl,rfl,rfl⟩;refine A9 rfl ?_;refine kA2 ?_;refine xG (G0 uu9 Et) ?_;refine kA4 ?_;refine C2 (GU.t rfl rfl) (λhc=>F3 uu9 (Eg hc) (Eg hc) rfl (hq n (by simp at hc;simp;omega))) Lb ?_;refine A3 (GU.t rfl rfl) (λhc=>⟨Ef,(E1 (Eg hc)),b5d _ _ _⟩) Lb ?_;refine y1 ?_ ?_<;>intro c18
 have hn3:n<(c::r).length/\wch ((c::r).getD n 0)=true:=by rw[b6n];simp only[qa,qw]at c18;exact⟨by omega,c18.2⟩
 have hrd:=a9e (hq n hn3.1);rw[hn3.2,if_pos rfl]at hrd;refine ZZ [0,3] ?_;exact WL.nil (lN ((c::r).length-(n+1)) [(4,.int .i64 (n+1))] (.pt b2 (.cells (B1 zeroK).toArray 116 (0,0))::h) ⟨n+1,⟨⟨by omega,by omega⟩,by omega⟩,rfl,rfl,rfl⟩);have hnr:n=1+run r:=by
  by_cases h1:n<(c::r).length
  ·have hrd:=a9e (hq n h1)
   have hw:wch ((c::r).getD n 0)=false:=by rw[b6n];rw[zh (show(n:Int)<((c::r).length:Int) by omega),qG]at c18;exact c18
   rw[hw]at hrd;simp only[qp,if_false]at hrd;omega
  ·have hd:(c::r).drop n=[]:=qb (by omega)
   rw[hd]at hJ;have:run ([]:B)=0:=rfl;omega
 subst hnr;have htl:((c::r).take (1+run r)).length<=9223372036854775807:=by rw[qV];omega
 have htl2:(r.take (run r)).length<=9223372036854775807:=by rw[qV];omega
 refine ZZ [0,1] ?_;refine xG (F3 uu9 Et Ek (q:=0) rfl (c:=c) rfl) ?_;refine xf (E1 Et) (a4j _ _ _) ?_;refine y1 ?_ ?_<;>intro c21
 refine kA2 ?_;refine xG (O6 uu9 Et Et rfl (by omega)) ?_;refine xf (E1 Et) (a6F _ _ _) ?_;refine y0 ?_ ?_<;>intro c28
 refine kA2 ?_;refine xG (O6 uu9 Et Et rfl (by omega)) ?_;refine Z4 ?_;refine w2 h (h1:=cA C7) ?_;exact⟨by unfold a3O;rw[e0,e1,c21];simp only[if_true,c28];rfl,rfl⟩;refine ZZ [0,2] ?_;refine xG (O6 uu9 Et Et rfl (by omega)) ?_;refine xf (E1 Et) (a1f _ _ _ (by assumption)) ?_;refine y0 ?_ ?_<;>intro c37
 refine kA2 ?_;refine xG (O6 uu9 Et Et rfl (by omega)) ?_;refine Z4 ?_;refine w2 h (h1:=cA C7) ?_;exact⟨by unfold a3O;rw[e0,e1,c21];simp only[if_true,qp,if_false,c28,c37];rfl,rfl⟩;refine ZZ [0,3,0] ?_;refine w2 h (h1:=cA C7) ?_;exact⟨by unfold a3O;rw[e0,e1,c21];simp only[if_true,qp,if_false,c28,c37];rfl,rfl⟩;refine kA1 ?_;refine xG (F3 uu9 Et Ek (q:=0) rfl (c:=c) rfl) ?_;refine xf (E1 Et) (a7T _ _ _) ?_;refine y1 ?_ ?_<;>intro c44
 refine kA2 ?_;refine xG (O6 uu9 Et Et rfl (by omega)) ?_;refine xf (E4 Et Ek Ek Ek) (b0D ((c::r).take (1+run r)) 10 10 2147483648 _ _ (.inl ⟨rfl,by decide⟩) htl) ?_;refine ZZ [5,2,0] ?_;refine wc ?_ ?_<;>intro c56
 have d56:(!(a2c ((c::r).take (1+run r)) 10 10 2147483648).2)=true:=c56;refine Z3 ?_;refine w2 h (h1:=cA C7) ?_;exact⟨by unfold a3O;rw[e0,e1,c21];simp only[if_true,qp,if_false,c44,d56];rfl,rfl⟩;have d56:(!(a2c ((c::r).take (1+run r)) 10 10 2147483648).2)=false:=c56;refine ZZ [0,1] ?_;refine xG (PO.conv uu2 a0R Et) ?_;refine Z4 ?_;refine w2 h (h1:=cA C7) ?_;exact⟨by unfold a3O;rw[e0,e1,c21];simp only[if_true,qp,if_false,c44,d56];rfl,rfl⟩;refine kA1 ?_;refine xG (F3 uu9 Et Ek (q:=0) rfl (c:=c) rfl) ?_;refine y2 ?_ ?_<;>intro c62
 refine kA2 ?_;refine xG (a03 uu9 Et Ek Et (l:=1) rfl rfl (by omega) (by omega)) ?_;refine WL.val (v':=str (r.take (run r))) (by rw[e1,Nat.add_sub_cancel_left]) ?_;refine xf (E4 Et Ek Ek Ek) (b0D (r.take (run r)) 16 8 4294967296 _ _ (.inr ⟨rfl,by decide⟩) htl2) ?_;refine ZZ [5,2,0] ?_;refine wc ?_ ?_<;>intro c74
 have d74:(!(a2c (r.take (run r)) 16 8 4294967296).2)=true:=c74;refine Z3 ?_;refine w2 h (h1:=cA C7) ?_;exact⟨by unfold a3O;rw[e0,e1,c21];simp only[if_true,qp,if_false,c44,c62,d74];rfl,rfl⟩;have d74:(!(a2c (r.take (run r)) 16 8 4294967296).2)=false:=c74;have hvr:=b5O (s:=r.take (run r)) (by simpa using c74);refine ZZ [0,1] ?_;refine xf (E1 Et) (c5r _ _ _ hvr) ?_;refine Z4 ?_;refine w2 h (h1:=cA C7) ?_;exact⟨by unfold a3O;rw[e0,e1,c21];simp only[if_true,qp,if_false,c44,c62,d74];rfl,rfl⟩;refine kA1 ?_;refine xG (F3 uu9 Et Ek (q:=0) rfl (c:=c) rfl) ?_;refine y2 ?_ ?_<;>intro c80
 refine kA1 ?_;refine xf (E1 Et) (c0A _ _ _ (by assumption)) ?_;refine Z4 ?_;refine w2 h (h1:=cA C7) ?_;exact⟨by unfold a3O;rw[e0,e1,c21];simp only[if_true,qp,if_false,c44,c62,c80];rfl,rfl⟩;refine kA1 ?_;refine xG (G0 uu9 Et) ?_;refine kA3 ?_;refine C2 (GU.t rfl rfl) (λhc=>O6 uu9 (Eg hc) Ek (u:=2) rfl (by simp at hc;simp;omega)) Lb ?_;refine A3 (GU.t rfl rfl) (λhc=>⟨Ef,(E1 (Eg hc)),a0A _ _ _⟩) Lb ?_;refine y2 ?_ ?_<;>intro c88
 have d88:(decide (((c::r).length:Int)>1)&&b02 ((c::r).take 2))=true:=c88;have hl2:2<=(c::r).length:=by simp only[qa,qw]at d88;omega
 refine kA1 ?_;refine xG (O6 uu9 Et Ek (u:=2) rfl (by omega)) ?_;refine Z3 ?_;refine w2 h (h1:=cA C7) ?_;exact⟨by unfold a3O;rw[e0,e1,c21];simp only[if_true,qp,if_false,c44,c62,c80,d88];rfl,rfl⟩;have d88:(decide (((c::r).length:Int)>1)&&b02 ((c::r).take 2))=false:=c88;refine kA1 ?_;refine xG (O6 uu9 Et Ek (u:=1) rfl (by omega)) ?_;refine xf (E1 Et) (a0A _ _ _) ?_;refine y1 ?_ ?_<;>intro c100
 have d100:b02 ((c::r).take 1)=true:=c100;refine kA1 ?_;refine xG (O6 uu9 Et Ek (u:=1) rfl (by omega)) ?_;refine Z3 ?_;refine w2 h (h1:=cA C7) ?_;exact⟨by unfold a3O;rw[e0,e1,c21];simp only[if_true,qp,if_false,c44,c62,c80,d88,d100];rfl,rfl⟩;have d100:b02 ((c::r).take 1)=false:=c100;refine ZZ [0,3,0] ?_;refine w2 h (h1:=cA C7) ?_;exact⟨by unfold a3O;rw[e0,e1,c21];simp only[qp,if_false,c44,c62,c80,d88,d100];rfl,rfl⟩
theorem rTokens_ct(line:B)(h:Lr)(m:View)(hs:line.length<=140737488355328):CT prog 33 [str line] h m (c9g h (lexO line)):=by
 refine cB [0,2,3,4,5,6,7,8,11,15,19,30] func33 λ_=>?_;refine WL.addNil 116 4 ?_;refine ZZ [3,1] ?_;refine xG (G0 uu9 Et) ?_;refine y1 ?_ ?_<;>intro c11
 refine Z3 ?_;refine w3 (.row (.slice none 0 0) 116 4 0 []::h) ?_;exact⟨none,0,by rw[a2n c11];rfl,by rw[a2n c11];rfl⟩;have h256:line.length<=256:=by have:=zz c11;omega
 have hO:=a4D c11;refine ZZ [0,1,1,0] ?_;refine lI [0] (λμ F' h'=>∃p:Nat,∃n:Nat,∃l:Lt,∃a:Oa,∃c:Nat,((p<=line.length/\n<=p/\l.length=n)/\lx line 0=a6g l (lx (line.drop p) p))/\line.length-p=μ/\F'=[(5,.slice a n c),(6,.int .i64 p)]/\.row (.slice a n c) 116 4 n (fl B1 l)::h=h') (line.length-0) [(5,.slice none 0 0),(6,.int .i64 0)] (.row (.slice none 0 0) 116 4 0 (fl B1 ([]))::h) ⟨0,0,[],none,0,⟨⟨by omega,by decide,rfl⟩,by rw[b4p];rfl⟩,rfl,rfl,rfl⟩ ?_;rintro _ _ _ ⟨p,n,l,a,c,⟨⟨hp,hnp,hl⟩,hJ⟩,rfl,rfl,rfl⟩;refine A9 rfl ?_;refine kA2 ?_;refine xG (G0 uu9 Et) ?_;refine y4 ?_ ?_<;>intro c15
 obtain⟨x,hx⟩:=A8 (l:=line) (k:=p) (by omega);have hdr:=P9 hx;refine ZZ [0,2] ?_;refine xG (F3 uu9 Et Et rfl (by assumption)) ?_;refine y1 ?_ ?_<;>intro c19
 rw[a8Q]at c19;have hx32:line[p]?=some 32:=by rw[hx,eq_of_beq c19]
 refine Z3 ?_;exact WC.exit (lN (line.length-(p+1)) [(5,.slice a n c),(6,.int .i64 (p+1))] (.row (.slice a n c) 116 4 n (fl B1 l)::h) ⟨p+1,n,l,a,c,⟨⟨by omega,by omega,hl⟩,a9g hx32 hJ⟩,rfl,rfl,rfl⟩);rw[a8Q]at c19;have hne:x≠32:=by simpa using c19
 have hn:=b2K (line.drop p);rw[qx]at hn;have hxl:(x::line.drop (p+1)).length<=140737488355328:=by rw[<-hdr,qx];omega
 refine ZZ [0,2] ?_;refine xG (a2L uu9 Et Et rfl (by omega)) ?_;refine WL.val (v':=str (x::line.drop (p+1))) (congrArg str hdr) ?_;refine xf (E1 Et) (CT.val (c2U x (line.drop (p+1)) _ _ hxl) (by rw[<-hdr])) ?_;refine kA3 ?_;refine xW λb7=>?_;refine ZZ [2,2,0] ?_;refine wc ?_ ?_<;>intro c30
 have hn0:(tok (line.drop p)).2=0:=by simp at c30;omega
 have hE:=b5a hx hne hn0 hJ;refine kA1 ?_;refine WL.addNil 116 4 ?_;refine Z3 ?_;refine w3 (.row (.slice none 0 0) 116 4 0 []::h) ?_;exact⟨none,0,by rw[hO,hE];rfl,by rw[hO,hE];rfl⟩;have hn0:(tok (line.drop p)).2≠0:=by simp at c30;omega
 have hE:=b4t hx hne hn0 hJ;refine ZZ [0,3,2] ?_;refine xY B3 Eb λb36=>?_;refine xD B3 (Ev.tmp rfl) (Ev.tmp rfl) rfl (D9 (enc:=B1) _ ({ (tok (line.drop p)).1 with at_:=p })) λa37 c37=>?_
 refine ZZ [1,2] ?_;refine xG (K3 Et Et (by omega)) ?_;refine kA1 ?_;exact WL.nil (lN (line.length-(p+(tok (line.drop p)).2)) [(5,.slice a37 (n+1) c37),(6,.int .i64 (p+(tok (line.drop p)).2))] (.row (.slice a37 (n+1) c37) 116 4 (n+1) (fl B1 (l++[{ (tok (line.drop p)).1 with at_:=p }]))::h) ⟨p+(tok (line.drop p)).2,n+1,l++[{ (tok (line.drop p)).1 with at_:=p }],a37,c37,⟨⟨by omega,by omega,by rw[qh,qO,hl]⟩,hE⟩,rfl,rfl,rfl⟩);rw[qb (by omega),c0P]at hJ;have hE:lx line 0=.ok l:=by rw[hJ];simp[a6g]
 subst hl;refine ZZ [0,4,0] ?_;refine w3 (.row (.slice a l.length c) 116 4 l.length (fl B1 l)::h) ?_;exact⟨a,c,by rw[hO,hE];rfl,by rw[hO,hE];rfl⟩
end
end Go.Proofs.YtgcjpahhljmlmaaGreatDoor.L8
namespace Go.Proofs.YtgcjpahhljmlmaaGreatDoor
open Go.Proofs.Tryz
section
open Go.Eng Go.Pc Go.Sx Go
open Go.Xp hiding B E8
open Go.Ty (Ty Vr Tok eqT tyV E9 B1 A7 I6 zeroK)
open Go.Lx (encB C0 lexO)
open Go.Ly (Rw K7 C6)
abbrev rdR(z:Pz)(i:Nat)(e:Int):Res:=.pt z.bp (.cells [.slice z.ra z.R.length z.rc,.int .i64 (i:Nat),.int .i64 e].toArray 63 (0,0))
def a0v(R:List Rw)(i:Nat):Int:=match R[i]? with
 |some x=>if(lexO x.text).2.2≠0 then(lexO x.text).2.2 else 110
 |none=>110
theorem a3K{m:View}{z:Pz}(hz:Pok m z)(i:Nat)(e:Int)(d:Int)(h:Lr)(hb:rdR z i e∈h):CT prog 52 [ptV z.bp,.int .i64 d] h m (A5 h (.bool ((e==0)&&H6 z.R d i))):=by
 have hrd:=hz.rd.mono Vl (zH h);obtain⟨x,hx⟩:∃x,x=z.R.getD i ⟨0,0,[]⟩:=⟨_,rfl⟩;have hel:i<z.R.length->z.R[i]?=some x:=λhq=>by rw[hx,ql,qk hq];rfl
 have hH:H6 z.R d i=(decide ((i:Int)<z.R.length)&&(x.depth==d)):=by
  unfold H6;by_cases hq:i<z.R.length
  ·rw[hel hq,zh (by omega:(i:Int)<z.R.length)];rfl
  ·rw[qS (by omega),zd (by omega:¬(i:Int)<z.R.length)];rfl
 refine cB [0,1,4] func52 λ_=>?_;refine Z1 ?_;refine dS [] (.op 0 (.op 1 (.op 2 (.op 3 (.op 4 (.op 5 (.op 6 (.op 7 (.op 8 (.op 9 (.op 10 (.op 11 (.op 12 (.op 13 (.op 14 (.op 15 (.op 16 (.op 17 (.op 18 (.op 19 (.op 20 (.op 21 (.op 22 (.op 23 (.op 24 (.op 25 (.op 26 (.op 27 (.op 28 (.op 29 .nil)))))))))))))))))))))))))))))) [30,31,32] C9 ?_;refine kA3 ?_;refine yG rfl (C8 b6H rfl Et hb rfl) ?_;refine yG rfl (O4 Et Ek rfl) ?_;refine kA1 ?_;refine B2 rfl rfl (GU.t rfl rfl) (λhc=>PO.move Et) Lb ?_;refine B2 rfl rfl (GU.t rfl rfl) (λhc=>PO.nilCheck (Eg hc)) Lb ?_;refine B2 rfl rfl (GU.t rfl rfl) (λhc=>PO.fieldAddr c0i rfl (qf rfl) (Eg hc)) Lb ?_;refine B2 rfl rfl (GU.t rfl rfl) (λhc=>C8 uu3 rfl (Eg hc) hb rfl) Lb ?_;refine B2 rfl rfl (GU.t rfl rfl) (λhc=>PO.move Et) Lb ?_;refine B2 rfl rfl (GU.t rfl rfl) (λhc=>PO.nilCheck (Eg hc)) Lb ?_
 refine B2 rfl rfl (GU.t rfl rfl) (λhc=>PO.fieldAddr c0i rfl (qf rfl) (Eg hc)) Lb ?_;refine B2 rfl rfl (GU.t rfl rfl) (λhc=>C8 a6b rfl (Eg hc) hb rfl) Lb ?_;refine B2 rfl rfl (GU.t rfl rfl) (λhc=>R8 a6b (Eg hc)) Lb ?_;refine B2 rfl rfl (GU.t rfl rfl) (λhc=>O4 (Eg hc) (Eg hc) rfl) Lb ?_;refine kA2 ?_;refine B2 rfl rfl (GU.t rfl rfl) (λhc=>PO.move Et) Lb ?_;refine B2 rfl rfl (GU.t rfl rfl) (λhc=>PO.nilCheck (Eg hc)) Lb ?_;refine B2 rfl rfl (GU.t rfl rfl) (λhc=>PO.fieldAddr c0i rfl (qf rfl) (Eg hc)) Lb ?_;refine B2 rfl rfl (GU.t rfl rfl) (λhc=>C8 a6b rfl (Eg hc) hb rfl) Lb ?_;refine B2 rfl rfl (GU.t rfl rfl) (λhc=>PO.move Et) Lb ?_;refine B2 rfl rfl (GU.t rfl rfl) (λhc=>PO.nilCheck (Eg hc)) Lb ?_;refine B2 rfl rfl (GU.t rfl rfl) (λhc=>PO.fieldAddr c0i rfl (qf rfl) (Eg hc)) Lb ?_
 refine B2 rfl rfl (GU.t rfl rfl) (λhc=>C8 uu3 rfl (Eg hc) hb rfl) Lb ?_;refine B2 rfl rfl (GU.t rfl rfl) (λhc=>D7 V1.und V1.size V1.posz (Eg hc) (Eg hc) Rr rfl (by simp at hc;omega)) Lb ?_;refine B2 rfl rfl (GU.t rfl rfl) (λhc=>D0 a8Y rfl (qf rfl) C6 (qu _) Rr (hel (by simp at hc;omega)) (Eg hc)) Lb ?_;refine B2 rfl rfl (GU.t rfl rfl) (λhc=>D2 uu3 rfl C6 Rr (Eg hc) (hel (by simp at hc;omega)) rfl) Lb ?_;refine B2 rfl rfl (GU.t rfl rfl) (λhc=>PO.move Et) Lb ?_;refine nS ?_;refine Z3 ?_;refine wT h ?_;exact⟨by rw[hH,Bool.and_assoc],rfl⟩
theorem b8j{m:View}(line:B)(h:Lr)(hs:line.length<=140737488355328):CX prog 33 [str line] h m (λv _ h'=>∃hp',h'=hp'++h/\∃a c,v=.tuple #[.slice a (lexO line).1.length c,.int .i64 (lexO line).2.1,.int .i64 (lexO line).2.2]/\hp'=[tkW a c (lexO line).1]) (λ_ _=>False):=
 CX.ofCT (CT.conv (L8.rTokens_ct line h m hs) λ_ m' _ _ _ st ⟨a,c,e1,e2⟩=>⟨m',[tkW a c (lexO line).1]++h,Vl,by rw[e2]at st;exact st,_,rfl,a,c,e1,rfl⟩)
theorem a7z{m:View}{z:Pz}(hz:Pok m z)(i:Nat)(e:Int)(h:Lr):CT prog 13 [ptV z.bp] (rdR z i e::h) m (λ_ _ h'=>h'=rdR z i (if e≠0 then e else a0v z.R i)::h):=by
 have hrd:=hz.rd.mono Vl (zH h);obtain⟨x,hx⟩:∃x,x=z.R.getD i ⟨0,0,[]⟩:=⟨_,rfl⟩;have hel:i<z.R.length->z.R[i]?=some x:=λhq=>by rw[hx,ql,qk hq];rfl
 refine cB [0,4,9,22,40] func13 λ_=>?_;refine Z5 ?_;refine wN ?_ ?_<;>intro c9
 refine WC.ret (a6p (h':=rdR z i e::h) (.inl rfl) rfl  Vl Sb ?_);rw[if_pos c9];have d9:e=0:=c9;subst d9;refine ZZ [0,4,0] ?_;refine dS [] (.op 0 (.op 1 (.op 2 (.op 3 (.op 4 (.op 5 (.op 6 (.op 7 (.op 8 .nil))))))))) [9] C9 ?_;refine kA8 ?_;refine yG rfl (R8 a6b Et) ?_;refine nS ?_;refine y4 ?_ ?_<;>intro c22
 have hi2:i<z.R.length:=by omega
 have hel:=hel hi2;have htx:=(hz.ok.2 x (qe hel)).2.2;refine jE ?_;refine F4 [11] (.op 0 (.op 1 (.op 2 (.op 3 (.op 4 (.op 5 (.op 6 (.op 7 (.op 8 (.op 9 (.op 10 (.op 11 (.op 12 (.op 13 (.op 14 (.op 15 .nil)))))))))))))))) [16,17,18] _ [] C9 (λ_ _ _ _ _ h=>h) [14,15] (by kernel_rfl) ?_;refine kA8 ?_;refine yG rfl (D7 V1.und V1.size V1.posz (Ev.tmp rfl) (Ev.tmp rfl) Rr rfl (q:=i) (by omega)) ?_;refine kA2 ?_;refine R7 rfl rfl Ef (E1 Et) (λfr=>b8j x.text _ (by omega)) Lb (λfr v hv hx=>?_) λv35 h35 hr35=>?_
 ·exact hx.elim
 obtain⟨a35,c35,rfl,rfl⟩:=hr35;refine kA1 ?_;refine yG rfl (PO.extract Et rfl) ?_;refine yG rfl (PO.extract Et rfl) ?_;refine yG rfl (PO.extract Et rfl) ?_;refine nS ?_;refine ZZ [3,2,0] ?_;refine wN ?_ ?_<;>intro c40
 have hF:a0v z.R i=(lexO x.text).2.2:=by unfold a0v;rw[hel];exact if_pos c40
 refine kA5 ?_;refine WL.nil (w0 (rdR z i (lexO x.text).2.2::h) ?_);rw[if_neg (by decide),hF];have hF:a0v z.R i=110:=by unfold a0v;rw[hel];exact if_neg (by rw[c40];decide)
 refine WC.skip (a6p (h':=rdR z i 110::h) (.inr rfl) rfl  Vl Sb ?_);rw[if_neg (by decide),hF];have hF:a0v z.R i=110:=by unfold a0v;rw[qS (by omega)]
 refine WC.skip (a6p (h':=rdR z i 110::h) (.inr rfl) rfl  Vl Sb ?_);rw[if_neg (by decide),hF]
theorem b4G(R:List Rw)(i:Nat):a0v R i≠0:=by
 unfold a0v;split
 ·split
  ·assumption
  ·decide
 ·decide
theorem c0g{R:List Rw}{d:Int}{i:Nat}(h:H6 R d i=false):V3 R d i=.error (a0v R i,i):=by
 unfold H6 at h;unfold V3 a0v;cases hx:R[i]? with
 |none=>rfl
 |some x=>
  rw[hx]at h;dsimp only at h⊢;by_cases hl:(lexO x.text).2.2≠0
  ·rw[if_pos hl,if_pos hl]
  ·rw[if_neg hl,if_neg hl,if_pos (by intro q;rw[q,zI]at h;cases h)]
theorem c5l{R:List Rw}{d e:Int}{i:Nat}(h:((e==0)&&H6 R d i)=false):Opn R d e i [] true (if e≠0 then e else a0v R i):=by refine⟨λq=>⟨if_pos q,rfl⟩,λq=>.inr ?_⟩;subst q;rw[if_neg (by decide)];exact⟨b4G _ _,rfl,c0g h⟩
theorem a3V{m:View}{z:Pz}(hz:Pok m z)(i:Nat)(e:Int)(d:Int)(h:Lr):CT prog 29 [ptV z.bp,.int .i64 d] (rdR z i e::h) m
 (λv _ h'=>∃(b:Nat)(a:Oa)(c:Nat)(ts:Lt)(bad:Bool)(e':Int)(R:Res),Opn z.R d e i ts bad e'/\Tk3 m [R] a c ts/\v=ptV b/\h'=tqR b a ts.length c bad::R::rdR z i e'::h):=by
 have hrd:=hz.rd.mono Vl (zH h);obtain⟨x,hx⟩:∃x,x=z.R.getD i ⟨0,0,[]⟩:=⟨_,rfl⟩;have hel:i<z.R.length->z.R[i]?=some x:=λhq=>by rw[hx,ql,qk hq];rfl
 have hN:Tk3 m [tkW none 0 []] none 0 []:=⟨⟨⟨Rd.nilF B1 4 m _,qi _,λ_ q=>(qn q).elim⟩,λ_ q=>(qn q).elim⟩,λ_ q=>(qn q).elim⟩;refine cB [0,1,4,5,7,11,33] func29 λ_=>?_;refine ZZ [1,2] ?_;refine xf (E2 Et Et) (a3K hz i e d _ Me) ?_;refine y1 ?_ ?_<;>intro c11
 have d11:((e==0)&&H6 z.R d i)=false:=by rw[<-qK];exact c11
 have hO:=c5l d11;refine kA1 ?_;refine xg (E1 Et) (a7z hz i e _) ?_;rintro _ _ rfl;refine ZZ [0,1] ?_;refine xX λb15=>?_;refine WL.addNil 116 4 ?_;refine WL.perm (qF _ _ _) ?_;refine Z1 ?_;refine wT (tqR b15 none ([]:Lt).length 0 true::tkW none 0 []::rdR z i (if e≠0 then e else a0v z.R i)::h) ?_;exact⟨b15,none,0,[],true,_,_,hO,hN,rfl,rfl⟩;have d11:((e==0)&&H6 z.R d i)=true:=by rw[<-zy];exact c11
 rw[qa]at d11;have d12:e=0:=eq_of_beq d11.1;subst d12;have hi2:i<z.R.length:=by
  have h3:=d11.2;unfold H6 at h3;cases hq:z.R[i]? with
  |none=>rw[hq]at h3;cases h3
  |some y=>exact(qd.1 hq).1
 have hel:=hel hi2;have hdep:x.depth=d:=by have h3:=d11.2;unfold H6 at h3;rw[hel]at h3;exact eq_of_beq h3
 have htx:=(hz.ok.2 x (qe hel)).2.2;refine Z0 ?_;refine F4 [11] (.op 0 (.op 1 (.op 2 (.op 3 (.op 4 (.op 5 (.op 6 (.op 7 (.op 8 (.op 9 (.op 10 (.op 11 (.op 12 (.op 13 (.op 14 (.op 15 .nil)))))))))))))))) [16,17,18] _ [] C9 (λ_ _ _ _ _ h=>h) [14,15] (by kernel_rfl) ?_;refine kA8 ?_;refine yG rfl (D7 V1.und V1.size V1.posz (Ev.tmp rfl) (Ev.tmp rfl) Rr rfl (q:=i) (by omega)) ?_;refine kA2 ?_;refine R7 rfl rfl Ef (E1 Et) (λfr=>b8j x.text _ (by omega)) Lb (λfr v hv hx=>?_) λv28 h28 hr28=>?_
 ·exact hx.elim
 obtain⟨a28,c28,rfl,rfl⟩:=hr28;refine kA1 ?_;refine yG rfl (PO.extract Et rfl) ?_;refine yG rfl (PO.extract Et rfl) ?_;refine yG rfl (PO.extract Et rfl) ?_;refine nS ?_;refine ZZ [3,2,0] ?_;refine wN ?_ ?_<;>intro c33
 have hO:Opn z.R d 0 i [] true (lexO x.text).2.2:=⟨λq=>absurd rfl q,λ_=>.inr ⟨c33,rfl,by unfold V3;rw[hel];exact if_pos c33⟩⟩;refine ZZ [5,1] ?_;refine xX λb39=>?_;refine WL.addNil 116 4 ?_;refine WL.perm (qF _ _ _) ?_;refine Z1 ?_;refine wT (tqR b39 none ([]:Lt).length 0 true::tkW none 0 []::rdR z i (lexO x.text).2.2::h) ?_;exact⟨b39,none,0,[],true,_,_,hO,hN,rfl,rfl⟩;have hb:=a6s x.text;have hO:Opn z.R d 0 i (lexO x.text).1 false 0:=⟨λq=>absurd rfl q,λ_=>.inl ⟨rfl,rfl,by unfold V3;rw[hel];dsimp only;rw[if_neg (by rw[c33];decide),if_neg (by rw[hdep];exact λq=>q rfl)]⟩⟩;refine H4 (a:=a28) Me λp28 q28 r28=>?_
 refine ZZ [0,2] ?_;refine xX λb42=>?_;refine Z1 ?_;refine wT (tqR b42 a28 (lexO x.text).1.length c28 false::tkW a28 c28 (lexO x.text).1::rdR z i 0::h) ?_;exact⟨b42,a28,c28,(lexO x.text).1,false,0,_,hO,⟨⟨⟨Rd.inRow (qm _) r28 p28 q28,by omega,b7Y _⟩,λt ht=>(hb.2 t ht).2⟩,λt ht=>(hb.2 t ht).1⟩,rfl,rfl⟩
theorem c8A{R:List Rw}{d e e1:Int}{i:Nat}{ts:Lt}{b1:Bool}(h:Opn R d e i ts b1 e1)(h1:e1=0):i<R.length:=by
 by_cases he:e=0
 ·rcases h.2 he with⟨-,-,ho⟩|⟨h2,-,-⟩
  ·unfold V3 at ho
   cases hq:R[i]? with
   |none=>rw[hq]at ho;cases ho
   |some y=>exact(qd.1 hq).1
  ·exact absurd h1 h2
 ·exact absurd ((h.1 he).1▸h1) he
theorem c6b{R:List Rw}{i:Nat}{e:Int}{w:Bool}(h:w=true)(hn:e=0->∃x,R[i]?=some x/\(lexO x.text).2.2=0):(if e≠0 then e else a0v R i)=(if w=true then(if e≠0 then e else 110)else e):=by
 rw[if_pos h];by_cases he:e=0
 ·obtain⟨x,hx1,hx2⟩:=hn he
  rw[if_neg (by rw[he];decide),if_neg (by rw[he];decide)];unfold a0v;rw[hx1];exact if_neg (by rw[hx2];decide)
 ·rw[if_pos he,if_pos he]
theorem c3u{bad:Bool}{ts:Lt}:(bad||!ts.isEmpty)=true↔(bad=true\/ts≠[]):=by cases bad<;>cases ts<;>simp
theorem c7r{e e2:Int}{i:Nat}{bad:Bool}{ts:Lt}(he2:e2=(if(bad||!ts.isEmpty)=true then(if e≠0 then e else 110)else e))(d16:e2=0):Tak e i bad ts (i+1) e2:=by
 by_cases hb:(bad||!ts.isEmpty)=true
 ·rw[if_pos hb]at he2
  by_cases he:e=0
  ·rw[if_neg (by rw[he];decide)]at he2;rw[he2]at d16;cases d16
  ·rw[if_pos he]at he2;exact absurd (he2▸d16) he
 ·rw[if_neg hb]at he2
  have he:e=0:=he2▸d16
  exact⟨λq=>absurd he q,λ_=>by rw[if_neg (λw=>hb (c3u.2 w))];exact⟨d16,rfl⟩⟩
theorem c9e{e e2:Int}{i:Nat}{bad:Bool}{ts:Lt}(he2:e2=(if(bad||!ts.isEmpty)=true then(if e≠0 then e else 110)else e))(d16:e2≠0):Tak e i bad ts i e2:=by
 by_cases hb:(bad||!ts.isEmpty)=true
 ·rw[if_pos hb]at he2
  exact⟨λq=>by rw[if_pos q]at he2;exact⟨he2,rfl⟩,λq=>by rw[if_neg (by rw[q];decide)]at he2;rw[if_pos (c3u.1 hb)];exact⟨he2,rfl⟩⟩
 ·rw[if_neg hb]at he2
  exact⟨λq=>⟨he2,rfl⟩,λq=>absurd (he2.trans q) d16⟩
theorem J6{m:View}{z:Pz}(hz:Pok m z)(i:Nat)(e:Int)(b:Nat)(a:Oa)(c:Nat)(ts:Lt)(bad:Bool)(h:Lr)(hi:i<=z.R.length)(hn:e=0->∃x,z.R[i]?=some x/\(lexO x.text).2.2=0) :
 CT prog 65 [ptV z.bp,ptV b] (rdR z i e::tqR b a ts.length c bad::h) m (λ_ _ h'=>∃i' e',Tak e i bad ts i' e'/\h'=rdR z i' e'::h):=by
 have hR:=hz.ok.1;refine cB [0,1,16] func65 λ_=>?_;refine kA1 ?_;refine WL.take (r:=tqR b a ts.length c bad) De ?_;refine xg (E1 Et) (b4M b a c ts bad _ _) ?_;rintro _ _ ⟨rfl,rfl⟩;refine ZZ [0,4] ?_;refine WL.perm (qF _ _ _) ?_;refine kP0 [0,9] ?_;refine D6 KKh [0] rfl (λF' h'=>∃e2:Int,(e2=(if(bad||!ts.isEmpty)=true then(if e≠0 then e else 110)else e))/\F'=[]/\rdR z i e2::h=h') ?_ ?_;refine jE ?_;refine wc ?_ ?_<;>intro c9
 have d9:(bad||!ts.isEmpty)=true:=c9;refine kA1 ?_;refine xg (E1 Et) (a7z hz i e _) ?_;rintro _ _ rfl;exact WL.nil (mN [] (rdR z i ((if e≠0 then e else a0v z.R i))::h) ⟨(if e≠0 then e else a0v z.R i),(c6b d9 hn),rfl,rfl⟩);have d9:¬(bad||!ts.isEmpty)=true:=by rw[show(bad||!ts.isEmpty)=false from c9];decide
 exact WC.skip (mN [] (rdR z i e::h) ⟨e,(by rw[if_neg d9]),rfl,rfl⟩);rintro _ _ ⟨e2,he2,rfl,rfl⟩;refine A9 rfl ?_;refine Z5 ?_;refine wE ?_ ?_<;>intro c16
 have d16:e2=0:=c16;refine kA5 ?_;refine WL.val (v':=.int .i64 ((i+1:Nat):Int)) (congrArg (Value.int .i64) (by omega)) ?_;refine kA3 ?_;refine WL.nil (w0 (rdR z (i+1) e2::h) ?_);exact⟨i+1,e2,c7r he2 d16,rfl⟩;have d16:e2≠0:=c16;refine WC.skip (a6p (h':=rdR z i e2::h) (.inr rfl) rfl  Vl Sb ?_);exact⟨i,e2,c9e he2 d16,rfl⟩
theorem a9D{R:List Rw}{d e e1:Int}{i:Nat}{ts:Lt}{b1:Bool}(h:Opn R d e i ts b1 e1)(h1:e1=0):∃x,R[i]?=some x/\(lexO x.text).2.2=0:=by
 by_cases he:e=0
 ·rcases h.2 he with⟨-,-,ho⟩|⟨h2,-,-⟩
  ·unfold V3 at ho
   cases hq:R[i]? with
   |none=>rw[hq]at ho;cases ho
   |some y=>rw[hq]at ho;refine⟨y,rfl,zA λw=>?_⟩;have ho2:(if(lexO y.text).2.2≠0 then(.error ((lexO y.text).2.2,i):Except (Int×Nat) (Lt))else if y.depth≠d then .error (110,i)else .ok (lexO y.text).1)=.ok ts:=ho;rw[if_pos w]at ho2;cases ho2
  ·exact absurd h1 h2
 ·exact absurd ((h.1 he).1▸h1) he
theorem V6{R:List Rw}{e1 e2:Int}{i i2:Nat}{ts:Lt}{b:Bool}(k:Tak e1 i b ts i2 e2)(hn:e1=0->∃x,R[i]?=some x/\(lexO x.text).2.2=0)(hi:i<=R.length):(i<=i2/\i2<=R.length)/\(e2=0->i<i2):=by
 by_cases he:e1=0
 ·obtain⟨x,hx,-⟩:=hn he
  have hl:=(qd.1 hx).1;have h2:=k.2 he;by_cases hb:b=true\/ts≠[]
  ·rw[if_pos hb]at h2
   obtain⟨rfl,rfl⟩:=h2;exact⟨⟨qz _,hi⟩,λq=>by cases q⟩
  ·rw[if_neg hb]at h2
   obtain⟨rfl,rfl⟩:=h2;exact⟨⟨by omega,by omega⟩,λ_=>by omega⟩
 ·obtain⟨rfl,rfl⟩:=k.1 he
  exact⟨⟨qz _,hi⟩,λq=>absurd q he⟩
def Onl(R:List Rw)(d:Int)(k:Int)(s:B)(e:Int)(i i2:Nat)(e2:Int):Prop:=(∃ts b1 e1 r b2,Opn R d e i ts b1 e1/\Mu k s ts b1 r b2/\Tak e1 i b2 r i2 e2)/\(i<=i2/\i2<=R.length)/\(e2=0->i<i2)
theorem a8C{β:Type}{R:List Rw}{d k:Int}{s:B}{f:Nat->PE β}{e e2 e3:Int}{i i2 i3:Nat}{y:β}(h:Onl R d k s e i i2 e2)(q:RO (f i2) e2 i2 y i3 e3):RO (a1m R d k s i f) e i y i3 e3:=by obtain⟨⟨ts,b1,e1,r,b2,h1,h2,h3⟩,-⟩:=h;exact a5U h1 (a2l h2 (O9 h3 q))
theorem a8d{m:View}{z:Pz}(hz:Pok m z)(i:Nat)(e:Int)(d:Int)(u:Tok)(h:Lr)(hi:i<=z.R.length) :
 CT prog 120 [ptV z.bp,.int .i64 d,I6 u] (rdR z i e::h) m (λ_ _ h'=>∃i' e',Onl z.R d u.kind u.text e i i' e'/\h'=rdR z i' e'::h):=by
 refine cB [0,1,5,6] func120 λ_=>?_;refine xX λb5=>?_
 refine ZZ [0,2] ?_;refine WL.take (r:=rdR z i e) De ?_;refine xg (E2 Et Et) (a3V hz i e _ _) ?_;rintro _ _ ⟨b9,a9,u9,r9,w9,e9,R9,hM9,hk9,rfl,rfl⟩;have hn9:=a9D hM9;refine ZZ [1,2] ?_;refine WL.take (r:=tqR b9 a9 r9.length u9 w9) De ?_;refine xg (E2 Et Et) (L4 b9 a9 u9 r9 w9 _ _ _ hk9 Sb) ?_;rintro _ _ ⟨a12,u12,r12,w12,rfl,hM12,hk12,rfl⟩;refine ZZ [0,2] ?_;refine pP (rdR z i e9) (tqR b9 a12 r12.length u12 w12) ?_;refine xg (E2 Et Et) (J6 hz i e9 b9 a12 u12 r12 w12 _ (by omega) (by assumption)) ?_;rintro _ _ ⟨i15,e15,hM15,rfl⟩;refine WL.nil (w0 (rdR z i15 e15::h) ?_);exact⟨i15,e15,⟨⟨_,_,_,_,_,hM9,hM12,hM15⟩,V6 hM15 hn9 hi⟩,rfl⟩
abbrev RdY{α:Type}(m:View)(z:Pz)(f:FuncId)(args:Lv)(i:Nat)(e:Int)(h0 h:Lr)(M:PE α)(O:α->Value->Lr->Prop):Prop:=
 CT prog f args (rdR z i e::h0) m (λv _ h'=>∃(x:α)(i':Nat)(e':Int)(bl:Lr),(RO M e i x i' e'/\(i<=i'/\i'<=z.R.length))/\O x v bl/\h'=rdR z i' e'::(bl++h))
abbrev RdX{α:Type}(m:View)(z:Pz)(f:FuncId)(args:Lv)(i:Nat)(e:Int)(h0 h:Lr)(M:PE α)(O:α->Value->Lr->Prop):Prop:=
 CT prog f args (rdR z i e::h0) m (λv _ h'=>∃(x:α)(i':Nat)(e':Int)(bl:Lr),(RO M e i x i' e'/\(i<=i'/\i'<=z.R.length)/\(e'=0->i<i'))/\O x v bl/\h'=rdR z i' e'::(bl++h))
def a3x(m:View)(z:Pz)(n:Nat):Prop:=∀(i:Nat)(e:Int)(d:Int)(top:Bool)(h:Lr),i<=z.R.length->(z.R.length<=i+n\/e≠0)->0<=d/\d<=34 ->
 RdX m z 12 [ptV z.bp,.int .i64 d,.bool top] i e h h (A4 z.R n d top i) (OP m)
abbrev OPs(m:View)(x:List Pr)(v:Value)(bl:Lr):Prop:=∃a c l,v=.slice a l.length c/\l.map stP=x/\Ls m bl a c l
theorem b9A{m:View}{z:Pz}(hz:Pok m z){n:Nat}(hrec:a3x m z n)(d:Int)(i:Nat)(e:Int)(h:Lr)(hi:i<=z.R.length)(hf:z.R.length<=i+n\/e≠0)(hd:0<=d/\d<=34) :
 RdY m z 130 [ptV z.bp,.int .i64 d] i e h h (a0i z.R (A4 z.R n) d (z.R.length-i) [] i) (OPs m):=by
 have hR:=hz.ok.1;refine cB [0,1,4,5,8] func130 λ_=>?_;refine Z1 ?_;refine WL.addNil 46 42 ?_;refine kA1 ?_;refine WL.perm (qF _ _ _) ?_;refine Z0 ?_
 refine lI [0,1] (λμ F' h'=>∃a9:Oa,∃c9:Nat,∃l:List Pr,∃bl:Lr,∃k:Nat,∃j:Nat,∃ej:Int,∃q:Nat,(((i<=j/\j<=z.R.length)/\l.length+i<=j+1/\(ej=0->l.length+i<=j/\z.R.length<=j+k/\z.R.length<=j+n/\k+1<=q))/\(∀x∈l,POk m bl x)/\∀x i2 e2,RO (a0i z.R (A4 z.R n) d k (l.map stP) j) ej j x i2 e2->RO (a0i z.R (A4 z.R n) d (z.R.length-i) [] i) e i x i2 e2)/\q=μ/\F'=[(5,.slice a9 l.length c9)]/\rdR z j ej::.row (.slice a9 l.length c9) 46 42 l.length (fl prE l)::(bl++h)=h') ((z.R.length-i+1)) [(5,.slice none ([]).length 0)] (rdR z i e::.row (.slice none ([]).length 0) 46 42 ([]).length (fl prE ([]))::(([])++h)) ⟨none,0,[],[],z.R.length-i,i,e,z.R.length-i+1,⟨⟨⟨qz _,hi⟩,by simp,λq=>⟨by simp,by omega,hf.elim id λw=>absurd q w,qz _⟩⟩,λ_ q=>(qn q).elim,λ_ _ _ q=>q⟩,rfl,rfl,rfl⟩ ?_
 rintro _ _ _ ⟨a9,c9,l,bl,k,j,ej,q,⟨⟨⟨hij,hjR⟩,hl1,hl0⟩,hP,hJ⟩,rfl,rfl,rfl⟩;refine A9 rfl ?_;refine kA2 ?_;refine xf (E2 Et Et) (a3K hz j ej _ _ Me) ?_;refine y0 ?_ ?_<;>intro c8
 have d8:((ej==0)&&H6 z.R d j)=true:=c8;rw[qa]at d8;have hej:ej=0:=eq_of_beq d8.1;obtain⟨hl2,hk,hn,hkq⟩:=hl0 hej;refine ZZ [0,3] ?_;refine WL.take (r:=rdR z j ej) De ?_;refine xg (E3 Et Et Ek) (hrec j ej _ _ _ (by omega) (.inl hn) (by omega)) ?_;rintro _ _ ⟨x12,i12,e12,bl12,hM12,⟨p12,rfl,rfl,hP12⟩,rfl⟩;refine mP ?_;have hln:(l++[p12]).length=l.length+1:=qh;have hm2:(l++[p12]).map stP=l.map stP++[stP p12]:=by rw[qZ,zj]
 obtain⟨hM12,⟨hj1,hj2⟩,hj3⟩:=hM12;refine xY U0 Eb λb13=>?_;refine xD U0 (Ev.tmp rfl) (Ev.tmp rfl) (show l.length+1=(l++[p12]).length by simp) (D9 (enc:=prE) _ (p12)) λa14 c14=>?_
 refine kA1 ?_;rw[<-qj bl12 bl h];exact WL.nil (lN ((q-1)) [(5,.slice a14 (l++[p12]).length c14)] (rdR z i12 e12::.row (.slice a14 (l++[p12]).length c14) 46 42 (l++[p12]).length (fl prE (l++[p12]))::((bl12++bl)++h)) ⟨a14,c14,l++[p12],bl12++bl,k-1,i12,e12,q-1,⟨⟨⟨by omega,hj2⟩,by omega,λw=>by have:=hj3 w;exact⟨by omega,by omega,by omega,by omega⟩⟩,J1 (λy hy=>(hP y hy).mono (qc _ _)) (hP12.mono (qg _ _)),λx i2 e2 w=>hJ _ _ _ (by rw[b4Z hk d8.2];rw[hm2]at w;exact Y6 hM12 w)⟩,rfl,rfl,rfl⟩);have d8:((ej==0)&&H6 z.R d j)=false:=c8;have hE:RO (a0i z.R (A4 z.R n) d (z.R.length-i) [] i) e i (l.map stP) j ej:=hJ _ _ _ (by
  by_cases hej:ej=0
  ·rw[hej,zI,qG]at d8
   rw[b0d d8];exact V2 _ _ _
  ·exact a1J _ hej _ _)
 refine H4 (a:=a9) Me λp9 q9 r9=>?_;refine ZZ [0,2,0] ?_;refine wT (rdR z j ej::.row (.slice a9 l.length c9) 46 42 l.length (fl prE l)::(bl++h)) ?_;exact⟨l.map stP,j,ej,.row (.slice a9 l.length c9) 46 42 l.length (fl prE l)::bl,⟨hE,hij,hjR⟩,⟨a9,c9,l,rfl,rfl,Rd.inRow (qm _) r9 p9 q9,λx hx=>(hP x hx).mono (qo _ _)⟩,rfl⟩
theorem b6a{m:View}{z:Pz}(hz:Pok m z){n:Nat}(hrec:a3x m z n)(p:Rp)(d:Int)(i:Nat)(e:Int)(h:Lr)(hi:i<=z.R.length)(hf:z.R.length<=i+n\/e≠0)(hd:0<=d/\d<=34) :
 RdY m z 67 [ptV z.bp,.int .i64 d,rpV p] i e h h (if p.name≠[]then J8 (A4 z.R n d false i) λx i=>.ok ([x],i)else a0i z.R (A4 z.R n) d (z.R.length-i) [] i) (OPs m):=by
 have hR:=hz.ok.1;refine cB [0,1,5,6,9] func67 λ_=>?_;refine xX λb5=>?_
 refine ZZ [1,2] ?_;refine xG (P2 Et Ek) ?_;refine y0 ?_ ?_<;>intro c9
 have d9:p.name≠[]:=by simpa using c9
 rw[if_pos d9];refine kA2 ?_;refine WL.take (r:=rdR z i e) De ?_;refine xg (E3 Et Et Ek) (hrec i e _ _ _ hi hf hd) ?_;rintro _ _ ⟨x12,i12,e12,bl12,hM12,⟨p12,rfl,rfl,hP12⟩,rfl⟩;refine mP ?_;refine xY U0 Eb λb13=>?_;refine WL.perm (Mv.perm (bl:=[_])) ?_;refine Z1 ?_;refine wT (rdR z i12 e12::(prR b13 p12::(bl12++h))) ?_;exact⟨[stP p12],i12,e12,prR b13 p12::bl12,⟨Y6 hM12.1 (V2 _ _ _),hM12.2.1⟩,⟨some ⟨b13,0,none⟩,1,[p12],rfl,rfl,Rd.ofPt rfl (by show 1<=_;decide) (qm _),K5 (hP12.mono (qo _ _))⟩,rfl⟩;have d9:¬p.name≠[]:=by simpa using c9
 rw[if_neg d9];refine ZZ [0,2] ?_;refine WL.take (r:=rdR z i e) De ?_;refine xg (E2 Et Et) (b9A hz hrec _ i e _ (by omega) (by assumption) (by omega)) ?_;rintro _ _ ⟨x16,i16,e16,bl16,hM16,⟨a16x,c16x,l16,rfl,rfl,hL16⟩,rfl⟩;refine mP ?_;refine Z1 ?_;refine wT (rdR z i16 e16::(bl16++h)) ?_;exact⟨_,i16,e16,bl16,⟨by first|exact hM16.1|(rw[if_neg d9];exact hM16.1),hM16.2⟩,⟨_,_,_,rfl,rfl,hL16⟩,rfl⟩
theorem a5j{R:List Rw}{d e e1:Int}{i:Nat}{ts:Lt}{b1:Bool}(h:Opn R d e i ts b1 e1)(h1:e1=0):e=0:=zA λw=>w ((h.1 w).1▸h1)
theorem a4o{e e1:Int}{i i1:Nat}{ts:Lt}{b:Bool}(k:Tak e i b ts i1 e1)(h1:e1=0):e=0/\i1=i+1:=by
 have he:e=0:=zA λw=>w ((k.1 w).1▸h1)
 have h2:=k.2 he;by_cases hb:b=true\/ts≠[]
 ·rw[if_pos hb]at h2;rw[h2.1]at h1;cases h1
 ·rw[if_neg hb]at h2;exact⟨he,h2.2⟩
theorem c5i(k:Nat)(ts:Lt):Er (a3I k ts):=by
 unfold a3I;split
 ·exact c3F ts
 ·split
  ·exact b6q ts
  ·split
   ·exact c1D ts
   ·exact c0q ts
theorem a5l{m:View}{z:Pz}(hz:Pok m z){n:Nat}(hrec:a3x m z n)(d:Int)(least most kd:Nat)(i:Nat)(e:Int)(h:Lr)(hi:i<=z.R.length)(hf:z.R.length<=i+n+1\/e≠0)(hd:0<=d/\d<=33) :
 RdY m z 69 [ptV z.bp,.int .i64 d,.int .i64 least,.int .i64 most,.int .i64 kd] i e h h (U6 z.R (A4 z.R n) (a3I kd) least most d i) (OGs m):=by
 have hR:=hz.ok.1;refine cB [0,1,2,3,4,10,11,12,13,28,52] func69 λ_=>?_;refine Z1 ?_;refine WL.addNil 93 23 ?_;refine kA1 ?_;refine WL.perm (qF _ _ _) ?_;refine Z0 ?_
 refine lI [0,1,2,3,4] (λμ F' h'=>∃a9:Oa,∃c9:Nat,∃l:List Gu,∃bl:Lr,∃k:Nat,∃j:Nat,∃ej:Int,∃q:Nat,(((i<=j/\j<=z.R.length)/\l.length+i<=j+1/\(ej=0->l.length+i<=j/\z.R.length<=j+k/\z.R.length<=j+n+1/\k+1<=q))/\((∀g∈l,GOk m bl g)/\∀g∈l,∀x∈g.bl,POk m bl x)/\∀x i2 e2,RO (X7 z.R (A4 z.R n) (a3I kd) least most d k (l.map stG) j) ej j x i2 e2->RO (U6 z.R (A4 z.R n) (a3I kd) least most d i) e i x i2 e2)/\q=μ/\F'=[(11,.slice a9 l.length c9)]/\rdR z j ej::.row (.slice a9 l.length c9) 93 23 l.length (fl guE l)::(bl++h)=h') ((z.R.length-i+1)) [(11,.slice none ([]).length 0)] (rdR z i e::.row (.slice none ([]).length 0) 93 23 ([]).length (fl guE ([]))::(([])++h)) ⟨none,0,[],[],z.R.length-i,i,e,z.R.length-i+1,⟨⟨⟨qz _,hi⟩,by simp,λq=>⟨by simp,by omega,hf.elim id λw=>absurd q w,qz _⟩⟩,⟨λ_ q=>(qn q).elim,λ_ q=>(qn q).elim⟩,λ_ _ _ q=>q⟩,rfl,rfl,rfl⟩ ?_
 rintro _ _ _ ⟨a9,c9,l,bl,k,j,ej,q,⟨⟨⟨hij,hjR⟩,hl1,hl0⟩,⟨hG,hS⟩,hJ⟩,rfl,rfl,rfl⟩;refine A9 rfl ?_;refine kA7 ?_;refine A3 (GU.f rfl rfl) (λhc=>⟨Ef,(E2 (Eg hc) (Eg hc)),a3K hz j ej d _ Me⟩) Lb ?_;refine kA5 ?_;refine zG (λhc=>N3 hc rfl rfl) ?_;refine y1 ?_ ?_<;>intro c28
 have hlm:(l.map stG).length=l.length:=qP _;have hc:(l.map stG).length<least\/((l.map stG).length<most/\H6 z.R d j=true):=by simp only[qv,qa,qw]at c28;rw[hlm];exact c28.imp (λq=>by omega) λq=>⟨by omega,q.1.2⟩
 refine ZZ [0,2] ?_;refine WL.take (r:=rdR z j ej) De ?_;refine xg (E2 Et Et) (a3V hz j ej _ _) ?_;rintro _ _ ⟨b31,a31,u31,r31,w31,e31,R31,hM31,hk31,rfl,rfl⟩;have hn31:=a9D hM31;refine ZZ [1,2] ?_;refine WL.take (r:=tqR b31 a31 r31.length u31 w31) De ?_;refine xg (E2 Et Et) (b1c kd b31 a31 u31 r31 w31 _ _ hk31 Sb) ?_;rintro _ _ ⟨x34,r34,a34,u34,w34,bl34,hM34,⟨g34,rfl,rfl,hG34⟩,hk34,rfl⟩;refine mP ?_;refine xW λb13=>?_;refine ZZ [1,2] ?_;refine pP (rdR z j e31) (tqR b31 a34 r34.length u34 w34) ?_;refine xg (E2 Et Et) (J6 hz j e31 b31 a34 u34 r34 w34 _ (by omega) (by assumption)) ?_;rintro _ _ ⟨i37,e37,hM37,rfl⟩;obtain⟨⟨hi1,hi2⟩,hi3⟩:=V6 hM37 hn31 hjR;have hfu:z.R.length<=i37+n\/e37≠0:=by
  by_cases w:e37=0
  ·have w1:=a4o hM37 w
   have w2:=hl0 (a5j hM31 w1.1);exact .inl (by omega)
  ·exact .inr w
 refine ZZ [0,3] ?_;refine WL.take (r:=rdR z i37 e37) De ?_;refine xg (E3 Et Et Ek) (hrec i37 e37 _ _ _ (by omega) hfu (by omega)) ?_;rintro _ _ ⟨x41,i41,e41,bl41,hM41,⟨p41,rfl,rfl,hP41⟩,rfl⟩;refine mP ?_;refine xY U0 Eb λb42=>?_;refine WL.perm (Mv.perm (bl:=[_])) ?_;refine ZZ [2,2] ?_;refine xY c1N Eb λb46=>?_
 have hln:(l++[a0Q g34 b42 p41]).length=l.length+1:=qh;refine xD c1N (Ev.tmp rfl) (Ev.tmp rfl) (show l.length+1=(l++[a0Q g34 b42 p41]).length by simp) (D9 (enc:=guE) _ (a0Q g34 b42 p41)) λa47 c47=>?_;refine kA1 ?_;rw[<-qj bl34 bl h,<-qj bl41];have s1:bl.Sublist (prR b42 p41::(bl41++(bl34++bl))):=(b1o bl41 bl34 bl).cons _;have s2:(prR b42 p41::bl34).Sublist (prR b42 p41::(bl41++(bl34++bl))):=(b1U bl41 bl34 bl).cons_cons _;have s3:bl41.Sublist (prR b42 p41::(bl41++(bl34++bl))):=(qg _ _).cons _;have hm2:(l++[a0Q g34 b42 p41]).map stG=l.map stG++[a8V (stG g34) (stP p41)]:=by rw[qZ,zj,b4L]
 obtain⟨hM41,⟨hj1,hj2⟩,hj3⟩:=hM41;have hgo:∀x i2 e2,RO (X7 z.R (A4 z.R n) (a3I kd) least most d (k-1) (l.map stG++[a8V (stG g34) (stP p41)]) i41) e41 i41 x i2 e2->RO (U6 z.R (A4 z.R n) (a3I kd) least most d i) e i x i2 e2:=λx i2 e2 w=>hJ _ _ _ (by
  have hC:=a5U (f:=λts=>F2 (a3I kd ts) j λg r=>D4 r j λi=>J8 (A4 z.R n (d+1) false i) λx i=>X7 z.R (A4 z.R n) (a3I kd) least most d (k-1) (l.map stG++[a8V g x]) i) hM31 (I4 (c5i kd _) hM34 (O9 hM37 (Y6 hM41 w)));by_cases hej:ej=0
  ·rw[b1z (hl0 hej).2.1 hc];exact hC
  ·exact a7X hC hej)
 refine ZZ [0,5,0] ?_;refine wN ?_ ?_<;>intro c52
 refine Z1 ?_;refine wT (rdR z i41 e41::h) ?_;exact⟨[],i41,e41,[],⟨hgo _ _ _ (a1J _ c52 _ _),by omega,hj2⟩,⟨none,0,[],rfl,rfl,T8 _ _⟩,rfl⟩;have he41:e41=0:=c52;have w1:=a4o hM37 (hM41.1 he41).1;have w2:=hl0 (a5j hM31 w1.1);have w3:=hj3 he41;exact WC.skip (lN ((q-1)) [(11,.slice a47 (l++[a0Q g34 b42 p41]).length c47)] (rdR z i41 e41::.row (.slice a47 (l++[a0Q g34 b42 p41]).length c47) 93 23 (l++[a0Q g34 b42 p41]).length (fl guE (l++[a0Q g34 b42 p41]))::((prR b42 p41::(bl41++(bl34++bl)))++h)) ⟨a47,c47,l++[a0Q g34 b42 p41],prR b42 p41::(bl41++(bl34++bl)),k-1,i41,e41,q-1,⟨⟨⟨by omega,hj2⟩,by omega,λ_=>⟨by omega,by omega,by omega,by omega⟩⟩,⟨J1 (λy hy=>(hG y hy).mono s1) ((b4h hG34).mono s2),J1 (λy hy x hx=>(hS y hy x hx).mono s1) (λx hx=>(qy.1 (show x∈[p41] from hx))▸hP41.mono s3)⟩,λx i2 e2 w=>hgo x i2 e2 (hm2▸w)⟩,rfl,rfl,rfl⟩)
 have hlm:(l.map stG).length=l.length:=qP _;have hE:RO (U6 z.R (A4 z.R n) (a3I kd) least most d i) e i (l.map stG) j ej:=hJ _ _ _ (by
  by_cases hej:ej=0
  ·have hc:¬((l.map stG).length<least\/((l.map stG).length<most/\H6 z.R d j=true)):=λq=>by
    rw[hlm]at q;have:(decide ((l.length:Int)<least)||(((ej==0)&&H6 z.R d j)&&decide ((l.length:Int)<most)))=true:=by simp only[qv,qa,qw];exact q.imp (λq=>by omega) λq=>⟨⟨by rw[hej];rfl,q.2⟩,by omega⟩
    rw[this]at c28;cases c28
   rw[a8i hc];exact V2 _ _ _
  ·exact a1J _ hej _ _)
 refine H4 (a:=a9) Me λp9 q9 r9=>?_;refine ZZ [0,2,0] ?_;refine wT (rdR z j ej::.row (.slice a9 l.length c9) 93 23 l.length (fl guE l)::(bl++h)) ?_;exact⟨l.map stG,j,ej,.row (.slice a9 l.length c9) 93 23 l.length (fl guE l)::bl,⟨hE,hij,hjR⟩,⟨a9,c9,l,rfl,rfl,Rd.inRow (qm _) r9 p9 q9,λg hg=>(hG g hg).mono (qo _ _),λg hg x hx=>(hS g hg x hx).mono (qo _ _)⟩,rfl⟩
end
end Go.Proofs.YtgcjpahhljmlmaaGreatDoor
namespace Go.Sx
section
open Go.Eng Go.Pc Go
open Go.Xp hiding B E8
open Go.Ty (Ty Vr Tok)
variable {β:Type}
theorem c6n(ts:Lt):Er (b6A ts):=S7 (b65 ts) λ_ _=>a0W X8 a5b
theorem b7b(ts:Lt)(i:Nat)(f:Rp->Nat->PE β):(F2 (a8A ts) i λp r=>D4 r i λi=>f p i)=F2 (b6A ts) i λp r=>D4 r i λi=>f p i:=by
 unfold b6A;cases hr:a8A ts with
 |error e=>rfl
 |ok x=>
  obtain⟨p,r⟩:=x;cases he:r.isEmpty with
  |true=>have h1:I3 (.ok (p,r):E Rp) (λp r=>if r.isEmpty=true then(.ok (p,r):E Rp)else .error 110)=.ok (p,r):=if_pos he;rw[h1]
  |false=>have h1:I3 (.ok (p,r):E Rp) (λp r=>if r.isEmpty=true then(.ok (p,r):E Rp)else .error 110)=.error 110:=if_neg (by rw[he];decide);rw[h1];show D4 r i _=.error (110,i);unfold D4;rw[if_neg (by rw[he];decide)]
theorem c2e{ts r:Lt}{f:Rp->Nat->PE β}{e e1 e2:Int}{i i1 i2:Nat}{bad b1:Bool}{p:Rp}{y:β}(h:TO (b6A ts) bad p r b1)(k:Tak e i b1 r i1 e1)(q:RO (f p i1) e1 i1 y i2 e2) :
 RB (F2 (a8A ts) i λp r=>D4 r i λi=>f p i) e i bad y i2 e2:=by
 rw[b7b];exact I4 (f:=λp r=>D4 r i λi=>f p i) (c6n ts) h (O9 k q)
end
end Go.Sx
namespace Go.Proofs.YtgcjpahhljmlmaaGreatDoor
open Go.Proofs.Tryz
section
open Go.Eng Go.Pc Go.Sx Go
open Go.Xp hiding B E8
open Go.Ty (Ty Vr Tok eqT tyV E9 B1 A7 I6 zeroK)
open Go.Lx (encB C0 lexO)
open Go.Ly (Rw K7 C6)
theorem b3d(r:Rp)(h:Lr)(m:View):CT prog 131 [rpV r] h m (A5 h (.tuple #[.int .i64 ((if r.name≠[]then 1 else 0:Nat):Int),.int .i64 ((if r.name≠[]then 1 else 16:Nat):Int)])):=
 CT.val (b5r r h m) (by split<;>rfl)
theorem a4x{m:View}{z:Pz}(hz:Pok m z){n:Nat}(hrec:a3x m z n)(kd:Nat)(k:Int)(bp:Nat)(d:Int)(i:Nat)(e:Int)(b:Nat)(a:Oa)(c:Nat)(ts:Lt)(bad:Bool)(h hT:Lr)(hk:Tk3 m hT a c ts)(hs:hT.Sublist h)(hi:i<=z.R.length)(hf:z.R.length<=i+n+1\/e≠0)(hd:0<=d/\d<=32)
 (hn:e=0->∃x,z.R[i]?=some x/\(lexO x.text).2.2=0) :
 CT prog 68 [ptV z.bp,.int .i64 d,ptV b,ptV bp,.int .i64 kd] (rdR z i e::tqR b a ts.length c bad::prR bp (p0 k [] A0 A2 A2 B0)::h) m
  (λ_ _ h'=>∃(p:Rp)(ga:Oa)(gc:Nat)(gl:List Gu)(bl:Lr)(i':Nat)(e':Int),RB (a0B z.R (A4 z.R n) k (a3I kd) d ts i) e i bad (prM k [] A0 [] [] (stR p) (gl.map stG) [] [] B4) i' e'/\((i<=i'/\i'<=z.R.length)/\(e'=0->i<i'))/\(Rs m bl p/\Gs m bl ga gc gl)/\h'=rdR z i' e'::prR bp (.mk k [] A0 A2 A2 p ga gc gl none 0 [] A2 B4)::(bl++h)):=by
 have hR:=hz.ok.1;refine cB [0,1,2,3,4,10,11] func68 λ_=>?_;refine kA2 ?_;refine WL.take (r:=tqR b a ts.length c bad) De ?_;refine xg (E1 Et) (b4i b a c ts bad _ _ hk (hs.trans Sb)) ?_;rintro _ _ ⟨x14,r14,a14,u14,w14,bl14,hM14,⟨p14,rfl,rfl,hn14,hu14,hv14⟩,hk14,rfl⟩;refine mP ?_;refine ZZ [3,2] ?_;refine pP (rdR z i e) (tqR b a14 r14.length u14 w14) ?_;refine xg (E2 Et Et) (J6 hz i e b a14 u14 r14 w14 _ (by omega) (by assumption)) ?_;rintro _ _ ⟨i19,e19,hM19,rfl⟩;obtain⟨⟨hi1,hi2⟩,hi3⟩:=V6 hM19 hn hi;have hf2:z.R.length<=i19+n+1\/e19≠0:=by
  by_cases w:e19=0
  ·have w1:=a4o hM19 w
   have w2:=hf.elim id λv=>absurd w1.1 v
   exact .inl (by omega)
  ·exact .inr w
 refine ZZ [0,4] ?_;refine xf (E1 Et) (b3d p14 _ _) ?_;refine ZZ [5,7] ?_;refine WL.take (r:=rdR z i19 e19) De ?_;refine F9 Ef (Evs.cons Et (Evs.cons Et (Evs.cons Et (Evs.cons Et (Evs.cons Et Evs.nil))))) (a5l hz hrec _ (if p14.name≠[]then 1 else 0) (if p14.name≠[]then 1 else 16) kd i19 e19 _ (by omega) hf2 (by omega)) Lb ?_;rintro _ _ ⟨x35,i35,e35,bl35,hM35,⟨q35,v35,l35,rfl,rfl,hG35⟩,rfl⟩;refine mP ?_;refine kA3 ?_;refine WL.nil (w0 (rdR z i35 e35::prR bp (.mk k [] A0 A2 A2 p14 q35 v35 l35 none 0 [] A2 B4)::(bl35++(bl14++h))) ?_)
 exact⟨p14,q35,v35,l35,bl35++bl14,i35,e35,c2e hM14 hM19 (Y6 hM35.1 (V2 _ _ _)),⟨⟨by omega,hM35.2.2⟩,λw=>by have:=hi3 ((hM35.1.1 w).1);have:=hM35.2.1;omega⟩,⟨(Rs.mono (h:=bl14) ⟨hn14,hu14,hv14⟩ (qc _ _)),⟨hG35.rd.mono Vl (qg _ _),λg hg=>(hG35.ok g hg).mono (qg _ _),λg hg x hx=>(hG35.sub g hg x hx).mono (qg _ _)⟩⟩,by rw[qj]⟩
end
end Go.Proofs.YtgcjpahhljmlmaaGreatDoor
namespace Go.Sx
section
open Go.Eng Go.Pc Go
open Go.Xp hiding B E8
open Go.Ty (Ty Vr Tok)
variable {β:Type}
theorem b9H{F:Int->Nat->PE β}{t:Tok}{rt:Lt}{i:Nat}(h:t.kind=3/\0<=t.n/\t.n<=7):(match a4Y (t::rt)with|some n=>F n (i+1)|none=>.error (110,i))=D4 rt i (F t.n):=by
 cases rt with
 |nil=>have hp:a4Y [t]=some t.n:=if_pos ⟨h.1,h.2.1,by omega⟩;rw[hp];rfl
 |cons x r=>rfl
theorem c1r{r:Lt}(h:r.length=0\/(r.getD 0 Go.Ty.zeroK).kind≠3\/(r.getD 0 Go.Ty.zeroK).n<0\/(r.getD 0 Go.Ty.zeroK).n>7):a4Y r=none:=by
 match r,h with
 | [],_=>rfl
 | [t],h=>
  have h:[t].length=0\/t.kind≠3\/t.n<0\/t.n>7:=h;exact if_neg λq=>by
   rcases h with h|h|h|h
   ·cases h
   ·exact h q.1
   ·have:=q.2.1;omega
   ·have:=q.2.2;omega
 |_::_::_,_=>rfl
theorem b7g{M:PE β}{e e1:Int}{i i1:Nat}{bad:Bool}{r:Lt}{y:β}(h:bad=true\/M=.error (110,i))(k:Tak e i true r i1 e1):RB M e i bad y i1 e1:=by
 by_cases he:e=0
 ·have h2:=k.2 he
  rw[if_pos (.inl rfl)]at h2;obtain⟨rfl,rfl⟩:=h2;refine⟨λq=>(by cases q),λ_=>?_⟩;cases hb:bad with
  |true=>exact .inr (.inl ⟨he,rfl,rfl,rfl⟩)
  |false=>
   rcases h with h|h
   ·rw[hb]at h;cases h
   ·exact .inr (.inr ⟨⟨he,rfl⟩,h⟩)
 ·obtain⟨rfl,rfl⟩:=k.1 he
  exact⟨λq=>absurd q he,λ_=>.inl ⟨he,rfl,rfl⟩⟩
theorem c5J{F:Int->Nat->PE β}{t:Tok}{rt:Lt}{e e1 e2:Int}{i i1 i2:Nat}{bad:Bool}{y:β}(h:t.kind=3/\0<=t.n/\t.n<=7)(k:Tak e i bad rt i1 e1)(q:RO (F t.n i1) e1 i1 y i2 e2) :
 RB (match a4Y (t::rt)with|some n=>F n (i+1)|none=>.error (110,i)) e i bad y i2 e2:=by
 rw[b9H h];exact O9 k q
end
end Go.Sx
namespace Go.Proofs.YtgcjpahhljmlmaaGreatDoor
open Go.Proofs.Tryz
section
open Go.Eng Go.Pc Go.Sx Go
open Go.Xp hiding B E8
open Go.Ty (Ty Vr Tok eqT tyV E9 B1 A7 I6 zeroK)
open Go.Lx (encB C0 lexO)
open Go.Ly (Rw K7 C6)
theorem c2j{n:Nat}{b b2:Bool}(h:(!((b||((n:Int)==0))||b2))=true):0<n:=by
 cases b<;>cases b2<;>simp at h
 omega
theorem c2C{n:Nat}{b b2 b3:Bool}(h:(!(((b||((n:Int)==0))||b2)||b3))=true):0<n:=by
 cases b<;>cases b2<;>cases b3<;>simp at h
 omega
theorem c4Q{b:Bool}{n:Nat}{k v:Int}(h:((((b||((n:Int)==0))||(k !=3))||decide (v<0))||decide (v>7))=false):b=false/\0<n/\k=3/\0<=v/\v<=7:=by
 cases b<;>simp at h
 exact⟨rfl,by omega,by omega,by omega,by omega⟩
theorem c7R{b:Bool}{n:Nat}{k v:Int}(h:((((b||((n:Int)==0))||(k !=3))||decide (v<0))||decide (v>7))=true):b=true\/(n=0\/k≠3\/v<0\/v>7):=by
 cases b
 ·refine .inr ?_
  simp at h;omega
 ·exact .inl rfl
abbrev OPl(m:View)(x:List Int×List Pr)(v:Value)(bl:Lr):Prop:=∃a c l an cn ns,v=.tuple #[.slice a l.length c,.slice an ns.length cn]/\x=(ns,l.map stP)/\Ls m bl a c l/\Ns m bl ⟨an,cn,ns⟩
theorem b3w{m:View}{z:Pz}(hz:Pok m z){n:Nat}(hrec:a3x m z n)(d:Int)(i:Nat)(e:Int)(h:Lr)(hi:i<=z.R.length)(hf:z.R.length<=i+n+1\/e≠0)(hd:0<=d/\d<=32) :
 RdY m z 70 [ptV z.bp,.int .i64 (d+1)] i e h h (O8 z.R (A4 z.R n) d (z.R.length-i) [] [] i) (OPl m):=by
 have hR:=hz.ok.1;refine cB [0,1,4,5,6,7,8,21,106] func70 λ_=>?_;refine Z2 ?_;refine WL.addNil 46 42 ?_;refine Z1 ?_;refine WL.addNil 3 1 ?_;refine kA1 ?_;refine pD (rdR z i e) ?_;refine Z0 ?_
 refine lI [0,1] (λμ F' h'=>∃a9:Oa,∃c9:Nat,∃l:List Pr,∃an:Oa,∃cn:Nat,∃ns:List Int,∃bl:Lr,∃k:Nat,∃j:Nat,∃ej:Int,∃q:Nat,(((i<=j/\j<=z.R.length)/\l.length+i<=j+1/\(ej=0->l.length+i<=j/\z.R.length<=j+k/\z.R.length<=j+n+1/\k+1<=q))/\((∀x∈l,POk m bl x)/\(∀x∈ns,-9223372036854775808<=x/\x<=9223372036854775807)/\ns.length<=l.length)/\∀x i2 e2,RO (O8 z.R (A4 z.R n) d k ns (l.map stP) j) ej j x i2 e2->RO (O8 z.R (A4 z.R n) d (z.R.length-i) [] [] i) e i x i2 e2)/\q=μ/\F'=[(6,.slice a9 l.length c9),(7,.slice an ns.length cn)]/\rdR z j ej::.row (.slice an ns.length cn) 3 1 ns.length (fl a1x ns)::.row (.slice a9 l.length c9) 46 42 l.length (fl prE l)::(bl++h)=h') ((z.R.length-i+1)) [(6,.slice none ([]).length 0),(7,.slice none ([]).length 0)] (rdR z i e::.row (.slice none ([]).length 0) 3 1 ([]).length (fl a1x ([]))::.row (.slice none ([]).length 0) 46 42 ([]).length (fl prE ([]))::(([])++h)) ⟨none,0,[],none,0,[],[],z.R.length-i,i,e,z.R.length-i+1,⟨⟨⟨qz _,hi⟩,by simp,λq=>⟨by simp,by omega,hf.elim id λw=>absurd q w,qz _⟩⟩,⟨λ_ q=>(qn q).elim,λ_ q=>(qn q).elim,qz _⟩,λ_ _ _ q=>q⟩,rfl,rfl,rfl⟩ ?_
 rintro _ _ _ ⟨a9,c9,l,an,cn,ns,bl,k,j,ej,q,⟨⟨⟨hij,hjR⟩,hl1,hl0⟩,⟨hP,hNs,hnl⟩,hJ⟩,rfl,rfl,rfl⟩;refine A9 rfl ?_;refine kA6 ?_;refine A3 (GU.f rfl rfl) (λhc=>⟨Ef,(E2 (Eg hc) (Eg hc)),a3K hz j ej (d+1) _ Me⟩) Lb ?_;refine kA4 ?_;refine zG (λhc=>N3 hc rfl rfl) ?_;refine y1 ?_ ?_<;>intro c21
 have hlm:(l.map stP).length=l.length:=qP _;have hc:(l.map stP).length=0\/((l.map stP).length<8/\H6 z.R (d+1) j=true):=by simp only[qv,qa,qw,qU]at c21;rw[hlm];exact c21.imp (λq=>by omega) λq=>⟨by omega,q.1.2⟩
 refine ZZ [0,2] ?_;refine WL.take (r:=rdR z j ej) De ?_;refine xg (E2 Et Et) (a3V hz j ej _ _) ?_;rintro _ _ ⟨b24,a24,u24,r24,w24,e24,R24,hM24,hk24,rfl,rfl⟩;have hn24:=a9D hM24;refine ZZ [1,1] ?_;refine xf (E1 Ek) (kyW _ _ _) ?_;refine WL.take (r:=tqR b24 a24 r24.length u24 w24) De ?_;refine xg (E2 Et Et) (L4 b24 a24 u24 r24 w24 _ _ _ hk24 Sb) ?_;rintro _ _ ⟨a27,u27,r27,w27,rfl,hM27,hk27,rfl⟩;refine Z0 ?_;obtain⟨t,ht⟩:∃t,t=r27.getD 0 zeroK:=⟨_,rfl⟩;have hel0:0<r27.length->r27[0]?=some t:=λhq=>by rw[ht,ql,qk hq];rfl
 have hrd:=(hk27.mono (F8 (qm [rdR z j e24]))).k.rd;refine kA6 ?_;refine zG (λhc=>PO.nilCheck (Eg hc)) ?_;refine kA7 ?_;refine zG (λhc=>PO.nilCheck (Eg hc)) ?_;refine kA2 ?_;refine zG (λhc=>D7 B3.und B3.size B3.posz (Eg hc) Ek Rr rfl (q:=0) (a5X hc)) ?_;refine zG (λhc=>D0 C7 rfl (qf rfl) A7 (qu _) Rr (hel0 (a5X hc)) (Eg hc)) ?_;refine zG (λhc=>D2 a2H rfl A7 Rr (Eg hc) (hel0 (a5X hc)) rfl) ?_;refine kA4 ?_;refine zG (λhc=>PO.nilCheck (Eg hc)) ?_;refine kA2 ?_;refine zG (λhc=>D7 B3.und B3.size B3.posz (Eg hc) Ek Rr rfl (q:=0) (c2j hc)) ?_;refine zG (λhc=>D0 C7 rfl (qf rfl) A7 (qu _) Rr (hel0 (c2j hc)) (Eg hc)) ?_;refine zG (λhc=>D2 a0R rfl A7 Rr (Eg hc) (hel0 (c2j hc)) rfl) ?_;refine kA4 ?_;refine zG (λhc=>PO.nilCheck (Eg hc)) ?_;refine kA2 ?_
 refine zG (λhc=>D7 B3.und B3.size B3.posz (Eg hc) Ek Rr rfl (q:=0) (c2C hc)) ?_;refine zG (λhc=>D0 C7 rfl (qf rfl) A7 (qu _) Rr (hel0 (c2C hc)) (Eg hc)) ?_;refine zG (λhc=>D2 a0R rfl A7 Rr (Eg hc) (hel0 (c2C hc)) rfl) ?_;refine kP2 [0,1,6,7,8,69] ?_;refine D6 KKh [0,1,6,8] rfl (λF' h'=>∃an2:Oa,∃cn2:Nat,∃ns2:List Int,∃x:Oa,∃y:Nat,∃r:Lt,∃w:Bool,(Tk3 m [R24] x y r/\((∀x∈ns2,-9223372036854775808<=x/\x<=9223372036854775807)/\ns2.length<=l.length+1)/\((w=true/\(w27=true\/a4Y r27=none))\/(w=w27/\∃t,r27=t::r/\(t.kind=3/\0<=t.n/\t.n<=7)/\ns2=ns++[t.n])))/\F'=[(7,.slice an2 ns2.length cn2)]/\tqR b24 x r.length y w::R24::rdR z j e24::.row (.slice an2 ns2.length cn2) 3 1 ns2.length (fl a1x ns2)::.row (.slice a9 l.length c9) 46 42 l.length (fl prE l)::(bl++h)=h') ?_ ?_;refine jE ?_;refine wc ?_ ?_<;>intro c69
 have d69:=c7R c69;refine kA4 ?_;exact WL.nil (mN [(7,.slice an ns.length cn)] (tqR b24 a27 r27.length u27 true::R24::rdR z j e24::.row (.slice an ns.length cn) 3 1 ns.length (fl a1x ns)::.row (.slice a9 l.length c9) 46 42 l.length (fl prE l)::(bl++h)) ⟨an,cn,ns,a27,u27,r27,true,⟨hk27,⟨hNs,by omega⟩,.inl ⟨rfl,d69.imp id λv=>c1r (ht▸v)⟩⟩,rfl,rfl⟩);have d69:=c4Q c69;have hel:=hel0 d69.2.1;have hne:r27=t::r27.tail:=by
  cases hr:r27 with
  |nil=>rw[hr]at hel;cases hel
  |cons a b=>rw[hr]at hel;cases hel;rfl
 refine kA5 ?_;refine xG (D7 B3.und B3.size B3.posz (Ev.tmp rfl) Ek Rr rfl (q:=0) (by omega)) ?_;refine kA2 ?_;refine xG (PO.conv a0R uu3 Et) ?_;refine WL.val (v':=.int .i64 t.n) (congrArg (Value.int .i64) (Go.Ty.wrapN ⟨by omega,by omega⟩)) ?_;refine xY c1z Eb λb82=>?_;have hln1:(ns++[t.n]).length=ns.length+1:=qh;refine xD c1z (Ev.tmp rfl) (Ev.tmp rfl) (show ns.length+1=(ns++[t.n]).length by simp) (D9 (enc:=a1x) _ (t.n)) λa83 c83=>?_
 refine ZZ [1,5] ?_;refine xG (S4 B3.und B3.size Et Ek (l:=1) rfl (by omega)) ?_;refine kA3 ?_;rw[show r27.length-1=r27.tail.length from zg.symm];exact WL.nil (mN [(7,.slice a83 (ns++[t.n]).length c83)] (tqR b24 ((sl1 a27 1 u27 4)) (r27.tail).length ((u27-1)) w27::R24::rdR z j e24::.row (.slice a83 (ns++[t.n]).length c83) 3 1 (ns++[t.n]).length (fl a1x (ns++[t.n]))::.row (.slice a9 l.length c9) 46 42 l.length (fl prE l)::(bl++h)) ⟨a83,c83,ns++[t.n],(sl1 a27 1 u27 4),(u27-1),r27.tail,w27,⟨hk27.tail d69.2.1,⟨J1 hNs (by omega),by omega⟩,.inr ⟨rfl,t,hne,d69.2.2,rfl⟩⟩,rfl,rfl⟩);rintro _ _ ⟨an2,cn2,ns2,x,y,r,w,⟨hkC,⟨hB2,hL2⟩,hF2⟩,rfl,rfl⟩;refine A9 rfl ?_;refine kA2 ?_;refine pP (rdR z j e24) (tqR b24 x r.length y w) ?_;refine xg (E2 Et Et) (J6 hz j e24 b24 x y r w _ (by omega) (by assumption)) ?_;rintro _ _ ⟨i94,e94,hM94,rfl⟩;obtain⟨⟨hi1,hi2⟩,hi3⟩:=V6 hM94 hn24 hjR
 have hfu:z.R.length<=i94+n\/e94≠0:=by
  by_cases w:e94=0
  ·have w1:=a4o hM94 w
   have w2:=hl0 (a5j hM24 w1.1);exact .inl (by omega)
  ·exact .inr w
 refine ZZ [0,4] ?_;refine WL.val (v':=.int .i64 (d+2)) (congrArg (Value.int .i64) (by omega)) ?_;refine WL.take (r:=rdR z i94 e94) De ?_;refine xg (E3 Et Et Ek) (hrec i94 e94 _ _ _ (by omega) hfu (by omega)) ?_;rintro _ _ ⟨x99,i99,e99,bl99,hM99,⟨p99,rfl,rfl,hP99⟩,rfl⟩;refine mP ?_;refine xY U0 Eb λb100=>?_;have hln:(l++[p99]).length=l.length+1:=qh;refine xD U0 (Ev.tmp rfl) (Ev.tmp rfl) (show l.length+1=(l++[p99]).length by simp) (D9 (enc:=prE) _ (p99)) λa101 c101=>?_
 refine kA1 ?_;rw[<-qj bl99 bl h];have hm2:(l++[p99]).map stP=l.map stP++[stP p99]:=by rw[qZ,zj]
 obtain⟨hM99,⟨hj1,hj2⟩,hj3⟩:=hM99;have hgo:∀y i2 e2,RO (O8 z.R (A4 z.R n) d (k-1) ns2 (l.map stP++[stP p99]) i99) e99 i99 y i2 e2->RO (O8 z.R (A4 z.R n) d (z.R.length-i) [] [] i) e i y i2 e2:=λy i2 e2 q=>hJ _ _ _ (by
  have hB:RB (match a4Y r27 with|some m=>J8 (A4 z.R n (d+2) false (j+1)) λx i=>O8 z.R (A4 z.R n) d (k-1) (ns++[m]) (l.map stP++[x]) i|none=>.error (110,j)) e24 j w27 y i2 e2:=by
   rcases hF2 with⟨hw,hb⟩|⟨hw,t2,hr2,hg2,hn2⟩
   ·rw[hw]at hM94
    have he94:e94≠0:=λw=>by
     have w1:=hM94.2 (a4o hM94 w).1;rw[if_pos (.inl rfl)]at w1;rw[w1.1]at w;cases w
    have h0:e99≠0:=λw=>he94 (hM99.1 w).1
    have h99:e99=e94/\i99=i94:=by
     rcases hM99.2 h0 with w|w
     ·exact⟨w.2.1,w.2.2⟩
     ·exact absurd w.1 he94
    have hq2:e2=e99/\i2=i99:=by
     rcases q.2 (λw=>h0 (q.1 w).1)with w|w
     ·exact⟨w.2.1,w.2.2⟩
     ·exact absurd w.1 h0
    rw[hq2.1,hq2.2,h99.1,h99.2];exact b7g (hb.imp id λw=>by rw[w]) hM94
   ·rw[hw]at hM94
    rw[hn2]at q;rw[hr2];exact c5J (F:=λm i=>J8 (A4 z.R n (d+2) false i) λx i=>O8 z.R (A4 z.R n) d (k-1) (ns++[m]) (l.map stP++[x]) i) hg2 hM94 (Y6 hM99 q)
  have hC:=a5U (f:=λts=>M1 2 [80,82,79,67,69,83,83,79,82] ts j λr=>match a4Y r with|some m=>J8 (A4 z.R n (d+2) false (j+1)) λx i=>O8 z.R (A4 z.R n) d (k-1) (ns++[m]) (l.map stP++[x]) i|none=>.error (110,j)) hM24 (a2l hM27 hB);by_cases hej:ej=0
  ·rw[b1k (hl0 hej).2.1 hc];exact hC
  ·exact a7X hC hej)
 refine ZZ [0,5,0] ?_;refine wN ?_ ?_<;>intro c106
 refine Z2 ?_;refine w2 (rdR z i99 e99::h) ?_;exact⟨([],[]),i99,e99,[],⟨hgo _ _ _ (a1J _ c106 _ _),by omega,hj2⟩,⟨none,0,[],none,0,[],rfl,rfl,a07 _ _,⟨Rd.nilF a1x 1 m _,λ_ q=>(qn q).elim⟩⟩,rfl⟩;have he99:e99=0:=c106;have w1:=a4o hM94 (hM99.1 he99).1;have w2:=hl0 (a5j hM24 w1.1);have w3:=hj3 he99;exact WC.skip (lN ((q-1)) [(6,.slice a101 (l++[p99]).length c101),(7,.slice an2 ns2.length cn2)] (rdR z i99 e99::.row (.slice an2 ns2.length cn2) 3 1 ns2.length (fl a1x ns2)::.row (.slice a101 (l++[p99]).length c101) 46 42 (l++[p99]).length (fl prE (l++[p99]))::((bl99++bl)++h)) ⟨a101,c101,l++[p99],an2,cn2,ns2,bl99++bl,k-1,i99,e99,q-1,⟨⟨⟨by omega,hj2⟩,by omega,λ_=>⟨by omega,by omega,by omega,by omega⟩⟩,⟨J1 (λy hy=>(hP y hy).mono (qc _ _)) (hP99.mono (qg _ _)),hB2,by omega⟩,λx i2 e2 w=>hgo x i2 e2 (hm2▸w)⟩,rfl,rfl,rfl⟩)
 have hlm:(l.map stP).length=l.length:=qP _;have hE:RO (O8 z.R (A4 z.R n) d (z.R.length-i) [] [] i) e i (ns,l.map stP) j ej:=hJ _ _ _ (by
  by_cases hej:ej=0
  ·have hc:¬((l.map stP).length=0\/((l.map stP).length<8/\H6 z.R (d+1) j=true)):=λq=>by
    rw[hlm]at q;have:(((l.length:Int)==0)||(((ej==0)&&H6 z.R (d+1) j)&&decide ((l.length:Int)<8)))=true:=by simp only[qv,qa,qw,qU];exact q.imp (λq=>by omega) λq=>⟨⟨hej,q.2⟩,by omega⟩
    rw[this]at c21;cases c21
   rw[a8j hc];exact V2 _ _ _
  ·exact a1J _ hej _ _)
 refine H4 (a:=a9) Me λp9 q9 r9=>?_;refine H4 (a:=an) Me λp8 q8 r8=>?_
 refine ZZ [0,4,0] ?_;refine w2 (rdR z j ej::.row (.slice an ns.length cn) 3 1 ns.length (fl a1x ns)::.row (.slice a9 l.length c9) 46 42 l.length (fl prE l)::(bl++h)) ?_;exact⟨(ns,l.map stP),j,ej,.row (.slice an ns.length cn) 3 1 ns.length (fl a1x ns)::.row (.slice a9 l.length c9) 46 42 l.length (fl prE l)::bl,⟨hE,hij,hjR⟩,⟨a9,c9,l,an,cn,ns,rfl,rfl,⟨Rd.inRow (.tail _ (qm _)) r9 p9 q9,λx hx=>(hP x hx).mono ((qo _ _).trans (qo _ _))⟩,⟨Rd.inRow (qm _) r8 p8 q8,hNs⟩⟩,rfl⟩
end
end Go.Proofs.YtgcjpahhljmlmaaGreatDoor
namespace Go.Sx
section
open Go.Eng Go.Pc Go
open Go.Xp hiding B E8
open Go.Ty (Ty Vr Tok)
open Go.Ly (Rw)
theorem c1F(R:List Rw)(rec:Int->Bool->Nat->PE Pr)(d:Int)(top:Bool)(ts:Lt)(i:Nat):a1R R rec d top ts i =
 if isM 2 [83,75,73,80] ts=true then b4n 1 ts.tail i else if isM 2 [83,84,79,80] ts=true then b4n 2 ts.tail i
 else if isM 2 [83,69,81] ts=true then a2Q R rec 8 d ts.tail i else if isM 2 [80,65,82] ts=true then a2Q R rec 9 d ts.tail i
 else if isM 2 [80,82,73] ts=true then c4J R rec d ts.tail i else if isM 2 [65,76,84] ts=true then a0B R rec 12 a3D d ts.tail i
 else if isM 2 [73,70] ts=true then a0B R rec 14 ifM d ts.tail i else if isM 2 [67,65,83,69] ts=true then c4I R rec d ts.tail i
 else if isM 2 [87,72,73,76,69] ts=true then b7n rec d ts.tail i else if(top&&isM 2 [80,76,65,67,69,68] ts)=true then a74 R rec d ts.tail i
 else S6 R rec d ts i:=by
 cases ts with
 |nil=>
  have h:S6 R rec d [] i=.error (110,i):=by unfold S6;rw[if_neg (by intro q;cases q.1)];rfl
  cases top<;>exact h.symm
 |cons t r=>
  by_cases hk:t.kind=2
  ·have hi:∀s,isM 2 s (t::r)=(t.text==s):=λs=>by
    show((t.kind==2)&&(t.text==s))=_;rw[hk];rfl
   simp only[hi,qU,qa,zD];show(match a3c R rec t.text with|some f=>if t.kind=2/\(top=true\/t.text≠[80,76,65,67,69,68])then f d r i else S6 R rec d (t::r) i|none=>S6 R rec d (t::r) i)=_;unfold a3c;by_cases h0:t.text=[83,75,73,80]
   ·rw[if_pos h0,if_pos h0];exact if_pos ⟨hk,.inr (by rw[h0];decide)⟩
   rw[if_neg h0,if_neg h0];by_cases h1:t.text=[83,84,79,80]
   ·rw[if_pos h1,if_pos h1];exact if_pos ⟨hk,.inr (by rw[h1];decide)⟩
   rw[if_neg h1,if_neg h1];by_cases h2:t.text=[83,69,81]
   ·rw[if_pos h2,if_pos h2];exact if_pos ⟨hk,.inr (by rw[h2];decide)⟩
   rw[if_neg h2,if_neg h2];by_cases h3:t.text=[80,65,82]
   ·rw[if_pos h3,if_pos h3];exact if_pos ⟨hk,.inr (by rw[h3];decide)⟩
   rw[if_neg h3,if_neg h3];by_cases h4:t.text=[80,82,73]
   ·rw[if_pos h4,if_pos h4];exact if_pos ⟨hk,.inr (by rw[h4];decide)⟩
   rw[if_neg h4,if_neg h4];by_cases h5:t.text=[65,76,84]
   ·rw[if_pos h5,if_pos h5];exact if_pos ⟨hk,.inr (by rw[h5];decide)⟩
   rw[if_neg h5,if_neg h5];by_cases h6:t.text=[73,70]
   ·rw[if_pos h6,if_pos h6];exact if_pos ⟨hk,.inr (by rw[h6];decide)⟩
   rw[if_neg h6,if_neg h6];by_cases h7:t.text=[67,65,83,69]
   ·rw[if_pos h7,if_pos h7];exact if_pos ⟨hk,.inr (by rw[h7];decide)⟩
   rw[if_neg h7,if_neg h7];by_cases h8:t.text=[87,72,73,76,69]
   ·rw[if_pos h8,if_pos h8];exact if_pos ⟨hk,.inr (by rw[h8];decide)⟩
   rw[if_neg h8,if_neg h8];by_cases h9:t.text=[80,76,65,67,69,68]
   ·rw[if_pos h9]
    cases top with
    |true=>rw[if_pos ⟨rfl,h9⟩];exact if_pos ⟨hk,.inl rfl⟩
    |false=>rw[if_neg (λq=>by cases q.1)];exact if_neg (λq=>q.2.elim (λw=>by cases w) λw=>w h9)
   ·rw[if_neg h9,if_neg (λq=>h9 q.2)]
  ·have hi:∀s,isM 2 s (t::r)=false:=λs=>by
    show((t.kind==2)&&(t.text==s))=_;rw[qW.2 hk];rfl
   simp only[hi,zB,qp,if_false];show(match a3c R rec t.text with|some f=>if t.kind=2/\(top=true\/t.text≠[80,76,65,67,69,68])then f d r i else S6 R rec d (t::r) i|none=>S6 R rec d (t::r) i)=_;split
   ·rw[if_neg (λq=>hk q.1)]
   ·rfl
def b5q(r:Lt):E (List Int):=if isM 5 [59] r=true then H1 S1 [59] 8 r.tail else .ok ([],r)
theorem b3G(ts:Lt):W7 ts=I3 (O0 ts) λn r=>I3 (b5q r) λl r=>.ok (vrM n l,r):=by
 unfold W7 b5q;cases O0 ts with
 |error e=>rfl
 |ok p=>obtain⟨n,r⟩:=p;show(if isM 5 [59] r=true then _ else _)=I3 (if isM 5 [59] r=true then _ else _) _;split<;>rfl
def VI(r0:Lt)(bad:Bool)(acc:List Int)(r:Lt)(b:Bool):Prop:=
 (acc=[]/\r=r0/\b=bad)\/(acc≠[]/\isM 5 [59] r0=true/\SvI S1 [59] 8 r0.tail bad acc r b)
theorem c2a(r0:Lt)(bad:Bool):VI r0 bad [] r0 bad:=.inl ⟨rfl,rfl,rfl⟩
theorem c5s{r0 r r2:Lt}{bad b b2:Bool}{acc:List Int}{x:Int}(h:VI r0 bad acc r b)(hm:(isM 5 [59] r&&!b)=true)(k:TO (S1 r.tail) b x r2 b2):VI r0 bad (acc++[x]) r2 b2:=by
 refine .inr ⟨by simp,?_⟩;rcases h with⟨rfl,rfl,rfl⟩|⟨-,h2,h3⟩
 ·rw[qa]at hm
  exact⟨hm.1,a3S (by decide) k⟩
 ·exact⟨h2,a7a h3 hm k⟩
theorem c7k{r0 r:Lt}{bad b:Bool}{acc:List Int}(h:VI r0 bad acc r b)(hm:(isM 5 [59] r&&!b)=false):TO (b5q r0) bad acc r (b||decide (8<acc.length)):=by
 rcases h with⟨rfl,rfl,rfl⟩|⟨-,h2,h3⟩
 ·have hz:(b||decide (8<([]:List Int).length))=b:=by cases b<;>rfl
  rw[hz];unfold b5q;exact b3E hm (a0f _ _ _)
 ·unfold b5q
  rw[if_pos h2];exact a6P h3 hm
theorem a7U{α:Type}(take:Lt->E α)(sep:B):∀(n:Nat)(e:α)(acc:List α)(r:Lt),R6 take sep n (e::acc) r=I3 (R6 take sep n acc r) λl r=>.ok (e::l,r)
 |0,e,acc,r=>by
  unfold R6;split<;>rfl
 |n+1,e,acc,r=>by
  unfold R6;split
  ·cases take r.tail with
   |error w=>rfl
   |ok x=>obtain⟨x,r2⟩:=x;exact a7U take sep n e (acc++[x]) r2
  ·rfl
theorem a2r{k:Int}{s t:B}{r:Lt}(h:isM k s r=true)(hn:s≠t):isM k t r=false:=by
 cases r with
 |nil=>rfl
 |cons x r=>have h1:((x.kind==k)&&(x.text==s))=true:=h;rw[qa]at h1;have h2:x.text=s:=eq_of_beq h1.2;show((x.kind==k)&&(x.text==t))=false;rw[h2,qW.2 hn,zB]
theorem b3J{A B:Ex->Lt->PE Pr}{C:List Ex->Lt->PE Pr}(ts:Lt)(i:Nat) :
 (F2 (H1 C5 [44] 8 ts) i λf r=>if isM 5 [58,61] r=true then C f r.tail else if f.length>1 then .error (110,i)else if isM 5 [33] r=true then A (f.headD A0) r.tail else M1 5 [63] r i λr=>B (f.headD A0) r)
 = F2 (C5 ts) i λe r=>if isM 5 [33] r=true then A e r.tail else if isM 5 [63] r=true then B e r.tail else F2 (if isM 5 [44] r=true then H1 C5 [44] 7 r.tail else .ok ([],r)) i λl r=>M1 5 [58,61] r i λr=>C (e::l) r:=by
 unfold H1;cases he:C5 ts with
 |error w=>rfl
 |ok p=>
  obtain⟨e,r⟩:=p;show(F2 (R6 C5 [44] 7 [e] r) i _)=(if isM 5 [33] r=true then A e r.tail else _);by_cases hc:isM 5 [44] r=true
  ·have h1:=a2r (t:=[33]) hc (by decide)
   have h2:=a2r (t:=[63]) hc (by decide);rw[if_neg (by rw[h1];decide),if_neg (by rw[h2];decide),if_pos hc];have hs:R6 C5 [44] 7 [e] r=I3 (I3 (C5 r.tail) λx r=>R6 C5 [44] 6 [x] r) λl r=>.ok (e::l,r):=by
    conv=>lhs;unfold R6
    rw[if_pos hc];cases C5 r.tail with
    |error w=>rfl
    |ok p=>obtain⟨x,r2⟩:=p;exact a7U C5 [44] 6 e [x] r2
   rw[hs];cases hm:(I3 (C5 r.tail) λx r=>R6 C5 [44] 6 [x] r)with
   |error w=>rfl
   |ok p=>
    obtain⟨l,r3⟩:=p;have hl:l≠[]:=by
     intro q;subst q;cases hx:C5 r.tail with
     |error w=>rw[hx]at hm;cases hm
     |ok p=>
      obtain⟨x,r2⟩:=p;rw[hx]at hm;have hm2:R6 C5 [44] 6 ([]++[x]) r2=.ok ([],r3):=hm;rw[zO,a7U]at hm2;cases hy:R6 C5 [44] 6 [] r2 with
      |error w=>rw[hy]at hm2;cases hm2
      |ok p=>obtain⟨y,r4⟩:=p;rw[hy]at hm2;injection hm2 with hm2;injection hm2 with hm2;cases hm2
    show(if isM 5 [58,61] r3=true then C (e::l) r3.tail else if(e::l).length>1 then _ else _)=M1 5 [58,61] r3 i λr=>C (e::l) r
    unfold M1;by_cases hq:isM 5 [58,61] r3=true
    ·rw[if_pos hq,if_pos hq]
    ·rw[if_neg hq,if_neg hq,if_pos (by cases l with|nil=>exact absurd rfl hl|cons=>simp)]
  ·have hs:R6 C5 [44] 7 [e] r=.ok ([e],r):=by unfold R6;rw[if_neg hc]
   rw[hs,if_neg hc];show(if isM 5 [58,61] r=true then C [e] r.tail else if[e].length>1 then _ else if isM 5 [33] r=true then A e r.tail else M1 5 [63] r i λr=>B e r)=(if isM 5 [33] r=true then A e r.tail else if isM 5 [63] r=true then B e r.tail else M1 5 [58,61] r i λr=>C [e] r);rw[if_neg (show ¬ [e].length>1 by simp)];unfold M1;by_cases h1:isM 5 [33] r=true
   ·rw[if_pos h1,if_pos h1,if_neg (by rw[a2r (t:=[58,61]) h1 (by decide)];decide)]
   ·rw[if_neg h1,if_neg h1]
    by_cases h2:isM 5 [63] r=true
    ·rw[if_pos h2,if_pos h2,if_neg (by rw[a2r (t:=[58,61]) h2 (by decide)];decide)]
    ·rw[if_neg h2,if_neg h2]
end
section
open Go.Eng Go.Pc Go
open Go.Xp hiding B E8
open Go.Ty (Ty Vr Tok)
variable {α:Type}
def inM(take:Lt->E α)(r0:Lt):E (List α):=if isM 5 [41] r0=true then .ok ([],r0.tail)else I3 (H1 take [44] 8 r0) λl r=>Q5 5 [41] r λr=>.ok (l,r)
theorem c0Z(take:Lt->E α)(ts:Lt):brM take ts=Q5 5 [40] ts λr=>inM take r:=rfl
theorem c8d{take:Lt->E α}{r0:Lt}{e:Int}(h:isM 5 [41] r0=false)(q:H1 take [44] 8 r0=.error e):inM take r0=.error e:=by unfold inM;rw[if_neg (by rw[h];decide),q];rfl
def FI(take:Lt->E α)(r0:Lt)(bad:Bool)(acc:List α)(r:Lt)(b:Bool):Prop:=
 (b=true->bad=true\/∃e,inM take r0=.error e) /\
 (b=false->bad=false/\((acc=[]/\r=r0)\/(acc≠[]/\isM 5 [41] r0=false/\acc.length<=8/\H1 take [44] 8 r0=R6 take [44] (8-acc.length) acc r)))
theorem c3R(take:Lt->E α)(r0:Lt)(bad:Bool):FI take r0 bad [] r0 bad:=⟨λh=>.inl h,λh=>⟨h,.inl ⟨rfl,rfl⟩⟩⟩
theorem b7B{take:Lt->E α}{sep:B}{n:Nat}{acc:List α}{r:Lt}(h:isM 5 sep r=false):R6 take sep n acc r=.ok (acc,r):=by cases n<;>(unfold R6;rw[if_neg (by rw[h];decide)])
theorem c8m{take:Lt->E α}{r0 r r2:Lt}{bad b b2:Bool}{x:α}(h:FI take r0 bad [] r b)(hb:b=false)(hm:isM 5 [41] r=false)(k:TO (take r) b x r2 b2):FI take r0 bad [x] r2 b2:=by
 obtain⟨h1,h2⟩:=h.2 hb;rcases h2 with⟨-,rfl⟩|⟨h2,-⟩
 ·refine⟨λq=>?_,λq=>⟨h1,.inr ⟨by simp,hm,by simp,?_⟩⟩⟩
  ·rcases k.1 q with v|⟨e,v⟩
   ·rw[hb]at v;cases v
   ·exact .inr ⟨e,c8d hm (by unfold H1;rw[v];rfl)⟩
  ·unfold H1
   rw[(k.2 q).2];rfl
 ·exact absurd rfl h2
theorem c4C{take:Lt->E α}{r0 r r1 r2:Lt}{bad b b1 b2 b3:Bool}{acc:List α}{x:α}(h:FI take r0 bad acc r b)(ha:acc≠[])(hb:b=false)(hm:isM 5 [41] r=false)(hc:Mu 5 [44] r b r1 b1)(k:TO (take r1) b1 x r2 b2)(h3:b3=(b2||decide (8<(acc++[x]).length))) :
 FI take r0 bad (acc++[x]) r2 b3:=by
 obtain⟨h1,h2⟩:=h.2 hb;rcases h2 with⟨h2,-⟩|⟨-,h2,h4,h5⟩
 ·exact absurd h2 ha
 ·have hl:(acc++[x]).length=acc.length+1:=qh
  obtain⟨c1,c2⟩:=hc;rw[hb,zC]at c1;have hin:inM take r0=I3 (R6 take [44] (8-acc.length) acc r) λl r=>Q5 5 [41] r λr=>.ok (l,r):=by unfold inM;rw[if_neg (by rw[h2];decide),h5]
  cases hq:isM 5 [44] r with
  |false=>
   rw[hq]at c1;have hb2:b2=true:=by
    cases w:b2 with
    |true=>rfl
    |false=>rw[(k.2 w).1]at c1;cases c1
   have he:inM take r0=.error 110:=by rw[hin,b7B hq];simp only[I3,Q5];rw[if_neg (by rw[hm];decide)]
   exact⟨λ_=>.inr ⟨110,he⟩,λq=>by rw[h3,hb2,zl]at q;cases q⟩
  |true=>
   rw[hq]at c1;have hb1:b1=false:=c1;rw[c2 hb1,hb1]at k;by_cases h8:acc.length<8
   ·have hs:R6 take [44] (8-acc.length) acc r=I3 (take r.tail) λx r=>R6 take [44] (8-(acc.length+1)) (acc++[x]) r:=by
     rw[show 8-acc.length=(8-(acc.length+1))+1 by omega];conv=>lhs;unfold R6
     rw[if_pos hq]
    have hd:decide (8<(acc++[x]).length)=false:=zd (by omega);rw[hd,zp]at h3;subst h3;refine⟨λq=>?_,λq=>⟨h1,.inr ⟨by simp,h2,by omega,?_⟩⟩⟩
    ·rcases k.1 q with v|⟨e,v⟩
     ·cases v
     ·exact .inr ⟨e,by rw[hin,hs,v];rfl⟩
    ·rw[h5,hs,(k.2 q).2,hl];rfl
   ·have h0:8-acc.length=0:=by omega
    have he:inM take r0=.error 110:=by rw[hin,h0];unfold R6;rw[if_pos hq];rfl
    have hd:decide (8<(acc++[x]).length)=true:=zh (by omega);exact⟨λ_=>.inr ⟨110,he⟩,λq=>by rw[h3,hd,zW]at q;cases q⟩
theorem c8i{take:Lt->E α}{r0 r r2:Lt}{bad b b2:Bool}{acc:List α}(h:FI take r0 bad acc r b)(hm:b=false->isM 5 [41] r=true)(hc:Mu 5 [41] r b r2 b2):TO (inM take r0) bad acc r2 b2:=by
 obtain⟨c1,c2⟩:=hc;cases hb:b with
 |true=>rw[hb,zl]at c1;subst c1;exact⟨λ_=>h.1 hb,nofun⟩
 |false=>
  have hm:=hm hb;rw[hb,hm]at c1;have hb2:b2=false:=c1;obtain⟨h1,h2⟩:=h.2 hb;rw[c2 hb2,hb2];refine⟨nofun,λ_=>⟨h1,?_⟩⟩;rcases h2 with⟨rfl,rfl⟩|⟨-,h2,-,h5⟩
  ·unfold inM;rw[if_pos hm]
  ·unfold inM
   rw[if_neg (by rw[h2];decide),h5,b7B (a2r hm (by decide))];simp only[I3,Q5];rw[if_pos hm]
end
section
open Go.Eng Go.Pc Go
open Go.Xp hiding B E8
open Go.Ty (Ty Vr Tok mayPr)
variable {α β:Type}
theorem a0r{M:PE α}{e e':Int}{i i':Nat}{x:α}(h:RB M e i false x i' e'):RO M e i x i' e':=
 ⟨λq=>⟨(h.1 q).1.1,(h.1 q).2⟩,λq=>(h.2 q).elim .inl λw=>w.elim (λv=>by cases v.2.1) λv=>.inr ⟨v.1.1,v.2⟩⟩
theorem c9v{k:Int}{s:B}{r r2:Lt}{b b2:Bool}{x:α}(h:Mu k s r b r2 b2)(hm:isM k s r=true):TO (.ok (x,r.tail):E α) b x r2 b2:=by obtain⟨h1,h2⟩:=h;rw[hm,zX,zp]at h1;subst h1;exact⟨λq=>.inl q,λq=>⟨q,by rw[h2 q]⟩⟩
theorem c7a{k:Int}{s:B}{r r2:Lt}{b b2:Bool}(h:Mu k s r b r2 b2)(c:Bool):Mu k s r (b||c) r2 (b2||c):=by
 cases c with
 |false=>rw[zp,zp];exact h
 |true=>rw[zW,zW];exact⟨rfl,nofun⟩
theorem c9i{take:Lt->E α}{r0 r1 r2 r3:Lt}{b0 b1 b2 b3:Bool}{l:List α}(h1:Mu 5 [40] r0 b0 r1 b1)(h2:TO (if isM 5 [41] r1=true then .ok ([],r1)else H1 take [44] 8 r1) b1 l r2 b2)(h3:Mu 5 [41] r2 b2 r3 b3):TO (brM take r0) b0 l r3 b3:=by
 rw[c0Z];refine a4u h1 ?_;unfold inM;by_cases hm:isM 5 [41] r1=true
 ·rw[if_pos hm]at h2⊢
  cases hb:b2 with
  |true=>
   have hb1:b1=true:=(h2.1 hb).elim id λ⟨e,w⟩=>by cases w
   have hb3:b3=true:=by rw[h3.1,hb,zl]
   rw[hb3];exact⟨λ_=>.inl hb1,nofun⟩
  |false=>
   obtain⟨hb1,w⟩:=h2.2 hb;injection w with w
   injection w with w1 w2
   subst w1;subst w2
   rw[hb]at h3;rw[hb1];exact c9v h3 hm
 ·rw[if_neg hm]at h2⊢
  exact V7 h2 (a4u h3 (a0f _ _ _))
theorem c2l{p:Prop}[Decidable p]{A C:PE β}{e e2:Int}{i i2:Nat}{bad:Bool}{y:β}(hp:p)(q:RB A e i bad y i2 e2):RB (if p then A else C) e i bad y i2 e2:=by rw[if_pos hp];exact q
theorem a3t{p:Prop}[Decidable p]{A C:PE β}{e e2:Int}{i i2:Nat}{bad:Bool}{y:β}(hp:¬p)(q:RB C e i bad y i2 e2):RB (if p then A else C) e i bad y i2 e2:=by rw[if_neg hp];exact q
theorem b5U{c:Bool}{r:Lt}{f:Nat->PE β}{e e1 e2:Int}{i i1 i2:Nat}{bad w:Bool}{y:β}(hw:w=(bad||!c))(k:Tak e i w r i1 e1)(q:RO (f i1) e1 i1 y i2 e2):RB (if c=true then D4 r i f else .error (110,i)) e i bad y i2 e2:=by
 subst hw;cases c with
 |true=>rw[zX,zp]at k;rw[if_pos rfl];exact O9 k q
 |false=>
  rw[zf,zW]at k;rw[if_neg (by decide)];by_cases he:e=0
  ·have h2:=k.2 he
   rw[if_pos (.inl rfl)]at h2;obtain⟨rfl,rfl⟩:=h2;have he2:e2≠0:=λw=>by have:=(q.1 w).1;cases this
   rcases q.2 he2 with⟨-,rfl,rfl⟩|⟨w,-⟩
   ·exact b7g (.inr rfl) k
   ·cases w
  ·obtain⟨rfl,rfl⟩:=k.1 he
   have he2:e2≠0:=λw=>he (q.1 w).1
   rcases q.2 he2 with⟨-,rfl,rfl⟩|⟨w,-⟩
   ·exact⟨λw=>absurd w he,λ_=>.inl ⟨he,rfl,rfl⟩⟩
   ·exact absurd w he
theorem b1y{ts r:Lt}{x:Int}(h:S1 ts=.ok (x,r)):Go.Ty.is x=true:=by
 unfold S1 at h;cases ht:a1Y ts with
 |error e=>rw[ht]at h;cases h
 |ok p=>
  obtain⟨t,r1⟩:=p;rw[ht]at h;have h2:(if N4 t then(.ok (t.kind,r1):E Int)else .error 110)=.ok (x,r):=h;split at h2
  ·rename_i hp
   injection h2 with h2
   injection h2 with h3 h4
   subst h3;unfold N4 at hp;simp only[qa,qw,qU]at hp;obtain⟨⟨hm,hd⟩,hk⟩:=hp;cases hi:Go.Ty.is t.kind with
   |true=>rfl
   |false=>
    unfold Go.Ty.may at hm;split at hm
    ·cases hm
    ·rw[hi,if_neg (by decide)]at hm
     split at hm
     ·have:=(Go.Ty.eqT_iff _ _).1 hm
      rw[this]at hk;exact absurd hk (by decide)
     ·rename_i h4
      have:t.kind=4:=by simpa using h4
      omega
  ·cases h2
theorem b7u{ts r:Lt}{x:Ty}(h:a1Y ts=.ok (x,r)):r.length<=ts.length:=by
 unfold a1Y at h;split at h
 ·injection h with h;injection h with h1 h2
  subst h2;rw[qx];omega
 ·cases h
theorem b0e{ts r:Lt}{x:Int}(h:S1 ts=.ok (x,r)):r.length<=ts.length:=by
 unfold S1 at h;cases ht:a1Y ts with
 |error e=>rw[ht]at h;cases h
 |ok p=>
  obtain⟨t,r1⟩:=p;have h1:=b7u ht;rw[ht]at h;have h2:(if N4 t then(.ok (t.kind,r1):E Int)else .error 110)=.ok (x,r):=h;split at h2
  ·injection h2 with h2;injection h2 with h3 h4
   subst h4;exact h1
  ·cases h2
theorem a9q{ts r:Lt}{x:B}(h:O0 ts=.ok (x,r)):r.length<ts.length:=by
 cases ts with
 |nil=>cases h
 |cons t l=>
  have h2:(if t.kind=1 then(.ok (t.text,l):E B)else .error 110)=.ok (x,r):=h;split at h2
  ·injection h2 with h2;injection h2 with h3 h4
   subst h4;exact Nat.lt_succ_self _
  ·cases h2
def Its(l:List Int)(b:Bool):Prop:=l≠[]/\(b=false->∀x∈l,Go.Ty.is x=true)
theorem c6y{ts r:Lt}{x:Int}{bad b:Bool}(h:TO (S1 ts) bad x r b):Its [x] b:=⟨by simp,λq y hy=>by rw[qy.1 hy];exact b1y (h.2 q).2⟩
theorem c1H{ts r:Lt}{l:List Int}{x:Int}{bad b:Bool}(hl:Its l bad)(h:TO (S1 ts) bad x r b):Its (l++[x]) b:=⟨by simp,λq y hy=>by
 obtain⟨h1,h2⟩:=h.2 q;rcases qY.1 hy with w|w
 ·exact hl.2 h1 y w
 ·rw[qy.1 w];exact b1y h2⟩
theorem c6i{l:List Int}{b:Bool}(v:Vr)(hv:v.tag=[]/\v.items=l)(h:Its l b):(b||!mayPr false [v])=(b||decide (8<l.length)):=by
 cases hb:b with
 |true=>rw[zl,zl]
 |false=>
  rw[zC,zC];have h1:=h.2 hb;have h0:1<=l.length:=zR.2 h.1;unfold mayPr Go.Ty.hdV Go.Ty.itemsB;rw[show[v].headD Go.Ty.zeroV=v from rfl,hv.1,hv.2];have h2:(l.any λk=>!Go.Ty.is k)=false:=by rw[List.any_eq_false];intro x hx;rw[h1 x hx];decide
  rw[h2];by_cases h3:8<l.length
  ·rw[zh h3,zd (show ¬(l.length:Int)<=8 by omega)]
   simp
  ·rw[zd h3,zh (show(l.length:Int)<=8 by omega),zh (show(l.length:Int)>=1 by omega)]
   rfl
theorem b1X:∀(l pre:List Vr)(v:Vr),8<v.items.length->Go.Ty.mayIn pre (l++[v])=false
 | [],pre,v,h=>by
  have:Go.Ty.badV pre v=true:=by unfold Go.Ty.badV Go.Ty.itemsB;rw[zd (show ¬(v.items.length:Int)<=8 by omega)];simp
  show(if Go.Ty.badV pre v then false else _)=false;rw[if_pos this]
 |w::l,pre,v,h=>by
  show(if Go.Ty.badV pre w then false else Go.Ty.mayIn (pre++[w]) (l++[v]))=false;rw[b1X l _ v h];split<;>rfl
theorem c01{l:List Vr}{v:Vr}(h:8<v.items.length):mayPr true (l++[v])=false:=by
 unfold mayPr;rw[if_neg (by decide)];split
 ·rfl
 ·exact b1X l [] v h
theorem c7I{ts r0 r:Lt}{n:B}{l:List Int}{acc:List Vr}{f:Vr->Nat->PE β}{e e1 e2:Int}{i i1 i2:Nat}{bad b0 b1 w:Bool}{y:β}(h1:TO (O0 ts) bad n r0 b0)(h2:VI r0 b0 l r b1)(hm:(isM 5 [59] r&&!b1)=false)
 (hw:w=(b1||!mayPr true (acc++[vrM n l]))) (k:Tak e i w r i1 e1) (q:RO (f (vrM n l) i1) e1 i1 y i2 e2) :
 RB (F2 (W7 ts) i λv r=>if mayPr true (acc++[v])then D4 r i (f v)else .error (110,i)) e i bad y i2 e2:=by
 have hv:TO (W7 ts) bad (vrM n l) r (b1||decide (8<l.length)):=by rw[b3G];exact V7 h1 (V7 (c7k h2 hm) (a0f _ _ _))
 refine I4 (b0a ts) hv (b5U ?_ k q);rw[hw];by_cases h8:8<l.length
 ·rw[c01 (v:=vrM n l) h8,zh h8]
  cases b1<;>rfl
 ·rw[zd h8,zp]
theorem c9h{ts r r2:Lt}{l:List Int}{v:Vr}{f:List Int->Nat->PE β}{e e1 e2:Int}{i i1 i2:Nat}{bad b b2 w:Bool}{y:β}(h1:SvI S1 [59] 8 ts bad l r b)(hi:Its l b)(hv:v.tag=[]/\v.items=l)(hm:(isM 5 [59] r&&!b)=false)
 (h2:Mu 5 [58] r b r2 b2) (hw:w=(b2||!mayPr false [v])) (k:Tak e i w r2 i1 e1) (q:RO (f l i1) e1 i1 y i2 e2) :
 RB (F2 (H1 S1 [59] 8 ts) i λl r=>M1 5 [58] r i λr=>D4 r i λi=>f l i) e i bad y i2 e2:=by
 refine I4 (f:=λl r=>M1 5 [58] r i λr=>D4 r i λi=>f l i) (X5 b2r) (a6P h1 hm) (a2l (c7a h2 _) ?_);have hs:(b2||!mayPr false [v])=(b2||decide (8<l.length)):=by
  have hb:=h2.1;cases hb2:b2 with
  |true=>rw[zl,zl]
  |false=>
   have hbf:b=false:=by rw[hb2]at hb;have:=hb.symm;rw[qA]at this;exact this.1
   have:=c6i v hv hi;rw[hbf]at this;exact this
 rw[hw,hs]at k;exact O9 k q
theorem b8y{ts r0 r1 r2:Lt}{t:Ty}{n:B}{b b1 b2 w:Bool}(h0:r0=if isM 2 [86,65,76] ts=true then ts.tail else ts)(h1:TO (a1Y r0) b t r1 b1)(h2:TO (O0 r1) b1 n r2 b2)(hw:w=(b2||!foP ⟨isM 2 [86,65,76] ts,t,n⟩)):TO (a0d ts) b ⟨isM 2 [86,65,76] ts,t,n⟩ r2 w:=by
 unfold a0d;rw[<-h0];refine V7 h1 (V7 h2 ?_);rw[hw];cases hf:foP ⟨isM 2 [86,65,76] ts,t,n⟩with
 |true=>rw[if_pos rfl,zX,zp];exact a0f _ _ _
 |false=>rw[if_neg (by decide),zf,zW];exact a8n _ _ _ _
theorem b70{ts r0 r1 r2:Lt}{F:Fo}{b b1 b2 w:Bool}(hF:F=⟨isM 2 [86,65,76] ts&&!b,F.ty,F.name⟩)(h0:r0=if(isM 2 [86,65,76] ts&&!b)=true then ts.tail else ts)(h1:TO (a1Y r0) b F.ty r1 b1)(h2:TO (O0 r1) b1 F.name r2 b2)(hw:w=(b2||!foP F)):TO (a0d ts) b F r2 w:=by
 cases b with
 |true=>
  have hb2:b2=true:=by
   cases q:b2 with
   |true=>rfl
   |false=>have:=(h1.2 (h2.2 q).1).1;cases this
  rw[hw,hb2,zl];exact a9V _ _ _
 |false=>rw[zf,za]at h0 hF;rw[hF]at hw⊢;exact b8y h0 h1 h2 hw
theorem b8q{take:Lt->E α}{r0 r r1 r2:Lt}{bad b b1 b2 b3:Bool}{acc:List α}{x:α}(h:FI take r0 bad acc r b)(hb:b=false)(hm:isM 5 [41] r=false)(hc:(acc=[]/\r1=r/\b1=b)\/(acc≠[]/\Mu 5 [44] r b r1 b1))(k:TO (take r1) b1 x r2 b2)
 (h3:b3=(b2||decide (8<(acc++[x]).length))):FI take r0 bad (acc++[x]) r2 b3:=by
 rcases hc with⟨rfl,rfl,rfl⟩|⟨ha,hc⟩
 ·have hd:decide (8<(([]:List α)++[x]).length)=false:=zd (by simp)
  rw[hd,zp]at h3;subst h3;exact c8m h hb hm k
 ·exact c4C h ha hb hm hc k h3
theorem d03{w f:Bool}{n:Nat}(h:((!w&&!f)||decide ((n:Int)>8))=true):true=((w||!f)||decide (8<n)):=by
 rw[show decide ((n:Int)>8)=decide (8<n) from decide_eq_decide.2 (by omega)]at h;cases w
 ·cases f
  ·rfl
  ·simpa using h
 ·rfl
theorem d0B{w f:Bool}{n:Nat}(h:((!w&&!f)||decide ((n:Int)>8))=false):w=((w||!f)||decide (8<n)):=by
 rw[show decide ((n:Int)>8)=decide (8<n) from decide_eq_decide.2 (by omega)]at h;cases w
 ·cases f
  ·cases h
  ·simpa using h
 ·rfl
theorem b5G{k k2:Int}{s s2:B}{r:Lt}(h:isM k s r=true)(hn:k≠k2):isM k2 s2 r=false:=by
 cases r with
 |nil=>rfl
 |cons x r=>have h1:((x.kind==k)&&(x.text==s))=true:=h;rw[qa]at h1;have h2:x.kind=k:=eq_of_beq h1.1;show((x.kind==k2)&&(x.text==s2))=false;rw[h2,qW.2 hn,zu]
theorem b7F{s:Sp}{r r2:Lt}{w w2:Bool}{e e1:Int}{i i1:Nat}(hm:Mu 5 [58] r w r2 w2)(ht:Tak e i (w2||!spP s) r2 i1 e1):RB (a5i s r i) e i w (some s) i1 e1:=a2l hm (b5U rfl ht (V2 _ _ _))
theorem b4r{k:Int}{t:Ty}{l:List B}{e:Ex}(h:(if k=1 then 8 else 1:Int)<l.length):spP (spM k t l e false [] [] [])=false:=by
 unfold spP;split
 ·have:O2 (spM k t l e false [] [] []).names.l 1 (if(spM k t l e false [] [] []).k=1 then 8 else 1) Go.Lx.name=false:=by
   show O2 l 1 (if k=1 then 8 else 1) Go.Lx.name=false;unfold O2 a9L;rw[zd (show ¬(l.length:Int)<=if k=1 then 8 else 1 by omega)];simp
  rw[this];simp
 ·rfl
theorem c8x{t:Ty}{l:List B}{r:Lt}{i:Nat}(h:1<l.length):(F2 (C5 r) i λe r=>a5i (spM 3 t l e false [] [] []) r i)=.error (110,i):=by
 cases he:C5 r with
 |error e=>rw[V9 r e he];rfl
 |ok p=>
  obtain⟨x,r1⟩:=p;show a5i (spM 3 t l x false [] [] []) r1 i=_;unfold a5i M1;split
  ·exact if_neg (by rw[b4r (by rw[if_neg (by decide)];omega)];decide)
  ·rfl
theorem c1l{t:Ty}{l:List B}{r r2:Lt}{w w2:Bool}{e e1:Int}{i i1:Nat}(h1:1<=l.length)(hx:l.length=1->w=false->isM 2 [73,83] r=false)(hm:Mu 5 [58] r w r2 w2)(ht:Tak e i (w2||!spP (spM 1 t l A0 false [] [] [])) r2 i1 e1) :
 RB (if isM 2 [73,83] r=true then F2 (C5 r.tail) i λe r=>a5i (spM 3 t l e false [] [] []) r i else a5i (spM 1 t l A0 false [] [] []) r i) e i (w||decide (8<l.length)) (some (spM 1 t l A0 false [] [] [])) i1 e1:=by
 by_cases hi:isM 2 [73,83] r=true
 ·have hw2:w2=true:=by rw[hm.1,b5G hi (by decide)];simp
  rw[hw2,zl]at ht;rw[if_pos hi];refine b7g ?_ ht;cases hw:w with
  |true=>exact .inl rfl
  |false=>
   refine .inr (c8x ?_);by_cases hl:l.length=1
   ·rw[hx hl hw]at hi;cases hi
   ·omega
 ·rw[if_neg hi]
  refine a2l (c7a hm _) (b5U ?_ ht (V2 _ _ _));by_cases h8:8<l.length
  ·rw[b4r (by rw[if_pos rfl];omega)]
   simp
  ·rw[zd h8,zp]
theorem c4d{take:Lt->E α}{sep:B}{ts:Lt}{bad b:Bool}{x:α}{r:Lt}(h:TO (take ts) bad x r b)(hm:isM 5 sep r=false):TO (H1 take sep 8 ts) bad [x] r b:=by have h1:=a6P (a3S (sep:=sep) (most:=8) (by decide) h) (by rw[hm];rfl);rw[show decide (8<[x].length)=false from rfl,zp]at h1;exact h1
theorem d0z{w f:Bool}(h:(!w&&!f)=true):true=(w||!f):=by cases w<;>cases f<;>first|rfl|cases h
theorem d09{w f:Bool}(h:(!w&&!f)=false):w=(w||!f):=by cases w<;>cases f<;>first|rfl|cases h
theorem a6v{b:Bool}(h:(b&&!false)=false):¬(b=true):=by cases b<;>first|decide|cases h
theorem c6J{b:Bool}(h:(b&&!false)=true):b=true:=by cases b<;>first|rfl|cases h
end
end Go.Sx
namespace Go.Proofs.YtgcjpahhljmlmaaGreatDoor
open Go.Proofs.Tryz
section
open Go.Eng Go.Pc Go.Sx Go
open Go.Xp hiding B E8
open Go.Ty (Ty Vr Tok eqT tyV E9 B1 A7 I6 zeroK)
open Go.Lx (encB C0 lexO)
open Go.Ly (Rw K7 C6)
theorem tkS{α:Type}{m:View}{f:FuncId}{args:Lv}{b:Nat}{a:Oa}{c:Nat}{ts:Lt}{bad:Bool}{hT h:Lr}{M:E α}{O:α->Value->Lr->Prop}(q:TkX m f args b a c ts bad hT h M O) :
 CX prog f args (tqR b a ts.length c bad::h) m (λv _ h'=>∃hp,h'=hp++h/\∃(x:α)(r:Lt)(a':Oa)(c':Nat)(bad':Bool)(bl:Lr),TO M bad x r bad'/\O x v bl/\Tk3 m hT a' c' r/\hp=tqR b a' r.length c' bad'::bl) (λ_ _=>False):=
 CX.ofCT (CT.conv q λ_ m' _ _ _ st ⟨x,r,a',c',bad',bl,h1,h2,h3,e⟩=>⟨m',(tqR b a' r.length c' bad'::bl)++h,Vl,by rw[e]at st;exact st,_,rfl,x,r,a',c',bad',bl,h1,h2,h3,rfl⟩)
theorem c7n{α:Type}{m:View}{f:FuncId}{args:Lv}{b:Nat}{a:Oa}{c:Nat}{ts:Lt}{bad:Bool}{hT h:Lr}{M:E α}{W:α->Value->Prop}(q:TkV m f args b a c ts bad hT h M W) :
 CX prog f args (tqR b a ts.length c bad::h) m (λv _ h'=>∃hp,h'=hp++h/\∃(x:α)(r:Lt)(a':Oa)(c':Nat)(bad':Bool),TO M bad x r bad'/\W x v/\Tk3 m hT a' c' r/\hp=[tqR b a' r.length c' bad']) (λ_ _=>False):=
 CX.ofCT (CT.conv q λ_ m' _ _ _ st ⟨x,r,a',c',bad',h1,h2,h3,e⟩=>⟨m',[tqR b a' r.length c' bad']++h,Vl,by rw[e]at st;exact st,_,rfl,x,r,a',c',bad',h1,h2,h3,rfl⟩)
theorem c4r{n:Nat}(h:decide ((n:Int)>1)=true):1<n:=by have:=zq h;omega
theorem b7J{n:Nat}{b:Bool}(h:(decide ((n:Int)>1)&&b)=true):1<n:=c4r (qa ..▸h).1
theorem c1w{n:Nat}{b b2:Bool}(h:((decide ((n:Int)>1)&&b)&&b2)=true):1<n:=b7J (qa ..▸h).1
theorem c5t(ts:Lt):(((decide ((ts.length:Int)>1)&&((ts.getD 0 zeroK).kind==1))&&((ts.getD 1 zeroK).kind==5))&&((ts.getD 1 zeroK).text==[40]))=(decide ((ts.headD zeroK).kind=1)&&isM 5 [40] ts.tail):=by
 match ts with
 | []=>rfl
 | [t]=>rw[show isM 5 [40] [t].tail=false from rfl,zB];rfl
 |t::u::r=>rw[show decide (((t::u::r).length:Int)>1)=true from zh (by simp only[qJ];omega),qG,Bool.and_assoc];show(t.kind==1&&((u.kind==5)&&(u.text==[40])))=(decide (t.kind=1)&&((u.kind==5)&&(u.text==[40])));congr 1
theorem b45{m:View}{z:Pz}(hz:Pok m z){n:Nat}(hrec:a3x m z n)(d:Int)(i:Nat)(b:Nat)(a:Oa)(c:Nat)(ts:Lt)(h hT:Lr)(hk:Tk3 m hT a c ts)(hs:hT.Sublist h)(hi:i<z.R.length)(hf:z.R.length<=i+n+1)(hd:0<=d/\d<=32)
 (hn:(0:Int)=0->∃x,z.R[i]?=some x/\(lexO x.text).2.2=0) :
 RdX m z 32 [ptV z.bp,.int .i64 d,ptV b] i 0 (tqR b a ts.length c false::h) h (S6 z.R (A4 z.R n) d ts i) (OP m):=by
 have hR:=hz.ok.1;have hq0:S6 z.R (A4 z.R n) d ts i=if(ts.headD Go.Ty.zeroK).kind=1/\isM 5 [40] ts.tail=true then F2 (O0 ts) i λn r=>F2 (brM G6 r) i λl r=>D4 r i λi=>.ok (prM 17 n A0 [] l B0 [] [] [] B4,i)
  else F2 (H1 C5 [44] 8 ts) i λf r=>
  if isM 5 [58,61] r=true then F2 (H1 G6 [44] 8 r.tail) i λl r=>D4 r i λi=>.ok (prM 3 [] A0 f l B0 [] [] [] B4,i)
  else if f.length>1 then .error (110,i)
  else if isM 5 [33] r=true then F2 (H1 G6 [59] 9 r.tail) i λl r=>D4 r i λi=>.ok (prM 5 [] (f.headD A0) [] l B0 [] [] [] B4,i)
  else M1 5 [63] r i λr=>
   if isM 2 [67,65,83,69] r=true then D4 r.tail i λi=>J8 (U6 z.R (A4 z.R n) a6q 1 16 (d+1) i) λl i=>.ok (prM 7 [] (f.headD A0) [] [] B0 l [] [] B4,i)
   else if isM 2 [65,70,84,69,82] r=true then F2 (G6 r.tail) i λe r=>D4 r i λi=>.ok (prM 6 [] (f.headD A0) [] [e] B0 [] [] [] B4,i)
   else F2 (H1 C5 [59] 8 r) i λl r=>D4 r i λi=>.ok (prM 4 [] (f.headD A0) l [] B0 [] [] [] B4,i):=rfl
 have hrd:=(hk.mono hs).k.rd;obtain⟨t,ht⟩:∃t,t=ts.getD 0 zeroK:=⟨_,rfl⟩;obtain⟨u,hu⟩:∃u,u=ts.getD 1 zeroK:=⟨_,rfl⟩;have hel:1<ts.length->ts[0]?=some t:=λhq=>by rw[ht,ql,qk (by omega)];rfl
 have hel1:1<ts.length->ts[1]?=some u:=λhq=>by rw[hu,ql,qk hq];rfl
 have hc0:=c5t ts;rw[<-ht,<-hu]at hc0;refine cB [0,1,2,6,7,8,45,88,98,107,120] func32 λ_=>?_
 refine xW λb6=>?_;refine ZZ [0,1] ?_;refine xW λb7=>?_
 refine ZZ [1,8] ?_;refine zG (λhc=>PO.nilCheck (Eg hc)) ?_;refine kA2 ?_;refine C2 (GU.t rfl rfl) (λhc=>D7 B3.und B3.size B3.posz (Eg hc) Ek Rr rfl (q:=0) (by have:=c4r hc;omega)) Lb ?_;refine zG (λhc=>D0 C7 rfl (qf rfl) A7 (qu _) Rr (hel (c4r hc)) (Eg hc)) ?_;refine zG (λhc=>D2 a2H rfl A7 Rr (Eg hc) (hel (c4r hc)) rfl) ?_;refine kA4 ?_;refine zG (λhc=>PO.nilCheck (Eg hc)) ?_;refine kA2 ?_;refine C2 (GU.t rfl rfl) (λhc=>D7 B3.und B3.size B3.posz (Eg hc) Ek Rr rfl (q:=1) (by have:=b7J hc;omega)) Lb ?_;refine zG (λhc=>D0 C7 rfl (qf rfl) A7 (qu _) Rr (hel1 (b7J hc)) (Eg hc)) ?_;refine zG (λhc=>D2 a2H rfl A7 Rr (Eg hc) (hel1 (b7J hc)) rfl) ?_;refine kA4 ?_;refine zG (λhc=>PO.nilCheck (Eg hc)) ?_;refine kA2 ?_
 refine C2 (GU.t rfl rfl) (λhc=>D7 B3.und B3.size B3.posz (Eg hc) Ek Rr rfl (q:=1) (by have:=c1w hc;omega)) Lb ?_;refine zG (λhc=>D0 C7 rfl (qf rfl) A7 (qu _) Rr (hel1 (c1w hc)) (Eg hc)) ?_;refine zG (λhc=>D2 uu9 rfl A7 Rr (Eg hc) (hel1 (c1w hc)) rfl) ?_;refine zG (λhc=>H0 (Eg hc) Ek) ?_;refine y1 ?_ ?_<;>intro c45
 have d45:(ts.headD Go.Ty.zeroK).kind=1/\isM 5 [40] ts.tail=true:=by
  have:=qa ..▸(hc0.symm.trans c45)
  exact⟨zq this.1,this.2⟩
 have hq:=hq0.trans (if_pos d45);refine ZZ [2,1] ?_;refine WL.take (r:=tqR b a ts.length c false) De ?_;refine xg (E1 Et) (X2 b a c ts false _ _ hk (hs.trans Sb)) ?_;rintro _ _ ⟨x48,r48,a48,u48,w48,hM48,⟨rfl,hw48⟩,hk48,rfl⟩;refine ZZ [2,1] ?_;refine xf (E1 Ek) (smW _ _ _) ?_;refine WL.take (r:=tqR b a48 r48.length u48 w48) De ?_;refine xg (E2 Et Et) (L4 b a48 u48 r48 w48 _ _ _ hk48 (hs.trans Sb)) ?_;rintro _ _ ⟨a52,u52,r52,w52,rfl,hM52,hk52,rfl⟩;refine ZZ [0,1] ?_;refine xf (E1 Ek) (smW _ _ _) ?_;refine xf (E2 Et Et) (a0Y b a52 u52 r52 w52 _ _ _ Me hk52 (hs.trans Sb)) ?_;refine kP1 [0,2,6,7,56] ?_
 refine D6 KKh [0,2,6,7] rfl (λF' h'=>∃l:Sli Ex,∃bl:Lr,∃x:Oa,∃y:Nat,∃r:Lt,∃w:Bool,(LOk m bl l/\Tk3 m hT x y r/\TO (if isM 5 [41] r52=true then .ok ([],r52)else H1 G6 [44] 8 r52) w52 (l.l.map B5) r w)/\F'=[]/\tqR b x r.length y w::prR b7 (p0 17 x48 A0 A2 l B0)::prR b6 (p0 0 [] A0 A2 A2 B0)::rdR z i 0::(bl++h)=h') ?_ ?_;refine jE ?_;refine wc ?_ ?_<;>intro c56
 have c56:(!isM 5 [41] r52)=true:=c56;have d56:isM 5 [41] r52=false:=by simpa using c56
 refine kA1 ?_;refine WL.take (r:=tqR b a52 r52.length u52 w52) De ?_;refine xg (E4 Et Ek Ek Ek) (Y9 [44] 8 false b a52 u52 r52 w52 _ _ hk52 (hs.trans Sb) (by decide)) ?_;rintro _ _ ⟨x58,r58,a58,u58,w58,bl58,hM58,⟨s58,rfl,rfl,hO58,-⟩,hk58,rfl⟩;refine mP ?_;refine kA2 ?_;exact WL.nil (mN [] (tqR b a58 r58.length u58 w58::prR b7 (p0 17 x48 A0 A2 s58 B0)::prR b6 (p0 0 [] A0 A2 A2 B0)::rdR z i 0::(bl58++h)) ⟨s58,bl58,a58,u58,r58,w58,⟨hO58,hk58,by rw[if_neg (E6 d56)];exact hM58⟩,rfl,rfl⟩);have c56:(!isM 5 [41] r52)=false:=c56;have d56:isM 5 [41] r52=true:=by simpa using c56
 exact WC.skip (mN [] (tqR b a52 r52.length u52 w52::prR b7 (p0 17 x48 A0 A2 A2 B0)::prR b6 (p0 0 [] A0 A2 A2 B0)::rdR z i 0::(([])++h)) ⟨A2,[],a52,u52,r52,w52,⟨B9 _ _,hk52,by rw[if_pos d56];exact a0f _ _ _⟩,rfl,rfl⟩);rintro _ _ ⟨l,bl,x,y,r,w,⟨hL,hk1,hE⟩,rfl,rfl⟩;refine A9 rfl ?_;refine kA1 ?_;refine xf (E1 Ek) (smW _ _ _) ?_;refine WL.take (r:=tqR b x r.length y w) De ?_;refine xg (E2 Et Et) (L4 b x y r w _ _ _ hk1 (hs.trans Sb)) ?_;rintro _ _ ⟨a62,u62,r62,w62,rfl,hM62,hk62,rfl⟩;refine ZZ [0,2] ?_;refine pP (rdR z i 0) (tqR b a62 r62.length u62 w62) ?_;refine xg (E2 Et Et) (J6 hz i 0 b a62 u62 r62 w62 _ (by omega) (by assumption)) ?_;rintro _ _ ⟨i65,e65,hM65,rfl⟩;refine ZZ [0,2,0] ?_;refine wT (rdR z i65 e65::(bl++h)) (h1:=cA Q3) ?_
 exact⟨_,i65,e65,bl,⟨by rw[hq];exact a0r (I4 (W0 _) hM48 (I4 (b7G O7) (c9i hM52 hE hM62) (O9 hM65 (V2 _ _ _)))),V6 hM65 hn (by omega)⟩,⟨.mk 17 x48 A0 A2 l B0 none 0 [] none 0 [] A2 B4,rfl,J5 _,a1g (by decide) hw48 (B6 _ _) (B9 _ _) hL (P0 _ _) (T8 _ _) (a07 _ _) (P5 _ _) (K6 _ _)⟩,rfl⟩;have d45:¬((ts.headD Go.Ty.zeroK).kind=1/\isM 5 [40] ts.tail=true):=λq=>by
  have h2:(decide ((ts.headD Go.Ty.zeroK).kind=1)&&isM 5 [40] ts.tail)=true:=by rw[zh q.1,q.2];rfl
  exact absurd (hc0.trans h2) (by rw[show _=false from c45];decide)
 have hq:=(hq0.trans (if_neg d45)).trans (b3J (A:=λe r=>F2 (H1 G6 [59] 9 r) i λl r=>D4 r i λi=>.ok (prM 5 [] e [] l B0 [] [] [] B4,i))
  (B:=λe r=>if isM 2 [67,65,83,69] r=true then D4 r.tail i λi=>J8 (U6 z.R (A4 z.R n) a6q 1 16 (d+1) i) λl i=>.ok (prM 7 [] e [] [] B0 l [] [] B4,i)
  else if isM 2 [65,70,84,69,82] r=true then F2 (G6 r.tail) i λe2 r=>D4 r i λi=>.ok (prM 6 [] e [] [e2] B0 [] [] [] B4,i)
  else F2 (H1 C5 [59] 8 r) i λl r=>D4 r i λi=>.ok (prM 4 [] e l [] B0 [] [] [] B4,i))
  (C:=λf r=>F2 (H1 G6 [44] 8 r) i λl r=>D4 r i λi=>.ok (prM 3 [] A0 f l B0 [] [] [] B4,i)) ts i)
 refine ZZ [0,1] ?_;refine WL.take (r:=tqR b a ts.length c false) De ?_;refine xg (E1 Et) (a2j b a c ts false _ _ hk (hs.trans Sb)) ?_;rintro _ _ ⟨x68,r68,a68,u68,w68,bl68,hM68,⟨t68,rfl,rfl,hO68⟩,hk68,rfl⟩;refine mP ?_;refine xW λb8=>?_;refine kP1 [0,1,2,6,7,8] ?_;refine D6 KKh [0,2,6,7] rfl (λF' h'=>∃k:Int,∃ch:Ex,∃tg:Sli Ex,∃ex:Sli Ex,∃bl:Lr,∃x:Oa,∃y:Nat,∃r:Lt,∃w:Bool,((0<=k/\k<=255)/\(EOk m bl ch/\LOk m bl tg/\LOk m bl ex)/\Tk3 m hT x y r/\(∀i1 e1,Tak 0 i w r i1 e1->RO (S6 z.R (A4 z.R n) d ts i) 0 i (prM k [] (B5 ch) (tg.l.map B5) (ex.l.map B5) B0 [] [] [] B4) i1 e1))/\F'=[]/\tqR b x r.length y w::exR b8 t68::prR b7 (p0 k [] ch tg ex B0)::prR b6 (p0 0 [] A0 A2 A2 B0)::rdR z i 0::(bl++h)=h') ?_ ?_;refine kA1 ?_;refine xf (E1 Ek) (smW _ _ _) ?_;refine WL.take (r:=tqR b a68 r68.length u68 w68) De ?_;refine xg (E2 Et Et) (G4 b a68 u68 r68 w68 _ _ _ hk68 (hs.trans Sb)) ?_;rintro _ _ ⟨a91,u91,r91,rfl,he91,hk91,rfl⟩;refine y1 ?_ ?_<;>intro c88
 replace he91:=he91.trans (if_pos c88);subst r91;refine ZZ [2,3,1] ?_;refine WL.take (r:=tqR b a91 r68.tail.length u91 w68) De ?_;refine xg (E4 Et Ek Ek Ek) (Y9 [59] 9 false b a91 u91 r68.tail w68 _ _ hk91 (hs.trans Sb) (by decide)) ?_;rintro _ _ ⟨x96,r96,a96,u96,w96,bl96,hM96,⟨s96,rfl,rfl,hO96,-⟩,hk96,rfl⟩;refine mP ?_;refine kA2 ?_;rw[<-qj bl96 bl68 h];exact WL.nil (mN [] (tqR b a96 r96.length u96 w96::exR b8 t68::prR b7 (p0 5 [] t68 A2 s96 B0)::prR b6 (p0 0 [] A0 A2 A2 B0)::rdR z i 0::((bl96++bl68)++h)) ⟨5,t68,A2,s96,bl96++bl68,a96,u96,r96,w96,⟨by decide,⟨hO68.mono (qc _ _),B9 _ _,hO96.mono (qg _ _)⟩,hk96,λi1 e1 q=>by rw[hq];exact a0r (I4 (V9 _) hM68 (V0 (by assumption) (I4 (X5 O7) (show TO (H1 G6 [59] 9 r68.tail) w68 _ r96 w96 from hM96) (O9 q (V2 _ _ _)))))⟩,rfl,rfl⟩);replace he91:=he91.trans (if_neg (E6 c88));subst r91
 refine kA1 ?_;refine xf (E1 Ek) (smW _ _ _) ?_;refine WL.take (r:=tqR b a91 r68.length u91 w68) De ?_;refine xg (E2 Et Et) (G4 b a91 u91 r68 w68 _ _ _ hk91 (hs.trans Sb)) ?_;rintro _ _ ⟨a101,u101,r101,rfl,he101,hk101,rfl⟩;refine y1 ?_ ?_<;>intro c98
 replace he101:=he101.trans (if_pos c98);subst r101;refine ZZ [2,3,1] ?_;refine xf (E1 Ek) (kyW _ _ _) ?_;refine WL.take (r:=tqR b a101 r68.tail.length u101 w68) De ?_;refine xg (E2 Et Et) (G4 b a101 u101 r68.tail w68 _ _ _ hk101 (hs.trans Sb)) ?_;rintro _ _ ⟨a107,u107,r107,rfl,he107,hk107,rfl⟩;refine y0 ?_ ?_<;>intro c107
 replace he107:=he107.trans (if_pos c107);subst r107;refine ZZ [2,2] ?_;refine pP (rdR z i 0) (tqR b a107 r68.tail.tail.length u107 w68) ?_;refine xg (E2 Et Et) (J6 hz i 0 b a107 u107 r68.tail.tail w68 _ (by omega) (by assumption)) ?_;rintro _ _ ⟨i111,e111,hM111,rfl⟩;obtain⟨⟨hi1,hi2⟩,hi3⟩:=V6 hM111 hn (by omega);have hf2:z.R.length<=i111+n+1\/e111≠0:=.inl (by omega);refine ZZ [0,3] ?_;refine WL.take (r:=rdR z i111 e111) De ?_;refine F9 Ef (Evs.cons Et (Evs.cons Et (Evs.cons Ek (Evs.cons Ek (Evs.cons Ek Evs.nil))))) (a5l hz hrec _ 1 16 3 i111 e111 _ (by omega) hf2 (by omega)) Lb ?_;rintro _ _ ⟨x115,i115,e115,bl115,hM115,⟨q115,v115,l115,rfl,rfl,hG115⟩,rfl⟩;refine mP ?_;refine ZZ [2,2,0] ?_;refine wT (rdR z i115 e115::(bl115++(bl68++h))) (h1:=cA Q3) ?_
 exact⟨_,i115,e115,bl115++bl68,⟨by rw[hq];exact a0r (I4 (V9 _) hM68 (I1 (by assumption) (V0 (by assumption) (V0 (by assumption) (O9 hM111 (Y6 (show RO (U6 z.R (A4 z.R n) a6q 1 16 (d+1) i111) e111 i111 _ i115 e115 from hM115.1) (V2 _ _ _))))))),⟨by omega,hM115.2.2⟩,λw=>by have:=hi3 (hM115.1.1 w).1;omega⟩,⟨.mk 7 [] t68 A2 A2 B0 q115 v115 l115 none 0 [] A2 B4,rfl,J5 _,a1g (by decide) (qi _) (hO68.mono (qc _ _)) (B9 _ _) (B9 _ _) (P0 _ _) (hG115.mono (qg _ _)) (a07 _ _) (P5 _ _) (K6 _ _)⟩,by rw[qj]⟩;replace he107:=he107.trans (if_neg (E6 c107));subst r107;refine ZZ [0,1] ?_;refine xf (E1 Ek) (kyW _ _ _) ?_;refine WL.take (r:=tqR b a107 r68.tail.length u107 w68) De ?_;refine xg (E2 Et Et) (G4 b a107 u107 r68.tail w68 _ _ _ hk107 (hs.trans Sb)) ?_;rintro _ _ ⟨a120,u120,r120,rfl,he120,hk120,rfl⟩
 refine y0 ?_ ?_<;>intro c120
 replace he120:=he120.trans (if_pos c120);subst r120;refine ZZ [2,1] ?_;refine WL.take (r:=tqR b a120 r68.tail.tail.length u120 w68) De ?_;refine xg (E1 Et) (Q7 b a120 u120 r68.tail.tail w68 _ _ hk120 (hs.trans Sb)) ?_;rintro _ _ ⟨x123,r123,a123,u123,w123,bl123,hM123,⟨t123,rfl,rfl,hO123⟩,hk123,rfl⟩;refine mP ?_;refine xY U9 Eb λb124=>?_;refine WL.perm (Mv.perm (bl:=[_])) ?_;refine kA2 ?_;rw[<-qj bl123 bl68 h];exact WL.nil (mN [] (tqR b a123 r123.length u123 w123::exR b8 t68::prR b7 (p0 6 [] t68 A2 (⟨some ⟨b124,0,none⟩,1,[t123]⟩) B0)::prR b6 (p0 0 [] A0 A2 A2 B0)::rdR z i 0::((exR b124 t123::(bl123++bl68))++h)) ⟨6,t68,A2,⟨some ⟨b124,0,none⟩,1,[t123]⟩,exR b124 t123::(bl123++bl68),a123,u123,r123,w123,⟨by decide,⟨hO68.mono ((qc _ _).cons _),B9 _ _,(b6V b124 hO123).mono ((qg _ _).cons_cons _)⟩,hk123,λi1 e1 q=>by rw[hq];exact a0r (I4 (V9 _) hM68 (I1 (by assumption) (V0 (by assumption) (I1 (by assumption) (V0 (by assumption) (I4 (O7 _) hM123 (O9 q (V2 _ _ _))))))))⟩,rfl,rfl⟩);replace he120:=he120.trans (if_neg (E6 c120));subst r120;refine kA1 ?_;refine WL.take (r:=tqR b a120 r68.tail.length u120 w68) De ?_
 refine xg (E4 Et Ek Ek Ek) (Y9 [59] 8 true b a120 u120 r68.tail w68 _ _ hk120 (hs.trans Sb) (by decide)) ?_;rintro _ _ ⟨x127,r127,a127,u127,w127,bl127,hM127,⟨s127,rfl,rfl,hO127,-⟩,hk127,rfl⟩;refine mP ?_;refine kA2 ?_;rw[<-qj bl127 bl68 h];exact WL.nil (mN [] (tqR b a127 r127.length u127 w127::exR b8 t68::prR b7 (p0 4 [] t68 s127 A2 B0)::prR b6 (p0 0 [] A0 A2 A2 B0)::rdR z i 0::((bl127++bl68)++h)) ⟨4,t68,s127,A2,bl127++bl68,a127,u127,r127,w127,⟨by decide,⟨hO68.mono (qc _ _),hO127.mono (qg _ _),B9 _ _⟩,hk127,λi1 e1 q=>by rw[hq];exact a0r (I4 (V9 _) hM68 (I1 (by assumption) (V0 (by assumption) (I1 (by assumption) (I1 (by assumption) (I4 (X5 V9) (show TO (H1 C5 [59] 8 r68.tail) w68 _ r127 w127 from hM127) (O9 q (V2 _ _ _))))))))⟩,rfl,rfl⟩);replace he101:=he101.trans (if_neg (E6 c98));subst r101;refine ZZ [2,1] ?_
 refine xY U9 Eb λb71=>?_;refine WL.perm (Mv.perm (bl:=[_])) ?_;rw[qT];refine ZZ [2,1] ?_;refine xf (E1 Ek) (smW _ _ _) ?_;refine WL.take (r:=tqR b a101 r68.length u101 w68) De ?_;refine xg (E2 Et Et) (G4 b a101 u101 r68 w68 _ _ _ hk101 (hs.trans Sb)) ?_;rintro _ _ ⟨a75,u75,r75,rfl,he75,hk75,rfl⟩;refine kP0 [0,2,6,7,75] ?_;refine D6 KKh [0,2,6,7] rfl (λF' h'=>∃tg:Sli Ex,∃ls:List Ex,∃bl:Lr,∃x:Oa,∃y:Nat,∃r:Lt,∃w:Bool,(LOk m bl tg/\Tk3 m hT x y r/\tg.l.map B5=B5 t68::ls/\TO (if isM 5 [44] r68=true then H1 C5 [44] 7 r68.tail else .ok ([],r68)) w68 ls r w)/\F'=[]/\tqR b x r.length y w::exR b8 t68::prR b7 (p0 3 [] A0 tg A2 B0)::prR b6 (p0 0 [] A0 A2 A2 B0)::rdR z i 0::(bl++h)=h') ?_ ?_;refine jE ?_;refine wc ?_ ?_<;>intro c75
 replace he75:=he75.trans (if_pos c75);subst r75;refine jE ?_;refine F4 [3] (.op 0 (.op 1 (.op 2 (.op 3 .nil)))) [4,5,6] _ [_] C9 (λ_ _ _ _ _ h=>h) [] (by kernel_rfl) ?_;refine kA3 ?_;refine R7 rfl rfl Ef (E4 Et Ek Ek Ek) (λfr=>tkS (Y9 [44] 7 true b a75 u75 r68.tail w68 _ _ hk75 (hs.trans Sb) (by decide))) Lb (λfr v hv hx=>?_) λv79 h79 hr79=>?_
 ·exact hx.elim
 obtain⟨x79,r79,a79,u79,w79,bl79,hM79,⟨s79,rfl,rfl,hO79,hb79,hb80⟩,hk79,rfl⟩:=hr79;have hrd79:=hO79.rd;have hln79:([t68]++s79.l).length=1+s79.l.length:=qh;refine a0V (H:=_) rfl ((Mv.perm).cons _) ?_;refine b6L U9 (Ev.tmp rfl) (Ev.tmp rfl) Rr Rr (by omega) (show 1+s79.l.length=([t68]++s79.l).length by rw[qh];rfl) (a2F (enc:=exE) [t68] s79.l).symm (by omega) (by omega) Lb λa80 c80=>?_;refine WL.perm (Mv.perm (bl:=[_])) ?_;refine kA2 ?_;refine a4E (a:=some ⟨a80,0,none⟩) Me λp80 q80 r80=>?_
 rw[<-qj bl79 bl68 h]
 exact WL.nil (mN [] (tqR b a79 r79.length u79 w79::exR b8 t68::prR b7 (p0 3 [] A0 (⟨some ⟨a80,0,none⟩,c80,[t68]++s79.l⟩) A2 B0)::prR b6 (p0 0 [] A0 A2 A2 B0)::rdR z i 0::((exR b71 t68::.row (.slice (some ⟨a80,0,none⟩) ([t68]++s79.l).length c80) 29 6 ([t68]++s79.l).length (fl exE ([t68]++s79.l))::(bl79++bl68))++h)) ⟨⟨some ⟨a80,0,none⟩,c80,[t68]++s79.l⟩,s79.l.map B5,exR b71 t68::.row (.slice (some ⟨a80,0,none⟩) ([t68]++s79.l).length c80) 29 6 ([t68]++s79.l).length (fl exE ([t68]++s79.l))::(bl79++bl68),a79,u79,r79,w79,⟨⟨Rd.inRow (.tail _ (qm _)) r80 p80 q80,λy hy=>(qY.1 hy).elim (λw=>by rw[qy.1 w];exact hO68.mono (((qc _ _).cons _).cons _)) λw=>(hO79.ok y w).mono (((qg _ _).cons _).cons _)⟩,hk79,by rw[qZ];rfl,c9B (qa ..▸c75).1 hM79⟩,rfl,rfl⟩)
 replace he75:=he75.trans (if_neg (E6 c75));subst r75;exact WC.skip (mN [] (tqR b a75 r68.length u75 w68::exR b8 t68::prR b7 (p0 3 [] A0 (⟨some ⟨b71,0,none⟩,1,[t68]⟩) A2 B0)::prR b6 (p0 0 [] A0 A2 A2 B0)::rdR z i 0::((exR b71 t68::bl68)++h)) ⟨⟨some ⟨b71,0,none⟩,1,[t68]⟩,[],exR b71 t68::bl68,a75,u75,r68,w68,⟨b6V b71 hO68,hk75,rfl,b3E (by assumption) (a0f _ _ _)⟩,rfl,rfl⟩);rintro _ _ ⟨tg,ls,bl,x,y,r,w,⟨hL,hk1,hls,hE⟩,rfl,rfl⟩;refine A9 rfl ?_;refine kA1 ?_;refine xf (E1 Ek) (smW _ _ _) ?_;refine WL.take (r:=tqR b x r.length y w) De ?_;refine xg (E2 Et Et) (L4 b x y r w _ _ _ hk1 (hs.trans Sb)) ?_;rintro _ _ ⟨a84,u84,r84,w84,rfl,hM84,hk84,rfl⟩;refine ZZ [0,1] ?_;refine WL.take (r:=tqR b a84 r84.length u84 w84) De ?_;refine xg (E4 Et Ek Ek Ek) (Y9 [44] 8 false b a84 u84 r84 w84 _ _ hk84 (hs.trans Sb) (by decide)) ?_;rintro _ _ ⟨x86,r86,a86,u86,w86,bl86,hM86,⟨s86,rfl,rfl,hO86,-⟩,hk86,rfl⟩
 refine mP ?_;refine kA2 ?_;rw[<-qj bl86 bl h];exact WL.nil (mN [] (tqR b a86 r86.length u86 w86::exR b8 t68::prR b7 (p0 3 [] A0 tg s86 B0)::prR b6 (p0 0 [] A0 A2 A2 B0)::rdR z i 0::((bl86++bl)++h)) ⟨3,A0,tg,s86,bl86++bl,a86,u86,r86,w86,⟨by decide,⟨B6 _ _,hL.mono (qc _ _),hO86.mono (qg _ _)⟩,hk86,λi1 e1 q=>by rw[hq];exact a0r (I4 (V9 _) hM68 (I1 (by assumption) (I1 (by assumption) (I4 (a0W (X5 V9) X8) hE (a2l hM84 (I4 (X5 O7) (show TO (H1 G6 [44] 8 r84) w84 _ r86 w86 from hM86) (O9 q (by rw[hls];exact V2 _ _ _))))))))⟩,rfl,rfl⟩);rintro _ _ ⟨k,ch,tg,ex,bl,x,y,r,w,⟨hk0,⟨hC,hG,hX⟩,hk1,hJ⟩,rfl,rfl⟩;refine A9 rfl ?_;refine kA2 ?_;refine pP (rdR z i 0) (tqR b x r.length y w) ?_;refine xg (E2 Et Et) (J6 hz i 0 b x y r w _ (by omega) (by assumption)) ?_;rintro _ _ ⟨i131,e131,hM131,rfl⟩;refine ZZ [0,2,0] ?_
 refine wT (rdR z i131 e131::(bl++h)) (h1:=cA Q3) ?_;exact⟨_,i131,e131,bl,⟨hJ _ _ hM131,V6 hM131 hn (by omega)⟩,⟨.mk k [] ch tg ex B0 none 0 [] none 0 [] A2 B4,rfl,J5 _,a1g hk0 (qi _) hC hG hX (P0 _ _) (T8 _ _) (a07 _ _) (P5 _ _) (K6 _ _)⟩,rfl⟩
end
end Go.Proofs.YtgcjpahhljmlmaaGreatDoor

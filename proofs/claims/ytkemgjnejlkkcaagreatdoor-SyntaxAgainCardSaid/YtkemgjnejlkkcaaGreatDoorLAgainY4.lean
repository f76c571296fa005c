import Derived.Test.YtkemgjnejlkkcaaGreatDoorLAgainY3
namespace Go.Sx
section
open Go.Eng Go.Pc Go
open Go.Xp hiding B D3
open Go.Ty (Ty Vr Tok)
open Go.Ly (Rw)
open Go.Lx (G3)
theorem a7W:∀ (l:List Pr) (d:Int),l.length<=(K6 d l).length
 | [],_=>by simp
 | x::r,d=>by
  show r.length+1<=(A8 x d++K6 d r).length;have:=a7W r d;have:=a6Q x d;rw[List.length_append];omega
theorem b0V:∀ (l:List Pr) (ns:List Int) (d:Int),l.length<=(S5 d ns l).length
 | [],_,_=>by simp
 | x::r,ns,d=>by
  show r.length+1<=((_,_)::(A8 x (d+2)++S5 d ns.tail r):List Ln).length;have:=b0V r ns.tail d;rw[List.length_cons,List.length_append];omega
theorem b7c {r:Rp}:a0Y r ⟨r.name,B2 r.base,B2 r.count⟩=true:=by
 unfold a0Y;rw[Y3,Y3];simp
theorem b9t {r:Rp} (h:L3 r=true) (hn:r.name≠[]):E9 r.base=true/\E9 r.count=true:=by
 unfold L3 at h;rw[if_neg (by simpa using hn)] at h;simp only[Bool.and_eq_true] at h;exact⟨h.1.2,h.2⟩
section
variable {R:List Rw} {n:Nat} {p:Pr} {d:Int} {top:Bool} {i:Nat}
theorem b1r (A:Ask R n p d top i) (h18:p.k≠18) (h11:p.k≠11) (hg:p.gl=[]):(∀ x ∈ p.ll,b4P R n x)/\(∀ x ∈ p.ll,PW x)/\(∀ x ∈ p.ll,∃ q,(J7 x (d+1) false q).1=true)/\OkL R (i+1) (K6 (d+1) p.ll)/\a07 R (i+1+(K6 (d+1) p.ll).length) d/\(K6 (d+1) p.ll).length<=n/\p.ll.length<=R.length - (i+1)/\i+(A8 p d).length=i+1+(K6 (d+1) p.ll).length:=by
 have hO:=A.o;have hA:=A.a;have hL:=A.l;have e:A8 p d=(d,A3 p.k p.name p.ch p.tg.l p.ex.l p.rep)::K6 (d+1) p.ll:=by rw[a00 h18,hg,a8s h11];simp[C9]
 rw[e] at hO hA hL ⊢;have hR:=hO.len (by simp);simp only[List.length_cons] at hA hL hR ⊢;have:=a7W p.ll (d+1);have hm:=A.v.ll h18;rw[if_neg h11] at hm;exact⟨fun x hx=>A.b x (.l hx),fun x hx=>A.w.sub (.l hx),hm,hO.tail,by rw[show i+1+(K6 (d+1) p.ll).length=i+((K6 (d+1) p.ll).length+1) by omega];exact hA,by omega,by omega,by omega⟩
theorem b3B (A:Ask R n p d top i) {w:B} (h18:p.k≠18) (h11:p.k≠11) (hk:p.k=8\/p.k=9) (hf:A3 p.k p.name p.ch p.tg.l p.ex.l p.rep=kw w::a02 p.rep) (hw:a09 R (A4 R n) w=some (a1X R (A4 R n) p.k))
 (hs:∀ x ∈ b6g,isM x.1 x.2 [kw w]=false) (ht:w≠[80,76,65,67,69,68]):Ans R n p d top i:=by
 have h:=N6 A.v.plain;rw[c2Q hk] at h;simp only[Bool.and_eq_true] at h;obtain⟨⟨⟨⟨_,h2⟩,h3⟩,h4⟩,h5⟩:=h;obtain⟨z1,z2,z3,z4,z5,z6⟩:=W5 h5;obtain⟨pB,pW,pM,pO,pA,pL,pR,pE⟩:=b1r A h18 h11 (S4 h3);have w':=A.w.own;by_cases hn:p.rep.name=[]
 ·obtain⟨qs,h6,h7⟩:=b1I p.ll (R.length - (i+1)) [] (i+1) pB pW pM pO (by rw[show d+1 - 1=d by omega];exact pA) pL pR
  refine a0s A h18 hf hw hs (.inr ht) (q:=prM p.k [] A0 [] [] B5 [] qs [] A6) ?_ (U6 rfl z1 z2 (E7 z3) (E7 z4) (T8 h4 hn) (a2o (S4 h3)) h7 z5 z6);unfold a1X;rw[b6Q hn,T7,Y6,if_neg (by simp[B5]),h6,pE];rfl
 ·have hone:p.ll.length=1:=by
   have:((!(!(p.rep.name==[])))||((p.ll.length:Int)==1))=true:=h2;rw[show(p.rep.name==[])=false by simpa using hn] at this;have:=eq_of_beq (show((p.ll.length:Int)==1)=true by simpa using this);omega
  obtain⟨x,hx⟩:=List.length_eq_one_iff.1 hone;have hxm:x ∈ p.ll:=by rw[hx];exact List.mem_cons_self ..
  have eL:K6 (d+1) p.ll=A8 x (d+1):=by rw[hx];simp[K6]
  rw[eL] at pO pA pL pE;obtain⟨q0,hm⟩:=pM x hxm;obtain⟨q,h6,h7⟩:=pB x hxm (d+1) q0 false (i+1) (pW x hxm) hm pO (pA.mono (by omega)) pL;obtain⟨rb,rc⟩:=b9t h4 hn;refine a0s A h18 hf hw hs (.inr ht) (q:=prM p.k [] A0 [] [] ⟨p.rep.name,B2 p.rep.base,B2 p.rep.count⟩ [] [q] [] A6) ?_ (U6 rfl z1 z2 (E7 z3) (E7 z4) b7c (a2o (S4 h3)) (by rw[hx];show(C8 x q&&true)=true;rw[h7];rfl) z5 z6);unfold a1X;rw[b6p hn rb w'.rb rc w'.rc,T7,Y6,if_pos hn,h6,pE];rfl
theorem d2L (A:Ask R n p d top i) (hk:p.k=8):Ans R n p d top i:=by
 have hf:A3 p.k p.name p.ch p.tg.l p.ex.l p.rep=kw [83,69,81]::a02 p.rep:=by
  unfold A3;repeat rw[if_neg (by omega)]
  rw[if_pos hk,I6 (by decide +kernel)];rfl
 exact b3B A (by omega) (by omega) (.inl hk) hf (by rw[hk];rfl) (by decide) (by decide)
theorem d1V (A:Ask R n p d top i) (hk:p.k=9):Ans R n p d top i:=by
 have hf:A3 p.k p.name p.ch p.tg.l p.ex.l p.rep=kw [80,65,82]::a02 p.rep:=by
  unfold A3;repeat rw[if_neg (by omega)]
  rw[if_pos hk,I6 (by decide +kernel)];rfl
 exact b3B A (by omega) (by omega) (.inr hk) hf (by rw[hk];rfl) (by decide) (by decide)
theorem d0M (A:Ask R n p d top i) (hk:p.k=10):Ans R n p d top i:=by
 have h:=N6 A.v.plain;rw[c5l hk] at h;simp only[Bool.and_eq_true] at h;obtain⟨⟨⟨⟨h1,h2⟩,h3⟩,h4⟩,h5⟩:=h;obtain⟨z1,z2,z3,z4,z5,z6⟩:=W5 h5;obtain⟨pB,pW,pM,pO,pA,pL,pR,pE⟩:=b1r A (by omega) (by omega) (S4 h3);have h2':p.ll.length=2:=by have:=eq_of_beq h2;omega
 obtain⟨x,y,hxy⟩:∃ x y,p.ll=[x,y]:=by
  rcases hq:p.ll with _ | ⟨x,_ | ⟨y,_ | ⟨z,r⟩⟩⟩ <;> rw[hq] at h2' <;> simp at h2'
  exact⟨x,y,rfl⟩
 have hxm:x ∈ p.ll:=by rw[hxy];exact List.mem_cons_self ..
 have hym:y ∈ p.ll:=by rw[hxy];exact List.mem_cons_of_mem _ (List.mem_cons_self ..)
 have eL:K6 (d+1) p.ll=A8 x (d+1)++A8 y (d+1):=by rw[hxy];simp[K6]
 rw[eL] at pO pA pL pE;rw[List.length_append] at pA pL pE;obtain⟨q0,hm⟩:=pM x hxm;obtain⟨q1,hm1⟩:=pM y hym;have hA1:a07 R (i+1+(A8 x (d+1)).length) (d+1):=by
  have hr:=pO.right;obtain⟨t,s,e⟩:=a5u y (d+1);rw[e] at hr;exact hr.after (Int.le_refl _)
 obtain⟨q,h6,h7⟩:=pB x hxm (d+1) q0 false (i+1) (pW x hxm) hm pO.left hA1 (by omega);obtain⟨u,h8,h9⟩:=pB y hym (d+1) q1 false (i+1+(A8 x (d+1)).length) (pW y hym) hm1 pO.right (by rw[Nat.add_assoc];exact pA.mono (by omega)) (by omega);have hf:A3 p.k p.name p.ch p.tg.l p.ex.l p.rep=kw [80,82,73]::[kw [80,65,82]]:=by
  unfold A3;repeat rw[if_neg (by omega)]
  rw[if_pos hk,I6 (s:=[80,82,73]) (by decide +kernel),I6 (s:=[80,65,82]) (by decide +kernel)]
 refine a0s A (by omega) hf (f:=b5u R (A4 R n)) rfl (by decide) (.inr (by decide)) (q:=prM 10 [] A0 [] [] B5 [] [q,u] [] A6) ?_ (U6 hk z1 z2 (E7 z3) (E7 z4) (T8 h4 (Z3 h1)) (a2o (S4 h3)) (by rw[hxy];show(C8 x q&&(C8 y u&&true))=true;rw[h7,h9];rfl) z5 z6);show M4 (A4 R n (d+1) false (i+1)) _=_;rw[h6,a0E,h8,a0E,pE,Nat.add_assoc]
theorem d1x (A:Ask R n p d top i) (hk:p.k=11):Ans R n p d top i:=by
 have h:=A.v.plain;rw[a0H (u:={ us0 with procs:=true,p0:=1,p1:=8 }) (by rw[hk];rfl) rfl] at h;simp only[Bool.and_eq_true] at h;obtain⟨h4,h1,hu⟩:=h;unfold L8 at hu;simp only[Bool.and_eq_true,O2,Bool.false_and,Bool.false_or,Bool.not_false,Bool.true_and,Bool.false_eq_true,if_false,if_true,us0] at hu;obtain⟨⟨⟨⟨⟨⟨⟨u1,u2⟩,u3⟩,u4⟩,u5⟩,u6⟩,u7⟩,u8⟩:=hu;obtain⟨s1,s2⟩:=a9i u1;obtain⟨_,g2,g3⟩:=F9 u2;obtain⟨_,t2,t3⟩:=F9 u5;obtain⟨_,x2,x3⟩:=F9 u6;obtain⟨n1,n2,n3⟩:=F9 u7;have hg:p.gl=[]:=List.length_eq_zero_iff.1 (by omega);have ht:p.tg.l=[]:=List.length_eq_zero_iff.1 (by omega);have hx:p.ex.l=[]:=List.length_eq_zero_iff.1 (by omega);have hrn:p.rep.name=[]:=by simpa using h1
 have hO:=A.o;have hA:=A.a;have hL:=A.l;have e:A8 p d=(d,A3 p.k p.name p.ch p.tg.l p.ex.l p.rep)::S5 d p.pn.l p.ll:=by rw[a00 (by omega),hg,hk,a8f];simp[C9]
 rw[e] at hO hA hL;have hR:=hO.len (by simp);simp only[List.length_cons] at hA hL hR;have hll:=b0V p.ll p.pn.l d;have hm:=A.v.ll (by omega);rw[if_pos hk] at hm;obtain⟨qs,h6,h7⟩:=a9Y (R:=R) (n:=n) (d:=d) p.ll p.pn.l (R.length - (i+1)) [] [] (i+1) (by omega) (fun v hv=>by have:=n1 v hv;simp only[Bool.and_eq_true,decide_eq_true_eq] at this;exact this) (fun x hx=>A.b x (.l hx)) (fun x hx=>A.w.sub (.l hx)) hm hO.tail
  (by rw[show i+1+(S5 d p.pn.l p.ll).length=i+((S5 d p.pn.l p.ll).length+1) by omega];exact hA) (by omega) (by omega) (by simp;omega) (by simp;omega)
 have hf:A3 p.k p.name p.ch p.tg.l p.ex.l p.rep=kw [80,76,65,67,69,68]::[kw [80,65,82]]:=by
  unfold A3;repeat rw[if_neg (by omega)]
  rw[if_pos hk,I6 (s:=[80,76,65,67,69,68]) (by decide +kernel),I6 (s:=[80,65,82]) (by decide +kernel)]
 refine a0s A (by omega) hf (f:=a4b R (A4 R n)) rfl (by decide) (.inl (A.v.top hk)) (q:=prM 11 [] A0 [] [] B5 [] qs p.pn.l A6) ?_ (U6 hk (by simpa using u3) u4 (E7 ht) (E7 hx) (T8 h4 hrn) (a2o hg) h7 rfl (by rw[Y9];exact u8));show M4 (P5 R (A4 R n) d (R.length - (i+1)) [] [] (i+1)) _=_;rw[h6,a0E,e,List.length_cons];simp;omega
theorem d0Y {r:Rp} {l:List Gu} {lo hi:Int} {le mo:Int} (hml:mo=(if (r.name==[])=true then 16 else 1)/\le=(if (r.name==[])=true then 0 else 1)) (h:G2 l le mo (gQ lo hi)=true):(if r.name≠[] then 1 else 0)<=l.length/\l.length<=(if r.name≠[] then 1 else 16):=by
 obtain⟨_,h2,h3⟩:=F9 h;obtain⟨rfl,rfl⟩:=hml;by_cases hn:r.name=[]
 ·rw[hn] at h2 h3 ⊢
  simp at h2 h3 ⊢;omega
 ·rw[show(r.name==[])=false by simpa using hn] at h2 h3
  simp[hn] at h2 h3 ⊢;omega
theorem a9h (A:Ask R n p d top i) {lo hi:Int} {row:List Tok->E Gu} (hI:a0X row) (h18:p.k≠18) (hll:p.ll=[]) (h4:L3 p.rep=true) {le mo:Int} (hml:mo=(if (p.rep.name==[])=true then 16 else 1)/\le=(if (p.rep.name==[])=true then 0 else 1)) (hg:G2 p.gl le mo (gQ lo hi)=true)
 (hH:∀ g ∈ p.gl,a4G row g):∃ r gs,V6 R (A4 R n) p.k row d (a02 p.rep) i=.ok (prM p.k [] A0 [] [] r gs [] [] A6,i+(A8 p d).length)/\eqL K8 p.gl gs=true/\a0Y p.rep r=true:=by
 obtain⟨l1,l2⟩:=d0Y hml hg;obtain⟨g1,_,_⟩:=F9 hg;obtain⟨gs,h6,h7⟩:=a9g A h18 hll hI g1 hH l1 l2;have w':=A.w.own;by_cases hn:p.rep.name=[]
 ·refine⟨B5,gs,?_,h7,T8 h4 hn⟩
  rw[if_neg (by simpa using hn),if_neg (by simpa using hn)] at h6;unfold V6;rw[b6Q hn,T7,Y6,if_neg (by simp[B5]),if_neg (by simp[B5]),h6];rfl
 ·obtain⟨rb,rc⟩:=b9t h4 hn
  refine⟨⟨p.rep.name,B2 p.rep.base,B2 p.rep.count⟩,gs,?_,h7,b7c⟩;rw[if_pos hn,if_pos hn] at h6;unfold V6;rw[b6p hn rb w'.rb rc w'.rc,T7,Y6,if_pos hn,if_pos hn,h6];rfl
theorem a8o {lo hi:Int} (A:Ask R n p d top i) (hg:∀ g ∈ p.gl,gQ lo hi g=true) {row:List Tok->E Gu} (hr:∀ g:Gu,guP g=true->GW g->lo<=g.k->g.k<=hi->a4G row g):∀ g ∈ p.gl,a4G row g:=fun g hgm=>by
 have:=a8C (hg g hgm);exact hr g this.1 (A.w.own.gs g hgm) this.2.1 this.2.2
theorem d0i (A:Ask R n p d top i) (hk:p.k=12):Ans R n p d top i:=by
 have h:=N6 A.v.plain;rw[b1p (.inl hk) ⟨rfl,rfl⟩] at h;simp only[Bool.and_eq_true] at h;obtain⟨⟨⟨⟨_,h2⟩,h3⟩,h4⟩,h5⟩:=h;obtain⟨z1,z2,z3,z4,z5,z6⟩:=W5 h5;have hH:=a8o A (F9 h3).1 (row:=a2l) fun g a b c e=>b5L a b (by omega)
 obtain⟨r,gs,h6,h7,h8⟩:=a9h A b5S (by omega) (S4 h2) h4 ⟨rfl,rfl⟩ h3 hH;have hf:A3 p.k p.name p.ch p.tg.l p.ex.l p.rep=kw [65,76,84]::a02 p.rep:=by
  unfold A3;repeat rw[if_neg (by omega)]
  rw[if_pos hk,I6 (by decide +kernel)];rfl
 exact a0s A (by omega) hf (f:=V6 R (A4 R n) p.k a2l) (by rw[hk];rfl) (by decide) (.inr (by decide)) h6 (U6 rfl z1 z2 (E7 z3) (E7 z4) h8 h7 (a0m (S4 h2)) z5 z6)
theorem d06 (A:Ask R n p d top i) (hk:p.k=13):Ans R n p d top i:=by
 have h:=N6 A.v.plain;rw[b1p (.inr hk) ⟨rfl,rfl⟩] at h;simp only[Bool.and_eq_true] at h;obtain⟨⟨⟨⟨_,h2⟩,h3⟩,h4⟩,h5⟩:=h;obtain⟨z1,z2,z3,z4,z5,z6⟩:=W5 h5;have hH:=a8o A (F9 h3).1 (row:=a2l) fun g a b c e=>b5L a b (by omega)
 obtain⟨r,gs,h6,h7,h8⟩:=a9h A b5S (by omega) (S4 h2) h4 ⟨rfl,rfl⟩ h3 hH;have hf:A3 p.k p.name p.ch p.tg.l p.ex.l p.rep=kw [80,82,73]::kw [65,76,84]::a02 p.rep:=by
  unfold A3;repeat rw[if_neg (by omega)]
  rw[if_pos hk,I6 (s:=[80,82,73]) (by decide +kernel),I6 (s:=[65,76,84]) (by decide +kernel)];rfl
 refine a0s A (by omega) hf (f:=b5u R (A4 R n)) rfl (by decide) (.inr (by decide)) ?_ (U6 rfl z1 z2 (E7 z3) (E7 z4) h8 h7 (a0m (S4 h2)) z5 z6);rw[<- h6,hk];rfl
theorem d0X (A:Ask R n p d top i) (hk:p.k=14):Ans R n p d top i:=by
 have h:=N6 A.v.plain;rw[c5h hk ⟨rfl,rfl⟩] at h;simp only[Bool.and_eq_true] at h;obtain⟨⟨⟨⟨_,h2⟩,h3⟩,h4⟩,h5⟩:=h;obtain⟨z1,z2,z3,z4,z5,z6⟩:=W5 h5;have hH:=a8o A (F9 h3).1 (row:=ifM) fun g a b c e=>c7T a b (by omega)
 obtain⟨r,gs,h6,h7,h8⟩:=a9h A c8m (by omega) (S4 h2) h4 ⟨rfl,rfl⟩ h3 hH;have hf:A3 p.k p.name p.ch p.tg.l p.ex.l p.rep=kw [73,70]::a02 p.rep:=by
  unfold A3;repeat rw[if_neg (by omega)]
  rw[if_pos hk,I6 (by decide +kernel)];rfl
 exact a0s A (by omega) hf (f:=V6 R (A4 R n) p.k ifM) (by rw[hk];rfl) (by decide) (.inr (by decide)) h6 (U6 rfl z1 z2 (E7 z3) (E7 z4) h8 h7 (a0m (S4 h2)) z5 z6)
theorem d0V (A:Ask R n p d top i) (hk:p.k=15):Ans R n p d top i:=by
 have h:=N6 A.v.plain;rw[c5Y hk] at h;simp only[Bool.and_eq_true] at h;obtain⟨⟨⟨⟨⟨h1,he⟩,h2⟩,h3⟩,h4⟩,h5⟩:=h;obtain⟨z1,z2,z3,_,z5,z6⟩:=W5 h5;obtain⟨e1,e2,e3⟩:=F9 he;obtain⟨g1,g2,g3⟩:=F9 h3;obtain⟨x,hx⟩:=List.length_eq_one_iff.1 (show p.ex.l.length=1 by omega);have hxm:x ∈ p.ex.l:=by rw[hx];exact List.mem_cons_self ..
 have hH:=a8o A g1 (row:=a7M) fun g a b c e=>c6k a b (by omega)
 obtain⟨gs,h6,h7⟩:=a9g A (by omega) (S4 h2) c2A (least:=0) (most:=16) g1 hH (by omega) (by omega);have hf:A3 p.k p.name p.ch p.tg.l p.ex.l p.rep=kw [67,65,83,69]::B8 x:=by
  unfold A3;repeat rw[if_neg (by omega)]
  rw[if_pos hk,I6 (by decide +kernel),hx];rfl
 have r2:=V4 (e1 x hxm) (A.w.own.ex x hxm) [] a2L;rw[List.append_nil] at r2;refine a0s A (by omega) hf (f:=b5x R (A4 R n)) rfl (by decide) (.inr (by decide)) (q:=prM 15 [] A0 [] [B2 x] B5 gs [] [] A6) ?_ (U6 hk z1 z2 (E7 z3) (by rw[hx];exact a0C [x]) (T8 h4 (Z3 h1)) h7 (a0m (S4 h2)) z5 z6);unfold b5x;rw[r2,T7,Y6,h6];rfl
theorem d0t (A:Ask R n p d top i) (hk:p.k=16):Ans R n p d top i:=by
 have h:=N6 A.v.plain;rw[c4y hk] at h;simp only[Bool.and_eq_true] at h;obtain⟨⟨⟨⟨⟨h1,he⟩,h2⟩,h3⟩,h4⟩,h5⟩:=h;obtain⟨z1,z2,z3,_,z5,z6⟩:=W5 h5;obtain⟨e1,e2,e3⟩:=F9 he;obtain⟨x,hx⟩:=List.length_eq_one_iff.1 (show p.ex.l.length=1 by omega);have hxm:x ∈ p.ex.l:=by rw[hx];exact List.mem_cons_self ..
 obtain⟨y,hy⟩:=List.length_eq_one_iff.1 (show p.ll.length=1 by have:=eq_of_beq h2;omega);have hym:y ∈ p.ll:=by rw[hy];exact List.mem_cons_self ..
 obtain⟨pB,pW,pM,pO,pA,pL,pR,pE⟩:=b1r A (by omega) (by omega) (S4 h3);have eL:K6 (d+1) p.ll=A8 y (d+1):=by rw[hy];simp[K6]
 rw[eL] at pO pA pL pE;obtain⟨q0,hm⟩:=pM y hym;obtain⟨q,h6,h7⟩:=pB y hym (d+1) q0 false (i+1) (pW y hym) hm pO (pA.mono (by omega)) pL;have hf:A3 p.k p.name p.ch p.tg.l p.ex.l p.rep=kw [87,72,73,76,69]::B8 x:=by
  unfold A3;repeat rw[if_neg (by omega)]
  rw[if_pos hk,I6 (by decide +kernel),hx];rfl
 have r2:=V4 (e1 x hxm) (A.w.own.ex x hxm) [] a2L;rw[List.append_nil] at r2;refine a0s A (by omega) hf (f:=b02 (A4 R n)) rfl (by decide) (.inr (by decide)) (q:=prM 16 [] A0 [] [B2 x] B5 [] [q] [] A6) ?_ (U6 hk z1 z2 (E7 z3) (by rw[hx];exact a0C [x]) (T8 h4 (Z3 h1)) (a2o (S4 h3)) (by rw[hy];show(C8 y q&&true)=true;rw[h7];rfl) z5 z6);unfold b02;rw[r2,T7,Y6,h6,a0E,pE]
end
end
section
open Go.Eng Go.Pc Go
open Go.Xp hiding B D3
open Go.Ty (Ty Vr Tok)
open Go.Ly (Rw)
open Go.Lx (G3)
theorem a8n {ty:Ty} {nm:Sli B} {e:Ex} {cs:Bool} {vs:Sli Vr} {fs:Sli Fo} {ba:Option Addr} {bc:Nat} {bl:List Pr} (h:R3 (.mk 0 ty nm e cs vs fs ba bc bl) A6=true) :
 ty=Go.Ty.zeroT/\nm.l=[]/\G8 e=true/\cs=false/\vs.l=[]/\fs.l=[]/\bl=[]:=by
 rw[Y9] at h;unfold I8 at h;have h:((((((((((0:Int)==0)&&Go.Ty.eqT ty Go.Ty.zeroT)&&(nm.l==[]))&&C7 e A0)&&(cs==false))&&eqL L5 vs.l [])&&eqL a0z fs.l [])&&((bl.length:Int)==0)))=true:=h;simp only[Bool.and_eq_true,Y7] at h;obtain⟨⟨⟨⟨⟨⟨⟨_,h2⟩,h3⟩,h4⟩,h5⟩,h6⟩,h7⟩,h8⟩:=h;exact⟨(Go.Ty.eqT_iff _ _).1 h2,by simpa using h3,h4,by simpa using h5,emp h6,emp h7,S4 h8⟩
theorem a7m {s:Sp} {k:Int} {ty:Ty} {nm:List B} {e:Ex} {cs:Bool} {vs:List Vr} {fs:List Fo} {bl:List Pr} (h1:s.k=k) (h2:s.ty=ty) (h3:s.names.l=nm) (h4:C7 s.e e=true) (h5:a1s s.cs s.vs.l cs vs=true) (h6:s.fs.l=fs) (h7:eqL C8 s.bl bl=true) :
 R3 s (spM k ty nm e cs vs fs bl)=true:=by
 rw[a4Y];show(((((s.k==k)&&Go.Ty.eqT s.ty ty)&&eqL a0z s.fs.l fs))&&(((eqL (fun a b:B=>a==b) s.names.l nm&&C7 s.e e)&&a1s s.cs s.vs.l cs vs)&&eqL C8 s.bl bl))=true;rw[h4,h5,h7,h1,h2,h3,h6,a3X,V7 a3t,V7 (fun x=>by simp)];simp
theorem b4o {s:Sp} (h1:s.cs=false) (h2:s.vs.l=[]):a1s s.cs s.vs.l false []=true:=by rw[h1,h2];rfl
theorem zz:R3 (.mk 0 Go.Ty.zeroT A7 A0 false A7 A7 none 0 []) A6=true:=by decide +kernel
theorem a7j {l:List B} (h:G2 l 1 1 Go.Lx.name=true):∃ x,l=[x]:=by
 obtain⟨_,h2,h3⟩:=F9 h;exact List.length_eq_one_iff.1 (by omega)
def a6W (R:List Rw) (n:Nat) (s:Sp) (d:Int) (i:Nat):Prop:=∀ {t:List Tok} {L:List Ln},F5 s d=(d,t)::L->∃ s',W2 R (A4 R n) d t i=.ok (some s',i+(F5 s d).length)/\R3 s s'=true
theorem b1o {t:Ty} (h:Q0 t=true):Go.Ty.may t=true:=by
 unfold Q0 at h;simp only[Bool.and_eq_true] at h;exact h.1.1
theorem b8p {s:Sp} (h:spP s=true) (i:Nat):a7v s [sy [58]] i=.ok (some s,i+1):=by
 show(if spP s then D9 [] i fun i=>.ok (some s,i) else .error (110,i))=_;rw[if_pos h];rfl
section
variable {R:List Rw} {n:Nat} {s:Sp} {d:Int} {i:Nat}
theorem d1b (h:spP s=true) (hk:s.k=1):a6W R n s d i:=fun {t L} hl=>by
 rw[d2l hk] at h;simp only[Bool.and_eq_true] at h;obtain⟨⟨h1,h2⟩,h3⟩:=h;obtain⟨_,_,z3,z4,z5,z6,z7⟩:=a8n h3;obtain⟨n1,n2,n3⟩:=F9 h2;have e:F5 s d=[(d,(G1 s.ty++I9 s.names.l)++[sy [58]])]:=by rw[T9,if_pos hk,Q7 (by decide +kernel)]
 rw[e] at hl;cases hl;have hs:spP (spM 1 s.ty s.names.l A0 false [] [] [])=true:=by
  rw[d2l rfl];show((Go.Ty.may s.ty&&G2 s.names.l 1 8 Go.Lx.name)&&R3 (.mk 0 Go.Ty.zeroT A7 A0 false A7 A7 none 0 []) A6)=true;rw[h1,h2,zz];rfl
 refine⟨spM 1 s.ty s.names.l A0 false [] [] [],?_,a7m hk rfl rfl z3 (b4o z4 z5) z6 (a0m z7)⟩;rw[e];unfold W2;rw[List.append_assoc,a2N (by decide) h1,a2N (by decide) h1,a2N (by decide) h1,if_neg (by decide),if_neg (by decide),if_neg (by decide),if_pos (b9R h1 _),a6g h1 _ trivial,T7,b0U (by omega) (by omega) [sy [58]] rfl,T7,if_neg (by decide),b8p hs];rfl
theorem d0x (h:spP s=true) (hW:Wf s.e) (hk:s.k=2):a6W R n s d i:=fun {t L} hl=>by
 rw[d2n hk] at h;simp only[Bool.and_eq_true] at h;obtain⟨⟨⟨h1,h2⟩,he⟩,h3⟩:=h;obtain⟨_,_,_,z4,z5,z6,z7⟩:=a8n h3;obtain⟨x,hx⟩:=a7j h2;have hm:=b1o h1;have e:F5 s d=[(d,kw [86,65,76]::(G1 s.ty++G5 x::kw [73,83]::(B8 s.e++[sy [58]])))]:=by
  rw[T9,if_neg (by omega),if_pos hk,Q7 (s:=[58]) (by decide +kernel),I6 (s:=[86,65,76]) (by decide +kernel),I6 (s:=[73,83]) (by decide +kernel),hx];simp[I9,B7]
 rw[e] at hl;cases hl;have hs:spP (spM 2 s.ty [x] (B2 s.e) false [] [] [])=true:=by
  rw[d2n rfl];show(((Q0 s.ty&&G2 [x] 1 1 Go.Lx.name)&&E9 (B2 s.e))&&R3 (.mk 0 Go.Ty.zeroT A7 A0 false A7 A7 none 0 []) A6)=true;rw[h1,<- hx,h2,P8,he,zz];rfl
 refine⟨spM 2 s.ty [x] (B2 s.e) false [] [] [],?_,a7m hk rfl hx (Y3 _) (b4o z4 z5) z6 (a0m z7)⟩;rw[e];show E8 (a4H (G1 s.ty++G5 x::kw [73,83]::(B8 s.e++[sy [58]]))) i _=_;rw[a6g hm _ trivial];show E8 (H3 (B8 s.e++[sy [58]])) i _=_;rw[V4 he hW _ (X0 b3H _),T7];exact b8p hs i
theorem d0I (h:spP s=true) (hW:Wf s.e) (hk:s.k=3):a6W R n s d i:=fun {t L} hl=>by
 rw[d32 hk] at h;simp only[Bool.and_eq_true] at h;obtain⟨⟨⟨h1,h2⟩,he⟩,h3⟩:=h;obtain⟨_,_,_,z4,z5,z6,z7⟩:=a8n h3;obtain⟨x,hx⟩:=a7j h2;have hm:=b1o h1;have e:F5 s d=[(d,G1 s.ty++(I9 s.names.l++kw [73,83]::(B8 s.e++[sy [58]])))]:=by
  rw[T9,if_neg (by omega),if_neg (by omega),if_pos hk,Q7 (s:=[58]) (by decide +kernel),I6 (s:=[73,83]) (by decide +kernel)];simp
 rw[e] at hl;cases hl;have hs:spP (spM 3 s.ty s.names.l (B2 s.e) false [] [] [])=true:=by
  rw[d32 rfl];show(((Q0 s.ty&&G2 s.names.l 1 1 Go.Lx.name)&&D7 (B2 s.e))&&R3 (.mk 0 Go.Ty.zeroT A7 A0 false A7 A7 none 0 []) A6)=true;rw[h1,h2,Z1,he,zz];rfl
 refine⟨spM 3 s.ty s.names.l (B2 s.e) false [] [] [],?_,a7m hk rfl rfl (Y3 _) (b4o z4 z5) z6 (a0m z7)⟩;rw[e];unfold W2;rw[a2N (by decide) hm,a2N (by decide) hm,a2N (by decide) hm,if_neg (by decide),if_neg (by decide),if_neg (by decide),if_pos (b9R hm _),a6g hm _ trivial,T7,b0U (by rw[hx];simp) (by rw[hx];simp) (kw [73,83]::(B8 s.e++[sy [58]])) rfl,T7,if_pos (show isM 2 [73,83] (kw [73,83]::(B8 s.e++[sy [58]]))=true from rfl)];show E8 (F6 (B8 s.e++[sy [58]])) i _=_;rw[a6X he hW _ (X0 b3H _),T7,b8p hs];rfl
theorem b5w {x:Ln} {L:List Ln} (hO:OkL R i (x::L)) {w:Tok} (hx:x.2=[w]) {k:Int} {u:B} (hw:isM k u [w]=true) {β:Type} (f:Nat->PE β):a1N R x.1 k u i f=f (i+1):=by
 unfold a1N;rw[hO.open (a1M i (J4 i f)),hx];show(if isM k u [w] then D9 [] i f else _)=_;rw[if_pos hw];rfl
theorem d0m (h:spP s=true) (hk:s.k=5) (hO:OkL R i (F5 s d)) (hn:(F5 s d).length<=n+1) (hB:∀ x ∈ s.bl,b4P R n x) (hW:∀ x ∈ s.bl,PW x) (hM:∀ x ∈ s.bl,∃ q,(J7 x (d+1) false q).1=true):a6W R n s d i:=fun {t L} hl=>by
 rw[d2a hk] at h;simp only[Bool.and_eq_true,decide_eq_true_eq] at h;obtain⟨⟨⟨⟨h1,h2⟩,h3⟩,h4⟩,h5⟩:=h;obtain⟨z1,_,z3,z4,z5,_,_⟩:=a8n h5;obtain⟨x,hx⟩:=a7j h1;obtain⟨y,hy⟩:=List.length_eq_one_iff.1 (show s.bl.length=1 by have:=eq_of_beq h3;omega);have hym:y ∈ s.bl:=by rw[hy];exact List.mem_cons_self ..
 have hf:=List.all_eq_true.1 h4;have e:F5 s d=(d,kw [80,82,79,67]::G5 x::sy [40]::(B7 [44] J6 s.fs.l++[sy [41]]))::(A8 y (d+1)++[(d,[sy [58]])]):=by
  rw[T9,if_neg (by omega),if_neg (by omega),if_neg (by omega),if_pos hk,Q7 (s:=[58]) (by decide +kernel),Q7 (s:=[40]) (by decide +kernel),Q7 (s:=[41]) (by decide +kernel),I6 (s:=[80,82,79,67]) (by decide +kernel),hx,hy];simp[I9,B7,a0V]
 rw[e] at hl hO hn ⊢;cases hl;have hlen:((d,kw [80,82,79,67]::G5 x::sy [40]::(B7 [44] J6 s.fs.l++[sy [41]]))::(A8 y (d+1)++[(d,[sy [58]])]):List Ln).length=(A8 y (d+1)).length+2:=by simp
 rw[hlen] at hn ⊢;have hb:brM W8 (sy [40]::(B7 [44] J6 s.fs.l++[sy [41]]))=.ok (s.fs.l,[]):=by
  unfold brM;rw[a2s (by decide)];cases hq:s.fs.l with
  | nil=>rfl
  | cons f l=>
   have hfm:f ∈ s.fs.l:=by rw[hq];exact List.mem_cons_self ..
   have r2:=a6f (f:=W8) (tok:=J6) (g:=fun x:Fo=>x) (P:=fun _=>True) (sep:=[44]) (most:=8) (fun _=>trivial) (l:=f::l) (by simp) (by rw[<- hq];omega) (fun u hu=>b5z (hf u (by rw[hq];exact hu))) [sy [41]] ⟨trivial,rfl⟩;have hc:isM 5 [41] (B7 [44] J6 (f::l)++[sy [41]])=false:=by
    rw[Y8];unfold J6;cases f.val with
    | true=>exact(show isM 5 [41] [A2 [86,65,76]]=false by decide +kernel)
    | false=>
     show isM 5 [41] (((([]++G1 f.ty)++[G5 f.name])++_)++_)=false;rw[List.nil_append,List.append_assoc,List.append_assoc];exact a2N (by decide) (b7a (hf f hfm)) _
   rw[hc,if_neg (by decide),r2,I3,a2s (by decide),List.map_id']
 have hT:=hO.tail;have hA1:a07 R (i+1+(A8 y (d+1)).length) (d+1):=OkL.after hT.right (by show d<=d+1;omega);obtain⟨q0,hm⟩:=hM y hym;obtain⟨q,h6,h7⟩:=hB y hym (d+1) q0 false (i+1) (hW y hym) hm hT.left hA1 (by omega);refine⟨spM 5 Go.Ty.zeroT [x] A0 false [] s.fs.l [q],?_,a7m hk z1 hx z3 (b4o z4 z5) rfl (by rw[hy];show(C8 y q&&true)=true;rw[h7];rfl)⟩;show E8 (brM W8 (sy [40]::(B7 [44] J6 s.fs.l++[sy [41]]))) i _=_;rw[hb,T7,Y6,h6,a0E];refine(b5w hT.right (x:=(d,[sy [58]])) rfl rfl _).trans ?_;rw[show i+1+(A8 y (d+1)).length+1=i+((A8 y (d+1)).length+2) by omega];rfl
end
end
section
open Go.Eng Go.Pc Go
open Go.Xp hiding B D3
open Go.Ty (Ty Vr Tok)
open Go.Ly (Rw)
open Go.Lx (G3)
theorem c4Q {k:Int} (h:Go.Ty.prim k=true):Q0 ⟨k,0,0,[]⟩=true:=by
 unfold Go.Ty.prim at h;simp only[Bool.or_eq_true,beq_iff_eq] at h;rcases h with (h | h) | h <;> rw[h] <;> decide +kernel
theorem b0A {l:List Int} {least:Int} (h:Go.Ty.itemsB l least=true):(∀ x ∈ l,Q0 ⟨x,0,0,[]⟩=true)/\least<=l.length/\(l.length:Int)<=8:=by
 rw[Go.Ty.items_eq] at h;unfold Go.Ty.itemsR at h;simp only[Bool.and_eq_true,decide_eq_true_eq] at h;exact⟨fun x hx=>c4Q (List.all_eq_true.1 h.1 x hx),h.2.1,h.2.2⟩
theorem c4k {v:Vr} (h:Go.Ty.itemsB v.items 0=true):Z4 (G9 v)=.ok (vrM v.tag v.items,[]):=by
 obtain⟨h1,h2,h3⟩:=b0A h;unfold G9;cases hv:v.items with
 | nil=>rfl
 | cons x l=>
  rw[hv] at h1 h3;have hl:=b0y (l:=x::l) (by simp) (by omega) h1 [] rfl;rw[List.append_nil] at hl;have hp:(B7 [59] Y0 (x::l)).length≠0:=by
   obtain⟨u,r,e,_⟩:=b1g (b1o (h1 x (List.mem_cons_self ..)));rw[Y8,show Y0 x=G1 ⟨x,0,0,[]⟩ from rfl,e];simp
  unfold a1R;rw[if_neg hp];show M7 (M0 a1D [59] 8 (B7 [59] Y0 (x::l))) _=_;rw[hl];rfl
def sv (v:Vr):Vr:=vrM v.tag v.items
theorem d1l (pre:List Vr) (v:Vr):Go.Ty.badV (pre.map sv) (sv v)=Go.Ty.badV pre v:=by
 unfold Go.Ty.badV Go.Ty.tagIn;rw[List.any_map];rfl
theorem b6B:∀ (l pre:List Vr),Go.Ty.mayIn (pre.map sv) (l.map sv)=Go.Ty.mayIn pre l
 | [],_=>rfl
 | v::r,pre=>by
  show(if Go.Ty.badV (pre.map sv) (sv v) then false else Go.Ty.mayIn (pre.map sv++[sv v]) (r.map sv))=if Go.Ty.badV pre v then false else Go.Ty.mayIn (pre++[v]) r
  rw[d1l,show pre.map sv++[sv v]=(pre++[v]).map sv by simp,b6B r]
theorem b3X:∀ (a b pre:List Vr),Go.Ty.mayIn pre (a++b)=true->Go.Ty.mayIn pre a=true
 | [],_,_,_=>rfl
 | v::a,b,pre,h=>by
  have h:(if Go.Ty.badV pre v then false else Go.Ty.mayIn (pre++[v]) (a++b))=true:=h;show(if Go.Ty.badV pre v then false else Go.Ty.mayIn (pre++[v]) a)=true;by_cases hb:Go.Ty.badV pre v=true
  ·rw[if_pos hb] at h;cases h
  ·rw[if_neg hb] at h ⊢
   exact b3X a b _ h
theorem b2Q:∀ (a:List Vr) (v:Vr) (b pre:List Vr),Go.Ty.mayIn pre (a++v::b)=true->Go.Ty.badV (pre++a) v=false
 | [],v,b,pre,h=>by
  have h:(if Go.Ty.badV pre v then false else Go.Ty.mayIn (pre++[v]) b)=true:=h;rw[List.append_nil];by_cases hb:Go.Ty.badV pre v=true
  ·rw[if_pos hb] at h;cases h
  ·simpa using hb
 | u::a,v,b,pre,h=>by
  have h:(if Go.Ty.badV pre u then false else Go.Ty.mayIn (pre++[u]) (a++v::b))=true:=h;by_cases hb:Go.Ty.badV pre u=true
  ·rw[if_pos hb] at h;cases h
  ·rw[if_neg hb] at h
   have:=b2Q a v b _ h;rwa [List.append_assoc] at this
section
variable {R:List Rw} {n:Nat} {s:Sp} {d:Int} {i:Nat}
theorem b1A:∀ (l pre:List Vr) (k:Nat) (i:Nat),Go.Ty.mayIn [] (pre++l)=true->pre.length+l.length<=16->1<=pre.length+l.length->OkL R i (l.map fun v=>((d+2,G9 v):Ln))->a07 R (i+l.length) (d+1)->l.length<=k ->
 U3 R d k (pre.map sv) i=.ok ((pre++l).map sv,i+l.length)
 | [],pre,k,i,_,_,h1,_,hA,_=>by
  have hh:M8 R (d+2) i=false:=hA.here (by omega);have hl:¬ (pre.map sv).length=0:=by simp at h1 ⊢;intro q;rw[q] at h1;simp at h1
  cases k with
  | zero=>unfold U3;rw[if_neg hl];simp
  | succ k=>unfold U3;rw[if_neg (by rw[hh];intro q;rcases q with q | q;exact hl q;cases q)];simp
 | v::r,_,0,_,_,_,_,_,_,hk=>by simp at hk
 | v::r,pre,k+1,i,hm,h16,_,hO,hA,hk=>by
  have hO:OkL R i (((d+2,G9 v):Ln)::r.map fun v=>((d+2,G9 v):Ln)):=hO;have hh:M8 R (d+2) i=true:=by rw[hO.here];simp
  have hb:=b2Q pre v r [] hm;have hi:Go.Ty.itemsB v.items 0=true:=by
   unfold Go.Ty.badV at hb;simp only[Bool.or_eq_false_iff,Bool.not_eq_false'] at hb;exact hb.1.2
  have hp:Go.Ty.mayPr true (pre.map sv++[sv v])=true:=by
   have h1:Go.Ty.mayIn [] (pre++[v])=true:=b3X (pre++[v]) r [] (by simpa using hm);have h2:=b6B (pre++[v]) [];rw[h1] at h2;unfold Go.Ty.mayPr;rw[if_neg (by decide),if_neg (by simp at h16 ⊢;omega)];simpa using h2
  have ih:=b1A r (pre++[v]) k (i+1) (by simpa using hm) (by simp at h16 ⊢;omega) (by simp;omega) hO.tail (by simp at hA;rw[show i+1+r.length=i+(r.length+1) by omega];exact hA) (by simpa using hk);unfold U3;rw[if_pos (.inr hh)];refine(hO.open (J2 b4J i fun w ts _=>by
   show(if Go.Ty.mayPr true (pre.map sv++[w]) then D9 (ts.map z0) i _ else _)=if Go.Ty.mayPr true (pre.map sv++[w]) then D9 ts i _ else _
   split
   ·exact J4 i _ ts (by assumption)
   ·rfl)).trans ?_
  show E8 (Z4 (G9 v)) i _=_;rw[c4k hi,T7];show(if Go.Ty.mayPr true (pre.map sv++[sv v]) then D9 [] i fun i=>U3 R d k (pre.map sv++[sv v]) i else _)=_;rw[if_pos hp,Y6,show pre.map sv++[sv v]=(pre++[v]).map sv by simp,ih];simp;omega
theorem b9r:∀ l:List Vr,eqL L5 l (l.map sv)=true
 | []=>rfl
 | v::r=>by
  show(L5 v (sv v)&&eqL L5 r (r.map sv))=true;rw[b9r r];unfold L5;show(((v.tag==v.tag)&&(v.items==v.items))&&true)=true;simp
theorem d1m (h:spP s=true) (hk:s.k=4) (hO:OkL R i (F5 s d)):a6W R n s d i:=fun {t L} hl=>by
 rw[d2d hk] at h;simp only[Bool.and_eq_true] at h;obtain⟨⟨h1,h2⟩,h3⟩:=h;obtain⟨z1,_,z3,_,_,z6,z7⟩:=a8n h3;obtain⟨x,hx⟩:=a7j h1;cases hc:s.cs with
 | false=>
  rw[hc] at h2;unfold Go.Ty.mayPr at h2;rw[if_pos (by decide)] at h2;simp only[Bool.and_eq_true] at h2;obtain⟨⟨h4,h5⟩,h6⟩:=h2;obtain⟨v,hv⟩:=List.length_eq_one_iff.1 (show s.vs.l.length=1 by have:=eq_of_beq h4;omega);rw[hv] at h5 h6;obtain⟨i1,i2,i3⟩:=b0A h6;have e:F5 s d=[(d,kw [80,82,79,84,79,67,79,76]::G5 x::kw [73,83]::(B7 [59] Y0 v.items++[sy [58]]))]:=by
   rw[T9,if_neg (by omega),if_neg (by omega),if_neg (by omega),if_neg (by omega),if_pos hc,Q7 (s:=[58]) (by decide +kernel),I6 (s:=[80,82,79,84,79,67,79,76]) (by decide +kernel),I6 (s:=[73,83]) (by decide +kernel),hx,hv];simp[I9,B7,Go.Ty.hdV]
  rw[e] at hl;cases hl;refine⟨spM 4 Go.Ty.zeroT [x] A0 false [vrM [] v.items] [] [],?_,a7m hk z1 hx z3 ?_ z6 (a0m z7)⟩
  ·rw[e]
   have r:=b0y (l:=v.items) (by have:(1:Int)<=v.items.length:=i2;omega) (by have:(v.items.length:Int)<=8:=i3;omega) i1 [sy [58]] rfl;show M4 (E8 (M0 a1D [59] 8 (B7 [59] Y0 v.items++[sy [58]])) i _) _=_;rw[r];rfl
  ·rw[hc,hv]
   show(true&&(L5 v (vrM [] v.items)&&true))=true;unfold L5;rw[show v.tag=[] from by simpa [Go.Ty.hdV] using h5];show(true&&((([]:B)==[])&&(v.items==v.items)&&true))=true;simp
 | true=>
  rw[hc] at h2;unfold Go.Ty.mayPr at h2;rw[if_neg (by decide)] at h2;split at h2
  ·cases h2
  rename_i hlen;simp at hlen;have e:F5 s d=(d,[kw [80,82,79,84,79,67,79,76],G5 x])::(d+1,[kw [67,65,83,69]])::(s.vs.l.map (fun v=>((d+2,G9 v):Ln))++[(d,[sy [58]])]):=by
   rw[T9,if_neg (by omega),if_neg (by omega),if_neg (by omega),if_neg (by omega),if_neg (by rw[hc];decide),Q7 (s:=[58]) (by decide +kernel),I6 (s:=[80,82,79,84,79,67,79,76]) (by decide +kernel),I6 (s:=[67,65,83,69]) (by decide +kernel),hx];simp[I9,B7]
  rw[e] at hl hO ⊢;cases hl;have hR:=hO.len (by simp);have hT:=hO.tail;have hV:=hT.tail;have hE:=hV.right;rw[List.length_map] at hE;have hp:=b1A (d:=d) s.vs.l [] (R.length - (i+1+1)) (i+1+1) h2 (by simp;omega) (by simp;omega) hV.left (hE.after (by show d<=d+1;omega)) (by simp at hR;omega);refine⟨spM 4 Go.Ty.zeroT [x] A0 true (s.vs.l.map sv) [] [],?_,a7m hk z1 hx z3 (by rw[hc];show(true&&eqL L5 s.vs.l (s.vs.l.map sv))=true;rw[b9r];rfl) z6 (a0m z7)⟩;show M4 (a1N R (d+1) 2 [67,65,83,69] (i+1) _) _=_;rw[b5w hT (x:=(d+1,[kw [67,65,83,69]])) rfl rfl];show M4 (M4 (U3 R d (R.length - (i+1+1)) [] (i+1+1)) _) _=_;rw[show U3 R d (R.length - (i+1+1)) [] (i+1+1)=.ok (s.vs.l.map sv,i+1+1+s.vs.l.length) from hp,a0E];rw[b5w hE (x:=(d,[sy [58]])) rfl rfl];show Except.ok (some (spM 4 Go.Ty.zeroT [x] A0 true (s.vs.l.map sv) [] []),i+1+1+s.vs.l.length+1)=_;simp;omega
end
theorem c4E {R:List Rw} {n:Nat} {s:Sp} {d:Int} {i:Nat} {q:Int} (h:spP s=true) (hW:Wf s.e) (hO:OkL R i (F5 s d)) (hn:(F5 s d).length<=n+1) (hB:∀ x ∈ s.bl,b4P R n x) (hP:∀ x ∈ s.bl,PW x) (hM:(a0U s d q).1=true):a6W R n s d i:=by
 have hV:=b0q h;have hb:∀ x ∈ s.bl,s.k=5->∃ q,(J7 x (d+1) false q).1=true:=fun x hx h5=>by
  rw[a7k] at hM;split at hM
  ·cases hM
  ·obtain⟨y,hy⟩:=List.length_eq_one_iff.1 (hV.body h5)
   rw[hy] at hM hx;rw[List.mem_singleton.1 hx];exact⟨q,hM⟩
 have:=hV.kd;rcases(show s.k=1\/s.k=2\/s.k=3\/s.k=4\/s.k=5 by omega) with k | k | k | k | k
 ·exact fun {t L} hl=>d1b h k hl
 ·exact fun {t L} hl=>d0x h hW k hl
 ·exact fun {t L} hl=>d0I h hW k hl
 ·exact fun {t L} hl=>d1m h k hO hl
 ·exact fun {t L} hl=>d0m h k hO hn hB hP (fun x hx=>hb x hx k) hl
theorem a9V (s:Sp) (d:Int):∃ t L,F5 s d=(d,t)::L:=by
 rw[T9];repeat' split
 all_goals exact⟨_,_,rfl⟩
theorem d1h {R:List Rw} {n:Nat} {p:Pr} {d:Int} {top:Bool} {i:Nat} (A:Ask R n p d top i) (hk:p.k=18):Ans R n p d top i:=by
 have h:=N6 A.v.plain;rw[b8T hk] at h;simp only[Bool.and_eq_true] at h;obtain⟨⟨⟨⟨⟨h1,hs⟩,h2⟩,h3⟩,h4⟩,h5⟩:=h;obtain⟨z1,z2,z3,z4,z5,_⟩:=W5 h5;obtain⟨y,hy⟩:=List.length_eq_one_iff.1 (show p.ll.length=1 by have:=eq_of_beq h2;omega);have hym:y ∈ p.ll:=by rw[hy];exact List.mem_cons_self ..
 have e:A8 p d=F5 p.sp d++A8 y d:=by rw[a3S,if_pos hk,hy];rfl
 have hO:=A.o;have hA:=A.a;have hL:=A.l;rw[e] at hO hA hL;rw[List.length_append] at hA hL;have hp:=a6Q y d;obtain⟨q0,hm⟩:=A.v.sp hk;obtain⟨t,L,ht⟩:=a9V p.sp d;have w:=A.w.own;obtain⟨s',h6,h7⟩:=c4E hs w.se hO.left (by omega) (fun x hx=>A.b x (.s hx)) (fun x hx=>A.w.sub (.s hx)) hm ht;obtain⟨q1,hm1⟩:=A.v.l8 hk y hym;have hl1:1<=(F5 p.sp d).length:=by rw[ht];simp
 obtain⟨q,h8,h9⟩:=A.b y (.l hym) d q1 top (i+(F5 p.sp d).length) (A.w.sub (.l hym)) hm1 hO.right (by rw[Nat.add_assoc];exact hA) (by omega);refine⟨prM 18 [] A0 [] [] B5 [] [q] [] s',?_,U6 hk z1 z2 (E7 z3) (E7 z4) (T8 h4 (Z3 h1)) (a2o (S4 h3)) (by rw[hy];show(C8 y q&&true)=true;rw[h9];rfl) z5 h7⟩;have hO1:=hO.left;rw[ht] at hO1;have hst:=hO1.open (b6z R (A4 R n) d top i fun so j=>M4 (A4 R n d top j) fun x i=>.ok (prM 18 [] A0 [] [] B5 [] [x] [] (so.getD A6),i));show b00 R (A4 R n) d top i=_;unfold b00;refine hst.trans ?_;show M4 (W2 R (A4 R n) d t i) _=_;rw[h6,a0E];show M4 (A4 R n d top (i+(F5 p.sp d).length)) _=_;rw[h8,a0E,e,List.length_append,Nat.add_assoc];rfl
theorem c6B {R:List Rw} {n:Nat} {p:Pr} {d:Int} {top:Bool} {i:Nat} (A:Ask R n p d top i):Ans R n p d top i:=by
 have hk:=(a1A A.v.plain).kd;have h0:=A.w.own.k;have hr:1<=p.k/\p.k<=18:=by
  unfold B6 at hk;by_cases h:1<=p.k/\p.k<=18
  ·exact h
  ·exfalso
   repeat rw[if_neg (by omega)] at hk
   cases hk
 rcases(show p.k=1\/p.k=2\/p.k=3\/p.k=4\/p.k=5\/p.k=6\/p.k=7\/p.k=8\/p.k=9\/p.k=10\/p.k=11\/p.k=12\/p.k=13\/p.k=14\/p.k=15\/p.k=16\/p.k=17\/p.k=18 by omega) with k | k | k | k | k | k | k | k | k | k | k | k | k | k | k | k | k | k
 ·exact d1F A k
 ·exact d1C A k
 ·exact d2z A k
 ·exact d2K A k
 ·exact d2E A k
 ·exact d1S A k
 ·exact d2N A k
 ·exact d2L A k
 ·exact d1V A k
 ·exact d0M A k
 ·exact d1x A k
 ·exact d0i A k
 ·exact d06 A k
 ·exact d0X A k
 ·exact d0V A k
 ·exact d0t A k
 ·exact d0U A k
 ·exact d1h A k
theorem c4F (R:List Rw) (p:Pr):∀ n,b4P R n p:=by
 refine Pr.ind (q:=fun p=>∀ n,b4P R n p) (fun p ih n d left top i hW hM hO hA hn=>?_) p;cases n with
 | zero=>have:=a6Q p d;omega
 | succ n=>exact c6B ⟨fun x hx=>ih x hx n,hW,d2i hM,hO,hA,hn⟩
theorem b9m:∀ (l:List Ln) (st:Ps),(C3 st l).2=false->(∀ x ∈ l,(Go.Lx.textO x.2).2=0)/\(C3 st l).1.length=st.1.length+l.length/\st.2=false/\(∀ j x,l[j]?=some x->(C3 st l).1[st.1.length+j]?=some ⟨(st.1.length+j:Nat)+1,x.1,(Go.Lx.textO x.2).1⟩)/\(∀ j,j < st.1.length->(C3 st l).1[j]?=st.1[j]?)
 | [],st,h=>⟨fun _ hx=>(by cases hx),(by simp[C3]),h,fun j x hx=>(by simp at hx),fun _ _=>rfl⟩
 | x::r,st,h=>by
  rw[a1u] at h ⊢;obtain⟨h1,h2,h3,h4,h5⟩:=b9m r (D2 st x) h;unfold D2 at h2 h3 h4 h5 ⊢;by_cases hb:(Go.Lx.textO x.2).2≠0\/st.1.length > 2048
  ·rw[if_pos hb] at h3;cases h3
  rw[if_neg hb] at h2 h3 h4 h5 ⊢;simp only[List.length_append,List.length_singleton] at h2 h4 h5;refine⟨fun y hy=>?_,by rw[h2];simp;omega,h3,fun j y hy=>?_,fun j hj=>?_⟩
  ·rcases List.mem_cons.1 hy with rfl | hy
   ·exact Decidable.byContradiction fun q=>hb (.inl q)
   ·exact h1 y hy
  ·cases j with
   | zero=>
    cases hy;rw[h5 _ (by omega)];simp
   | succ j=>
    have:=h4 j y hy;rw[show st.1.length+(j+1)=st.1.length+1+j by omega];exact this
  ·rw[h5 j (by omega),List.getElem?_append_left hj]
theorem b86 {p:Pr} {L:List Rw} (hW:PW p) (h:S7 p=(L,0)):∃ q,N4 L=(q,0,0)/\C8 p q=true/\mayP p=true/\Go.Ly.mayP L=true:=by
 unfold S7 at h;by_cases hm:mayP p=true
 ·rw[if_pos hm] at h
  by_cases hb:((C3 ([],false) (A8 p 0)).2||!Go.Ly.mayP (C3 ([],false) (A8 p 0)).1)=true
  ·rw[if_pos hb] at h;cases h
  ·rw[if_neg hb] at h
   simp only[Bool.or_eq_true,Bool.not_eq_true',not_or,Bool.not_eq_true,Bool.not_eq_false] at hb;have hL:(C3 ([],false) (A8 p 0)).1=L:=(Prod.mk.injEq .. ▸ h).1;obtain⟨h1,h2,_,h4,_⟩:=b9m (A8 p 0) ([],false) hb.1;rw[hL] at h2 h4 hb;simp only[List.length_nil,Nat.zero_add] at h2 h4;have hO:OkL L 0 (A8 p 0):=⟨fun j x hx=>⟨_,by rw[Nat.zero_add];exact h4 j x hx⟩,h1,c1b p hW 0⟩;have hA:a07 L (0+(A8 p 0).length) 0:=fun y hy=>by
    rw[Nat.zero_add,<- h2,List.getElem?_eq_none (Nat.le_refl _)] at hy;cases hy
   obtain⟨q,h6,h7⟩:=c4F L p L.length 0 2048 true 0 hW hm hO hA (by omega);refine⟨q,?_,h7,hm,hb.2⟩;unfold N4 b0f;rw[if_pos hb.2,h6,Nat.zero_add,<- h2];simp only[a0E,List.getElem?_eq_none (Nat.le_refl L.length)]
 ·rw[if_neg hm] at h;cases h
end
section
open Go.Eng Go.Pc Go
open Go.Xp hiding B D3
open Go.Ty (Ty Vr Tok)
open Go.Ly (Rw)
open Go.Lx (G3)
def a0L {α:Type} (f:List Tok->E α) (Q:α->Prop):Prop:=∀ ts x r,a1C ts->f ts=.ok (x,r)->Q x/\a1C r
theorem N9 {α β:Type} {g:List Tok->E α} {f:α->List Tok->E β} {Q1:α->Prop} {Q:β->Prop} (hg:a0L g Q1) (hf:∀ x,Q1 x->a0L (f x) Q):a0L (fun ts=>M7 (g ts) f) Q:=fun ts x r hk h=>by
 have h:M7 (g ts) f=.ok (x,r):=h;cases hr:g ts with
 | error e=>rw[hr] at h;cases h
 | ok q=>
  obtain⟨y,s⟩:=q;rw[hr] at h;obtain⟨h1,h2⟩:=hg ts y s hk hr;exact hf y h1 s x r h2 h
theorem a3w {β:Type} {k:Int} {s:B} {f:List Tok->E β} {Q:β->Prop} (hf:a0L f Q):a0L (fun ts=>U9 k s ts f) Q:=fun ts x r hk h=>by
 have h:U9 k s ts f=.ok (x,r):=h;unfold U9 at h;split at h
 ·exact hf _ x r hk.tail h
 ·cases h
theorem a4R {α:Type} {k:Int} {s:B} {f g:List Tok->E α} {Q:α->Prop} (hf:a0L f Q) (hg:a0L g Q):a0L (fun ts=>if isM k s ts then f ts.tail else g ts) Q:=fun ts x r hk h=>by
 have h:(if isM k s ts then f ts.tail else g ts)=.ok (x,r):=h;split at h
 ·exact hf _ x r hk.tail h
 ·exact hg _ x r hk h
theorem a0v {α:Type} {x:α} {Q:α->Prop} (h:Q x):a0L (fun ts=>(.ok (x,ts):E α)) Q:=fun ts y r hk e=>by cases e;exact⟨h,hk⟩
theorem a0L.mono {α:Type} {f:List Tok->E α} {Q Q':α->Prop} (h:a0L f Q) (q:∀ x,Q x->Q' x):a0L f Q':=fun ts x r hk e=>⟨q x (h ts x r hk e).1,(h ts x r hk e).2⟩
theorem R4:a0L H3 fun x=>E9 x=true:=fun ts x r hk h=>by
 unfold H3 at h;cases hf:K7 ts with
 | error e=>rw[hf] at h;cases h
 | ok q=>
  obtain⟨y,k⟩:=q;rw[hf] at h;cases h;refine⟨?_,hk.drop k⟩;unfold K7 at hf;split at hf
  ·cases hf
  ·split at hf
   ·cases hf;assumption
   ·cases hf
theorem a3y:a0L F6 fun x=>D7 x=true:=fun ts x r hk h=>by
 unfold F6 at h;split at h
 ·exact N9 (Q:=fun x=>D7 x=true) R4 (fun x _=>(fun ts y r hk e=>by
   have e:(if D7 x then (.ok (x,ts):E Ex) else .error 110)=.ok (y,r):=e;split at e
   ·cases e;exact⟨by assumption,hk⟩
   ·cases e)) ts x r hk h
 ·cases h
theorem a0w:a0L U5 fun s=>Go.Lx.name s=true:=fun ts x r hk h=>by
 cases ts with
 | nil=>cases h
 | cons t q=>
  have h:(if t.kind=1 then (.ok (t.text,q):E B) else .error 110)=.ok (x,r):=h;split at h
  ·rename_i h1
   cases h;refine⟨?_,fun x hx=>hk x (List.mem_cons_of_mem _ hx)⟩;have:=hk t (List.mem_cons_self ..);rcases Go.Lx.may_cases this with ⟨a,b,c⟩ | ⟨a,b,c⟩ | ⟨a,b,c⟩ | ⟨a,b,c,_⟩ | ⟨a,b⟩
   ·exact c
   all_goals (rw[h1] at a;cases a)
  ·cases h
theorem a8T:a0L a4H fun t=>Go.Ty.may t=true:=fun ts x r hk h=>by
 unfold a4H at h;split at h
 ·rename_i h0
  cases h;rcases Go.Ty.front_to ts with q | ⟨t,hm,_,q⟩
  ·rw[q] at h0;cases h0
  ·rw[q];exact⟨hm,hk.drop _⟩
 ·cases h
theorem b2X:a0L a1D fun k=>Q0 ⟨k,0,0,[]⟩=true:=N9 a8T fun t ht ts x r hk h=>by
 have h:(if Q0 t then (.ok (t.kind,ts):E Int) else .error 110)=.ok (x,r):=h;split at h
 ·rename_i hp
  cases h;refine⟨?_,hk⟩;have hi:Go.Ty.may t=true/\t.dim=0/\t.kind<=3:=by
   unfold Q0 at hp;simp only[Bool.and_eq_true,beq_iff_eq,decide_eq_true_eq] at hp;exact⟨hp.1.1,hp.1.2,hp.2⟩
  obtain⟨h1,h2,h3⟩:=hi;unfold Go.Ty.may at h1;split at h1
  ·cases h1
  ·split at h1
   ·rename_i q
    rw[Go.Ty.is_eq] at q;exact c4Q q
   ·split at h1
    ·have:=(Go.Ty.eqT_iff _ _).1 h1
     rw[this] at h3;exact absurd h3 (by decide)
    ·rename_i q
     simp at q;omega
 ·cases h
theorem b7e:a0L W8 fun f=>foP f=true:=fun ts x r hk h=>by
 unfold W8 at h;have hA:a1C (if isM 2 [86,65,76] ts then ts.tail else ts):=by split;exact hk.tail;exact hk
 exact N9 (Q:=fun f=>foP f=true) a8T (fun t _=>N9 a0w fun n _ ts y r hk e=>by
  have e:(if foP ⟨isM 2 [86,65,76] _,t,n⟩ then (.ok (_,ts):E Fo) else .error 110)=.ok (y,r):=e;split at e
  ·cases e;exact⟨by assumption,hk⟩
  ·cases e) _ x r hA h
theorem b3R {α:Type} {take:List Tok->E α} {Q:α->Prop} (ht:a0L take Q) (sep:B):∀ (n:Nat) (acc:List α),(∀ x ∈ acc,Q x)->a0L (a0N take sep n acc) fun l=>acc.length<=l.length/\l.length<=acc.length+n/\∀ x ∈ l,Q x
 | 0,acc,ha=>fun ts x r hk h=>by
  unfold a0N at h;split at h
  ·cases h
  ·cases h;exact⟨⟨Nat.le_refl _,Nat.le_refl _,ha⟩,hk⟩
 | n+1,acc,ha=>fun ts x r hk h=>by
  unfold a0N at h;split at h
  ·exact N9 (Q:=fun l:List α=>acc.length<=l.length/\l.length<=acc.length+(n+1)/\∀ x ∈ l,Q x) ht (fun y hy=>(b3R ht sep n (acc++[y]) (fun z hz=>by
    rcases List.mem_append.1 hz with q | q
    ·exact ha z q
    ·rw[List.mem_singleton.1 q];exact hy)).mono fun l hl=>by
     simp only[List.length_append,List.length_singleton] at hl;exact⟨by omega,by omega,hl.2.2⟩) ts.tail x r hk.tail h
  ·cases h;exact⟨⟨Nat.le_refl _,by omega,ha⟩,hk⟩
theorem a0g {α:Type} {take:List Tok->E α} {Q:α->Prop} (ht:a0L take Q) (sep:B) {most:Nat} (hm:1<=most):a0L (M0 take sep most) fun l=>1<=l.length/\l.length<=most/\∀ x ∈ l,Q x:=
 N9 ht fun y hy=>(b3R ht sep (most - 1) [y] (fun z hz=>by rw[List.mem_singleton.1 hz];exact hy)).mono fun l hl=>by
  simp only[List.length_singleton] at hl;exact⟨hl.1,by omega,hl.2.2⟩
theorem c0c {α:Type} {take:List Tok->E α} {Q:α->Prop} (ht:a0L take Q):a0L (brM take) fun l=>l.length<=8/\∀ x ∈ l,Q x:=
 a3w (a4R (f:=fun r=>.ok ([],r)) (a0v ⟨by simp,fun _ h=>by cases h⟩) (N9 (a0g ht [44] (by decide)) fun l hl=>a3w (a0v ⟨hl.2.1,hl.2.2⟩)))
end
section
open Go.Eng Go.Pc Go
open Go.Xp hiding B D3
open Go.Ty (Ty Vr Tok)
open Go.Ly (Rw)
open Go.Lx (G3)
inductive Vp:Pr->Int->Bool->Prop
 | mk {p:Pr} {d:Int} {pl:Bool} (plain:N5 p=true) (deep:d<=32) (top:p.k=11->pl=true) (ll:p.k≠18->∀ x ∈ p.ll,Vp x (if p.k=11 then d+2 else d+1) false) (l8:p.k=18->∀ x ∈ p.ll,Vp x d pl)
  (sc:p.k=18->p.sp.cs=true->d+2<=32) (sb:p.k=18->∀ x ∈ p.sp.bl,Vp x (d+1) false) (gl:∀ g ∈ p.gl,∀ x ∈ g.bl,Vp x (d+2) false):Vp p d pl
abbrev b7D (p:Pr):Prop:=∀ (d:Int) (pl:Bool) (left:Int),Vp p d pl->(P7 p:Int)<=left->J7 p d pl left=(true,left - P7 p)
theorem b4t:∀ {l:List Pr} {d q:Int} {pl:Bool},(∀ x ∈ l,b7D x)->(∀ x ∈ l,Vp x d pl)->(K0 l:Int)<=q->X9 l d pl q=(true,q - K0 l)
 | [],_,q,_,_,_,_=>by show(true,q)=(true,q - ((0:Nat):Int));simp
 | x::r,d,q,pl,h,hv,hq=>by
  have e:X9 (x::r) d pl q=if (J7 x d pl q).1 then X9 r d pl (J7 x d pl q).2 else J7 x d pl q:=rfl
  have hc:K0 (x::r)=P7 x+K0 r:=rfl;rw[hc] at hq ⊢;rw[e,h x (List.mem_cons_self ..) d pl q (hv x (List.mem_cons_self ..)) (by omega)];show X9 r d pl (q - P7 x)=_;rw[b4t (fun y hy=>h y (List.mem_cons_of_mem _ hy)) (fun y hy=>hv y (List.mem_cons_of_mem _ hy)) (by omega)];congr 1
  omega
theorem b9z {l:List Pr} {d q:Int} (h1:l.length<=1) (h:∀ x ∈ l,b7D x) (hv:∀ x ∈ l,Vp x d false) (hq:(K0 l:Int)<=q):a5s l d q=(true,q - K0 l):=by
 match l,h1,h,hv,hq with
 | [],_,_,_,_=>show(true,q)=(true,q - ((0:Nat):Int));simp
 | [x],_,h,hv,hq=>
  have hc:K0 [x]=P7 x:=by show P7 x+0=_;omega
  rw[hc] at hq ⊢;exact h x (List.mem_cons_self ..) d false q (hv x (List.mem_cons_self ..)) hq
theorem b5m:∀ {l:List Gu} {d q:Int},(∀ g ∈ l,g.bl.length=1)->(∀ g ∈ l,∀ x ∈ g.bl,b7D x)->(∀ g ∈ l,∀ x ∈ g.bl,Vp x d false)->(W4 l:Int)<=q->a2e l d q=(true,q - W4 l)
 | [],_,q,_,_,_,_=>by show(true,q)=(true,q - ((0:Nat):Int));simp
 | g::r,d,q,h1,h,hv,hq=>by
  have e:a2e (g::r) d q=if (a0P g d q).1 then a2e r d (a0P g d q).2 else a0P g d q:=rfl
  have hc:W4 (g::r)=K0 g.bl+W4 r:=by show b4V g+W4 r=_;cases g;rfl
  rw[hc] at hq ⊢;rw[e,a4K,b9z (by rw[h1 g (List.mem_cons_self ..)];exact Nat.le_refl _) (h g (List.mem_cons_self ..)) (hv g (List.mem_cons_self ..)) (by omega)];show a2e r d (q - K0 g.bl)=_;rw[b5m (fun y hy=>h1 y (List.mem_cons_of_mem _ hy)) (fun y hy=>h y (List.mem_cons_of_mem _ hy)) (fun y hy=>hv y (List.mem_cons_of_mem _ hy)) (by omega)];congr 1
  omega
theorem b3g (p:Pr):P7 p=1+(K0 p.ll+(K0 p.sp.bl+W4 p.gl)):=by rw[a8H p,a8a]
theorem c6c {c:Prop} [Decidable c] {a b:Us × Bool} (ha:a.1.spec=false) (hb:b.1.spec=false):(if c then a else b).1.spec=false:=by
 split
 ·exact ha
 ·exact hb
theorem b9n {k:Int} (h:k≠18):(B6 k).1.spec=false:=by
 unfold B6;rw[if_neg h];repeat' first | exact rfl | refine c6c rfl ?_
theorem may_at (p:Pr):b7D p:=by
 refine Pr.ind (q:=b7D) (fun p ih d pl left hv hl=>?_) p;obtain⟨plain,deep,top,ll,l8,sc,sb,gl⟩:=hv;have hc:=b3g p;have hP:=a1A plain;have hg1:∀ g ∈ p.gl,g.bl.length=1:=fun g hg=>(a8i (hP.gs g hg).1).body
 have hh:a0c p d pl left=false:=by
  unfold a0c;rw[plain,show decide (left - 1 < 0)=false from decide_eq_false (by omega),show decide (d > 32)=false from decide_eq_false (by omega)];by_cases h11:p.k=11
  ·rw[top h11];simp
  ·rw[show(p.k==11)=false by simpa using h11];simp
 rw[a6I,hh,if_neg (by decide)];by_cases hk:p.k=18
 ·have hs:a0U p.sp d (left - 1)=(true,left - 1 - K0 p.sp.bl):=by
   have hsp:=hP.sp (by rw[hk];rfl);have hb:p.sp.bl.length<=1:=b9w hsp;rw[a7k,if_neg (by
    intro q;simp only[Bool.and_eq_true,decide_eq_true_eq] at q;have:=sc hk q.1;omega)]
   exact b9z hb (fun x hx=>ih x (.s hx)) (sb hk) (by omega)
  rw[if_pos hk,hs];simp only[if_true];rw[b4t (fun x hx=>ih x (.l hx)) (l8 hk) (by omega)];simp only[if_true];rw[b5m hg1 (fun g hg x hx=>ih x (.g hg hx)) gl (by omega)];congr 1
  omega
 ·have hb:p.sp.bl=[]:=by
   have h18:(B6 p.k).1.spec=false:=by
    exact b9n hk
   have:=hP.ns h18;unfold I8 at this;simp only[Bool.and_eq_true] at this;exact S4 this.2
  rw[if_neg hk,b4t (fun x hx=>ih x (.l hx)) (ll hk) (by omega)];simp only[if_true];rw[b5m hg1 (fun g hg x hx=>ih x (.g hg hx)) gl (by omega)];have h0:K0 p.sp.bl=0:=by rw[hb];rfl
  congr 1
  omega
theorem c7D {p:Pr} (hv:Vp p 0 true) (hc:P7 p<=2048):mayP p=true:=by
 unfold mayP;rw[may_at p 0 true 2048 hv (by omega)]
theorem V8 {α:Type} {l:List α} {a b:Int} {q:α->Bool} (h:∀ x ∈ l,q x=true) (h1:a<=l.length) (h2:(l.length:Int)<=b):G2 l a b q=true:=by
 unfold G2 a4y;simp only[Bool.and_eq_true,decide_eq_true_eq,Bool.not_eq_true',List.any_eq_false];exact⟨⟨h1,h2⟩,fun x hx=>by rw[h x hx];decide⟩
theorem zg:K8 (.mk 0 [] A0 A0 A7 A7 A0 none 0 []) a2Z=true:=by decide +kernel
theorem a9J {lo hi k:Int} {g:Gu} (h:guP g=true) (hk:g.k=k) (h1:lo<=k) (h2:k<=hi):gQ lo hi g=true:=by
 subst hk;unfold gQ inG;simp only[Bool.and_eq_true,decide_eq_true_eq];exact⟨⟨h1,h2⟩,h⟩
def GuQ (lo hi:Int) (g:Gu):Prop:=∀ x,gQ lo hi (a2i g x)=true
theorem d3y {c:Ex} (hc:E9 c=true) (x:Pr):guP (a2i (guM 1 [] c A0 [] [] A0) x)=true:=by
 rw[b9j (.inl rfl)];show((E9 c&&(((1:Nat):Int)==1))&&K8 (.mk 0 [] A0 A0 A7 A7 A0 none 0 []) a2Z)=true;rw[hc,zg];rfl
theorem d3u {c:Ex} (hc:E9 c=true) (x:Pr):guP (a2i (guM 2 [] c A0 [] [] A0) x)=true:=by
 rw[b9j (.inr rfl)];show((E9 c&&(((1:Nat):Int)==1))&&K8 (.mk 0 [] A0 A0 A7 A7 A0 none 0 []) a2Z)=true;rw[hc,zg];rfl
theorem c6M:a0L ifM (GuQ 1 1):=N9 R4 fun c hc=>a0v fun x=>a9J (k:=1) (d3y hc x) rfl (by decide) (by decide)
theorem d1D {c ch:Ex} {tg:List Ex} (hc:G8 c=true\/E9 c=true) (h1:D7 ch=true) (h2:1<=tg.length/\tg.length<=8/\∀ x ∈ tg,D7 x=true) (x:Pr):guP (a2i (guM 3 [] c ch tg [] A0) x)=true:=by
 rw[d1W rfl];show(((((G8 c||E9 c)&&D7 ch)&&G2 tg 1 8 D7)&&(((1:Nat):Int)==1))&&K8 (.mk 0 [] A0 A0 A7 A7 A0 none 0 []) a2Z)=true;rw[h1,V8 h2.2.2 (by omega) (by omega),zg];rcases hc with hc | hc <;> rw[hc] <;> simp
theorem d1T {c ch tm:Ex} (hc:G8 c=true\/E9 c=true) (h1:D7 ch=true) (h2:E9 tm=true) (x:Pr):guP (a2i (guM 4 [] c ch [] [] tm) x)=true:=by
 rw[d1H rfl];show(((((G8 c||E9 c)&&D7 ch)&&E9 tm)&&(((1:Nat):Int)==1))&&K8 (.mk 0 [] A0 A0 A7 A7 A0 none 0 []) a2Z)=true;rw[h1,h2,zg];rcases hc with hc | hc <;> rw[hc] <;> simp
theorem b3i {c:Ex} (hc:G8 c=true\/E9 c=true):a0L (a3K c) (GuQ 2 4):=
 N9 a3y fun ch h1=>a3w (a4R (f:=fun r=>M7 (H3 r) fun t r=>.ok (guM 4 [] c ch [] [] t,r)) (N9 R4 fun t ht=>a0v fun x=>a9J (k:=4) (d1T hc h1 ht x) rfl (by decide) (by decide))
  (N9 (a0g a3y [59] (by decide)) fun l hl=>a0v fun x=>a9J (k:=3) (d1D hc h1 hl x) rfl (by decide) (by decide)))
theorem b6a:a0L a2l (GuQ 2 4):=fun ts x r hk h=>by
 unfold a2l at h;split at h
 ·exact N9 (Q:=GuQ 2 4) R4 (fun c hc=>a3w (a4R (f:=fun r=>.ok (guM 2 [] c A0 [] [] A0,r)) (a0v fun x=>a9J (k:=2) (d3u hc x) rfl (by decide) (by decide)) (b3i (.inr hc)))) ts x r hk h
 ·exact b3i (.inl (by decide +kernel)) ts x r hk h
theorem c5A:a0L a7M (GuQ 5 6):=a4R (f:=fun r=>.ok (guM 6 [] A0 A0 [] [] A0,r)) (a0v fun x=>a9J (k:=6) (by
 rw[d2G rfl];show((true&&(((1:Nat):Int)==1))&&K8 (.mk 0 [] A0 A0 A7 A7 A0 none 0 []) a2Z)=true;rw[zg];rfl) rfl (by decide) (by decide)) (N9 (a0g R4 [44] (by decide)) fun l hl=>a0v fun x=>a9J (k:=5) (by
 rw[d1O rfl];show((G2 l 1 8 E9&&(((1:Nat):Int)==1))&&K8 (.mk 0 [] A0 A0 A7 A7 A0 none 0 []) a2Z)=true;rw[V8 hl.2.2 (by omega) (by omega),zg];rfl) rfl (by decide) (by decide))
theorem c9F {nm:B} {tg:List Ex} (hn:Go.Lx.name nm=true) (h2:tg.length<=8/\∀ x ∈ tg,D7 x=true) (x:Pr):guP (a2i (guM 7 nm A0 A0 tg [] A0) x)=true:=by
 rw[d3A rfl];show(((Go.Lx.name nm&&G2 tg 0 8 D7)&&(((1:Nat):Int)==1))&&K8 (.mk 0 [] A0 A0 A7 A7 A0 none 0 []) a2Z)=true;rw[hn,V8 h2.2 (by omega) (by omega),zg];rfl
theorem c3t:a0L a7Q (GuQ 7 7):=N9 a0w fun n hn=>a4R (f:=fun r=>M7 (M0 F6 [59] 8 r) fun l r=>.ok (guM 7 n A0 A0 l [] A0,r)) (N9 (a0g a3y [59] (by decide)) fun l hl=>a0v fun x=>a9J (k:=7) (c9F hn ⟨hl.2.1,hl.2.2⟩ x) rfl (by decide) (by decide))
 (a0v fun x=>a9J (k:=7) (c9F hn ⟨by simp,fun _ h=>by cases h⟩ x) rfl (by decide) (by decide))
theorem b5N:a0L a8P fun r=>L3 r=true:=fun ts x r hk h=>by
 unfold a8P at h;split at h
 ·cases h;exact⟨by decide +kernel,hk⟩
 ·exact N9 (Q:=fun r=>L3 r=true) a0w (fun n hn=>a3w (N9 R4 fun b hb=>a3w (N9 R4 fun c hc=>a0v (by
   show L3 ⟨n,b,c⟩=true;unfold L3;have hne:¬ (n==[])=true:=by
    intro q;rw[show n=[] by simpa using q] at hn;exact absurd hn (by decide +kernel)
   show(if (n==[])=true then _ else (Go.Lx.name n&&E9 b)&&E9 c)=true;rw[if_neg hne,hn,hb,hc];rfl)))) ts x r hk h
end
section
open Go.Eng Go.Pc Go
open Go.Xp hiding B D3
open Go.Ty (Ty Vr Tok)
open Go.Ly (Rw)
open Go.Lx (G3)
structure Dp (R:List Rw) (i j:Nat) (L:List Ln):Prop where
 e:j=i+L.length
 d:∀ k x,L[k]?=some x->∃ y,R[i+k]?=some y/\y.depth=x.1
theorem Dp.nil {R:List Rw} {i:Nat}:Dp R i i []:=⟨rfl,fun k x h=>by simp at h⟩
theorem Dp.app {R:List Rw} {i j k:Nat} {a b:List Ln} (h:Dp R i j a) (g:Dp R j k b):Dp R i k (a++b):=⟨by rw[g.e,h.e,List.length_append];omega,fun n x hx=>by
 by_cases hn:n < a.length
 ·rw[List.getElem?_append_left hn] at hx;exact h.d n x hx
 ·rw[List.getElem?_append_right (by omega)] at hx
  obtain⟨y,hy,e⟩:=g.d _ x hx;refine⟨y,?_,e⟩;rw[h.e] at hy;rw[show i+n=i+a.length+(n - a.length) by omega];exact hy⟩
theorem Dp.one {R:List Rw} {i:Nat} {y:Rw} (h:R[i]?=some y) {d:Int} (hd:y.depth=d) (t:List Tok):Dp R i (i+1) [(d,t)]:=⟨rfl,fun k x hx=>by
 cases k with
 | zero=>cases hx;exact⟨y,h,hd⟩
 | succ k=>simp at hx⟩
theorem Dp.cons {R:List Rw} {i j:Nat} {y:Rw} (h:R[i]?=some y) {d:Int} (hd:y.depth=d) (t:List Tok) {L:List Ln} (g:Dp R (i+1) j L):Dp R i j ((d,t)::L):=Dp.app (Dp.one h hd t) g
theorem Dp.len {R:List Rw} {i j:Nat} {L:List Ln} (h:Dp R i j L) (hL:L≠[]):j<=R.length:=by
 have h0:0 < L.length:=List.length_pos_iff.2 hL;obtain⟨y,hy,_⟩:=h.d (L.length - 1) (L[L.length - 1]'(by omega)) (List.getElem?_eq_getElem (by omega));have:=(List.getElem?_eq_some_iff.1 hy).1;have:=h.e;omega
theorem a6k {R:List Rw} (hR:Go.Ly.mayP R=true) {d:Int} {i:Nat} {β:Type} {f:List Tok->PE β} {v:β × Nat} (h:a0d R d i f=.ok v):∃ y ts,R[i]?=some y/\y.depth=d/\d<=32/\a1C ts/\f ts=.ok v:=by
 unfold a0d a1h at h;cases hr:R[i]? with
 | none=>rw[hr] at h;cases h
 | some y=>
  rw[hr] at h;simp only at h;split at h
  ·rename_i ts hts
   split at hts
   ·cases hts
   ·rename_i h0
    split at hts
    ·cases hts
    ·rename_i hd
     cases hts;have hy:=(Go.Ly.mayP_all hR).2 y (List.mem_of_getElem? hr);have h0:(Go.Lx.lexO y.text).2.2=0:=by simpa using h0
     have hd:y.depth=d:=by simpa using hd
     refine⟨y,_,rfl,hd,by omega,?_,h⟩;obtain⟨h1,h2,_⟩:=Go.Lx.lexO_ok (s:=y.text) (l:=(Go.Lx.lexO y.text).1) (z:=(Go.Lx.lexO y.text).2.1) (by
      conv=>lhs;rw[show Go.Lx.lexO y.text=((Go.Lx.lexO y.text).1,(Go.Lx.lexO y.text).2.1,(Go.Lx.lexO y.text).2.2) from rfl]
      rw[h0])
     exact fun x hx=>(Go.Lx.lx_may _ _ _ h2 (by omega) x hx).1
  ·cases h
theorem H0 {α β:Type} {g:List Tok->E α} {Q:α->Prop} (hg:a0L g Q) {ts:List Tok} (hk:a1C ts) {i:Nat} {f:α->List Tok->PE β} {v:β × Nat} (h:E8 (g ts) i f=.ok v):∃ x r,Q x/\a1C r/\f x r=.ok v:=by
 cases hr:g ts with
 | error e=>rw[hr] at h;cases h
 | ok q=>
  obtain⟨x,r⟩:=q;rw[hr] at h;obtain⟨h1,h2⟩:=hg ts x r hk hr;exact⟨x,r,h1,h2,h⟩
theorem H2 {β:Type} {ts:List Tok} {i:Nat} {f:Nat->PE β} {v:β × Nat} (h:D9 ts i f=.ok v):f (i+1)=.ok v:=by
 unfold D9 at h;split at h
 ·exact h
 ·cases h
theorem a0f {β:Type} {k:Int} {s:B} {ts:List Tok} {i:Nat} {f:List Tok->PE β} {v:β × Nat} (h:U0 k s ts i f=.ok v):f ts.tail=.ok v:=by
 unfold U0 at h;split at h
 ·exact h
 ·cases h
theorem N7 {α β:Type} {r:PE α} {f:α->Nat->PE β} {v:β × Nat} (h:M4 r f=.ok v):∃ x j,r=.ok (x,j)/\f x j=.ok v:=by
 cases r with
 | error e=>cases h
 | ok q=>obtain⟨x,j⟩:=q;exact⟨x,j,rfl,h⟩
def Val (R:List Rw) (rec:Int->Bool->Nat->PE Pr):Prop:=∀ d top i p j,rec d top i=.ok (p,j)->Vp p d top/\Dp R i j (A8 p d)
section
variable {R:List Rw} (hR:Go.Ly.mayP R=true) {rec:Int->Bool->Nat->PE Pr} (hv:Val R rec) {d:Int}
include hv in
theorem b3F:∀ (k:Nat) (acc:List Pr) (i:Nat) (l:List Pr) (j:Nat),a0t R rec d k acc i=.ok (l,j)->∃ qs,l=acc++qs/\(∀ x ∈ qs,Vp x d false)/\Dp R i j (K6 d qs)
 | 0,acc,i,l,j,h=>by cases h;exact⟨[],by simp,fun _ hx=>(by cases hx),Dp.nil⟩
 | k+1,acc,i,l,j,h=>by
  unfold a0t at h;split at h
  ·obtain⟨x,m,h1,h2⟩:=N7 h
   obtain⟨v1,v2⟩:=hv _ _ _ _ _ h1;obtain⟨qs,e,v3,v4⟩:=b3F k _ _ _ _ h2;refine⟨x::qs,by rw[e];simp,fun y hy=>?_,Dp.app v2 v4⟩;rcases List.mem_cons.1 hy with rfl | hy
   ·exact v1
   ·exact v3 y hy
  ·cases h;exact⟨[],by simp,fun _ hx=>(by cases hx),Dp.nil⟩
def GV (lo hi d:Int) (g:Gu):Prop:=gQ lo hi g=true/\∃ x,g.bl=[x]/\Vp x (d+1) false
include hR hv in
theorem a5r {row:List Tok->E Gu} {lo hi:Int} (hp:a0L row (GuQ lo hi)) {least most:Nat} (hlm:least<=most):∀ (k:Nat) (acc:List Gu) (i:Nat) (l:List Gu) (j:Nat),acc.length<=most->R5 R rec row least most d k acc i=.ok (l,j)->∃ gs,l=acc++gs/\(∀ g ∈ gs,GV lo hi d g)/\Dp R i j (C9 gs d)/\least<=l.length/\l.length<=most
 | 0,acc,i,l,j,hm,h=>by
  unfold R5 at h;split at h
  ·cases h
  ·cases h;exact⟨[],by simp,fun _ hx=>(by cases hx),Dp.nil,by omega,hm⟩
 | k+1,acc,i,l,j,hm,h=>by
  unfold R5 at h;split at h
  ·rename_i hc
   obtain⟨y,ts,hy,hd,_,hk,h1⟩:=a6k hR h;obtain⟨g,r,hg,_,h2⟩:=H0 hp hk h1;have h3:=H2 h2;obtain⟨x,m,h4,h5⟩:=N7 h3;obtain⟨v1,v2⟩:=hv _ _ _ _ _ h4;obtain⟨gs,e,v3,v4,v5,v6⟩:=a5r hp hlm k _ _ _ _ (by rw[List.length_append,List.length_singleton];rcases hc with hc | hc <;> omega) h5;refine⟨a2i g x::gs,by rw[e];simp,fun z hz=>?_,?_,v5,v6⟩
   ·rcases List.mem_cons.1 hz with rfl | hz
    ·exact⟨hg x,x,rfl,v1⟩
    ·exact v3 z hz
   ·show Dp R i j (V1 (a2i g x) d++C9 gs d)
    rw[b1Z (x:=x) rfl];exact Dp.app (Dp.cons hy hd _ v2) v4
  ·rename_i hc
   cases h;exact⟨[],by simp,fun _ hx=>(by cases hx),Dp.nil,by omega,hm⟩
include hR hv in
theorem b1i:∀ (k:Nat) (ns:List Int) (acc:List Pr) (i:Nat) (v:List Int × List Pr) (j:Nat),acc.length<=8->P5 R rec d k ns acc i=.ok (v,j)->∃ ms qs,v=(ns++ms,acc++qs)/\ms.length=qs.length/\(∀ m ∈ ms,0<=m/\m < 8)/\(∀ x ∈ qs,Vp x (d+2) false)/\Dp R i j (S5 d ms qs)/\1<=(acc++qs).length/\(acc++qs).length<=8
 | 0,ns,acc,i,v,j,hm,h=>by
  unfold P5 at h;split at h
  ·cases h
  ·cases h;exact⟨[],[],by simp,rfl,fun _ hx=>(by cases hx),fun _ hx=>(by cases hx),Dp.nil,by simp;omega,by simpa using hm⟩
 | k+1,ns,acc,i,v,j,hm,h=>by
  unfold P5 at h;split at h
  ·rename_i hc
   obtain⟨y,ts,hy,hd,_,hk,h1⟩:=a6k hR h;have h2:=a0f h1;cases hp:a5I ts.tail with
   | none=>rw[hp] at h2;cases h2
   | some n0=>
    rw[hp] at h2;obtain⟨x,m,h4,h5⟩:=N7 h2;obtain⟨v1,v2⟩:=hv _ _ _ _ _ h4;have hn:0<=n0/\n0 < 8:=by
     unfold a5I at hp;split at hp
     ·split at hp
      ·rename_i q;cases hp;exact⟨q.2.1,q.2.2⟩
      ·cases hp
     ·cases hp
    obtain⟨ms,qs,e,v3,v4,v5,v6,v7,v8⟩:=b1i k _ _ _ _ _ (by rw[List.length_append,List.length_singleton];rcases hc with hc | hc <;> omega) h5;refine⟨n0::ms,x::qs,by rw[e];simp,by simp[v3],fun z hz=>?_,fun z hz=>?_,?_,by simp;omega,by simpa [Nat.add_assoc,Nat.add_comm] using v8⟩
    ·rcases List.mem_cons.1 hz with rfl | hz
     ·exact hn
     ·exact v4 z hz
    ·rcases List.mem_cons.1 hz with rfl | hz
     ·exact v1
     ·exact v5 z hz
    ·exact Dp.cons hy hd _ (Dp.app v2 v6)
  ·rename_i hc
   cases h;exact⟨[],[],by simp,rfl,fun _ hx=>(by cases hx),fun _ hx=>(by cases hx),Dp.nil,by simp;omega,by simpa using hm⟩
end
end
section
open Go.Eng Go.Pc Go
open Go.Xp hiding B D3
open Go.Ty (Ty Vr Tok)
open Go.Ly (Rw)
open Go.Lx (G3)
theorem zp:C8 (U8 [] A0 A7 A7 A7 A6) J3=true:=by decide +kernel
theorem b08:L3 B5=true:=by decide +kernel
theorem X8 {p:Pr} (h:a43 p=true) (hl:p.ll.length<=2048):N5 p=true:=by
 unfold a43 at h;rwa [if_pos hl] at h
theorem a3a {p:Pr} {d:Int} {top:Bool} (h:N5 p=true) (hd:d<=32) (h11:p.k≠11) (h18:p.k≠18) (hl:p.ll=[]) (hg:∀ g ∈ p.gl,∀ x ∈ g.bl,Vp x (d+2) false):Vp p d top:=
 .mk h hd (fun q=>absurd q h11) (fun _ x hx=>by rw[hl] at hx;cases hx) (fun q=>absurd q h18) (fun q=>absurd q h18) (fun q=>absurd q h18) hg
theorem b4n {lo hi d:Int} {l:List Gu} (h:∀ g ∈ l,GV lo hi (d+1) g):∀ g ∈ l,∀ x ∈ g.bl,Vp x (d+2) false:=fun g hg x hx=>by
 obtain⟨_,y,hy,hv⟩:=h g hg;rw[hy] at hx;rw[List.mem_singleton.1 hx,show d+2=d+1+1 by omega];exact hv
def b2H (R:List Rw) (d:Int) (top:Bool) (i:Nat) (p:Pr) (j:Nat):Prop:=Vp p d top/\Dp R i j (A8 p d)
section
variable {R:List Rw} (hR:Go.Ly.mayP R=true) {rec:Int->Bool->Nat->PE Pr} (hv:Val R rec) {d:Int} {top:Bool} {i j:Nat} {y:Rw} (hy:R[i]?=some y) (hd:y.depth=d) (h32:d<=32) {p:Pr}
include hy hd in
theorem a6N (h:p.k≠18) (hl:p.ll=[]) (hg:p.gl=[]):Dp R i (i+1) (A8 p d):=by
 rw[a1H h hl hg];exact Dp.one hy hd _
include hy hd in
theorem c2K (h:p.k≠18) (hl:p.ll=[]) (hg:Dp R (i+1) j (C9 p.gl (d+1))):Dp R i j (A8 p d):=by
 rw[a00 h,hl];exact Dp.cons hy hd _ hg
include hy hd in
theorem c5K (h:p.k≠18) (h11:p.k≠11) (hg:p.gl=[]) (hl:Dp R (i+1) j (K6 (d+1) p.ll)):Dp R i j (A8 p d):=by
 rw[a00 h,hg,a8s h11];refine Dp.cons hy hd _ ?_;rw[show C9 [] (d+1)=[] from rfl,List.append_nil];exact hl
include hy hd h32 in
theorem c3Y {k:Int} (hk:k=1\/k=2) {ts:List Tok} (h:b2C k ts i=.ok (p,j)):b2H R d top i p j:=by
 have h:=H2 h;cases h;refine⟨a3a (X8 ?_ (by show 0<=2048;decide)) h32 (by rcases hk with rfl | rfl <;> decide) (by rcases hk with rfl | rfl <;> decide) rfl (fun _ hg=>by cases hg),a6N hy hd (by rcases hk with rfl | rfl <;> decide) rfl rfl⟩;rw[b8q (p:=prM k [] A0 [] [] B5 [] [] [] A6) hk];show(((((!(!(([]:B)==[])))&&(((0:Nat):Int)==0))&&(((0:Nat):Int)==0))&&L3 B5)&&C8 (U8 [] A0 A7 A7 A7 A6) J3)=true;rw[b08,zp];rfl
include hR hv hy hd h32 in
theorem b1a {k:Int} (hk:k=8\/k=9) {ts:List Tok} (hk1:a1C ts) (h:a1X R rec k d ts i=.ok (p,j)):b2H R d top i p j:=by
 obtain⟨r,ts',hr,_,h1⟩:=H0 b5N hk1 h;have h2:=H2 h1;have key:∀ ll:List Pr,(∀ x ∈ ll,Vp x (d+1) false)->Dp R (i+1) j (K6 (d+1) ll)->(r.name≠[]->ll.length=1)->p=prM k [] A0 [] [] r [] ll [] A6->b2H R d top i p j:=by
  intro ll v1 v2 v3 e;subst e;have hlen:ll.length<=2048:=by
   have h1:=a7W ll (d+1);have h2:=v2.e;by_cases h0:K6 (d+1) ll=[]
   ·rw[h0] at h1;have h1:ll.length<=0:=h1;omega
   ·have:=v2.len h0
    have:=(Go.Ly.mayP_all hR).1;omega
  refine⟨.mk (X8 ?_ hlen) h32 (fun q=>?_) (fun _ x hx=>?_) (fun q=>?_) (fun q=>?_) (fun q=>?_) (fun _ hg=>by cases hg),c5K hy hd (by show k≠18;omega) (by show k≠11;omega) rfl v2⟩
  ·rw[c2Q (p:=prM k [] A0 [] [] r [] ll [] A6) hk]
   show((((true&&((!(!(r.name==[])))||((ll.length:Int)==1)))&&(((0:Nat):Int)==0))&&L3 r)&&C8 (U8 [] A0 A7 A7 A7 A6) J3)=true;rw[hr,zp];by_cases hn:r.name=[]
   ·rw[hn];rfl
   ·rw[v3 hn];simp
  ·exact absurd (show k=11 from q) (by omega)
  ·show Vp x (if k=11 then d+2 else d+1) false
   rw[if_neg (show ¬ k=11 by omega)];exact v1 x hx
  ·exact absurd (show k=18 from q) (by omega)
  ·exact absurd (show k=18 from q) (by omega)
  ·exact absurd (show k=18 from q) (by omega)
 split at h2
 ·obtain⟨x,m,h3,h4⟩:=N7 h2
  cases h4;obtain⟨v1,v2⟩:=hv _ _ _ _ _ h3;exact key [x] (fun z hz=>by rw[List.mem_singleton.1 hz];exact v1) (by show Dp R (i+1) _ (A8 x (d+1)++[]);rw[List.append_nil];exact v2) (fun _=>rfl) rfl
 ·rename_i hn
  obtain⟨l,m,h3,h4⟩:=N7 h2;cases h4;obtain⟨qs,e,v1,v2⟩:=b3F hv _ _ _ _ _ h3;rw[List.nil_append] at e;subst e;exact key l v1 v2 (fun q=>absurd q hn) rfl
include hR hv hy hd h32 in
theorem a6F {k lo hi:Int} {row:List Tok->E Gu} (hk:(k=12\/k=13)/\lo=2/\hi=4\/k=14/\lo=1/\hi=1) (hp:a0L row (GuQ lo hi)) {ts:List Tok} (hk1:a1C ts) (h:V6 R rec k row d ts i=.ok (p,j)):b2H R d top i p j:=by
 obtain⟨r,ts',hr,_,h1⟩:=H0 b5N hk1 h;have h2:=H2 h1;obtain⟨l,m,h3,h4⟩:=N7 h2;cases h4;obtain⟨gs,e,v1,v2,v3,v4⟩:=a5r hR hv hp (by split <;> omega) _ _ _ _ _ (by split <;> simp) h3;rw[List.nil_append] at e;subst e;have hle:(if (r.name==[])=true then (0:Int) else 1)<=l.length/\(l.length:Int)<=(if (r.name==[])=true then (16:Int) else 1):=by
  by_cases hn:r.name=[]
  ·rw[hn] at v3 v4 ⊢;simp at v3 v4 ⊢;omega
  ·rw[show(r.name==[])=false by simpa using hn];simp[hn] at v3 v4 ⊢;omega
 have he:G2 l (if (r.name==[])=true then (0:Int) else 1) (if (r.name==[])=true then (16:Int) else 1) (gQ lo hi)=true:=V8 (fun g hg=>(v1 g hg).1) hle.1 hle.2;refine⟨a3a (X8 ?_ (by show 0<=2048;decide)) h32 (by show k≠11;omega) (by show k≠18;omega) rfl (b4n v1),c2K hy hd (by show k≠18;omega) rfl v2⟩;rcases hk with ⟨hk,rfl,rfl⟩ | ⟨hk,rfl,rfl⟩
 ·rw[b1p (p:=prM k [] A0 [] [] r l [] [] A6) hk ⟨rfl,rfl⟩]
  show((((true&&(((0:Nat):Int)==0))&&G2 l (if (r.name==[])=true then (0:Int) else 1) (if (r.name==[])=true then (16:Int) else 1) (gQ 2 4))&&L3 r)&&C8 (U8 [] A0 A7 A7 A7 A6) J3)=true;rw[he,hr,zp];rfl
 ·rw[c5h (p:=prM k [] A0 [] [] r l [] [] A6) hk ⟨rfl,rfl⟩]
  show((((true&&(((0:Nat):Int)==0))&&G2 l (if (r.name==[])=true then (0:Int) else 1) (if (r.name==[])=true then (16:Int) else 1) (gQ 1 1))&&L3 r)&&C8 (U8 [] A0 A7 A7 A7 A6) J3)=true;rw[he,hr,zp];rfl
end
end
section
open Go.Eng Go.Pc Go
open Go.Xp hiding B D3
open Go.Ty (Ty Vr Tok)
open Go.Ly (Rw)
open Go.Lx (G3)
section
variable {R:List Rw} (hR:Go.Ly.mayP R=true) {rec:Int->Bool->Nat->PE Pr} (hv:Val R rec) {d:Int} {top:Bool} {i j:Nat} {y:Rw} (hy:R[i]?=some y) (hd:y.depth=d) (h32:d<=32) {p:Pr}
include hR hv hy hd h32 in
theorem c4b {ts:List Tok} (hk1:a1C ts) (h:b5u R rec d ts i=.ok (p,j)):b2H R d top i p j:=by
 unfold b5u at h;split at h
 ·have h2:=H2 h
  obtain⟨x,m,h3,h4⟩:=N7 h2;obtain⟨z,m2,h5,h6⟩:=N7 h4;cases h6;obtain⟨v1,v2⟩:=hv _ _ _ _ _ h3;obtain⟨u1,u2⟩:=hv _ _ _ _ _ h5;refine⟨.mk (X8 ?_ (by show 2<=2048;decide)) h32 (fun q=>absurd (show(10:Int)=11 from q) (by decide)) (fun _ x1 hx=>?_) (fun q=>absurd (show(10:Int)=18 from q) (by decide)) (fun q=>absurd (show(10:Int)=18 from q) (by decide)) (fun q=>absurd (show(10:Int)=18 from q) (by decide)) (fun _ hg=>by cases hg),
   c5K hy hd (show(10:Int)≠18 by decide) (show(10:Int)≠11 by decide) rfl ?_⟩
  ·rw[c5l (p:=prM 10 [] A0 [] [] B5 [] [x,z] [] A6) rfl]
   show(((((!(!(([]:B)==[])))&&(((2:Nat):Int)==2))&&(((0:Nat):Int)==0))&&L3 B5)&&C8 (U8 [] A0 A7 A7 A7 A6) J3)=true;rw[b08,zp];rfl
  ·show Vp x1 (d+1) false
   have hx:x1 ∈ [x,z]:=hx;simp only[List.mem_cons,List.not_mem_nil,or_false] at hx;rcases hx with rfl | rfl
   ·exact v1
   ·exact u1
  ·show Dp R (i+1) _ (A8 x (d+1)++(A8 z (d+1)++[]))
   rw[List.append_nil];exact Dp.app v2 u2
 ·have h2:=a0f h
  exact a6F hR hv hy hd h32 (.inl ⟨.inr rfl,rfl,rfl⟩) b6a hk1.tail h2
include hR hv hy hd h32 in
theorem c5o {ts:List Tok} (hk1:a1C ts) (h:b5x R rec d ts i=.ok (p,j)):b2H R d top i p j:=by
 obtain⟨e,ts',he,_,h1⟩:=H0 R4 hk1 h;have h2:=H2 h1;obtain⟨l,m,h3,h4⟩:=N7 h2;cases h4;obtain⟨gs,q,v1,v2,v3,v4⟩:=a5r hR hv c5A (by decide) _ _ _ _ _ (by simp) h3;rw[List.nil_append] at q;subst q;refine⟨a3a (X8 ?_ (by show 0<=2048;decide)) h32 (show(15:Int)≠11 by decide) (show(15:Int)≠18 by decide) rfl (b4n v1),c2K hy hd (show(15:Int)≠18 by decide) rfl v2⟩;rw[c5Y (p:=prM 15 [] A0 [] [e] B5 l [] [] A6) rfl];show((((((!(!(([]:B)==[])))&&G2 [e] 1 1 E9)&&(((0:Nat):Int)==0))&&G2 l 0 16 (gQ 5 6))&&L3 B5)&&C8 (U8 [] A0 A7 A7 A7 A6) J3)=true;rw[V8 (l:=[e]) (fun x hx=>by rw[List.mem_singleton.1 hx];exact he) (by simp) (by simp),V8 (fun g hg=>(v1 g hg).1) (by omega) (by omega),b08,zp];rfl
include hv hy hd h32 in
theorem c0r {ts:List Tok} (hk1:a1C ts) (h:b02 rec d ts i=.ok (p,j)):b2H R d top i p j:=by
 obtain⟨e,ts',he,_,h1⟩:=H0 R4 hk1 h;have h2:=H2 h1;obtain⟨x,m,h3,h4⟩:=N7 h2;cases h4;obtain⟨v1,v2⟩:=hv _ _ _ _ _ h3;refine⟨.mk (X8 ?_ (by show 1<=2048;decide)) h32 (fun q=>absurd (show(16:Int)=11 from q) (by decide)) (fun _ x1 hx=>?_) (fun q=>absurd (show(16:Int)=18 from q) (by decide)) (fun q=>absurd (show(16:Int)=18 from q) (by decide)) (fun q=>absurd (show(16:Int)=18 from q) (by decide)) (fun _ hg=>by cases hg),
  c5K hy hd (show(16:Int)≠18 by decide) (show(16:Int)≠11 by decide) rfl (by show Dp R (i+1) _ (A8 x (d+1)++[]);rw[List.append_nil];exact v2)⟩
 ·rw[c4y (p:=prM 16 [] A0 [] [e] B5 [] [x] [] A6) rfl]
  show((((((!(!(([]:B)==[])))&&G2 [e] 1 1 E9)&&(((1:Nat):Int)==1))&&(((0:Nat):Int)==0))&&L3 B5)&&C8 (U8 [] A0 A7 A7 A7 A6) J3)=true;rw[V8 (l:=[e]) (fun x hx=>by rw[List.mem_singleton.1 hx];exact he) (by simp) (by simp),b08,zp];rfl
 ·show Vp x1 (d+1) false
  rw[List.mem_singleton.1 (show x1 ∈ [x] from hx)];exact v1
include hR hv hy hd h32 in
theorem b6x (ht:top=true) {ts:List Tok} (h:a4b R rec d ts i=.ok (p,j)):b2H R d top i p j:=by
 have h1:=a0f h;have h2:=H2 h1;obtain⟨x,m,h3,h4⟩:=N7 h2;cases h4;obtain⟨ms,qs,e,v1,v2,v3,v4,v5,v6⟩:=b1i hR hv _ _ _ _ _ _ (by simp) h3;subst e;simp only[List.nil_append] at v5 v6 ⊢;refine⟨.mk ?_ h32 (fun _=>ht) (fun _ x1 hx=>v3 x1 hx) (fun q=>absurd (show(11:Int)=18 from q) (by decide)) (fun q=>absurd (show(11:Int)=18 from q) (by decide)) (fun q=>absurd (show(11:Int)=18 from q) (by decide)) (fun _ hg=>by cases hg),?_⟩
 ·rw[a0H (p:=prM 11 [] A0 [] [] B5 [] qs ms A6) (u:={ us0 with procs:=true,p0:=1,p1:=8 }) rfl rfl]
  show(L3 B5&&(true&&L8 (prM 11 [] A0 [] [] B5 [] qs ms A6) { us0 with procs:=true,p0:=1,p1:=8 }))=true;have he:G2 ms (qs.length:Int) (qs.length:Int) (fun n=>decide (n >= 0)&&decide (n < 8))=true:=V8 (fun n hn=>by have:=v2 n hn;simp[this.1,this.2]) (by omega) (by omega);have hs:a4y 1 8 qs.length=true:=by unfold a4y;simp;omega
  have:L8 (prM 11 [] A0 [] [] B5 [] qs ms A6) { us0 with procs:=true,p0:=1,p1:=8 }=true:=by
   show(a4y 1 8 qs.length&&true&&true&&true&&true&&true&&G2 ms (qs.length:Int) (qs.length:Int) (fun n=>decide (n >= 0)&&decide (n < 8))&&((false&&spP A6)||(true&&I8 A6 A6)))=true;rw[hs,he,a2R];rfl
  rw[b08,this];rfl
 ·rw[a00 (show(prM 11 [] A0 [] [] B5 [] qs ms A6).k≠18 from (by show(11:Int)≠18;decide))]
  refine Dp.cons hy hd _ ?_;show Dp R (i+1) _ (F4 11 ms qs d++[]);rw[a8f,List.append_nil];exact v4
include hR hv hy hd h32 in
theorem a9S {ts:List Tok} (hk1:a1C ts) (h:N1 R rec d ts i=.ok (p,j)):b2H R d top i p j:=by
 unfold N1 at h;split at h
 ·obtain⟨n,r,hn,hr,h1⟩:=H0 a0w hk1 h
  obtain⟨l,r2,hl,_,h2⟩:=H0 (c0c R4) hr h1;have h3:=H2 h2;cases h3;refine⟨a3a (X8 ?_ (by show 0<=2048;decide)) h32 (show(17:Int)≠11 by decide) (show(17:Int)≠18 by decide) rfl (fun _ hg=>by cases hg),a6N hy hd (show(17:Int)≠18 by decide) rfl rfl⟩;rw[c2P (p:=prM 17 n A0 [] l B5 [] [] [] A6) rfl];show(((((((!(!(([]:B)==[])))&&Go.Lx.name n)&&G2 l 0 8 E9)&&(((0:Nat):Int)==0))&&(((0:Nat):Int)==0))&&L3 B5)&&C8 (U8 [] A0 A7 A7 A7 A6) J3)=true;rw[hn,V8 hl.2 (by omega) (by have:=hl.1;omega),b08,zp];rfl
 ·obtain⟨f,r,hf,hr,h1⟩:=H0 (a0g a3y [44] (by decide)) hk1 h
  split at h1
  ·obtain⟨l,r2,hl,_,h2⟩:=H0 (a0g R4 [44] (by decide)) hr.tail h1
   have h3:=H2 h2;cases h3;refine⟨a3a (X8 ?_ (by show 0<=2048;decide)) h32 (show(3:Int)≠11 by decide) (show(3:Int)≠18 by decide) rfl (fun _ hg=>by cases hg),a6N hy hd (show(3:Int)≠18 by decide) rfl rfl⟩;rw[c9C (p:=prM 3 [] A0 f l B5 [] [] [] A6) rfl];show(((((((!(!(([]:B)==[])))&&G2 f 1 8 D7)&&G2 l 1 8 E9)&&(((0:Nat):Int)==0))&&(((0:Nat):Int)==0))&&L3 B5)&&C8 (U8 [] A0 A7 A7 A7 A6) J3)=true;rw[V8 hf.2.2 (by have:=hf.1;omega) (by have:=hf.2.1;omega),V8 hl.2.2 (by have:=hl.1;omega) (by have:=hl.2.1;omega),b08,zp];rfl
  ·split at h1
   ·cases h1
   rename_i h1l;obtain⟨c,hc⟩:=List.length_eq_one_iff.1 (show f.length=1 by have:=hf.1;omega);have hce:D7 c=true:=hf.2.2 c (by rw[hc];exact List.mem_cons_self ..);rw[hc] at h1;split at h1
   ·obtain⟨l,r2,hl,_,h2⟩:=H0 (a0g R4 [59] (most:=9) (by decide)) hr.tail h1
    have h3:=H2 h2;cases h3;refine⟨a3a (X8 ?_ (by show 0<=2048;decide)) h32 (show(5:Int)≠11 by decide) (show(5:Int)≠18 by decide) rfl (fun _ hg=>by cases hg),a6N hy hd (show(5:Int)≠18 by decide) rfl rfl⟩;rw[c9i (p:=prM 5 [] ([c].headD A0) [] l B5 [] [] [] A6) rfl];show(((((((!(!(([]:B)==[])))&&D7 c)&&G2 l 1 9 E9)&&(((0:Nat):Int)==0))&&(((0:Nat):Int)==0))&&L3 B5)&&C8 (U8 [] A0 A7 A7 A7 A6) J3)=true;rw[hce,V8 hl.2.2 (by have:=hl.1;omega) (by have:=hl.2.1;omega),b08,zp];rfl
   ·have h2:=a0f h1
    split at h2
    ·have h3:=H2 h2
     obtain⟨l,m,h4,h5⟩:=N7 h3;cases h5;obtain⟨gs,q,v1,v2,v3,v4⟩:=a5r hR hv c3t (by decide) _ _ _ _ _ (by simp) h4;rw[List.nil_append] at q;subst q;refine⟨a3a (X8 ?_ (by show 0<=2048;decide)) h32 (show(7:Int)≠11 by decide) (show(7:Int)≠18 by decide) rfl (b4n v1),c2K hy hd (show(7:Int)≠18 by decide) rfl v2⟩;rw[c9B (p:=prM 7 [] ([c].headD A0) [] [] B5 l [] [] A6) rfl];show((((((!(!(([]:B)==[])))&&D7 c)&&(((0:Nat):Int)==0))&&G2 l 1 16 (gQ 7 7))&&L3 B5)&&C8 (U8 [] A0 A7 A7 A7 A6) J3)=true;rw[hce,V8 (fun g hg=>(v1 g hg).1) (by omega) (by omega),b08,zp];rfl
    ·split at h2
     ·obtain⟨e,r2,he,_,h3⟩:=H0 R4 hr.tail.tail h2
      have h4:=H2 h3;cases h4;refine⟨a3a (X8 ?_ (by show 0<=2048;decide)) h32 (show(6:Int)≠11 by decide) (show(6:Int)≠18 by decide) rfl (fun _ hg=>by cases hg),a6N hy hd (show(6:Int)≠18 by decide) rfl rfl⟩;rw[c9y (p:=prM 6 [] ([c].headD A0) [] [e] B5 [] [] [] A6) rfl];show(((((((!(!(([]:B)==[])))&&D7 c)&&G2 [e] 1 1 E9)&&(((0:Nat):Int)==0))&&(((0:Nat):Int)==0))&&L3 B5)&&C8 (U8 [] A0 A7 A7 A7 A6) J3)=true;rw[hce,V8 (l:=[e]) (fun x hx=>by rw[List.mem_singleton.1 hx];exact he) (by simp) (by simp),b08,zp];rfl
     ·obtain⟨l,r2,hl,_,h3⟩:=H0 (a0g a3y [59] (by decide)) hr.tail h2
      have h4:=H2 h3;cases h4;refine⟨a3a (X8 ?_ (by show 0<=2048;decide)) h32 (show(4:Int)≠11 by decide) (show(4:Int)≠18 by decide) rfl (fun _ hg=>by cases hg),a6N hy hd (show(4:Int)≠18 by decide) rfl rfl⟩;rw[c9l (p:=prM 4 [] ([c].headD A0) l [] B5 [] [] [] A6) rfl];show(((((((!(!(([]:B)==[])))&&D7 c)&&G2 l 1 8 D7)&&(((0:Nat):Int)==0))&&(((0:Nat):Int)==0))&&L3 B5)&&C8 (U8 [] A0 A7 A7 A7 A6) J3)=true;rw[hce,V8 hl.2.2 (by have:=hl.1;omega) (by have:=hl.2.1;omega),b08,zp];rfl
end
end
section
open Go.Eng Go.Pc Go
open Go.Xp hiding B D3
open Go.Ty (Ty Vr Tok)
open Go.Ly (Rw)
open Go.Lx (G3)
theorem d3f {s:Sp} (d:Int) (h:s.k=1\/s.k=2\/s.k=3):∃ t,F5 s d=[(d,t)]:=by
 rw[T9];rcases h with h | h | h
 ·rw[if_pos h];exact⟨_,rfl⟩
 ·rw[if_neg (by omega),if_pos h];exact⟨_,rfl⟩
 ·rw[if_neg (by omega),if_neg (by omega),if_pos h];exact⟨_,rfl⟩
theorem d39 {s:Sp} (d:Int) (h:s.k=4) (hc:s.cs=false):∃ t,F5 s d=[(d,t)]:=by
 rw[T9,if_neg (by omega),if_neg (by omega),if_neg (by omega),if_neg (by omega),if_pos hc];exact⟨_,rfl⟩
theorem d2P {s:Sp} (d:Int) (h:s.k=4) (hc:s.cs=true):∃ t u w,F5 s d=(d,t)::(d+1,u)::(s.vs.l.map (fun v=>((d+2,G9 v):Ln))++[(d,w)]):=by
 rw[T9,if_neg (by omega),if_neg (by omega),if_neg (by omega),if_neg (by omega),if_neg (by rw[hc];decide)];exact⟨_,_,_,rfl⟩
theorem d2Y {s:Sp} (d:Int) (h:s.k=5):∃ t w,F5 s d=(d,t)::(a0V s.bl (d+1)++[(d,w)]):=by
 rw[T9,if_neg (by omega),if_neg (by omega),if_neg (by omega),if_pos h];exact⟨_,_,rfl⟩
theorem c6Y {k:Int} (h:Q0 ⟨k,0,0,[]⟩=true):Go.Ty.prim k=true:=by
 have hp:Go.Ty.may ⟨k,0,0,[]⟩=true/\k<=3:=by
  unfold Q0 at h;simp only[Bool.and_eq_true,decide_eq_true_eq] at h;exact⟨h.1.1,h.2⟩
 obtain⟨h1,h3⟩:=hp;unfold Go.Ty.may at h1;split at h1
 ·cases h1
 ·split at h1
  ·rename_i q
   rw[Go.Ty.is_eq] at q;exact q
  ·split at h1
   ·have:=congrArg Ty.kind ((Go.Ty.eqT_iff _ _).1 h1)
    rw[show k=5 from this] at h3;exact absurd h3 (by decide)
   ·rename_i q
    simp at q;omega
theorem c5J {l:List Int} {least:Int} (h:∀ x ∈ l,Q0 ⟨x,0,0,[]⟩=true) (h1:least<=l.length) (h2:l.length<=8):Go.Ty.itemsB l least=true:=by
 rw[Go.Ty.items_eq];unfold Go.Ty.itemsR;simp only[Bool.and_eq_true,decide_eq_true_eq];exact⟨List.all_eq_true.2 fun x hx=>c6Y (h x hx),h1,by omega⟩
theorem c4g:a0L Z4 fun _=>True:=N9 a0w fun n _=>a4R (f:=fun r=>M7 (M0 a1D [59] 8 r) fun l r=>.ok (vrM n l,r)) (N9 (a0g b2X [59] (by decide)) fun _ _=>a0v trivial) (a0v trivial)
section
variable {R:List Rw} (hR:Go.Ly.mayP R=true) {rec:Int->Bool->Nat->PE Pr} (hv:Val R rec) {d:Int} {top:Bool} {i j:Nat}
include hR in
theorem b0S {k:Int} {s:B} {β:Type} {f:Nat->PE β} {v:β × Nat} (h:a1N R d k s i f=.ok v):∃ y,R[i]?=some y/\y.depth=d/\d<=32/\f (i+1)=.ok v:=by
 obtain⟨y,ts,h1,h2,h3,_,h4⟩:=a6k hR h;exact⟨y,h1,h2,h3,H2 (a0f h4)⟩
theorem b5c {s:Sp} {ts:List Tok} {o:Option Sp} (h:a7v s ts i=.ok (o,j)):o=some s/\spP s=true/\j=i+1:=by
 have h1:=a0f h;split at h1
 ·have h2:=H2 h1
  cases h2;exact⟨rfl,by assumption,rfl⟩
 ·cases h1
include hR in
theorem b3Z:∀ (k:Nat) (acc:List Vr) (i:Nat) (l:List Vr) (j:Nat),(acc=[]\/Go.Ty.mayPr true acc=true)->U3 R d k acc i=.ok (l,j)->∃ vs,l=acc++vs/\Go.Ty.mayPr true l=true/\Dp R i j (vs.map fun v=>((d+2,G9 v):Ln))/\(acc=[]->d+2<=32)
 | 0,acc,i,l,j,ha,h=>by
  unfold U3 at h;split at h
  ·cases h
  ·rename_i hn
   cases h;have hne:acc≠[]:=fun q=>hn (by rw[q];rfl)
   exact⟨[],by simp,ha.resolve_left hne,Dp.nil,fun q=>absurd q hne⟩
 | k+1,acc,i,l,j,ha,h=>by
  unfold U3 at h;split at h
  ·obtain⟨y,ts,hy,hd,h32,hk,h1⟩:=a6k hR h
   obtain⟨v,r,_,_,h2⟩:=H0 c4g hk h1;split at h2
   ·rename_i hm
    have h3:=H2 h2;obtain⟨vs,e,v1,v2,_⟩:=b3Z k _ _ _ _ (.inr hm) h3;exact⟨v::vs,by rw[e];simp,v1,Dp.cons hy hd _ v2,fun _=>h32⟩
   ·cases h2
  ·rename_i hn
   cases h;have hne:acc≠[]:=fun q=>hn (.inl (by rw[q];rfl))
   exact⟨[],by simp,ha.resolve_left hne,Dp.nil,fun q=>absurd q hne⟩
def c9h (R:List Rw) (d:Int) (i:Nat) (s:Sp) (j:Nat):Prop:=spP s=true/\(s.cs=true->d+2<=32)/\(∀ x ∈ s.bl,Vp x (d+1) false)/\Dp R i j (F5 s d)
variable {y:Rw} (hy:R[i]?=some y) (hd:y.depth=d)
include hy hd in
theorem a9m {k:Int} {t:Ty} {ns:List B} {e:Ex} (hk:k=1\/k=2\/k=3) (h:spP (spM k t ns e false [] [] [])=true):c9h R d i (spM k t ns e false [] [] []) (i+1):=by
 refine⟨h,fun q=>(by cases q),fun _ hx=>(by cases hx),?_⟩;obtain⟨u,q⟩:=d3f (s:=spM k t ns e false [] [] []) d hk;rw[q];exact Dp.one hy hd _
include hR hv hy hd in
theorem c4H {ts:List Tok} (hk:a1C ts) {o:Option Sp} (h:W2 R rec d ts i=.ok (o,j)):(o=none/\j=i)\/∃ s,o=some s/\c9h R d i s j:=by
 unfold W2 at h;split at h
 ·obtain⟨n,r,hn,hr,h1⟩:=H0 a0w hk.tail h
  obtain⟨⟨cs,vs⟩,m,h2,h3⟩:=N7 h1;cases h3;refine .inr ⟨_,rfl,?_⟩;have hn1:G2 [n] 1 1 Go.Lx.name=true:=V8 (fun x hx=>by rw[List.mem_singleton.1 hx];exact hn) (by simp) (by simp);have hz:spP (spM 4 Go.Ty.zeroT [n] A0 cs vs [] [])=Go.Ty.mayPr cs vs:=by
   rw[d2d (s:=spM 4 Go.Ty.zeroT [n] A0 cs vs [] []) rfl];show((G2 [n] 1 1 Go.Lx.name&&Go.Ty.mayPr cs vs)&&R3 (.mk 0 Go.Ty.zeroT A7 A0 false A7 A7 none 0 []) A6)=_;rw[hn1,zz];simp
  unfold a5A at h2;split at h2
  ·obtain⟨l,r2,hl,_,h4⟩:=H0 (a0g b2X [59] (by decide)) hr.tail h2
   have h5:=H2 (a0f h4);cases h5;refine⟨?_,fun q=>(by cases q),fun _ hx=>(by cases hx),?_⟩
   ·rw[hz]
    unfold Go.Ty.mayPr;rw[if_pos (by decide)];show(((1:Nat):Int)==1&&(([]:B)==[])&&Go.Ty.itemsB l 1)=true;rw[c5J hl.2.2 (by have:=hl.1;omega) hl.2.1];rfl
   ·obtain⟨u,q⟩:=d39 (s:=spM 4 Go.Ty.zeroT [n] A0 false [vrM [] l] [] []) d rfl rfl
    show Dp R i (i+1) (F5 (spM 4 Go.Ty.zeroT [n] A0 false [vrM [] l] [] []) d);rw[q];exact Dp.one hy hd _
  ·have h4:=H2 h2
   obtain⟨y2,hy2,hd2,_,h5⟩:=b0S hR h4;obtain⟨l,m2,h6,h7⟩:=N7 h5;obtain⟨y3,hy3,hd3,_,h8⟩:=b0S hR h7;cases h8;obtain⟨ws,e,v1,v2,v3⟩:=b3Z hR _ _ _ _ _ (.inl rfl) h6;rw[List.nil_append] at e;subst e;refine⟨by rw[hz];exact v1,fun _=>v3 rfl,fun _ hx=>(by cases hx),?_⟩;show Dp R i _ (F5 (spM 4 Go.Ty.zeroT [n] A0 true vs [] []) d);obtain⟨u,w,z,q⟩:=d2P (s:=spM 4 Go.Ty.zeroT [n] A0 true vs [] []) d rfl rfl;rw[q];exact Dp.cons hy hd _ (Dp.cons hy2 hd2 _ (Dp.app v2 (Dp.one hy3 hd3 _)))
 ·split at h
  ·obtain⟨n,r,hn,hr,h1⟩:=H0 a0w hk.tail h
   obtain⟨fs,r2,hf,_,h2⟩:=H0 (c0c b7e) hr h1;have h3:=H2 h2;obtain⟨x,m,h4,h5⟩:=N7 h3;obtain⟨y3,hy3,hd3,_,h6⟩:=b0S hR h5;cases h6;obtain⟨v1,v2⟩:=hv _ _ _ _ _ h4;have hn1:G2 [n] 1 1 Go.Lx.name=true:=V8 (fun x hx=>by rw[List.mem_singleton.1 hx];exact hn) (by simp) (by simp);refine .inr ⟨_,rfl,?_,fun q=>(by cases q),fun z hz=>?_,?_⟩
   ·rw[d2a (s:=spM 5 Go.Ty.zeroT [n] A0 false [] fs [x]) rfl]
    show((((G2 [n] 1 1 Go.Lx.name&&decide ((fs.length:Int)<=8))&&(((1:Nat):Int)==1))&&fs.all foP)&&R3 (.mk 0 Go.Ty.zeroT A7 A0 false A7 A7 none 0 []) A6)=true;rw[hn1,decide_eq_true (show(fs.length:Int)<=8 by have:=hf.1;omega),List.all_eq_true.2 hf.2,zz];rfl
   ·rw[List.mem_singleton.1 (show z ∈ [x] from hz)];exact v1
   ·obtain⟨u,w,q⟩:=d2Y (s:=spM 5 Go.Ty.zeroT [n] A0 false [] fs [x]) d rfl
    rw[q];exact Dp.cons hy hd _ (Dp.app v2 (Dp.one hy3 hd3 _))
  ·split at h
   ·obtain⟨t,r,ht,hr,h1⟩:=H0 a8T hk.tail h
    obtain⟨n,r2,hn,hr2,h2⟩:=H0 a0w hr h1;have h3:=a0f h2;obtain⟨e,r3,he,_,h4⟩:=H0 R4 hr2.tail h3;obtain⟨e1,e2,e3⟩:=b5c h4;subst e3;exact .inr ⟨_,e1,a9m hy hd (.inr (.inl rfl)) e2⟩
   ·split at h
    ·obtain⟨t,r,ht,hr,h1⟩:=H0 a8T hk h
     obtain⟨ns,r2,hn,hr2,h2⟩:=H0 (a0g a0w [44] (by decide)) hr h1;split at h2
     ·obtain⟨e,r3,he,_,h4⟩:=H0 a3y hr2.tail h2
      obtain⟨e1,e2,e3⟩:=b5c h4;subst e3;exact .inr ⟨_,e1,a9m hy hd (.inr (.inr rfl)) e2⟩
     ·obtain⟨e1,e2,e3⟩:=b5c h2
      subst e3;exact .inr ⟨_,e1,a9m hy hd (.inl rfl) e2⟩
    ·cases h;exact .inl ⟨rfl,rfl⟩
include hR hv hy hd in
theorem c5T {p:Pr} (h32:d<=32) {ts:List Tok} (hk:a1C ts) (h:a1K R rec d top ts i=.ok (p,j)):b2H R d top i p j:=by
 cases ts with
 | nil=>cases h
 | cons t r=>
  have hkr:a1C r:=fun x hx=>hk x (List.mem_cons_of_mem _ hx)
  unfold a1K at h;simp only at h;cases hw:a09 R rec t.text with
  | none=>rw[hw] at h;exact a9S hR hv hy hd h32 hk h
  | some f=>
   rw[hw] at h;simp only at h;split at h
   ·rename_i hc
    unfold a09 at hw;split at hw
    ·cases hw;exact c3Y hy hd h32 (.inl rfl) h
    split at hw
    ·cases hw;exact c3Y hy hd h32 (.inr rfl) h
    split at hw
    ·cases hw;exact b1a hR hv hy hd h32 (.inl rfl) hkr h
    split at hw
    ·cases hw;exact b1a hR hv hy hd h32 (.inr rfl) hkr h
    split at hw
    ·cases hw;exact c4b hR hv hy hd h32 hkr h
    split at hw
    ·cases hw;exact a6F hR hv hy hd h32 (.inl ⟨.inl rfl,rfl,rfl⟩) b6a hkr h
    split at hw
    ·cases hw;exact a6F hR hv hy hd h32 (.inr ⟨rfl,rfl,rfl⟩) c6M hkr h
    split at hw
    ·cases hw;exact c5o hR hv hy hd h32 hkr h
    split at hw
    ·cases hw;exact c0r hv hy hd h32 hkr h
    split at hw
    ·rename_i ht
     cases hw;exact b6x hR hv hy hd h32 (hc.2.resolve_right fun q=>q ht) h
    ·cases hw
   ·exact a9S hR hv hy hd h32 hk h
end
theorem b05 {R:List Rw} (hR:Go.Ly.mayP R=true):∀ n,Val R (A4 R n)
 | 0=>fun d top i p j h=>by cases h
 | n+1=>fun d top i p j h=>by
  have hv:=b05 hR n;have h:b00 R (A4 R n) d top i=.ok (p,j):=h;obtain⟨y,ts,hy,hd,h32,hk,h1⟩:=a6k hR h;obtain⟨o,m,h2,h3⟩:=N7 h1;rcases c4H hR hv hy hd hk h2 with ⟨rfl,rfl⟩ | ⟨s,rfl,g1,g2,g3,g4⟩
  ·exact c5T hR hv hy hd h32 hk h3
  ·obtain⟨x,m2,h4,h5⟩:=N7 h3
   cases h5;obtain⟨v1,v2⟩:=hv _ _ _ _ _ h4;refine⟨.mk (X8 ?_ (by show 1<=2048;decide)) h32 (fun q=>absurd (show(18:Int)=11 from q) (by decide)) (fun q=>absurd rfl q) (fun _ x1 hx=>?_) (fun _=>g2) (fun _=>g3) (fun _ hg=>by cases hg),?_⟩
   ·rw[b8T (p:=prM 18 [] A0 [] [] B5 [] [x] [] s) rfl]
    show((((((!(!(([]:B)==[])))&&spP s)&&(((1:Nat):Int)==1))&&(((0:Nat):Int)==0))&&L3 B5)&&C8 (U8 [] A0 A7 A7 A7 A6) J3)=true;rw[g1,b08,zp];rfl
   ·rw[List.mem_singleton.1 (show x1 ∈ [x] from hx)];exact v1
   ·show Dp R i j (F5 s d++A8 x d)
    exact Dp.app g4 v2
end
section
open Go.Eng Go.Pc Go
open Go.Xp hiding B D3
open Go.Ty (Ty Vr Tok)
open Go.Ly (Rw)
open Go.Lx (G3)
def Nz {α:Type} (r:E α):Prop:=∀ e,r=.error e->e≠0
theorem a0R {α:Type} (q:α × List Tok):Nz (.ok q:E α):=fun _ h=>by cases h
theorem a7B {α:Type}:Nz (.error 110:E α):=fun _ h=>by cases h;decide
theorem X2 {α β:Type} {r:E α} {f:α->List Tok->E β} (h:Nz r) (hf:∀ x ts,Nz (f x ts)):Nz (M7 r f):=by
 cases r with
 | ok q=>exact hf q.1 q.2
 | error e=>exact fun e' he=>by cases he;exact h e rfl
theorem a0n {α:Type} {c:Prop} [Decidable c] {a b:E α} (ha:Nz a) (hb:Nz b):Nz (if c then a else b):=by
 split
 ·exact ha
 ·exact hb
theorem a6R {β:Type} {k:Int} {s:B} {ts:List Tok} {f:List Tok->E β} (hf:∀ ts,Nz (f ts)):Nz (U9 k s ts f):=a0n (hf _) a7B
theorem a3b (ts:List Tok):Nz (U5 ts):=by
 cases ts with
 | nil=>exact a7B
 | cons t r=>exact a0n (a0R _) a7B
theorem a0a (ts:List Tok):Nz (H3 ts):=by
 unfold H3;cases K7 ts with
 | ok q=>exact a0R _
 | error e=>exact a7B
theorem a7h (ts:List Tok):Nz (F6 ts):=a0n (X2 (a0a ts) fun _ _=>a0n (a0R _) a7B) a7B
theorem b5k (ts:List Tok):Nz (a4H ts):=a0n (a0R _) a7B
theorem c0h (ts:List Tok):Nz (a1D ts):=X2 (b5k ts) fun _ _=>a0n (a0R _) a7B
theorem c1B (ts:List Tok):Nz (W8 ts):=X2 (b5k _) fun _ _=>X2 (a3b _) fun _ _=>a0n (a0R _) a7B
theorem b9V {α:Type} {take:List Tok->E α} (ht:∀ ts,Nz (take ts)) (sep:B):∀ (n:Nat) (acc:List α) (ts:List Tok),Nz (a0N take sep n acc ts)
 | 0,_,_=>a0n a7B (a0R _)
 | n+1,_,_=>a0n (X2 (ht _) fun _ _=>b9V ht sep n _ _) (a0R _)
theorem a3O {α:Type} {take:List Tok->E α} (ht:∀ ts,Nz (take ts)) (sep:B) (most:Nat) (ts:List Tok):Nz (M0 take sep most ts):=X2 (ht ts) fun _ _=>b9V ht sep _ _ _
theorem c9v {α:Type} {take:List Tok->E α} (ht:∀ ts,Nz (take ts)) (ts:List Tok):Nz (brM take ts):=a6R fun _=>a0n (a0R _) (X2 (a3O ht _ _ _) fun _ _=>a6R fun _=>a0R _)
theorem c6i (ts:List Tok):Nz (a8P ts):=a0n (a0R _) (X2 (a3b _) fun _ _=>a6R fun _=>X2 (a0a _) fun _ _=>a6R fun _=>X2 (a0a _) fun _ _=>a0R _)
theorem d2M (ts:List Tok):Nz (ifM ts):=X2 (a0a _) fun _ _=>a0R _
theorem b9Z (c:Ex) (ts:List Tok):Nz (a3K c ts):=X2 (a7h _) fun _ _=>a6R fun _=>a0n (X2 (a0a _) fun _ _=>a0R _) (X2 (a3O a7h _ _ _) fun _ _=>a0R _)
theorem c2E (ts:List Tok):Nz (a2l ts):=a0n (X2 (a0a _) fun _ _=>a6R fun _=>a0n (a0R _) (b9Z _ _)) (b9Z _ _)
theorem c9V (ts:List Tok):Nz (a7M ts):=a0n (a0R _) (X2 (a3O a0a _ _ _) fun _ _=>a0R _)
theorem d1d (ts:List Tok):Nz (a7Q ts):=X2 (a3b _) fun _ _=>a0n (X2 (a3O a7h _ _ _) fun _ _=>a0R _) (a0R _)
theorem d03 (ts:List Tok):Nz (Z4 ts):=X2 (a3b _) fun _ _=>a0n (X2 (a3O c0h _ _ _) fun _ _=>a0R _) (a0R _)
def Bd {α:Type} (n:Nat):PE α->Prop
 | .ok (_,j)=>j<=n
 | .error (e,k)=>e≠0/\k<=n/\(k=n->e=110)
section
variable {R:List Rw} {rec:Int->Bool->Nat->PE Pr} (hr:∀ d top i,i<=R.length->Bd R.length (rec d top i))
theorem a0W {α β:Type} {n:Nat} {r:PE α} {f:α->Nat->PE β} (h:Bd n r) (hf:∀ x j,j<=n->Bd n (f x j)):Bd n (M4 r f):=by
 cases r with
 | ok q=>exact hf q.1 q.2 h
 | error e=>exact h
theorem O5 {α β:Type} {n i:Nat} {r:E α} {f:α->List Tok->PE β} (h:Nz r) (hi:i < n) (hf:∀ x ts,Bd n (f x ts)):Bd n (E8 r i f):=by
 cases r with
 | ok q=>exact hf q.1 q.2
 | error e=>exact⟨h e rfl,by omega,fun q=>by omega⟩
theorem Q5 {α:Type} {n:Nat} {c:Prop} [Decidable c] {a b:PE α} (ha:Bd n a) (hb:Bd n b):Bd n (if c then a else b):=by
 split
 ·exact ha
 ·exact hb
theorem a4Z {α:Type} {n i:Nat} (hi:i<=n):Bd n (.error (110,i):PE α):=⟨by decide,hi,fun _=>rfl⟩
theorem O0 {β:Type} {n i:Nat} {ts:List Tok} {f:Nat->PE β} (hi:i < n) (hf:Bd n (f (i+1))):Bd n (D9 ts i f):=Q5 hf (a4Z (by omega))
theorem a4i {β:Type} {n i:Nat} {k:Int} {s:B} {ts:List Tok} {f:List Tok->PE β} (hi:i<=n) (hf:∀ ts,Bd n (f ts)):Bd n (U0 k s ts i f):=Q5 (hf _) (a4Z hi)
theorem a8B {β:Type} {d:Int} {i:Nat} {f:List Tok->PE β} (hi:i<=R.length) (hf:∀ ts,i < R.length->Bd R.length (f ts)):Bd R.length (a0d R d i f):=by
 unfold a0d a1h;cases hx:R[i]? with
 | none=>exact a4Z hi
 | some x=>
  have hlt:=(List.getElem?_eq_some_iff.1 hx).1;simp only;by_cases h0:(Go.Lx.lexO x.text).2.2≠0
  ·rw[if_pos h0];exact⟨h0,hi,fun q=>by omega⟩
  ·rw[if_neg h0]
   by_cases h1:x.depth≠d
   ·rw[if_pos h1];exact a4Z hi
   ·rw[if_neg h1];exact hf _ hlt
theorem b4T {β:Type} {d k:Int} {s:B} {i:Nat} {f:Nat->PE β} (hi:i<=R.length) (hf:i < R.length->Bd R.length (f (i+1))):Bd R.length (a1N R d k s i f):=a8B hi fun _ hlt=>a4i hi fun _=>O0 hlt (hf hlt)
include hr
theorem a6Z {row:List Tok->E Gu} (hrow:∀ ts,Nz (row ts)) {least most:Nat} {d:Int}:∀ (k:Nat) (acc:List Gu) (i:Nat),i<=R.length->Bd R.length (R5 R rec row least most d k acc i)
 | 0,_,_,hi=>Q5 (a4Z hi) hi
 | k+1,_,i,hi=>Q5 (a8B hi fun _ hlt=>O5 (hrow _) hlt fun _ _=>O0 hlt (a0W (hr _ _ _ (by omega)) fun _ _ hj=>a6Z hrow k _ _ hj)) hi
theorem b75 {d:Int}:∀ (k:Nat) (acc:List Pr) (i:Nat),i<=R.length->Bd R.length (a0t R rec d k acc i)
 | 0,_,_,hi=>hi
 | k+1,_,_,hi=>Q5 (a0W (hr _ _ _ hi) fun _ _ hj=>b75 k _ _ hj) hi
theorem b3z {d:Int}:∀ (k:Nat) (ns:List Int) (acc:List Pr) (i:Nat),i<=R.length->Bd R.length (P5 R rec d k ns acc i)
 | 0,_,_,_,hi=>Q5 (a4Z hi) hi
 | k+1,_,_,i,hi=>Q5 (a8B hi fun _ hlt=>a4i hi fun ts=>by
  cases a5I ts with
  | none=>exact a4Z hi
  | some n=>exact a0W (hr _ _ _ (by omega)) fun _ _ hj=>b3z k _ _ _ hj) hi
theorem c1v {k d:Int} {ts:List Tok} {i:Nat} (hi:i < R.length):Bd R.length (a1X R rec k d ts i):=O5 (c6i _) (by omega) fun _ _=>O0 hi (Q5 (a0W (hr _ _ _ (by omega)) fun _ _ hj=>hj) (a0W (b75 hr _ _ _ (by omega)) fun _ _ hj=>hj))
theorem a7F {k d:Int} {row:List Tok->E Gu} (hrow:∀ ts,Nz (row ts)) {ts:List Tok} {i:Nat} (hi:i < R.length):Bd R.length (V6 R rec k row d ts i):=O5 (c6i _) (by omega) fun _ _=>O0 hi (a0W (a6Z hr hrow _ _ _ (by omega)) fun _ _ hj=>hj)
theorem c7l {d:Int} {ts:List Tok} {i:Nat} (hi:i < R.length):Bd R.length (b5u R rec d ts i):=Q5 (O0 hi (a0W (hr _ _ _ (by omega)) fun _ _ hj=>a0W (hr _ _ _ hj) fun _ _ hj=>hj)) (a4i (by omega) fun _=>a7F hr c2E hi)
theorem c7G {d:Int} {ts:List Tok} {i:Nat} (hi:i < R.length):Bd R.length (b5x R rec d ts i):=O5 (a0a _) (by omega) fun _ _=>O0 hi (a0W (a6Z hr c9V _ _ _ (by omega)) fun _ _ hj=>hj)
theorem c2U {d:Int} {ts:List Tok} {i:Nat} (hi:i < R.length):Bd R.length (b02 rec d ts i):=O5 (a0a _) (by omega) fun _ _=>O0 hi (a0W (hr _ _ _ (by omega)) fun _ _ hj=>hj)
theorem b8n {d:Int} {ts:List Tok} {i:Nat} (hi:i < R.length):Bd R.length (a4b R rec d ts i):=a4i (by omega) fun _=>O0 hi (a0W (b3z hr _ _ _ _ (by omega)) fun _ _ hj=>hj)
theorem b83 {d:Int} {ts:List Tok} {i:Nat} (hi:i < R.length):Bd R.length (N1 R rec d ts i):=by
 have hi':i<=R.length:=by omega
 have h1:i+1<=R.length:=hi;exact Q5 (O5 (a3b _) hi fun _ _=>O5 (c9v a0a _) hi fun _ _=>O0 hi h1) (O5 (a3O a7h _ _ _) hi fun _ _=>Q5 (O5 (a3O a0a _ _ _) hi fun _ _=>O0 hi h1) (Q5 (a4Z hi') (Q5 (O5 (a3O a0a _ _ _) hi fun _ _=>O0 hi h1)
  (a4i hi' fun _=>Q5 (O0 hi (a0W (a6Z hr d1d _ _ _ h1) fun _ _ hj=>hj)) (Q5 (O5 (a0a _) hi fun _ _=>O0 hi h1) (O5 (a3O a7h _ _ _) hi fun _ _=>O0 hi h1))))))
omit hr in
theorem b7k {d:Int}:∀ (k:Nat) (acc:List Vr) (i:Nat),i<=R.length->Bd R.length (U3 R d k acc i)
 | 0,_,_,hi=>Q5 (a4Z hi) hi
 | k+1,_,i,hi=>Q5 (a8B hi fun _ hlt=>O5 (d03 _) hlt fun _ _=>Q5 (O0 hlt (b7k k _ _ (by omega))) (a4Z hi)) hi
omit hr in
theorem c0w {d:Int} {ts:List Tok} {i:Nat} (hi:i < R.length):Bd R.length (a5A R d ts i):=
 Q5 (O5 (a3O c0h _ _ _) (by omega) fun _ _=>a4i (by omega) fun _=>O0 hi (show i+1<=R.length by omega)) (O0 hi (b4T (by omega) fun h1=>a0W (b7k _ _ _ (by omega)) fun _ j hj=>b4T hj fun h2=>(show j+1<=R.length by omega)))
omit hr in
theorem b4H {s:Sp} {ts:List Tok} {i:Nat} (hi:i < R.length):Bd R.length (a7v s ts i):=a4i (by omega) fun _=>Q5 (O0 hi (show i+1<=R.length by omega)) (a4Z (by omega))
theorem c4K {d:Int} {ts:List Tok} {i:Nat} (hi:i < R.length):Bd R.length (W2 R rec d ts i):=by
 have hi':i<=R.length:=by omega
 exact Q5 (O5 (a3b _) hi fun _ _=>a0W (c0w hi) fun _ _ hj=>hj) (Q5 (O5 (a3b _) hi fun _ _=>O5 (c9v c1B _) hi fun _ _=>O0 hi (a0W (hr _ _ _ (by omega)) fun _ j hj=>b4T hj fun h2=>(show j+1<=R.length by omega)))
  (Q5 (O5 (b5k _) hi fun _ _=>O5 (a3b _) hi fun _ _=>a4i hi' fun _=>O5 (a0a _) hi fun _ _=>b4H hi) (Q5 (O5 (b5k _) hi fun _ _=>O5 (a3O a3b _ _ _) hi fun _ _=>Q5 (O5 (a7h _) hi fun _ _=>b4H hi) (b4H hi)) hi')))
theorem c4Z {d:Int} {top:Bool} {ts:List Tok} {i:Nat} (hi:i < R.length):Bd R.length (a1K R rec d top ts i):=by
 cases ts with
 | nil=>exact a4Z (by omega)
 | cons t r=>
  have hs:Bd R.length (N1 R rec d (t::r) i):=b83 hr hi;unfold a1K;simp only;cases hw:a09 R rec t.text with
  | none=>exact hs
  | some f=>
   refine Q5 ?_ hs;have h1:i+1<=R.length:=hi;unfold a09 at hw;repeat' split at hw
   all_goals first | (cases hw;first | exact O0 hi h1 | exact c1v hr hi | exact c7l hr hi | exact a7F hr c2E hi | exact a7F hr d2M hi | exact c7G hr hi | exact c2U hr hi | exact b8n hr hi) | cases hw
end
def Sm (i:Nat) (r:PE (Option Sp)):Prop:=∀ j,r=.ok (none,j)->j=i
theorem b4N {i j:Nat} {s:Sp}:Sm i (.ok (some s,j)):=fun _ h=>by cases h
theorem b40 {i:Nat} {e:Int × Nat}:Sm i (.error e):=fun _ h=>by cases h
theorem a5Y {i:Nat} {c:Prop} [Decidable c] {a b:PE (Option Sp)} (ha:Sm i a) (hb:Sm i b):Sm i (if c then a else b):=by
 split
 ·exact ha
 ·exact hb
theorem a3f {α:Type} {n i:Nat} {r:E α} {f:α->List Tok->PE (Option Sp)} (hf:∀ x ts,Sm n (f x ts)):Sm n (E8 r i f):=by
 cases r with
 | ok q=>exact hf q.1 q.2
 | error e=>exact b40
theorem c4R {α:Type} {n:Nat} {r:PE α} {f:α->Nat->PE (Option Sp)} (hf:∀ x j,Sm n (f x j)):Sm n (M4 r f):=by
 cases r with
 | ok q=>exact hf q.1 q.2
 | error e=>exact b40
theorem b0Q {n i:Nat} {ts:List Tok} {f:Nat->PE (Option Sp)} (hf:Sm n (f (i+1))):Sm n (D9 ts i f):=a5Y hf b40
theorem b4A {n i:Nat} {k:Int} {s:B} {ts:List Tok} {f:List Tok->PE (Option Sp)} (hf:∀ ts,Sm n (f ts)):Sm n (U0 k s ts i f):=a5Y (hf _) b40
theorem c7n {R:List Rw} {n i:Nat} {d k:Int} {s:B} {f:Nat->PE (Option Sp)} (hf:Sm n (f (i+1))):Sm n (a1N R d k s i f):=by
 unfold a1N a0d;cases a1h R d i with
 | error e=>exact b40
 | ok ts=>exact b4A fun _=>b0Q hf
theorem b7O {n i:Nat} {s:Sp} {ts:List Tok}:Sm n (a7v s ts i):=b4A fun _=>a5Y (b0Q b4N) b40
theorem c6q {R:List Rw} {rec:Int->Bool->Nat->PE Pr} {d:Int} {ts:List Tok} {i:Nat}:Sm i (W2 R rec d ts i):=
 a5Y (a3f fun _ _=>c4R fun _ _=>b4N) (a5Y (a3f fun _ _=>a3f fun _ _=>b0Q (c4R fun _ _=>c7n b4N)) (a5Y (a3f fun _ _=>a3f fun _ _=>b4A fun _=>a3f fun _ _=>b7O)
  (a5Y (a3f fun _ _=>a3f fun _ _=>a5Y (a3f fun _ _=>b7O) b7O) (fun j h=>by cases h;rfl))))
theorem a7G {R:List Rw}:∀ (n:Nat) (d:Int) (top:Bool) (i:Nat),i<=R.length->Bd R.length (A4 R n d top i)
 | 0,_,_,_,hi=>a4Z hi
 | n+1,d,top,i,hi=>by
  have hr:=fun d top i hi=>a7G (R:=R) n d top i hi
  show Bd R.length (b00 R (A4 R n) d top i);refine a8B hi fun ts hlt=>?_
  have hs:=c4K hr (d:=d) (ts:=ts) hlt;cases hq:W2 R (A4 R n) d ts i with
  | error e=>rw[hq] at hs;exact hs
  | ok q=>
   obtain⟨so,j⟩:=q;rw[hq] at hs;cases so with
   | some s=>
    show Bd R.length (M4 (A4 R n d top j) fun x i=>.ok (prM 18 [] A0 [] [] B5 [] [x] [] s,i));exact a0W (hr _ _ _ hs) fun _ _ hj=>hj
   | none=>
    have:=c6q j hq;subst this;exact c4Z hr hlt
theorem b0w:∀ {l:List Pr} {d:Int},(∀ x ∈ l,∀ d,P7 x<=(A8 x d).length)->K0 l<=(K6 d l).length
 | [],_,_=>Nat.zero_le _
 | x::r,d,h=>by
  show P7 x+K0 r<=(A8 x d++K6 d r).length;have:=h x (List.mem_cons_self ..) d;have:=b0w (d:=d) fun y hy=>h y (List.mem_cons_of_mem _ hy)
  rw[List.length_append];omega
theorem b2x:∀ {l:List Pr} {ns:List Int} {d:Int},(∀ x ∈ l,∀ d,P7 x<=(A8 x d).length)->K0 l<=(S5 d ns l).length
 | [],_,_,_=>Nat.zero_le _
 | x::r,ns,d,h=>by
  show P7 x+K0 r<=((_,_)::(A8 x (d+2)++S5 d ns.tail r):List Ln).length;have:=h x (List.mem_cons_self ..) (d+2);have:=b2x (ns:=ns.tail) (d:=d) fun y hy=>h y (List.mem_cons_of_mem _ hy)
  rw[List.length_cons,List.length_append];omega
theorem a7E {l:List Pr} {d:Int} (h1:l.length<=1) (h:∀ x ∈ l,∀ d,P7 x<=(A8 x d).length):K0 l<=(a0V l d).length:=by
 match l,h1,h with
 | [],_,_=>exact Nat.zero_le _
 | [x],_,h=>show P7 x+0<=(A8 x d).length;exact h x (List.mem_cons_self ..) d
theorem a9X:∀ {l:List Gu} {d:Int},(∀ g ∈ l,g.bl.length=1)->(∀ g ∈ l,∀ x ∈ g.bl,∀ d,P7 x<=(A8 x d).length)->W4 l<=(C9 l d).length
 | [],_,_,_=>Nat.zero_le _
 | g::r,d,h1,h=>by
  have hc:W4 (g::r)=K0 g.bl+W4 r:=by show b4V g+W4 r=_;cases g;rfl
  have e:C9 (g::r) d=V1 g d++C9 r d:=rfl;have:=a7E (d:=d+1) (by rw[h1 g (List.mem_cons_self ..)];exact Nat.le_refl _) (h g (List.mem_cons_self ..));have:=a9X (d:=d) (fun y hy=>h1 y (List.mem_cons_of_mem _ hy)) (fun y hy=>h y (List.mem_cons_of_mem _ hy));rw[hc,e,a3Q,List.length_append,List.length_cons];omega
theorem c9J (p:Pr):∀ (d:Int) (pl:Bool),Vp p d pl->∀ c,P7 p<=(A8 p c).length:=by
 refine Pr.ind (q:=fun p=>∀ (d:Int) (pl:Bool),Vp p d pl->∀ c,P7 p<=(A8 p c).length) (fun p ih d pl hv c=>?_) p;obtain⟨plain,deep,top,ll,l8,sc,sb,gl⟩:=hv;have hc:=b3g p;have hP:=a1A plain;have hg1:∀ g ∈ p.gl,g.bl.length=1:=fun g hg=>(a8i (hP.gs g hg).1).body
 have hg:=a9X (d:=c+1) hg1 fun g hg x hx c=>ih x (.g hg hx) _ _ (gl g hg x hx) c
 by_cases hk:p.k=18
 ·have hw:=N6 plain
  rw[b8T hk] at hw;simp only[Bool.and_eq_true] at hw;obtain⟨⟨⟨⟨⟨_,hs⟩,h2⟩,h3⟩,_⟩,_⟩:=hw;have hgl:p.gl=[]:=S4 h3;have hg0:W4 p.gl=0:=by rw[hgl];rfl
  have hl:=a7E (l:=p.ll) (d:=c) (by have:=eq_of_beq h2;omega) fun x hx c=>ih x (.l hx) _ _ (l8 hk x hx) c
  have hS:1+K0 p.sp.bl<=(F5 p.sp c).length:=by
   have hb:=a7E (l:=p.sp.bl) (d:=c+1) (b9w hs) fun x hx c=>ih x (.s hx) _ _ (sb hk x hx) c
   by_cases h5:p.sp.k=5
   ·obtain⟨t,w,e⟩:=d2Y c h5
    rw[e,List.length_cons,List.length_append];omega
   ·have hb0:p.sp.bl=[]:=d2H hs h5
    obtain⟨t,L,e⟩:=a9V p.sp c;rw[e,hb0,List.length_cons];show 1+0<=_;omega
  rw[a3S,if_pos hk,List.length_append];omega
 ·have hb:p.sp.bl=[]:=by
   have:=hP.ns (b9n hk);unfold I8 at this;simp only[Bool.and_eq_true] at this;exact S4 this.2
  have hb0:K0 p.sp.bl=0:=by rw[hb];rfl
  have hl:K0 p.ll<=(F4 p.k p.pn.l p.ll c).length:=by
   by_cases h11:p.k=11
   ·rw[h11,a8f]
    exact b2x fun x hx c=>ih x (.l hx) _ _ (ll hk x hx) c
   ·rw[a8s h11]
    exact b0w fun x hx c=>ih x (.l hx) _ _ (ll hk x hx) c
  rw[a00 hk,List.length_cons,List.length_append];omega
theorem b7Y {L:List Rw} {p:Pr} {r:Nat} (h:N4 L=(p,r,0)):r=0/\mayP p=true/\Go.Ly.mayP L=true/\Dp L 0 L.length (A8 p 0):=by
 unfold N4 at h;by_cases hL:Go.Ly.mayP L=true
 ·rw[if_pos hL] at h
  unfold b0f at h;have hb:=a7G (R:=L) L.length 0 true 0 (Nat.zero_le _);cases hq:A4 L L.length 0 true 0 with
  | error e=>
   rw[hq] at h hb;obtain⟨e,k⟩:=e;have h:(prM 0 [] A0 [] [] B5 [] [] [] A6,k,e)=(p,r,(0:Int)):=h;have:=(Prod.mk.inj (Prod.mk.inj h).2).2;exact absurd this hb.1
  | ok q=>
   obtain⟨x,i⟩:=q;rw[hq] at h;rw[a0E] at h;cases hi:L[i]? with
   | some y=>
    rw[hi] at h;have h:(prM 0 [] A0 [] [] B5 [] [] [] A6,i,(if (Go.Lx.lexO y.text).2.2≠0 then (Go.Lx.lexO y.text).2.2 else 110))=(p,r,(0:Int)):=h;have:=(Prod.mk.inj (Prod.mk.inj h).2).2;split at this
    ·rename_i q;exact absurd this q
    ·exact absurd this (by decide)
   | none=>
    rw[hi] at h;have h:(x,0,(0:Int))=(p,r,(0:Int)):=h;cases h;obtain⟨v1,v2⟩:=b05 hL _ _ _ _ _ _ hq;have hne:A8 p 0≠[]:=fun q=>by have:=a6Q p 0;rw[q] at this;simp at this
    have hle:=v2.len hne;have hge:=List.getElem?_eq_none_iff.1 hi;have hie:i=L.length:=by omega
    subst hie;have hc:=c9J p 0 true v1 0;have he:=v2.e;have:=(Go.Ly.mayP_all hL).1;exact⟨rfl,c7D v1 (by omega),hL,v2⟩
 ·rw[if_neg hL] at h;cases h
theorem c0L {L:List Rw} {p:Pr} {r:Nat} {e:Int} (h:N4 L=(p,r,e)) (he:e≠0):p=prM 0 [] A0 [] [] B5 [] [] [] A6/\r<=L.length:=by
 unfold N4 at h;by_cases hL:Go.Ly.mayP L=true
 ·rw[if_pos hL] at h
  unfold b0f at h;have hb:=a7G (R:=L) L.length 0 true 0 (Nat.zero_le _);cases hq:A4 L L.length 0 true 0 with
  | error q=>
   rw[hq] at h hb;obtain⟨a,k⟩:=q;have h:(prM 0 [] A0 [] [] B5 [] [] [] A6,k,a)=(p,r,e):=h;cases h;exact⟨rfl,hb.2.1⟩
  | ok q=>
   obtain⟨x,i⟩:=q;rw[hq] at h hb;rw[a0E] at h;cases hi:L[i]? with
   | some y=>rw[hi] at h;cases h;exact⟨rfl,hb⟩
   | none=>rw[hi] at h;cases h;exact absurd rfl he
 ·rw[if_neg hL] at h;cases h;exact⟨rfl,Nat.zero_le _⟩
end
section
open Go.Eng Go.Pc Go
open Go.Xp hiding B D3
open Go.Ty (Ty Vr Tok)
open Go.Ly (Rw)
theorem c1t {p:Pr} {M:List Rw} {e:Int} (h:S7 p=(M,e)) (he:e≠0):M=[]/\((e=2/\mayP p=false)\/(e=3/\mayP p=true)):=by
 unfold S7 at h;by_cases hm:mayP p=true
 ·rw[if_pos hm] at h
  split at h
  ·cases h;exact⟨rfl,.inr ⟨rfl,hm⟩⟩
  ·cases h;exact absurd rfl he
 ·rw[if_neg hm] at h
  cases h;exact⟨rfl,.inl ⟨rfl,by simpa using hm⟩⟩
end
section
open Go.Eng Go.Pc Go
open Go.Xp hiding B D3
open Go.Ly (Rw)
def RwB (r:Rw):Prop:=((-9223372036854775808<=r.no/\r.no<=9223372036854775807)/\(-9223372036854775808<=r.depth/\r.depth<=9223372036854775807))/\r.text.length<=140737488355328
def zPr:Pr:=prM 0 [] A0 [] [] B5 [] [] [] A6
theorem c8w:C8 zPr J3=true:=by kernel_rfl
theorem d0l {x:Pr} (h:stP x=zPr):C8 x J3=true:=by rw[<- b4f,h];exact c8w
end
end Go.Sx
namespace Go.Ly
section
open Go.Eng
def noD (s:B):Prop:=∀ k:Nat,s[k]?=some 45->s[k+1]?≠some 45
structure TxtV (s:B):Prop where
 ne:s≠[]
 hd:s.head?≠some 32
 ls:s.getLast?≠some 32
 nd:noD s
 ok:s.all okB=true
end
section
open Go.Eng
end
end Go.Ly

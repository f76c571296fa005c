import Derived.Test.YtkemgjnejlkkcaaGreatDoorLBackY3
namespace Go.Sx
section
open Go.Eng Go.Pc Go
open Go.Xp hiding B D1
open Go.Ty (Ty Vr Tok)
open Go.Ly (Rw)
open Go.Lx (G2)
theorem a9K:∀ (l:List Pr) (d:Int),l.length<=(N1 d l).length
 | [],_=>by simp
 | x::r,d=>by
  show r.length+1<=(B2 x d++N1 d r).length;have:=a9K r d;have:=a8i x d;rw[List.length_append];omega
theorem a9F:∀ (l:List Pr) (ns:List Int) (d:Int),l.length<=(U8 d ns l).length
 | [],_,_=>by simp
 | x::r,ns,d=>by
  show r.length+1<=((_,_)::(B2 x (d+2)++U8 d ns.tail r):List Ln).length;have:=a9F r ns.tail d;rw[List.length_cons,List.length_append];omega
theorem b5Y {r:Rp}:a0y r ⟨r.name,B0 r.base,B0 r.count⟩=true:=by
 unfold a0y;rw[Y0,Y0];simp
theorem b8q {r:Rp} (h:Q0 r=true) (hn:r.name≠[]):G3 r.base=true/\G3 r.count=true:=by
 unfold Q0 at h;rw[if_neg (by simpa using hn)] at h;simp only[Bool.and_eq_true] at h;exact⟨h.1.2,h.2⟩
section
variable {R:List Rw} {n:Nat} {p:Pr} {d:Int} {top:Bool} {i:Nat}
theorem b0g (A:Ask R n p d top i) (h18:p.k≠18) (h11:p.k≠11) (hg:p.gl=[]):(∀ x ∈ p.ll,b3Y R n x)/\(∀ x ∈ p.ll,PW x)/\(∀ x ∈ p.ll,∃ q,(J5 x (d+1) false q).1=true)/\OkL R (i+1) (N1 (d+1) p.ll)/\Z3 R (i+1+(N1 (d+1) p.ll).length) d/\(N1 (d+1) p.ll).length<=n/\p.ll.length<=R.length - (i+1)/\i+(B2 p d).length=i+1+(N1 (d+1) p.ll).length:=by
 have hO:=A.o;have hA:=A.a;have hL:=A.l;have e:B2 p d=(d,A3 p.k p.name p.ch p.tg.l p.ex.l p.rep)::N1 (d+1) p.ll:=by rw[a2S h18,hg,b4y h11];simp[D2]
 rw[e] at hO hA hL ⊢;have hR:=hO.len (by simp);simp only[List.length_cons] at hA hL hR ⊢;have:=a9K p.ll (d+1);have hm:=A.v.ll h18;rw[if_neg h11] at hm;exact⟨fun x hx=>A.b x (.l hx),fun x hx=>A.w.sub (.l hx),hm,hO.tail,by rw[show i+1+(N1 (d+1) p.ll).length=i+((N1 (d+1) p.ll).length+1) by omega];exact hA,by omega,by omega,by omega⟩
theorem b33 (A:Ask R n p d top i) {w:B} (h18:p.k≠18) (h11:p.k≠11) (hk:p.k=8\/p.k=9) (hf:A3 p.k p.name p.ch p.tg.l p.ex.l p.rep=kw w::Y9 p.rep) (hw:a1a R (A4 R n) w=some (a2w R (A4 R n) p.k))
 (hs:∀ x ∈ b6j,isM x.1 x.2 [kw w]=false) (ht:w≠[80,76,65,67,69,68]):Ans R n p d top i:=by
 have h:=O4 A.v.plain;rw[c9O hk] at h;simp only[Bool.and_eq_true] at h;obtain⟨⟨⟨⟨_,h2⟩,h3⟩,h4⟩,h5⟩:=h;obtain⟨z1,z2,z3,z4,z5,z6⟩:=V2 h5;obtain⟨pB,pW,pM,pO,pA,pL,pR,pE⟩:=b0g A h18 h11 (R3 h3);have w':=A.w.own;by_cases hn:p.rep.name=[]
 ·obtain⟨qs,h6,h7⟩:=b09 p.ll (R.length - (i+1)) [] (i+1) pB pW pM pO (by rw[show d+1 - 1=d by omega];exact pA) pL pR
  refine a02 A h18 hf hw hs (.inr ht) (q:=prM p.k [] A0 [] [] C5 [] qs [] B7) ?_ (S6 rfl z1 z2 (D9 z3) (D9 z4) (S1 h4 hn) (a1S (R3 h3)) h7 z5 z6);unfold a2w;rw[b6K hn,R8,W7,if_neg (by simp[C5]),h6,pE];rfl
 ·have hone:p.ll.length=1:=by
   have:((!(!(p.rep.name==[])))||((p.ll.length:Int)==1))=true:=h2;rw[show(p.rep.name==[])=false by simpa using hn] at this;have:=eq_of_beq (show((p.ll.length:Int)==1)=true by simpa using this);omega
  obtain⟨x,hx⟩:=List.length_eq_one_iff.1 hone;have hxm:x ∈ p.ll:=by rw[hx];exact List.mem_cons_self ..
  have eL:N1 (d+1) p.ll=B2 x (d+1):=by rw[hx];simp[N1]
  rw[eL] at pO pA pL pE;obtain⟨q0,hm⟩:=pM x hxm;obtain⟨q,h6,h7⟩:=pB x hxm (d+1) q0 false (i+1) (pW x hxm) hm pO (pA.mono (by omega)) pL;obtain⟨rb,rc⟩:=b8q h4 hn;refine a02 A h18 hf hw hs (.inr ht) (q:=prM p.k [] A0 [] [] ⟨p.rep.name,B0 p.rep.base,B0 p.rep.count⟩ [] [q] [] B7) ?_ (S6 rfl z1 z2 (D9 z3) (D9 z4) b5Y (a1S (R3 h3)) (by rw[hx];show(D6 x q&&true)=true;rw[h7];rfl) z5 z6);unfold a2w;rw[b5U hn rb w'.rb rc w'.rc,R8,W7,if_pos hn,h6,pE];rfl
theorem d1m (A:Ask R n p d top i) (hk:p.k=8):Ans R n p d top i:=by
 have hf:A3 p.k p.name p.ch p.tg.l p.ex.l p.rep=kw [83,69,81]::Y9 p.rep:=by
  unfold A3;repeat rw[if_neg (by omega)]
  rw[if_pos hk,I5 (by decide +kernel)];rfl
 exact b33 A (by omega) (by omega) (.inl hk) hf (by rw[hk];rfl) (by decide) (by decide)
theorem d0w (A:Ask R n p d top i) (hk:p.k=9):Ans R n p d top i:=by
 have hf:A3 p.k p.name p.ch p.tg.l p.ex.l p.rep=kw [80,65,82]::Y9 p.rep:=by
  unfold A3;repeat rw[if_neg (by omega)]
  rw[if_pos hk,I5 (by decide +kernel)];rfl
 exact b33 A (by omega) (by omega) (.inr hk) hf (by rw[hk];rfl) (by decide) (by decide)
theorem c9y (A:Ask R n p d top i) (hk:p.k=10):Ans R n p d top i:=by
 have h:=O4 A.v.plain;rw[c8B hk] at h;simp only[Bool.and_eq_true] at h;obtain⟨⟨⟨⟨h1,h2⟩,h3⟩,h4⟩,h5⟩:=h;obtain⟨z1,z2,z3,z4,z5,z6⟩:=V2 h5;obtain⟨pB,pW,pM,pO,pA,pL,pR,pE⟩:=b0g A (by omega) (by omega) (R3 h3);have h2':p.ll.length=2:=by have:=eq_of_beq h2;omega
 obtain⟨x,y,hxy⟩:∃ x y,p.ll=[x,y]:=by
  rcases hq:p.ll with _ | ⟨x,_ | ⟨y,_ | ⟨z,r⟩⟩⟩ <;> rw[hq] at h2' <;> simp at h2'
  exact⟨x,y,rfl⟩
 have hxm:x ∈ p.ll:=by rw[hxy];exact List.mem_cons_self ..
 have hym:y ∈ p.ll:=by rw[hxy];exact List.mem_cons_of_mem _ (List.mem_cons_self ..)
 have eL:N1 (d+1) p.ll=B2 x (d+1)++B2 y (d+1):=by rw[hxy];simp[N1]
 rw[eL] at pO pA pL pE;rw[List.length_append] at pA pL pE;obtain⟨q0,hm⟩:=pM x hxm;obtain⟨q1,hm1⟩:=pM y hym;have hA1:Z3 R (i+1+(B2 x (d+1)).length) (d+1):=by
  have hr:=pO.right;obtain⟨t,s,e⟩:=a4W y (d+1);rw[e] at hr;exact hr.after (Int.le_refl _)
 obtain⟨q,h6,h7⟩:=pB x hxm (d+1) q0 false (i+1) (pW x hxm) hm pO.left hA1 (by omega);obtain⟨u,h8,h9⟩:=pB y hym (d+1) q1 false (i+1+(B2 x (d+1)).length) (pW y hym) hm1 pO.right (by rw[Nat.add_assoc];exact pA.mono (by omega)) (by omega);have hf:A3 p.k p.name p.ch p.tg.l p.ex.l p.rep=kw [80,82,73]::[kw [80,65,82]]:=by
  unfold A3;repeat rw[if_neg (by omega)]
  rw[if_pos hk,I5 (s:=[80,82,73]) (by decide +kernel),I5 (s:=[80,65,82]) (by decide +kernel)]
 refine a02 A (by omega) hf (f:=c0d R (A4 R n)) rfl (by decide) (.inr (by decide)) (q:=prM 10 [] A0 [] [] C5 [] [q,u] [] B7) ?_ (S6 hk z1 z2 (D9 z3) (D9 z4) (S1 h4 (Y4 h1)) (a1S (R3 h3)) (by rw[hxy];show(D6 x q&&(D6 y u&&true))=true;rw[h7,h9];rfl) z5 z6);show M8 (A4 R n (d+1) false (i+1)) _=_;rw[h6,a1i,h8,a1i,pE,Nat.add_assoc]
theorem c9u (A:Ask R n p d top i) (hk:p.k=11):Ans R n p d top i:=by
 have h:=A.v.plain;rw[a0N (u:={ us0 with procs:=true,p0:=1,p1:=8 }) (by rw[hk];rfl) rfl] at h;simp only[Bool.and_eq_true] at h;obtain⟨h4,h1,hu⟩:=h;unfold L9 at hu;simp only[Bool.and_eq_true,O1,Bool.false_and,Bool.false_or,Bool.not_false,Bool.true_and,Bool.false_eq_true,if_false,if_true,us0] at hu;obtain⟨⟨⟨⟨⟨⟨⟨u1,u2⟩,u3⟩,u4⟩,u5⟩,u6⟩,u7⟩,u8⟩:=hu;obtain⟨s1,s2⟩:=a8c u1;obtain⟨_,g2,g3⟩:=F6 u2;obtain⟨_,t2,t3⟩:=F6 u5;obtain⟨_,x2,x3⟩:=F6 u6;obtain⟨n1,n2,n3⟩:=F6 u7;have hg:p.gl=[]:=List.length_eq_zero_iff.1 (by omega);have ht:p.tg.l=[]:=List.length_eq_zero_iff.1 (by omega);have hx:p.ex.l=[]:=List.length_eq_zero_iff.1 (by omega);have hrn:p.rep.name=[]:=by simpa using h1
 have hO:=A.o;have hA:=A.a;have hL:=A.l;have e:B2 p d=(d,A3 p.k p.name p.ch p.tg.l p.ex.l p.rep)::U8 d p.pn.l p.ll:=by rw[a2S (by omega),hg,hk,b63];simp[D2]
 rw[e] at hO hA hL;have hR:=hO.len (by simp);simp only[List.length_cons] at hA hL hR;have hll:=a9F p.ll p.pn.l d;have hm:=A.v.ll (by omega);rw[if_pos hk] at hm;obtain⟨qs,h6,h7⟩:=a9c (R:=R) (n:=n) (d:=d) p.ll p.pn.l (R.length - (i+1)) [] [] (i+1) (by omega) (fun v hv=>by have:=n1 v hv;simp only[Bool.and_eq_true,decide_eq_true_eq] at this;exact this) (fun x hx=>A.b x (.l hx)) (fun x hx=>A.w.sub (.l hx)) hm hO.tail
  (by rw[show i+1+(U8 d p.pn.l p.ll).length=i+((U8 d p.pn.l p.ll).length+1) by omega];exact hA) (by omega) (by omega) (by simp;omega) (by simp;omega)
 have hf:A3 p.k p.name p.ch p.tg.l p.ex.l p.rep=kw [80,76,65,67,69,68]::[kw [80,65,82]]:=by
  unfold A3;repeat rw[if_neg (by omega)]
  rw[if_pos hk,I5 (s:=[80,76,65,67,69,68]) (by decide +kernel),I5 (s:=[80,65,82]) (by decide +kernel)]
 refine a02 A (by omega) hf (f:=a6v R (A4 R n)) rfl (by decide) (.inl (A.v.top hk)) (q:=prM 11 [] A0 [] [] C5 [] qs p.pn.l B7) ?_ (S6 hk (by simpa using u3) u4 (D9 ht) (D9 hx) (S1 h4 hrn) (a1S hg) h7 rfl (by rw[W8];exact u8));show M8 (S5 R (A4 R n) d (R.length - (i+1)) [] [] (i+1)) _=_;rw[h6,a1i,e,List.length_cons];simp;omega
theorem d02 {r:Rp} {l:List Gu} {lo hi:Int} {le mo:Int} (hml:mo=(if (r.name==[])=true then 16 else 1)/\le=(if (r.name==[])=true then 0 else 1)) (h:J6 l le mo (gQ lo hi)=true):(if r.name≠[] then 1 else 0)<=l.length/\l.length<=(if r.name≠[] then 1 else 16):=by
 obtain⟨_,h2,h3⟩:=F6 h;obtain⟨rfl,rfl⟩:=hml;by_cases hn:r.name=[]
 ·rw[hn] at h2 h3 ⊢
  simp at h2 h3 ⊢;omega
 ·rw[show(r.name==[])=false by simpa using hn] at h2 h3
  simp[hn] at h2 h3 ⊢;omega
theorem a8d (A:Ask R n p d top i) {lo hi:Int} {row:List Tok->E Gu} (hI:a0w row) (h18:p.k≠18) (hll:p.ll=[]) (h4:Q0 p.rep=true) {le mo:Int} (hml:mo=(if (p.rep.name==[])=true then 16 else 1)/\le=(if (p.rep.name==[])=true then 0 else 1)) (hg:J6 p.gl le mo (gQ lo hi)=true)
 (hH:∀ g ∈ p.gl,a4c row g):∃ r gs,X5 R (A4 R n) p.k row d (Y9 p.rep) i=.ok (prM p.k [] A0 [] [] r gs [] [] B7,i+(B2 p d).length)/\eqL N9 p.gl gs=true/\a0y p.rep r=true:=by
 obtain⟨l1,l2⟩:=d02 hml hg;obtain⟨g1,_,_⟩:=F6 hg;obtain⟨gs,h6,h7⟩:=a8b A h18 hll hI g1 hH l1 l2;have w':=A.w.own;by_cases hn:p.rep.name=[]
 ·refine⟨C5,gs,?_,h7,S1 h4 hn⟩
  rw[if_neg (by simpa using hn),if_neg (by simpa using hn)] at h6;unfold X5;rw[b6K hn,R8,W7,if_neg (by simp[C5]),if_neg (by simp[C5]),h6];rfl
 ·obtain⟨rb,rc⟩:=b8q h4 hn
  refine⟨⟨p.rep.name,B0 p.rep.base,B0 p.rep.count⟩,gs,?_,h7,b5Y⟩;rw[if_pos hn,if_pos hn] at h6;unfold X5;rw[b5U hn rb w'.rb rc w'.rc,R8,W7,if_pos hn,if_pos hn,h6];rfl
theorem a7s {lo hi:Int} (A:Ask R n p d top i) (hg:∀ g ∈ p.gl,gQ lo hi g=true) {row:List Tok->E Gu} (hr:∀ g:Gu,guP g=true->GW g->lo<=g.k->g.k<=hi->a4c row g):∀ g ∈ p.gl,a4c row g:=fun g hgm=>by
 have:=a7q (hg g hgm);exact hr g this.1 (A.w.own.gs g hgm) this.2.1 this.2.2
theorem c8t (A:Ask R n p d top i) (hk:p.k=12):Ans R n p d top i:=by
 have h:=O4 A.v.plain;rw[b6t (.inl hk) ⟨rfl,rfl⟩] at h;simp only[Bool.and_eq_true] at h;obtain⟨⟨⟨⟨_,h2⟩,h3⟩,h4⟩,h5⟩:=h;obtain⟨z1,z2,z3,z4,z5,z6⟩:=V2 h5;have hH:=a7s A (F6 h3).1 (row:=a2H) fun g a b c e=>b5D a b (by omega)
 obtain⟨r,gs,h6,h7,h8⟩:=a8d A b6q (by omega) (R3 h2) h4 ⟨rfl,rfl⟩ h3 hH;have hf:A3 p.k p.name p.ch p.tg.l p.ex.l p.rep=kw [65,76,84]::Y9 p.rep:=by
  unfold A3;repeat rw[if_neg (by omega)]
  rw[if_pos hk,I5 (by decide +kernel)];rfl
 exact a02 A (by omega) hf (f:=X5 R (A4 R n) p.k a2H) (by rw[hk];rfl) (by decide) (.inr (by decide)) h6 (S6 rfl z1 z2 (D9 z3) (D9 z4) h8 h7 (a03 (R3 h2)) z5 z6)
theorem c8P (A:Ask R n p d top i) (hk:p.k=13):Ans R n p d top i:=by
 have h:=O4 A.v.plain;rw[b6t (.inr hk) ⟨rfl,rfl⟩] at h;simp only[Bool.and_eq_true] at h;obtain⟨⟨⟨⟨_,h2⟩,h3⟩,h4⟩,h5⟩:=h;obtain⟨z1,z2,z3,z4,z5,z6⟩:=V2 h5;have hH:=a7s A (F6 h3).1 (row:=a2H) fun g a b c e=>b5D a b (by omega)
 obtain⟨r,gs,h6,h7,h8⟩:=a8d A b6q (by omega) (R3 h2) h4 ⟨rfl,rfl⟩ h3 hH;have hf:A3 p.k p.name p.ch p.tg.l p.ex.l p.rep=kw [80,82,73]::kw [65,76,84]::Y9 p.rep:=by
  unfold A3;repeat rw[if_neg (by omega)]
  rw[if_pos hk,I5 (s:=[80,82,73]) (by decide +kernel),I5 (s:=[65,76,84]) (by decide +kernel)];rfl
 refine a02 A (by omega) hf (f:=c0d R (A4 R n)) rfl (by decide) (.inr (by decide)) ?_ (S6 rfl z1 z2 (D9 z3) (D9 z4) h8 h7 (a03 (R3 h2)) z5 z6);rw[<- h6,hk];rfl
theorem c8G (A:Ask R n p d top i) (hk:p.k=14):Ans R n p d top i:=by
 have h:=O4 A.v.plain;rw[c9v hk ⟨rfl,rfl⟩] at h;simp only[Bool.and_eq_true] at h;obtain⟨⟨⟨⟨_,h2⟩,h3⟩,h4⟩,h5⟩:=h;obtain⟨z1,z2,z3,z4,z5,z6⟩:=V2 h5;have hH:=a7s A (F6 h3).1 (row:=ifM) fun g a b c e=>c4T a b (by omega)
 obtain⟨r,gs,h6,h7,h8⟩:=a8d A c6t (by omega) (R3 h2) h4 ⟨rfl,rfl⟩ h3 hH;have hf:A3 p.k p.name p.ch p.tg.l p.ex.l p.rep=kw [73,70]::Y9 p.rep:=by
  unfold A3;repeat rw[if_neg (by omega)]
  rw[if_pos hk,I5 (by decide +kernel)];rfl
 exact a02 A (by omega) hf (f:=X5 R (A4 R n) p.k ifM) (by rw[hk];rfl) (by decide) (.inr (by decide)) h6 (S6 rfl z1 z2 (D9 z3) (D9 z4) h8 h7 (a03 (R3 h2)) z5 z6)
theorem c9D (A:Ask R n p d top i) (hk:p.k=15):Ans R n p d top i:=by
 have h:=O4 A.v.plain;rw[c8p hk] at h;simp only[Bool.and_eq_true] at h;obtain⟨⟨⟨⟨⟨h1,he⟩,h2⟩,h3⟩,h4⟩,h5⟩:=h;obtain⟨z1,z2,z3,_,z5,z6⟩:=V2 h5;obtain⟨e1,e2,e3⟩:=F6 he;obtain⟨g1,g2,g3⟩:=F6 h3;obtain⟨x,hx⟩:=List.length_eq_one_iff.1 (show p.ex.l.length=1 by omega);have hxm:x ∈ p.ex.l:=by rw[hx];exact List.mem_cons_self ..
 have hH:=a7s A g1 (row:=a8v) fun g a b c e=>c2Y a b (by omega)
 obtain⟨gs,h6,h7⟩:=a8b A (by omega) (R3 h2) c1w (least:=0) (most:=16) g1 hH (by omega) (by omega);have hf:A3 p.k p.name p.ch p.tg.l p.ex.l p.rep=kw [67,65,83,69]::B5 x:=by
  unfold A3;repeat rw[if_neg (by omega)]
  rw[if_pos hk,I5 (by decide +kernel),hx];rfl
 have r2:=T8 (e1 x hxm) (A.w.own.ex x hxm) [] a2m;rw[List.append_nil] at r2;refine a02 A (by omega) hf (f:=c0Q R (A4 R n)) rfl (by decide) (.inr (by decide)) (q:=prM 15 [] A0 [] [B0 x] C5 gs [] [] B7) ?_ (S6 hk z1 z2 (D9 z3) (by rw[hx];exact a0l [x]) (S1 h4 (Y4 h1)) h7 (a03 (R3 h2)) z5 z6);unfold c0Q;rw[r2,R8,W7,h6];rfl
theorem c9M (A:Ask R n p d top i) (hk:p.k=16):Ans R n p d top i:=by
 have h:=O4 A.v.plain;rw[c8K hk] at h;simp only[Bool.and_eq_true] at h;obtain⟨⟨⟨⟨⟨h1,he⟩,h2⟩,h3⟩,h4⟩,h5⟩:=h;obtain⟨z1,z2,z3,_,z5,z6⟩:=V2 h5;obtain⟨e1,e2,e3⟩:=F6 he;obtain⟨x,hx⟩:=List.length_eq_one_iff.1 (show p.ex.l.length=1 by omega);have hxm:x ∈ p.ex.l:=by rw[hx];exact List.mem_cons_self ..
 obtain⟨y,hy⟩:=List.length_eq_one_iff.1 (show p.ll.length=1 by have:=eq_of_beq h2;omega);have hym:y ∈ p.ll:=by rw[hy];exact List.mem_cons_self ..
 obtain⟨pB,pW,pM,pO,pA,pL,pR,pE⟩:=b0g A (by omega) (by omega) (R3 h3);have eL:N1 (d+1) p.ll=B2 y (d+1):=by rw[hy];simp[N1]
 rw[eL] at pO pA pL pE;obtain⟨q0,hm⟩:=pM y hym;obtain⟨q,h6,h7⟩:=pB y hym (d+1) q0 false (i+1) (pW y hym) hm pO (pA.mono (by omega)) pL;have hf:A3 p.k p.name p.ch p.tg.l p.ex.l p.rep=kw [87,72,73,76,69]::B5 x:=by
  unfold A3;repeat rw[if_neg (by omega)]
  rw[if_pos hk,I5 (by decide +kernel),hx];rfl
 have r2:=T8 (e1 x hxm) (A.w.own.ex x hxm) [] a2m;rw[List.append_nil] at r2;refine a02 A (by omega) hf (f:=b1Z (A4 R n)) rfl (by decide) (.inr (by decide)) (q:=prM 16 [] A0 [] [B0 x] C5 [] [q] [] B7) ?_ (S6 hk z1 z2 (D9 z3) (by rw[hx];exact a0l [x]) (S1 h4 (Y4 h1)) (a1S (R3 h3)) (by rw[hy];show(D6 y q&&true)=true;rw[h7];rfl) z5 z6);unfold b1Z;rw[r2,R8,W7,h6,a1i,pE]
end
end
section
open Go.Eng Go.Pc Go
open Go.Xp hiding B D1
open Go.Ty (Ty Vr Tok)
open Go.Ly (Rw)
open Go.Lx (G2)
theorem a7G {ty:Ty} {nm:Sli B} {e:Ex} {cs:Bool} {vs:Sli Vr} {fs:Sli Fo} {ba:Option Addr} {bc:Nat} {bl:List Pr} (h:R1 (.mk 0 ty nm e cs vs fs ba bc bl) B7=true) :
 ty=Go.Ty.zeroT/\nm.l=[]/\I4 e=true/\cs=false/\vs.l=[]/\fs.l=[]/\bl=[]:=by
 rw[W8] at h;unfold K2 at h;have h:((((((((((0:Int)==0)&&Go.Ty.eqT ty Go.Ty.zeroT)&&(nm.l==[]))&&C7 e A0)&&(cs==false))&&eqL L1 vs.l [])&&eqL a0n fs.l [])&&((bl.length:Int)==0)))=true:=h;simp only[Bool.and_eq_true,X8] at h;obtain⟨⟨⟨⟨⟨⟨⟨_,h2⟩,h3⟩,h4⟩,h5⟩,h6⟩,h7⟩,h8⟩:=h;exact⟨(Go.Ty.eqT_iff _ _).1 h2,by simpa using h3,h4,by simpa using h5,emp h6,emp h7,R3 h8⟩
theorem a6q {s:Sp} {k:Int} {ty:Ty} {nm:List B} {e:Ex} {cs:Bool} {vs:List Vr} {fs:List Fo} {bl:List Pr} (h1:s.k=k) (h2:s.ty=ty) (h3:s.names.l=nm) (h4:C7 s.e e=true) (h5:a0P s.cs s.vs.l cs vs=true) (h6:s.fs.l=fs) (h7:eqL D6 s.bl bl=true) :
 R1 s (spM k ty nm e cs vs fs bl)=true:=by
 rw[a4u];show(((((s.k==k)&&Go.Ty.eqT s.ty ty)&&eqL a0n s.fs.l fs))&&(((eqL (fun a b:B=>a==b) s.names.l nm&&C7 s.e e)&&a0P s.cs s.vs.l cs vs)&&eqL D6 s.bl bl))=true;rw[h4,h5,h7,h1,h2,h3,h6,a3q,U1 a2V,U1 (fun x=>by simp)];simp
theorem b3V {s:Sp} (h1:s.cs=false) (h2:s.vs.l=[]):a0P s.cs s.vs.l false []=true:=by rw[h1,h2];rfl
theorem zz:R1 (.mk 0 Go.Ty.zeroT B8 A0 false B8 B8 none 0 []) B7=true:=by decide +kernel
theorem a6u {l:List B} (h:J6 l 1 1 Go.Lx.name=true):∃ x,l=[x]:=by
 obtain⟨_,h2,h3⟩:=F6 h;exact List.length_eq_one_iff.1 (by omega)
def a6o (R:List Rw) (n:Nat) (s:Sp) (d:Int) (i:Nat):Prop:=∀ {t:List Tok} {L:List Ln},G6 s d=(d,t)::L->∃ s',a0a R (A4 R n) d t i=.ok (some s',i+(G6 s d).length)/\R1 s s'=true
theorem a9O {t:Ty} (h:S8 t=true):Go.Ty.may t=true:=by
 unfold S8 at h;simp only[Bool.and_eq_true] at h;exact h.1.1
theorem b7Z {s:Sp} (h:spP s=true) (i:Nat):a8K s [sy [58]] i=.ok (some s,i+1):=by
 show(if spP s then E7 [] i fun i=>.ok (some s,i) else .error (110,i))=_;rw[if_pos h];rfl
section
variable {R:List Rw} {n:Nat} {s:Sp} {d:Int} {i:Nat}
theorem d0c (h:spP s=true) (hk:s.k=1):a6o R n s d i:=fun {t L} hl=>by
 rw[d1y hk] at h;simp only[Bool.and_eq_true] at h;obtain⟨⟨h1,h2⟩,h3⟩:=h;obtain⟨_,_,z3,z4,z5,z6,z7⟩:=a7G h3;obtain⟨n1,n2,n3⟩:=F6 h2;have e:G6 s d=[(d,(F8 s.ty++I7 s.names.l)++[sy [58]])]:=by rw[a00,if_pos hk,P6 (by decide +kernel)]
 rw[e] at hl;cases hl;have hs:spP (spM 1 s.ty s.names.l A0 false [] [] [])=true:=by
  rw[d1y rfl];show((Go.Ty.may s.ty&&J6 s.names.l 1 8 Go.Lx.name)&&R1 (.mk 0 Go.Ty.zeroT B8 A0 false B8 B8 none 0 []) B7)=true;rw[h1,h2,zz];rfl
 refine⟨spM 1 s.ty s.names.l A0 false [] [] [],?_,a6q hk rfl rfl z3 (b3V z4 z5) z6 (a03 z7)⟩;rw[e];unfold a0a;rw[List.append_assoc,a2a (by decide) h1,a2a (by decide) h1,a2a (by decide) h1,if_neg (by decide),if_neg (by decide),if_neg (by decide),if_pos (b94 h1 _),a5U h1 _ trivial,R8,a9R (by omega) (by omega) [sy [58]] rfl,R8,if_neg (by decide),b7Z hs];rfl
theorem c8V (h:spP s=true) (hW:Wf s.e) (hk:s.k=2):a6o R n s d i:=fun {t L} hl=>by
 rw[d1f hk] at h;simp only[Bool.and_eq_true] at h;obtain⟨⟨⟨h1,h2⟩,he⟩,h3⟩:=h;obtain⟨_,_,_,z4,z5,z6,z7⟩:=a7G h3;obtain⟨x,hx⟩:=a6u h2;have hm:=a9O h1;have e:G6 s d=[(d,kw [86,65,76]::(F8 s.ty++G4 x::kw [73,83]::(B5 s.e++[sy [58]])))]:=by
  rw[a00,if_neg (by omega),if_pos hk,P6 (s:=[58]) (by decide +kernel),I5 (s:=[86,65,76]) (by decide +kernel),I5 (s:=[73,83]) (by decide +kernel),hx];simp[I7,B4]
 rw[e] at hl;cases hl;have hs:spP (spM 2 s.ty [x] (B0 s.e) false [] [] [])=true:=by
  rw[d1f rfl];show(((S8 s.ty&&J6 [x] 1 1 Go.Lx.name)&&G3 (B0 s.e))&&R1 (.mk 0 Go.Ty.zeroT B8 A0 false B8 B8 none 0 []) B7)=true;rw[h1,<- hx,h2,P0,he,zz];rfl
 refine⟨spM 2 s.ty [x] (B0 s.e) false [] [] [],?_,a6q hk rfl hx (Y0 _) (b3V z4 z5) z6 (a03 z7)⟩;rw[e];show E8 (a5m (F8 s.ty++G4 x::kw [73,83]::(B5 s.e++[sy [58]]))) i _=_;rw[a5U hm _ trivial];show E8 (I8 (B5 s.e++[sy [58]])) i _=_;rw[T8 he hW _ (V6 b2S _),R8];exact b7Z hs i
theorem c8v (h:spP s=true) (hW:Wf s.e) (hk:s.k=3):a6o R n s d i:=fun {t L} hl=>by
 rw[d1t hk] at h;simp only[Bool.and_eq_true] at h;obtain⟨⟨⟨h1,h2⟩,he⟩,h3⟩:=h;obtain⟨_,_,_,z4,z5,z6,z7⟩:=a7G h3;obtain⟨x,hx⟩:=a6u h2;have hm:=a9O h1;have e:G6 s d=[(d,F8 s.ty++(I7 s.names.l++kw [73,83]::(B5 s.e++[sy [58]])))]:=by
  rw[a00,if_neg (by omega),if_neg (by omega),if_pos hk,P6 (s:=[58]) (by decide +kernel),I5 (s:=[73,83]) (by decide +kernel)];simp
 rw[e] at hl;cases hl;have hs:spP (spM 3 s.ty s.names.l (B0 s.e) false [] [] [])=true:=by
  rw[d1t rfl];show(((S8 s.ty&&J6 s.names.l 1 1 Go.Lx.name)&&G1 (B0 s.e))&&R1 (.mk 0 Go.Ty.zeroT B8 A0 false B8 B8 none 0 []) B7)=true;rw[h1,h2,X9,he,zz];rfl
 refine⟨spM 3 s.ty s.names.l (B0 s.e) false [] [] [],?_,a6q hk rfl rfl (Y0 _) (b3V z4 z5) z6 (a03 z7)⟩;rw[e];unfold a0a;rw[a2a (by decide) hm,a2a (by decide) hm,a2a (by decide) hm,if_neg (by decide),if_neg (by decide),if_neg (by decide),if_pos (b94 hm _),a5U hm _ trivial,R8,a9R (by rw[hx];simp) (by rw[hx];simp) (kw [73,83]::(B5 s.e++[sy [58]])) rfl,R8,if_pos (show isM 2 [73,83] (kw [73,83]::(B5 s.e++[sy [58]]))=true from rfl)];show E8 (G5 (B5 s.e++[sy [58]])) i _=_;rw[a6m he hW _ (V6 b2S _),R8,b7Z hs];rfl
theorem b4w {x:Ln} {L:List Ln} (hO:OkL R i (x::L)) {w:Tok} (hx:x.2=[w]) {k:Int} {u:B} (hw:isM k u [w]=true) {β:Type} (f:Nat->PE β):a2A R x.1 k u i f=f (i+1):=by
 unfold a2A;rw[hO.open (a1d i (J1 i f)),hx];show(if isM k u [w] then E7 [] i f else _)=_;rw[if_pos hw];rfl
theorem c8X (h:spP s=true) (hk:s.k=5) (hO:OkL R i (G6 s d)) (hn:(G6 s d).length<=n+1) (hB:∀ x ∈ s.bl,b3Y R n x) (hW:∀ x ∈ s.bl,PW x) (hM:∀ x ∈ s.bl,∃ q,(J5 x (d+1) false q).1=true):a6o R n s d i:=fun {t L} hl=>by
 rw[d2e hk] at h;simp only[Bool.and_eq_true,decide_eq_true_eq] at h;obtain⟨⟨⟨⟨h1,h2⟩,h3⟩,h4⟩,h5⟩:=h;obtain⟨z1,_,z3,z4,z5,_,_⟩:=a7G h5;obtain⟨x,hx⟩:=a6u h1;obtain⟨y,hy⟩:=List.length_eq_one_iff.1 (show s.bl.length=1 by have:=eq_of_beq h3;omega);have hym:y ∈ s.bl:=by rw[hy];exact List.mem_cons_self ..
 have hf:=List.all_eq_true.1 h4;have e:G6 s d=(d,kw [80,82,79,67]::G4 x::sy [40]::(B4 [44] J3 s.fs.l++[sy [41]]))::(B2 y (d+1)++[(d,[sy [58]])]):=by
  rw[a00,if_neg (by omega),if_neg (by omega),if_neg (by omega),if_pos hk,P6 (s:=[58]) (by decide +kernel),P6 (s:=[40]) (by decide +kernel),P6 (s:=[41]) (by decide +kernel),I5 (s:=[80,82,79,67]) (by decide +kernel),hx,hy];simp[I7,B4,a1p]
 rw[e] at hl hO hn ⊢;cases hl;have hlen:((d,kw [80,82,79,67]::G4 x::sy [40]::(B4 [44] J3 s.fs.l++[sy [41]]))::(B2 y (d+1)++[(d,[sy [58]])]):List Ln).length=(B2 y (d+1)).length+2:=by simp
 rw[hlen] at hn ⊢;have hb:brM a0g (sy [40]::(B4 [44] J3 s.fs.l++[sy [41]]))=.ok (s.fs.l,[]):=by
  unfold brM;rw[a1V (by decide)];cases hq:s.fs.l with
  | nil=>rfl
  | cons f l=>
   have hfm:f ∈ s.fs.l:=by rw[hq];exact List.mem_cons_self ..
   have r2:=a5O (f:=a0g) (tok:=J3) (g:=fun x:Fo=>x) (P:=fun _=>True) (sep:=[44]) (most:=8) (fun _=>trivial) (l:=f::l) (by simp) (by rw[<- hq];omega) (fun u hu=>b6h (hf u (by rw[hq];exact hu))) [sy [41]] ⟨trivial,rfl⟩;have hc:isM 5 [41] (B4 [44] J3 (f::l)++[sy [41]])=false:=by
    rw[X7];unfold J3;cases f.val with
    | true=>exact(show isM 5 [41] [A2 [86,65,76]]=false by decide +kernel)
    | false=>
     show isM 5 [41] (((([]++F8 f.ty)++[G4 f.name])++_)++_)=false;rw[List.nil_append,List.append_assoc,List.append_assoc];exact a2a (by decide) (b5W (hf f hfm)) _
   rw[hc,if_neg (by decide),r2,I1,a1V (by decide),List.map_id']
 have hT:=hO.tail;have hA1:Z3 R (i+1+(B2 y (d+1)).length) (d+1):=OkL.after hT.right (by show d<=d+1;omega);obtain⟨q0,hm⟩:=hM y hym;obtain⟨q,h6,h7⟩:=hB y hym (d+1) q0 false (i+1) (hW y hym) hm hT.left hA1 (by omega);refine⟨spM 5 Go.Ty.zeroT [x] A0 false [] s.fs.l [q],?_,a6q hk z1 hx z3 (b3V z4 z5) rfl (by rw[hy];show(D6 y q&&true)=true;rw[h7];rfl)⟩;show E8 (brM a0g (sy [40]::(B4 [44] J3 s.fs.l++[sy [41]]))) i _=_;rw[hb,R8,W7,h6,a1i];refine(b4w hT.right (x:=(d,[sy [58]])) rfl rfl _).trans ?_;rw[show i+1+(B2 y (d+1)).length+1=i+((B2 y (d+1)).length+2) by omega];rfl
end
end
section
open Go.Eng Go.Pc Go
open Go.Xp hiding B D1
open Go.Ty (Ty Vr Tok)
open Go.Ly (Rw)
open Go.Lx (G2)
theorem c8Q {k:Int} (h:Go.Ty.prim k=true):S8 ⟨k,0,0,[]⟩=true:=by
 unfold Go.Ty.prim at h;simp only[Bool.or_eq_true,beq_iff_eq] at h;rcases h with (h | h) | h <;> rw[h] <;> decide +kernel
theorem b1s {l:List Int} {least:Int} (h:Go.Ty.itemsB l least=true):(∀ x ∈ l,S8 ⟨x,0,0,[]⟩=true)/\least<=l.length/\(l.length:Int)<=8:=by
 rw[Go.Ty.items_eq] at h;unfold Go.Ty.itemsR at h;simp only[Bool.and_eq_true,decide_eq_true_eq] at h;exact⟨fun x hx=>c8Q (List.all_eq_true.1 h.1 x hx),h.2.1,h.2.2⟩
theorem c3k {v:Vr} (h:Go.Ty.itemsB v.items 0=true):a0C (I0 v)=.ok (vrM v.tag v.items,[]):=by
 obtain⟨h1,h2,h3⟩:=b1s h;unfold I0;cases hv:v.items with
 | nil=>rfl
 | cons x l=>
  rw[hv] at h1 h3;have hl:=b0X (l:=x::l) (by simp) (by omega) h1 [] rfl;rw[List.append_nil] at hl;have hp:(B4 [59] W5 (x::l)).length≠0:=by
   obtain⟨u,r,e,_⟩:=b0A (a9O (h1 x (List.mem_cons_self ..)));rw[X7,show W5 x=F8 ⟨x,0,0,[]⟩ from rfl,e];simp
  unfold a1n;rw[if_neg hp];show O2 (M1 a2f [59] 8 (B4 [59] W5 (x::l))) _=_;rw[hl];rfl
def sv (v:Vr):Vr:=vrM v.tag v.items
theorem c8E (pre:List Vr) (v:Vr):Go.Ty.badV (pre.map sv) (sv v)=Go.Ty.badV pre v:=by
 unfold Go.Ty.badV Go.Ty.tagIn;rw[List.any_map];rfl
theorem b6z:∀ (l pre:List Vr),Go.Ty.mayIn (pre.map sv) (l.map sv)=Go.Ty.mayIn pre l
 | [],_=>rfl
 | v::r,pre=>by
  show(if Go.Ty.badV (pre.map sv) (sv v) then false else Go.Ty.mayIn (pre.map sv++[sv v]) (r.map sv))=if Go.Ty.badV pre v then false else Go.Ty.mayIn (pre++[v]) r
  rw[c8E,show pre.map sv++[sv v]=(pre++[v]).map sv by simp,b6z r]
theorem b2r:∀ (a b pre:List Vr),Go.Ty.mayIn pre (a++b)=true->Go.Ty.mayIn pre a=true
 | [],_,_,_=>rfl
 | v::a,b,pre,h=>by
  have h:(if Go.Ty.badV pre v then false else Go.Ty.mayIn (pre++[v]) (a++b))=true:=h;show(if Go.Ty.badV pre v then false else Go.Ty.mayIn (pre++[v]) a)=true;by_cases hb:Go.Ty.badV pre v=true
  ·rw[if_pos hb] at h;cases h
  ·rw[if_neg hb] at h ⊢
   exact b2r a b _ h
theorem b2M:∀ (a:List Vr) (v:Vr) (b pre:List Vr),Go.Ty.mayIn pre (a++v::b)=true->Go.Ty.badV (pre++a) v=false
 | [],v,b,pre,h=>by
  have h:(if Go.Ty.badV pre v then false else Go.Ty.mayIn (pre++[v]) b)=true:=h;rw[List.append_nil];by_cases hb:Go.Ty.badV pre v=true
  ·rw[if_pos hb] at h;cases h
  ·simpa using hb
 | u::a,v,b,pre,h=>by
  have h:(if Go.Ty.badV pre u then false else Go.Ty.mayIn (pre++[u]) (a++v::b))=true:=h;by_cases hb:Go.Ty.badV pre u=true
  ·rw[if_pos hb] at h;cases h
  ·rw[if_neg hb] at h
   have:=b2M a v b _ h;rwa [List.append_assoc] at this
section
variable {R:List Rw} {n:Nat} {s:Sp} {d:Int} {i:Nat}
theorem b08:∀ (l pre:List Vr) (k:Nat) (i:Nat),Go.Ty.mayIn [] (pre++l)=true->pre.length+l.length<=16->1<=pre.length+l.length->OkL R i (l.map fun v=>((d+2,I0 v):Ln))->Z3 R (i+l.length) (d+1)->l.length<=k ->
 X1 R d k (pre.map sv) i=.ok ((pre++l).map sv,i+l.length)
 | [],pre,k,i,_,_,h1,_,hA,_=>by
  have hh:M6 R (d+2) i=false:=hA.here (by omega);have hl:¬ (pre.map sv).length=0:=by simp at h1 ⊢;intro q;rw[q] at h1;simp at h1
  cases k with
  | zero=>unfold X1;rw[if_neg hl];simp
  | succ k=>unfold X1;rw[if_neg (by rw[hh];intro q;rcases q with q | q;exact hl q;cases q)];simp
 | v::r,_,0,_,_,_,_,_,_,hk=>by simp at hk
 | v::r,pre,k+1,i,hm,h16,_,hO,hA,hk=>by
  have hO:OkL R i (((d+2,I0 v):Ln)::r.map fun v=>((d+2,I0 v):Ln)):=hO;have hh:M6 R (d+2) i=true:=by rw[hO.here];simp
  have hb:=b2M pre v r [] hm;have hi:Go.Ty.itemsB v.items 0=true:=by
   unfold Go.Ty.badV at hb;simp only[Bool.or_eq_false_iff,Bool.not_eq_false'] at hb;exact hb.1.2
  have hp:Go.Ty.mayPr true (pre.map sv++[sv v])=true:=by
   have h1:Go.Ty.mayIn [] (pre++[v])=true:=b2r (pre++[v]) r [] (by simpa using hm);have h2:=b6z (pre++[v]) [];rw[h1] at h2;unfold Go.Ty.mayPr;rw[if_neg (by decide),if_neg (by simp at h16 ⊢;omega)];simpa using h2
  have ih:=b08 r (pre++[v]) k (i+1) (by simpa using hm) (by simp at h16 ⊢;omega) (by simp;omega) hO.tail (by simp at hA;rw[show i+1+r.length=i+(r.length+1) by omega];exact hA) (by simpa using hk);unfold X1;rw[if_pos (.inr hh)];refine(hO.open (J0 b48 i fun w ts _=>by
   show(if Go.Ty.mayPr true (pre.map sv++[w]) then E7 (ts.map z0) i _ else _)=if Go.Ty.mayPr true (pre.map sv++[w]) then E7 ts i _ else _
   split
   ·exact J1 i _ ts (by assumption)
   ·rfl)).trans ?_
  show E8 (a0C (I0 v)) i _=_;rw[c3k hi,R8];show(if Go.Ty.mayPr true (pre.map sv++[sv v]) then E7 [] i fun i=>X1 R d k (pre.map sv++[sv v]) i else _)=_;rw[if_pos hp,W7,show pre.map sv++[sv v]=(pre++[v]).map sv by simp,ih];simp;omega
theorem b8f:∀ l:List Vr,eqL L1 l (l.map sv)=true
 | []=>rfl
 | v::r=>by
  show(L1 v (sv v)&&eqL L1 r (r.map sv))=true;rw[b8f r];unfold L1;show(((v.tag==v.tag)&&(v.items==v.items))&&true)=true;simp
theorem d0a (h:spP s=true) (hk:s.k=4) (hO:OkL R i (G6 s d)):a6o R n s d i:=fun {t L} hl=>by
 rw[d1X hk] at h;simp only[Bool.and_eq_true] at h;obtain⟨⟨h1,h2⟩,h3⟩:=h;obtain⟨z1,_,z3,_,_,z6,z7⟩:=a7G h3;obtain⟨x,hx⟩:=a6u h1;cases hc:s.cs with
 | false=>
  rw[hc] at h2;unfold Go.Ty.mayPr at h2;rw[if_pos (by decide)] at h2;simp only[Bool.and_eq_true] at h2;obtain⟨⟨h4,h5⟩,h6⟩:=h2;obtain⟨v,hv⟩:=List.length_eq_one_iff.1 (show s.vs.l.length=1 by have:=eq_of_beq h4;omega);rw[hv] at h5 h6;obtain⟨i1,i2,i3⟩:=b1s h6;have e:G6 s d=[(d,kw [80,82,79,84,79,67,79,76]::G4 x::kw [73,83]::(B4 [59] W5 v.items++[sy [58]]))]:=by
   rw[a00,if_neg (by omega),if_neg (by omega),if_neg (by omega),if_neg (by omega),if_pos hc,P6 (s:=[58]) (by decide +kernel),I5 (s:=[80,82,79,84,79,67,79,76]) (by decide +kernel),I5 (s:=[73,83]) (by decide +kernel),hx,hv];simp[I7,B4,Go.Ty.hdV]
  rw[e] at hl;cases hl;refine⟨spM 4 Go.Ty.zeroT [x] A0 false [vrM [] v.items] [] [],?_,a6q hk z1 hx z3 ?_ z6 (a03 z7)⟩
  ·rw[e]
   have r:=b0X (l:=v.items) (by have:(1:Int)<=v.items.length:=i2;omega) (by have:(v.items.length:Int)<=8:=i3;omega) i1 [sy [58]] rfl;show M8 (E8 (M1 a2f [59] 8 (B4 [59] W5 v.items++[sy [58]])) i _) _=_;rw[r];rfl
  ·rw[hc,hv]
   show(true&&(L1 v (vrM [] v.items)&&true))=true;unfold L1;rw[show v.tag=[] from by simpa [Go.Ty.hdV] using h5];show(true&&((([]:B)==[])&&(v.items==v.items)&&true))=true;simp
 | true=>
  rw[hc] at h2;unfold Go.Ty.mayPr at h2;rw[if_neg (by decide)] at h2;split at h2
  ·cases h2
  rename_i hlen;simp at hlen;have e:G6 s d=(d,[kw [80,82,79,84,79,67,79,76],G4 x])::(d+1,[kw [67,65,83,69]])::(s.vs.l.map (fun v=>((d+2,I0 v):Ln))++[(d,[sy [58]])]):=by
   rw[a00,if_neg (by omega),if_neg (by omega),if_neg (by omega),if_neg (by omega),if_neg (by rw[hc];decide),P6 (s:=[58]) (by decide +kernel),I5 (s:=[80,82,79,84,79,67,79,76]) (by decide +kernel),I5 (s:=[67,65,83,69]) (by decide +kernel),hx];simp[I7,B4]
  rw[e] at hl hO ⊢;cases hl;have hR:=hO.len (by simp);have hT:=hO.tail;have hV:=hT.tail;have hE:=hV.right;rw[List.length_map] at hE;have hp:=b08 (d:=d) s.vs.l [] (R.length - (i+1+1)) (i+1+1) h2 (by simp;omega) (by simp;omega) hV.left (hE.after (by show d<=d+1;omega)) (by simp at hR;omega);refine⟨spM 4 Go.Ty.zeroT [x] A0 true (s.vs.l.map sv) [] [],?_,a6q hk z1 hx z3 (by rw[hc];show(true&&eqL L1 s.vs.l (s.vs.l.map sv))=true;rw[b8f];rfl) z6 (a03 z7)⟩;show M8 (a2A R (d+1) 2 [67,65,83,69] (i+1) _) _=_;rw[b4w hT (x:=(d+1,[kw [67,65,83,69]])) rfl rfl];show M8 (M8 (X1 R d (R.length - (i+1+1)) [] (i+1+1)) _) _=_;rw[show X1 R d (R.length - (i+1+1)) [] (i+1+1)=.ok (s.vs.l.map sv,i+1+1+s.vs.l.length) from hp,a1i];rw[b4w hE (x:=(d,[sy [58]])) rfl rfl];show Except.ok (some (spM 4 Go.Ty.zeroT [x] A0 true (s.vs.l.map sv) [] []),i+1+1+s.vs.l.length+1)=_;simp;omega
end
theorem c3T {R:List Rw} {n:Nat} {s:Sp} {d:Int} {i:Nat} {q:Int} (h:spP s=true) (hW:Wf s.e) (hO:OkL R i (G6 s d)) (hn:(G6 s d).length<=n+1) (hB:∀ x ∈ s.bl,b3Y R n x) (hP:∀ x ∈ s.bl,PW x) (hM:(a0v s d q).1=true):a6o R n s d i:=by
 have hV:=b9d h;have hb:∀ x ∈ s.bl,s.k=5->∃ q,(J5 x (d+1) false q).1=true:=fun x hx h5=>by
  rw[a6c] at hM;split at hM
  ·cases hM
  ·obtain⟨y,hy⟩:=List.length_eq_one_iff.1 (hV.body h5)
   rw[hy] at hM hx;rw[List.mem_singleton.1 hx];exact⟨q,hM⟩
 have:=hV.kd;rcases(show s.k=1\/s.k=2\/s.k=3\/s.k=4\/s.k=5 by omega) with k | k | k | k | k
 ·exact fun {t L} hl=>d0c h k hl
 ·exact fun {t L} hl=>c8V h hW k hl
 ·exact fun {t L} hl=>c8v h hW k hl
 ·exact fun {t L} hl=>d0a h k hO hl
 ·exact fun {t L} hl=>c8X h k hO hn hB hP (fun x hx=>hb x hx k) hl
theorem b4M (s:Sp) (d:Int):∃ t L,G6 s d=(d,t)::L:=by
 rw[a00];repeat' split
 all_goals exact⟨_,_,rfl⟩
theorem c9H {R:List Rw} {n:Nat} {p:Pr} {d:Int} {top:Bool} {i:Nat} (A:Ask R n p d top i) (hk:p.k=18):Ans R n p d top i:=by
 have h:=O4 A.v.plain;rw[c9B hk] at h;simp only[Bool.and_eq_true] at h;obtain⟨⟨⟨⟨⟨h1,hs⟩,h2⟩,h3⟩,h4⟩,h5⟩:=h;obtain⟨z1,z2,z3,z4,z5,_⟩:=V2 h5;obtain⟨y,hy⟩:=List.length_eq_one_iff.1 (show p.ll.length=1 by have:=eq_of_beq h2;omega);have hym:y ∈ p.ll:=by rw[hy];exact List.mem_cons_self ..
 have e:B2 p d=G6 p.sp d++B2 y d:=by rw[a4j,if_pos hk,hy];rfl
 have hO:=A.o;have hA:=A.a;have hL:=A.l;rw[e] at hO hA hL;rw[List.length_append] at hA hL;have hp:=a8i y d;obtain⟨q0,hm⟩:=A.v.sp hk;obtain⟨t,L,ht⟩:=b4M p.sp d;have w:=A.w.own;obtain⟨s',h6,h7⟩:=c3T hs w.se hO.left (by omega) (fun x hx=>A.b x (.s hx)) (fun x hx=>A.w.sub (.s hx)) hm ht;obtain⟨q1,hm1⟩:=A.v.l8 hk y hym;have hl1:1<=(G6 p.sp d).length:=by rw[ht];simp
 obtain⟨q,h8,h9⟩:=A.b y (.l hym) d q1 top (i+(G6 p.sp d).length) (A.w.sub (.l hym)) hm1 hO.right (by rw[Nat.add_assoc];exact hA) (by omega);refine⟨prM 18 [] A0 [] [] C5 [] [q] [] s',?_,S6 hk z1 z2 (D9 z3) (D9 z4) (S1 h4 (Y4 h1)) (a1S (R3 h3)) (by rw[hy];show(D6 y q&&true)=true;rw[h9];rfl) z5 h7⟩;have hO1:=hO.left;rw[ht] at hO1;have hst:=hO1.open (b6I R (A4 R n) d top i fun so j=>M8 (A4 R n d top j) fun x i=>.ok (prM 18 [] A0 [] [] C5 [] [x] [] (so.getD B7),i));show b2x R (A4 R n) d top i=_;unfold b2x;refine hst.trans ?_;show M8 (a0a R (A4 R n) d t i) _=_;rw[h6,a1i];show M8 (A4 R n d top (i+(G6 p.sp d).length)) _=_;rw[h8,a1i,e,List.length_append,Nat.add_assoc];rfl
theorem c5W {R:List Rw} {n:Nat} {p:Pr} {d:Int} {top:Bool} {i:Nat} (A:Ask R n p d top i):Ans R n p d top i:=by
 have hk:=(a1U A.v.plain).kd;have h0:=A.w.own.k;have hr:1<=p.k/\p.k<=18:=by
  unfold B3 at hk;by_cases h:1<=p.k/\p.k<=18
  ·exact h
  ·exfalso
   repeat rw[if_neg (by omega)] at hk
   cases hk
 rcases(show p.k=1\/p.k=2\/p.k=3\/p.k=4\/p.k=5\/p.k=6\/p.k=7\/p.k=8\/p.k=9\/p.k=10\/p.k=11\/p.k=12\/p.k=13\/p.k=14\/p.k=15\/p.k=16\/p.k=17\/p.k=18 by omega) with k | k | k | k | k | k | k | k | k | k | k | k | k | k | k | k | k | k
 ·exact d0I A k
 ·exact d0Z A k
 ·exact d0J A k
 ·exact d0n A k
 ·exact d0E A k
 ·exact d0L A k
 ·exact d1o A k
 ·exact d1m A k
 ·exact d0w A k
 ·exact c9y A k
 ·exact c9u A k
 ·exact c8t A k
 ·exact c8P A k
 ·exact c8G A k
 ·exact c9D A k
 ·exact c9M A k
 ·exact d0f A k
 ·exact c9H A k
theorem c2e (R:List Rw) (p:Pr):∀ n,b3Y R n p:=by
 refine Pr.ind (q:=fun p=>∀ n,b3Y R n p) (fun p ih n d left top i hW hM hO hA hn=>?_) p;cases n with
 | zero=>have:=a8i p d;omega
 | succ n=>exact c5W ⟨fun x hx=>ih x hx n,hW,d0H hM,hO,hA,hn⟩
theorem b8m:∀ (l:List Ln) (st:Ps),(C1 st l).2=false->(∀ x ∈ l,(Go.Lx.textO x.2).2=0)/\(C1 st l).1.length=st.1.length+l.length/\st.2=false/\(∀ j x,l[j]?=some x->(C1 st l).1[st.1.length+j]?=some ⟨(st.1.length+j:Nat)+1,x.1,(Go.Lx.textO x.2).1⟩)/\(∀ j,j < st.1.length->(C1 st l).1[j]?=st.1[j]?)
 | [],st,h=>⟨fun _ hx=>(by cases hx),(by simp[C1]),h,fun j x hx=>(by simp at hx),fun _ _=>rfl⟩
 | x::r,st,h=>by
  rw[a0V] at h ⊢;obtain⟨h1,h2,h3,h4,h5⟩:=b8m r (D0 st x) h;unfold D0 at h2 h3 h4 h5 ⊢;by_cases hb:(Go.Lx.textO x.2).2≠0\/st.1.length > 2048
  ·rw[if_pos hb] at h3;cases h3
  rw[if_neg hb] at h2 h3 h4 h5 ⊢;simp only[List.length_append,List.length_singleton] at h2 h4 h5;refine⟨fun y hy=>?_,by rw[h2];simp;omega,h3,fun j y hy=>?_,fun j hj=>?_⟩
  ·rcases List.mem_cons.1 hy with rfl | hy
   ·exact Decidable.byContradiction fun q=>hb (.inl q)
   ·exact h1 y hy
  ·cases j with
   | zero=>
    cases hy;rw[h5 _ (by omega)];simp
   | succ j=>
    have:=h4 j y hy;rw[show st.1.length+(j+1)=st.1.length+1+j by omega];exact this
  ·rw[h5 j (by omega),List.getElem?_append_left hj]
theorem b7k {p:Pr} {L:List Rw} (hW:PW p) (h:R0 p=(L,0)):∃ q,S0 L=(q,0,0)/\D6 p q=true/\mayP p=true/\Go.Ly.mayP L=true:=by
 unfold R0 at h;by_cases hm:mayP p=true
 ·rw[if_pos hm] at h
  by_cases hb:((C1 ([],false) (B2 p 0)).2||!Go.Ly.mayP (C1 ([],false) (B2 p 0)).1)=true
  ·rw[if_pos hb] at h;cases h
  ·rw[if_neg hb] at h
   simp only[Bool.or_eq_true,Bool.not_eq_true',not_or,Bool.not_eq_true,Bool.not_eq_false] at hb;have hL:(C1 ([],false) (B2 p 0)).1=L:=(Prod.mk.injEq .. ▸ h).1;obtain⟨h1,h2,_,h4,_⟩:=b8m (B2 p 0) ([],false) hb.1;rw[hL] at h2 h4 hb;simp only[List.length_nil,Nat.zero_add] at h2 h4;have hO:OkL L 0 (B2 p 0):=⟨fun j x hx=>⟨_,by rw[Nat.zero_add];exact h4 j x hx⟩,h1,c0F p hW 0⟩;have hA:Z3 L (0+(B2 p 0).length) 0:=fun y hy=>by
    rw[Nat.zero_add,<- h2,List.getElem?_eq_none (Nat.le_refl _)] at hy;cases hy
   obtain⟨q,h6,h7⟩:=c2e L p L.length 0 2048 true 0 hW hm hO hA (by omega);refine⟨q,?_,h7,hm,hb.2⟩;unfold S0 b1H;rw[if_pos hb.2,h6,Nat.zero_add,<- h2];simp only[a1i,List.getElem?_eq_none (Nat.le_refl L.length)]
 ·rw[if_neg hm] at h;cases h
end
section
open Go.Eng Go.Pc Go
open Go.Xp hiding B D1
open Go.Ty (Ty Vr Tok)
open Go.Ly (Rw)
open Go.Lx (G2)
end
section
open Go.Eng Go.Pc Go
open Go.Xp hiding B D1
open Go.Ty (Ty Vr Tok)
open Go.Ly (Rw)
open Go.Lx (G2)
inductive Vp:Pr->Int->Bool->Prop
 | mk {p:Pr} {d:Int} {pl:Bool} (plain:O0 p=true) (deep:d<=32) (top:p.k=11->pl=true) (ll:p.k≠18->∀ x ∈ p.ll,Vp x (if p.k=11 then d+2 else d+1) false) (l8:p.k=18->∀ x ∈ p.ll,Vp x d pl)
  (sc:p.k=18->p.sp.cs=true->d+2<=32) (sb:p.k=18->∀ x ∈ p.sp.bl,Vp x (d+1) false) (gl:∀ g ∈ p.gl,∀ x ∈ g.bl,Vp x (d+2) false):Vp p d pl
abbrev b6G (p:Pr):Prop:=∀ (d:Int) (pl:Bool) (left:Int),Vp p d pl->(T0 p:Int)<=left->J5 p d pl left=(true,left - T0 p)
theorem b4o:∀ {l:List Pr} {d q:Int} {pl:Bool},(∀ x ∈ l,b6G x)->(∀ x ∈ l,Vp x d pl)->(M3 l:Int)<=q->W1 l d pl q=(true,q - M3 l)
 | [],_,q,_,_,_,_=>by show(true,q)=(true,q - ((0:Nat):Int));simp
 | x::r,d,q,pl,h,hv,hq=>by
  have e:W1 (x::r) d pl q=if (J5 x d pl q).1 then W1 r d pl (J5 x d pl q).2 else J5 x d pl q:=rfl
  have hc:M3 (x::r)=T0 x+M3 r:=rfl;rw[hc] at hq ⊢;rw[e,h x (List.mem_cons_self ..) d pl q (hv x (List.mem_cons_self ..)) (by omega)];show W1 r d pl (q - T0 x)=_;rw[b4o (fun y hy=>h y (List.mem_cons_of_mem _ hy)) (fun y hy=>hv y (List.mem_cons_of_mem _ hy)) (by omega)];congr 1
  omega
theorem b8B {l:List Pr} {d q:Int} (h1:l.length<=1) (h:∀ x ∈ l,b6G x) (hv:∀ x ∈ l,Vp x d false) (hq:(M3 l:Int)<=q):a4O l d q=(true,q - M3 l):=by
 match l,h1,h,hv,hq with
 | [],_,_,_,_=>show(true,q)=(true,q - ((0:Nat):Int));simp
 | [x],_,h,hv,hq=>
  have hc:M3 [x]=T0 x:=by show T0 x+0=_;omega
  rw[hc] at hq ⊢;exact h x (List.mem_cons_self ..) d false q (hv x (List.mem_cons_self ..)) hq
theorem b4i:∀ {l:List Gu} {d q:Int},(∀ g ∈ l,g.bl.length=1)->(∀ g ∈ l,∀ x ∈ g.bl,b6G x)->(∀ g ∈ l,∀ x ∈ g.bl,Vp x d false)->(Z8 l:Int)<=q->a1D l d q=(true,q - Z8 l)
 | [],_,q,_,_,_,_=>by show(true,q)=(true,q - ((0:Nat):Int));simp
 | g::r,d,q,h1,h,hv,hq=>by
  have e:a1D (g::r) d q=if (a0r g d q).1 then a1D r d (a0r g d q).2 else a0r g d q:=rfl
  have hc:Z8 (g::r)=M3 g.bl+Z8 r:=by show b4z g+Z8 r=_;cases g;rfl
  rw[hc] at hq ⊢;rw[e,a4y,b8B (by rw[h1 g (List.mem_cons_self ..)];exact Nat.le_refl _) (h g (List.mem_cons_self ..)) (hv g (List.mem_cons_self ..)) (by omega)];show a1D r d (q - M3 g.bl)=_;rw[b4i (fun y hy=>h1 y (List.mem_cons_of_mem _ hy)) (fun y hy=>h y (List.mem_cons_of_mem _ hy)) (fun y hy=>hv y (List.mem_cons_of_mem _ hy)) (by omega)];congr 1
  omega
theorem c0c (p:Pr):T0 p=1+(M3 p.ll+(M3 p.sp.bl+Z8 p.gl)):=by rw[a7i p,a7N]
theorem c1S {c:Prop} [Decidable c] {a b:Us × Bool} (ha:a.1.spec=false) (hb:b.1.spec=false):(if c then a else b).1.spec=false:=by
 split
 ·exact ha
 ·exact hb
theorem c6Q {k:Int} (h:k≠18):(B3 k).1.spec=false:=by
 unfold B3;rw[if_neg h];repeat' first | exact rfl | refine c1S rfl ?_
theorem may_at (p:Pr):b6G p:=by
 refine Pr.ind (q:=b6G) (fun p ih d pl left hv hl=>?_) p;obtain⟨plain,deep,top,ll,l8,sc,sb,gl⟩:=hv;have hc:=c0c p;have hP:=a1U plain;have hg1:∀ g ∈ p.gl,g.bl.length=1:=fun g hg=>(a9z (hP.gs g hg).1).body
 have hh:Z7 p d pl left=false:=by
  unfold Z7;rw[plain,show decide (left - 1 < 0)=false from decide_eq_false (by omega),show decide (d > 32)=false from decide_eq_false (by omega)];by_cases h11:p.k=11
  ·rw[top h11];simp
  ·rw[show(p.k==11)=false by simpa using h11];simp
 rw[a6p,hh,if_neg (by decide)];by_cases hk:p.k=18
 ·have hs:a0v p.sp d (left - 1)=(true,left - 1 - M3 p.sp.bl):=by
   have hsp:=hP.sp (by rw[hk];rfl);have hb:p.sp.bl.length<=1:=c3t hsp;rw[a6c,if_neg (by
    intro q;simp only[Bool.and_eq_true,decide_eq_true_eq] at q;have:=sc hk q.1;omega)]
   exact b8B hb (fun x hx=>ih x (.s hx)) (sb hk) (by omega)
  rw[if_pos hk,hs];simp only[if_true];rw[b4o (fun x hx=>ih x (.l hx)) (l8 hk) (by omega)];simp only[if_true];rw[b4i hg1 (fun g hg x hx=>ih x (.g hg hx)) gl (by omega)];congr 1
  omega
 ·have hb:p.sp.bl=[]:=by
   have h18:(B3 p.k).1.spec=false:=by
    exact c6Q hk
   have:=hP.ns h18;unfold K2 at this;simp only[Bool.and_eq_true] at this;exact R3 this.2
  rw[if_neg hk,b4o (fun x hx=>ih x (.l hx)) (ll hk) (by omega)];simp only[if_true];rw[b4i hg1 (fun g hg x hx=>ih x (.g hg hx)) gl (by omega)];have h0:M3 p.sp.bl=0:=by rw[hb];rfl
  congr 1
  omega
end
section
open Go.Eng Go.Pc Go
open Go.Xp hiding B D1
open Go.Ty (Ty Vr Tok)
open Go.Ly (Rw)
open Go.Lx (G2)
structure Dp (R:List Rw) (i j:Nat) (L:List Ln):Prop where
 e:j=i+L.length
 d:∀ k x,L[k]?=some x->∃ y,R[i+k]?=some y/\y.depth=x.1
def Val (R:List Rw) (rec:Int->Bool->Nat->PE Pr):Prop:=∀ d top i p j,rec d top i=.ok (p,j)->Vp p d top/\Dp R i j (B2 p d)
section
variable {R:List Rw} (hR:Go.Ly.mayP R=true) {rec:Int->Bool->Nat->PE Pr} (hv:Val R rec) {d:Int}
end
end
section
open Go.Eng Go.Pc Go
open Go.Xp hiding B D1
open Go.Ty (Ty Vr Tok)
open Go.Ly (Rw)
open Go.Lx (G2)
section
variable {R:List Rw} (hR:Go.Ly.mayP R=true) {rec:Int->Bool->Nat->PE Pr} (hv:Val R rec) {d:Int} {top:Bool} {i j:Nat} {y:Rw} (hy:R[i]?=some y) (hd:y.depth=d) (h32:d<=32) {p:Pr}
end
end
section
open Go.Eng Go.Pc Go
open Go.Xp hiding B D1
open Go.Ty (Ty Vr Tok)
open Go.Ly (Rw)
open Go.Lx (G2)
section
variable {R:List Rw} (hR:Go.Ly.mayP R=true) {rec:Int->Bool->Nat->PE Pr} (hv:Val R rec) {d:Int} {top:Bool} {i j:Nat} {y:Rw} (hy:R[i]?=some y) (hd:y.depth=d) (h32:d<=32) {p:Pr}
end
end
section
open Go.Eng Go.Pc Go
open Go.Xp hiding B D1
open Go.Ty (Ty Vr Tok)
open Go.Ly (Rw)
open Go.Lx (G2)
section
variable {R:List Rw} (hR:Go.Ly.mayP R=true) {rec:Int->Bool->Nat->PE Pr} (hv:Val R rec) {d:Int} {top:Bool} {i j:Nat}
variable {y:Rw} (hy:R[i]?=some y) (hd:y.depth=d)
end
end
section
open Go.Eng Go.Pc Go
open Go.Xp hiding B D1
open Go.Ty (Ty Vr Tok)
open Go.Ly (Rw)
open Go.Lx (G2)
def Bd {α:Type} (n:Nat):PE α->Prop
 | .ok (_,j)=>j<=n
 | .error (e,k)=>e≠0/\k<=n/\(k=n->e=110)
section
variable {R:List Rw} {rec:Int->Bool->Nat->PE Pr} (hr:∀ d top i,i<=R.length->Bd R.length (rec d top i))
include hr
end
end
section
open Go.Eng Go.Pc Go
open Go.Xp hiding B D1
open Go.Ty (Ty Vr Tok)
open Go.Ly (Rw)
theorem c0W {p:Pr} {M:List Rw} {e:Int} (h:R0 p=(M,e)) (he:e≠0):M=[]/\((e=2/\mayP p=false)\/(e=3/\mayP p=true)):=by
 unfold R0 at h;by_cases hm:mayP p=true
 ·rw[if_pos hm] at h
  split at h
  ·cases h;exact⟨rfl,.inr ⟨rfl,hm⟩⟩
  ·cases h;exact absurd rfl he
 ·rw[if_neg hm] at h
  cases h;exact⟨rfl,.inl ⟨rfl,by simpa using hm⟩⟩
end
section
open Go.Eng Go.Pc Go
open Go.Xp hiding B D1
open Go.Ly (Rw)
end
end Go.Sx
namespace Go.Ly
section
open Go.Eng
def noD (s:B):Prop:=∀ k:Nat,s[k]?=some 45->s[k+1]?≠some 45
theorem b5h:∀ s:B,noD (a9o s)
 | []=>fun k h=>by simp[a9o] at h
 | c::l=>by
  unfold a9o;split
  ·exact fun k h=>by simp at h
  ·rename_i hn
   have ih:=b5h l;intro k h1 h2;cases k with
   | zero=>
    simp only[List.getElem?_cons_zero,Option.some.injEq] at h1;simp only[List.getElem?_cons_succ] at h2;apply hn;rw[h1];cases l with
    | nil=>simp[a9o] at h2
    | cons d r=>
     unfold a9o at h2;split at h2
     ·simp at h2
     ·simpa using h2
   | succ k=>
    simp only[List.getElem?_cons_succ] at h1 h2;exact ih k h1 h2
theorem c5D:∀ {s:B},noD s->a9o s=s
 | [],_=>rfl
 | c::l,h=>by
  have ih:a9o l=l:=c5D fun k h1 h2=>h (k+1) (by simpa using h1) (by simpa using h2)
  unfold a9o;rw[ih,if_neg];intro e;simp only[Bool.and_eq_true,beq_iff_eq] at e;refine h 0 (by simp[e.1]) ?_;rw[List.getElem?_cons_succ,<- List.head?_eq_getElem?];exact e.2
theorem b1V:∀ {s:B},noD s->Lib.index s [45,45]=-1
 | [],_=>rfl
 | c::l,h=>by
  have ih:Lib.index l [45,45]=-1:=b1V fun k h1 h2=>h (k+1) (by simpa using h1) (by simpa using h2)
  unfold Lib.index;rw[c84,ih,if_neg]
  ·rfl
  ·intro e
   simp only[Bool.and_eq_true,beq_iff_eq] at e;refine h 0 (by simp[e.1]) ?_;rw[List.getElem?_cons_succ,<- List.head?_eq_getElem?];exact e.2
theorem b3t {s:B} (h:noD s):Lib.contains s [45,45]=false:=by
 unfold Lib.contains;rw[b1V h];rfl
theorem b3I {s:B} (h:Lib.contains s [45,45]=false):noD s:=by
 have e:=c3J s;unfold Lib.contains at h;unfold Lib.cut at e;rw[if_neg (by simpa using h)] at e;have:=b5h s;rw[<- e] at this;exact this
structure TxtV (s:B):Prop where
 ne:s≠[]
 hd:s.head?≠some 32
 ls:s.getLast?≠some 32
 nd:noD s
 ok:s.all okB=true
theorem c4p {s:B} (h:s.getLast?≠some 32):Lib.trimRightB s 32=s:=by
 rcases List.eq_nil_or_concat s with rfl | ⟨l,c,rfl⟩
 ·rfl
 ·rw[List.concat_eq_append] at h ⊢
  refine b89 ?_;simpa using h
theorem c2f {s:B} (h:s.head?≠some 32):Lib.trimLeftB s 32=s:=by
 cases s with
 | nil=>rfl
 | cons c l=>
  have hc:(c==32)=false:=by simpa using h
  simp[Lib.trimLeftB,List.dropWhile,hc]
theorem TxtV.valid {s:B} (h:TxtV s) (hl:s.length<=256) (hc:a9m s=false):validP s=true:=by
 have h1:c0I s=false:=by
  simp only[c0I,Bool.or_eq_false_iff,decide_eq_false_iff_not,bne_eq_false_iff_eq,beq_eq_false_iff_ne];refine⟨⟨⟨⟨h.ne,by omega⟩,?_⟩,b3t h.nd⟩,hc⟩;unfold Lib.trimB;rw[c4p h.ls,c2f h.hd]
 unfold validP;rw[h1,h.ok];rfl
theorem TxtV.of_valid {s:B} (h:validP s=true):TxtV s:=by
 obtain⟨h1,h2,h3,h4,h5,h6⟩:=validP_spec h;have hL:∀ l:B,(Lib.trimLeftB l 32).head?≠some 32:=by
  intro l e;have:=List.head?_dropWhile_not (·==(32:UInt8)) l;unfold Lib.trimLeftB at e;rw[e] at this;simp at this
 have hR:∀ l:B,(Lib.trimRightB l 32).getLast?≠some 32:=by
  intro l e;unfold Lib.trimRightB at e;rw[List.getLast?_reverse] at e;exact hL l.reverse e
 have hll:∀ l:B,(Lib.trimLeftB l 32).length<=l.length:=fun l=>(List.dropWhile_sublist _).length_le
 have hrl:∀ l:B,(Lib.trimRightB l 32).length<=l.length:=fun l=>by
  unfold Lib.trimRightB;rw[List.length_reverse];exact Nat.le_trans (List.dropWhile_sublist _).length_le (by simp)
 refine⟨h1,?_,?_,b3I h4,h6⟩
 ·rw[<- h3]
  exact hL _
 ·-- trimming on the left took nothing
  have e1:(Lib.trimLeftB (Lib.trimRightB s 32) 32).length=s.length:=by show(Lib.trimB s 32).length=_;rw[h3]
  have h7:=hll (Lib.trimRightB s 32);have h8:=hrl s;have h9:Lib.trimLeftB (Lib.trimRightB s 32) 32=Lib.trimRightB s 32:=(List.dropWhile_sublist _).eq_of_length (by unfold Lib.trimLeftB at e1 h7;omega);rw[<- h3];show(Lib.trimLeftB (Lib.trimRightB s 32) 32).getLast?≠_;rw[h9];exact hR s
end
section
open Go.Eng
def b0q:B->Bool
 | a::b::r=>(a==45&&b==45)||b0q (b::r)
 | _=>false
theorem b5R:∀ {s:B},b0q s=false->noD s
 | [],_=>fun k h=>by simp at h
 | [a],_=>fun k h1 h2=>by simp at h2
 | a::b::r,h=>by
  unfold b0q at h;rw[Bool.or_eq_false_iff] at h;have ih:=b5R h.2;intro k h1 h2;cases k with
  | zero=>
   simp only[List.getElem?_cons_zero,Option.some.injEq] at h1;simp only[List.getElem?_cons_succ,List.getElem?_cons_zero,Option.some.injEq] at h2;rw[h1,h2] at h;exact absurd h.1 (by decide)
  | succ k=>exact ih k (by simpa using h1) (by simpa using h2)
theorem b5J:∀ {s:B},noD s->b0q s=false
 | [],_=>rfl
 | [a],_=>rfl
 | a::b::r,h=>by
  unfold b0q;rw[b5J (s:=b::r) fun k h1 h2=>h (k+1) (by simpa using h1) (by simpa using h2),Bool.or_false];by_cases e:(a==45&&b==45)=true
  ·simp only[Bool.and_eq_true,beq_iff_eq] at e
   exact absurd (by simp[e.2]) (h 0 (by simp[e.1]))
  ·simpa using e
theorem c7m {s:B} {k:Nat} {c d:UInt8} (hc:s[k]?=some c) (hd:s[k+1]?=some d):b0q (s.drop k)=((c==45&&d==45)||b0q (s.drop (k+1))):=by
 rw[X2 hc,X2 hd];rfl
theorem c2w {s:B} {k:Nat} (h:s.length<=k+1):b0q (s.drop k)=false:=by
 have hl:(s.drop k).length<=1:=by rw[List.length_drop];omega
 match s.drop k,hl with
 | [],_=>rfl
 | [a],_=>rfl
def b0O (s:B):Bool:=((((decide ((s.length:Int) < 1)||decide ((s.length:Int) > 256))||(s.getD 0 0==32))||(s.getD (s.length - 1) 0==32))||a9m s)
def b2l (s:B):Bool:=!b0O s&&(!b0q s&&s.all okB)
theorem c6E (s:B):b2l s=validP s:=by
 rcases Nat.eq_zero_or_pos s.length with h0 | h0
 ·rw[List.eq_nil_of_length_eq_zero h0]
  decide
 ·have hne:s≠[]:=List.length_pos_iff.1 h0
  have hh:s.head?=some (s.getD 0 0):=by
   rw[List.head?_eq_getElem?,List.getD_eq_getElem?_getD,List.getElem?_eq_getElem h0];rfl
  have hl:s.getLast?=some (s.getD (s.length - 1) 0):=by
   rw[List.getLast?_eq_getElem?,List.getD_eq_getElem?_getD,List.getElem?_eq_getElem (by omega)];rfl
  rw[Bool.eq_iff_iff];constructor
  ·intro h
   simp only[b2l,b0O,Bool.and_eq_true,Bool.not_eq_true',Bool.or_eq_false_iff,decide_eq_false_iff_not,beq_eq_false_iff_ne] at h;obtain⟨⟨⟨⟨⟨h1,h2⟩,h3⟩,h4⟩,h5⟩,h6,h7⟩:=h;exact TxtV.valid ⟨hne,by rw[hh];simpa using h3,by rw[hl];simpa using h4,b5R h6,h7⟩ (by omega) h5
  ·intro h
   have hv:=TxtV.of_valid h;obtain⟨_,h2,_,_,h5,h6⟩:=validP_spec h;have h3:=hv.hd;have h4:=hv.ls;rw[hh] at h3;rw[hl] at h4;simp only[b2l,b0O,Bool.and_eq_true,Bool.not_eq_true',Bool.or_eq_false_iff,decide_eq_false_iff_not,beq_eq_false_iff_ne];exact⟨⟨⟨⟨⟨by omega,by omega⟩,by simpa using h3⟩,by simpa using h4⟩,h5⟩,b5J hv.nd,h6⟩
theorem b4A (no dp:Int) (x:Rw):(((((decide (x.no < no+1)||decide (x.no > 65536))||decide (x.depth < 0))||decide (x.depth > dp+1))||decide (x.depth > 32))||!validP x.text)=b1S no dp x:=by
 unfold b1S;congr 1
 rw[Bool.eq_iff_iff];simp only[Bool.or_eq_true,decide_eq_true_eq];split <;> omega
end
end Go.Ly

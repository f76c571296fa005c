import Derived.Test.YtkemgjnejlkkcaaGreatDoorLBackY2
import Derived.Lib.AppendZerosOnto
namespace Go.Xp
section
open Go.Eng Go
open Go.Ty (Tok C0)
open Go.Lx (G2)
set_option maxRecDepth 100000
def a74 (ts:List Tok):Prop:=C4 ts≠C8 [91]
def a8s (ts:List Tok):Prop:=opF (C4 ts) 22 1=0
theorem H9 {t:Tok} {r:List Tok} (h:G2 t=true) (ha:t.at_=0):C4 (t::r)=t:=by
 rw[a2T,if_pos h];cases t;cases ha;rfl
theorem M5 {ins:B->B->List Tok->a0i} {ts:List Tok} {t:Tok} (h:C4 ts=t):Q2 ins ts=if t.kind=3 then .ok (sx 1 0 0 t.n [] [],ts.tail) else if t.kind=4 then .ok (sx 2 0 0 t.n [] [],ts.tail)
 else if t=D3 [70,65,76,83,69] then .ok (sx 3 0 0 0 [] [],ts.tail) else if t=D3 [84,82,85,69] then .ok (sx 3 0 0 1 [] [],ts.tail)
 else if t.kind=1 then (if C4 ts.tail=C8 [91] then (match ins [91] [93] ts.tail with
  | .ok (x,r)=>.ok (sx 5 0 0 0 t.text [x],r)
  | .error e=>.error e) else .ok (sx 4 0 0 0 t.text [],ts.tail))
 else if t=C8 [40] then ins [40] [41] ts else .error 100:=by subst h;rfl
theorem U2 {ins:B->B->List Tok->a0i} {ts:List Tok} {t:Tok} (h:C4 ts=t):a0H ins ts=if t=D3 [83,73,90,69] then (if (C4 ts.tail).kind=1 then .ok (sx 9 0 0 0 (C4 ts.tail).text [],ts.tail.tail) else .error 100)
 else if a0u t≠0 then unQ (fun x=>sx 8 0 (a0u t) 0 [] [x]) (Q2 ins ts.tail)
 else if opF t 4 23≠0 then unQ (fun x=>sx 6 (opF t 4 23) 0 0 [] [x]) (Q2 ins ts.tail)
 else match Q2 ins ts with
  | .error e=>.error e
  | .ok (a,r)=>if opF (C4 r) 22 1≠0 then unQ (fun b=>sx 7 (opF (C4 r) 22 1) 0 0 [] [a,b]) (Q2 ins r.tail) else .ok (a,r):=by subst h;rfl
inductive Dp:Nat->Ex->Prop
 | mk {n:Nat} {e:Ex} (h:∀ x ∈ e.l,Dp n x):Dp (n+1) e
theorem Dp.part {n:Nat} {e x:Ex} (d:Dp (n+1) e) (hx:x ∈ e.l):Dp n x:=by cases d with | mk h=>exact h x hx
theorem Dp.pos {n:Nat} {e:Ex} (d:Dp n e):∃ k,n=k+1:=by cases d;exact⟨_,rfl⟩
theorem Dp.up {e:Ex}:∀ {n:Nat},Dp n e->Dp (n+1) e:=by
 refine Ex.ind (p:=fun e=>∀ {n:Nat},Dp n e->Dp (n+1) e) (fun e ih n d=>?_) e;obtain⟨k,rfl⟩:=d.pos;exact .mk fun x hx=>ih x hx (d.part hx)
theorem c1f (e:Ex):∀ (deep left q:Int),1<=deep->Q9 deep left e=some q->Dp (33 - deep).toNat e:=by
 refine Ex.ind (p:=fun e=>∀ (deep left q:Int),1<=deep->Q9 deep left e=some q->Dp (33 - deep).toNat e) (fun e ih deep left q h1 hq=>?_) e;rw[a3c] at hq;split at hq
 ·cases hq
 ·rename_i hh
  have hb:=a9u (by simpa using hh);have key:∀ (l:List Ex),(∀ x ∈ l,x ∈ e.l)->∀ z,a0x (deep+1) z l=some q->∀ x ∈ l,Dp (33 - (deep+1)).toNat x:=by
   intro l;induction l with
   | nil=>intro _ z _ x hx;cases hx
   | cons y r ihr=>
    intro hm z h x hx;unfold a0x at h;split at h
    ·rename_i p hp
     rcases List.mem_cons.1 hx with rfl | hx
     ·exact ih x (hm x (by simp)) _ _ _ (by omega) hp
     ·exact ihr (fun y hy=>hm y (by simp[hy])) p h x hx
    ·cases h
  obtain⟨k,hk⟩:∃ k,(33 - deep).toNat=k+1:=⟨(33 - (deep+1)).toNat,by omega⟩;rw[hk];refine .mk fun x hx=>?_
  have:=key e.l (fun _ h=>h) _ hq x hx;rwa [show(33 - (deep+1)).toNat=k by omega] at this
theorem c9W {e:Ex} (h:G3 e=true):Dp 32 e:=by
 obtain⟨q,hq⟩:=Option.isSome_iff_exists.1 h;exact c1f e 1 256 q (by decide) hq
def c4G (t:Tok):Prop:=t.kind=1\/t.kind=3\/t.kind=4\/t=D3 [70,65,76,83,69]\/t=D3 [84,82,85,69]\/t=C8 [40]
theorem c2Q {t:Tok} (h:c4G t):t≠D3 [83,73,90,69]/\a0u t=0/\opF t 4 23=0:=by
 have key:t.kind=1\/t.kind=3\/t.kind=4->t≠D3 [83,73,90,69]/\a0u t=0/\opF t 4 23=0:=by
  intro hk;have hm:∀ s,t≠D3 s:=by
   rintro s rfl;have:=a0c s;omega
  have ho:∀ o,t≠L7 o:=fun o=>hm _
  refine⟨hm _,?_,?_⟩
  ·unfold a0u
   rw[if_neg (hm _),if_neg (hm _),if_neg (hm _)]
  ·simp only[opF,if_neg (ho _)]
 rcases h with h | h | h | rfl | rfl | rfl
 ·exact key (.inl h)
 ·exact key (.inr (.inl h))
 ·exact key (.inr (.inr h))
 ·decide +kernel
 ·decide +kernel
 ·decide +kernel
theorem b4u (n:Int):G2 (a9k n)=true:=rfl
theorem b0v {n:Int} (h:0<=n/\n<=255):G2 (a4i n)=true:=by
 unfold G2 a4i;simp;omega
theorem a4g {s:B} (h:Go.Lx.name s=true):G2 (D1 s)=true:=by
 unfold G2 D1;simp[h]
theorem c2i:∀ o,o < 27->1<=o->G2 (L7 (o:Nat))=true:=by decide +kernel
theorem a6x {o:Int} (h:1<=o/\o<=26):G2 (L7 o)=true:=by
 have:=c2i o.toNat (by omega) (by omega);rwa [show((o.toNat:Nat):Int)=o by omega] at this
theorem b9j (o:Int):(L7 o).at_=0:=a0J _
theorem c9h:∀ o,o < 27->23<=o->(L7 (o:Nat)≠D3 [83,73,90,69])/\a0u (L7 (o:Nat))=0/\opF (L7 (o:Nat)) 4 23=o:=by decide +kernel
theorem c8y:∀ o,o < 23->1<=o->opF (L7 (o:Nat)) 22 1=o/\L7 (o:Nat)≠C8 [91]:=by decide +kernel
theorem b8O:∀ k,k < 4->1<=k->G2 (D3 (M7 (k:Nat)))=true/\D3 (M7 (k:Nat))≠D3 [83,73,90,69]/\a0u (D3 (M7 (k:Nat)))=k:=by decide +kernel
theorem b5T {s:B} {r:List Tok} (h:G2 (C8 s)=true) (hs:s≠[91]):a74 (C8 s::r):=by
 unfold a74;rw[H9 h rfl];intro q;exact hs (congrArg Tok.text q)
theorem c6x (r:List Tok):a8s (C8 [93]::r):=by
 unfold a8s;rw[H9 (by decide +kernel) rfl];decide +kernel
theorem c5F (r:List Tok):a8s (C8 [41]::r):=by
 unfold a8s;rw[H9 (by decide +kernel) rfl];decide +kernel
theorem c3N {f:Nat} {o s:B} {ts r:List Tok} {x:Ex} (ho:G2 (C8 o)=true) (hs:G2 (C8 s)=true) (h:a0H (W0 f) ts=.ok (x,C8 s::r)):W0 (f+1) o s (C8 o::ts)=.ok (x,r):=by
 unfold W0;rw[H9 ho rfl,if_pos rfl];show(match a0H (W0 f) ts with | .error e=>.error e | .ok (x,r)=>if C4 r=C8 s then .ok (x,r.tail) else .error 100:a0i)=_;rw[h];show(if C4 (C8 s::r)=C8 s then .ok (x,(C8 s::r).tail) else .error 100:a0i)=_;rw[H9 hs rfl,if_pos rfl];rfl
section
variable {e:Ex} (hF:Fine e)
include hF
theorem a8E (hn:-2147483648<=e.n/\e.n<=2147483647) (h:e.k=2):0<=e.n/\e.n<=255:=by
 have h1:=hF.ok;unfold E9 at h1;simp only[h] at h1;by_cases hb:a7l .i32 e.n 8=0
 ·exact(d24 hn).1 hb
 ·simp[hb] at h1
theorem a2R (h:e.k=4\/e.k=5\/e.k=9):Go.Lx.name e.s=true:=by
 have h1:=hF.ok;unfold E9 at h1;cases hb:Go.Lx.name e.s with
 | true=>rfl
 | false=>rcases h with h | h | h <;> simp[h,hb] at h1
theorem b5B (ho:0<=e.o/\e.o<=255) (h:e.k=6):23<=e.o/\e.o<=26:=by
 have h1:=hF.ok;unfold E9 at h1;simp only[h] at h1;by_cases h2:e.o < 23
 ·simp[h2] at h1
 ·have h3:=c3e (o:=e.o) (by omega)
  rw[h3] at h1;by_cases h4:e.o - 23 >= 4
  ·simp[h2,h4] at h1
  ·omega
theorem b6w (h:e.k=7):1<=e.o/\e.o<=22:=by
 have h1:=hF.ok;unfold E9 at h1;simp only[h] at h1;by_cases h2:e.o < 1
 ·simp[h2] at h1
 ·by_cases h4:e.o > 22
  ·simp[h2,h4] at h1
  ·omega
theorem b3d (h:e.k=8):1<=e.t/\e.t<=3:=by
 have h1:=hF.ok;unfold E9 at h1;simp only[h] at h1;by_cases h2:e.t=1
 ·omega
 by_cases h3:e.t=2
 ·omega
 by_cases h4:e.t=3
 ·omega
 simp[M7,h2,h3,h4] at h1
theorem b9y (h:e.k=1\/e.k=2\/e.k=3\/e.k=4\/e.k=9):e.l=[]:=by
 have h1:=hF.ok;have h2:=hF.num;have:(E9 e).1=0:=by
  unfold E9 at h1 ⊢;rcases h with h | h | h | h | h <;> simp only[h] at h1 ⊢ <;> (revert h1;simp) <;> split <;> simp
 rw[this] at h2;match hl:e.l with
 | []=>rfl
 | _::_=>rw[hl] at h2;simp at h2;omega
end
theorem b7g {e:Ex} (hF:Fine e):B0 e=(if e.k=1 then sx 1 0 0 e.n [] [] else if e.k=2 then sx 2 0 0 e.n [] [] else if e.k=3 then sx 3 0 0 e.n [] [] else if e.k=4 then sx 4 0 0 0 e.s []
 else if e.k=9 then sx 9 0 0 0 e.s [] else if e.k=5 then sx 5 0 0 0 e.s (e.l.map B0) else if e.k=6 then sx 6 e.o 0 0 [] (e.l.map B0) else if e.k=7 then sx 7 e.o 0 0 [] (e.l.map B0) else sx 8 0 e.t 0 [] (e.l.map B0)):=by
 have h1:=hF.ok;have hl:=b9y hF;rw[a0F];unfold E9 at h1;rcases a1O hF with h | h | h | h | h | h | h | h | h
 ·simp only[h] at h1 ⊢
  rw[hl (by omega)];simp[fin] at h1;simp[sx,h1]
 ·simp only[h] at h1 ⊢
  rw[hl (by omega)];revert h1
  simp only[show ¬ ((2:Int)=1) by decide,if_false,if_true];split
  ·intro h1;cases h1
  ·intro h1
   simp[fin] at h1;simp[sx,h1]
 ·simp only[h] at h1 ⊢
  rw[hl (by omega)];revert h1
  simp only[show ¬ ((3:Int)=1) by decide,show ¬ ((3:Int)=2) by decide,if_false,if_true];split
  ·intro h1;cases h1
  ·intro h1
   simp[fin] at h1;simp[sx,h1]
 ·simp only[h] at h1 ⊢
  rw[hl (by omega)];revert h1
  cases Go.Lx.name e.s
  ·simp
  ·intro h1
   simp[fin] at h1;simp[sx,h1]
 ·simp only[h] at h1 ⊢
  rw[hl (by omega)];revert h1
  cases Go.Lx.name e.s
  ·simp
  ·intro h1
   simp[fin] at h1;simp[sx,h1]
 ·simp only[h] at h1 ⊢
  revert h1
  cases Go.Lx.name e.s
  ·simp
  ·intro h1
   simp[fin] at h1;simp[sx,h1]
 ·simp only[h] at h1 ⊢
  revert h1
  simp only[show ¬ ((6:Int)=1) by decide,show ¬ ((6:Int)=2) by decide,show ¬ ((6:Int)=3) by decide,show ¬ ((6:Int)=4) by decide,show ¬ ((6:Int)=9) by decide,show ¬ ((6:Int)=5) by decide,if_false,if_true];split
  ·intro h1;cases h1
  ·intro h1
   simp[fin] at h1;simp[sx,h1]
 ·simp only[h] at h1 ⊢
  revert h1
  simp only[show ¬ ((7:Int)=1) by decide,show ¬ ((7:Int)=2) by decide,show ¬ ((7:Int)=3) by decide,show ¬ ((7:Int)=4) by decide,show ¬ ((7:Int)=9) by decide,show ¬ ((7:Int)=5) by decide,show ¬ ((7:Int)=6) by decide,if_false,if_true];split
  ·intro h1;cases h1
  ·intro h1
   simp[fin] at h1;simp[sx,h1]
 ·simp only[h] at h1 ⊢
  revert h1
  simp only[show ¬ ((8:Int)=1) by decide,show ¬ ((8:Int)=2) by decide,show ¬ ((8:Int)=3) by decide,show ¬ ((8:Int)=4) by decide,show ¬ ((8:Int)=9) by decide,show ¬ ((8:Int)=5) by decide,show ¬ ((8:Int)=6) by decide,show ¬ ((8:Int)=7) by decide,if_false,if_true];split
  ·intro h1;cases h1
  ·intro h1
   simp[fin] at h1;simp[sx,h1]
theorem b1f {e:Ex} (hF:Fine e) (hn:-2147483648<=e.n/\e.n<=2147483647) (rest:List Tok):c4G (C4 (D5 e++rest)):=by
 rcases a1O hF with h | h | h | h | h | h | h | h | h
 ·rw[show D5 e++rest=a9k e.n::rest by unfold D5 N3 par;rw[D4];simp[wr,h],H9 (b4u _) rfl]
  exact .inr (.inl rfl)
 ·rw[show D5 e++rest=a4i e.n::rest by unfold D5 N3 par;rw[D4];simp[wr,h],H9 (b0v (a8E hF hn h)) rfl]
  exact .inr (.inr (.inl rfl))
 ·rcases a8x hn hF h with h0 | h0
  ·rw[show D5 e++rest=D3 [70,65,76,83,69]::rest by unfold D5 N3 par;rw[D4];simp[wr,h,h0],H9 (by decide +kernel) (a0J _)]
   exact .inr (.inr (.inr (.inl rfl)))
  ·rw[show D5 e++rest=D3 [84,82,85,69]::rest by unfold D5 N3 par;rw[D4];simp[wr,h,h0],H9 (by decide +kernel) (a0J _)]
   exact .inr (.inr (.inr (.inr (.inl rfl))))
 ·rw[show D5 e++rest=D1 e.s::rest by unfold D5 N3 par;rw[D4];simp[wr,h],H9 (a4g (a2R hF (.inl h))) rfl]
  exact .inl rfl
 ·rw[show D5 e++rest=C8 [40]::((A8 e++[C8 [41]])++rest) by unfold D5 N3 par;simp[h],H9 (by decide +kernel) rfl]
  exact .inr (.inr (.inr (.inr (.inr rfl))))
 ·obtain⟨x,hx⟩:=V8 hF (.inl h)
  rw[show D5 e++rest=D1 e.s::(C8 [91]::(A8 x++[C8 [93]])++rest) by unfold D5 N3 par;rw[D4];simp[wr,h,hx,Q6],H9 (a4g (a2R hF (.inr (.inl h)))) rfl];exact .inl rfl
 ·rw[show D5 e++rest=C8 [40]::((A8 e++[C8 [41]])++rest) by unfold D5 N3 par;simp[h],H9 (by decide +kernel) rfl]
  exact .inr (.inr (.inr (.inr (.inr rfl))))
 ·rw[show D5 e++rest=C8 [40]::((A8 e++[C8 [41]])++rest) by unfold D5 N3 par;simp[h],H9 (by decide +kernel) rfl]
  exact .inr (.inr (.inr (.inr (.inr rfl))))
 ·rw[show D5 e++rest=C8 [40]::((A8 e++[C8 [41]])++rest) by unfold D5 N3 par;simp[h],H9 (by decide +kernel) rfl]
  exact .inr (.inr (.inr (.inr (.inr rfl))))
abbrev RdE (e:Ex):Prop:=∀ f,Dp (f+1) e->∀ rest,a74 rest->a8s rest->a0H (W0 f) (A8 e++rest)=.ok (B0 e,rest)
abbrev RdO (e:Ex):Prop:=∀ f,Dp (f+1) e->(par e.k=true->Dp f e)->∀ rest,a74 rest->Q2 (W0 f) (D5 e++rest)=.ok (B0 e,rest)
theorem a9Z {f:Nat} {ts r:List Tok} {x:Ex} (hs:c4G (C4 ts)) (ho:Q2 (W0 f) ts=.ok (x,r)):a0H (W0 f) ts=if opF (C4 r) 22 1≠0 then unQ (fun b=>sx 7 (opF (C4 r) 22 1) 0 0 [] [x,b]) (Q2 (W0 f) r.tail) else .ok (x,r):=by
 obtain⟨h1,h2,h3⟩:=c2Q hs;unfold a0H;simp only[if_neg h1,h2,h3,ho,ne_eq,not_true,if_false]
theorem c8o {f:Nat} {ts r:List Tok} {x:Ex} (h:W0 f [40] [41] (C8 [40]::ts)=.ok (x,r)):Q2 (W0 f) (C8 [40]::ts)=.ok (x,r):=by
 rw[M5 (H9 (by decide +kernel) rfl),if_neg (by decide),if_neg (by decide),if_neg (by decide +kernel),if_neg (by decide +kernel),if_neg (by decide),if_pos rfl];exact h
theorem c1T {e:Ex} (h:par e.k=true) (hE:RdE e):RdO e:=by
 intro f hd hp rest hb;obtain⟨k,rfl⟩:=(hp h).pos;have he:=hE k (hp h) (C8 [41]::rest) (b5T (by decide +kernel) (by decide)) (c5F rest);rw[show D5 e++rest=C8 [40]::(A8 e++C8 [41]::rest) by unfold D5 N3;rw[h];simp];exact c8o (c3N (by decide +kernel) (by decide +kernel) he)
theorem c3x {e:Ex} (hp:par e.k=false) (hF:Fine e) (hn:-2147483648<=e.n/\e.n<=2147483647) (hO:RdO e):RdE e:=by
 intro f hd rest hb ho;have h1:=hO f hd (fun q=>by rw[hp] at q;cases q) rest hb;have hs:=b1f hF hn rest;rw[show A8 e=D5 e by unfold D5 N3;rw[hp];rfl,a9Z hs h1,if_neg (fun q=>q ho)]
theorem c1u (e:Ex):Fine e->Wf e->RdE e/\RdO e:=by
 refine Ex.ind (p:=fun e=>Fine e->Wf e->RdE e/\RdO e) (fun e ih hF hW=>?_) e;obtain⟨⟨hk,hor,ht⟩,hn,hs⟩:=hW.spec;have fs:=b7g hF;have lit (hp:par e.k=false) (hO:RdO e):RdE e/\RdO e:=⟨c3x hp hF hn hO,hO⟩;have brk (hp:par e.k=true) (hE:RdE e):RdE e/\RdO e:=⟨hE,c1T hp hE⟩;rcases a1O hF with h | h | h | h | h | h | h | h | h
 ·refine lit (by simp[par,h]) fun f _ _ rest hb=>?_
  rw[show D5 e++rest=a9k e.n::rest by unfold D5 N3 par;rw[D4];simp[wr,h]];rw[M5 (H9 (b4u _) rfl),if_pos (show(a9k e.n).kind=3 from rfl),fs];simp[h];rfl
 ·refine lit (by simp[par,h]) fun f _ _ rest hb=>?_
  rw[show D5 e++rest=a4i e.n::rest by unfold D5 N3 par;rw[D4];simp[wr,h]];rw[M5 (H9 (b0v (a8E hF hn h)) rfl),if_neg (by show ¬ (4:Int)=3;decide),if_pos (show(a4i e.n).kind=4 from rfl),fs];simp[h];rfl
 ·refine lit (by simp[par,h]) fun f _ _ rest hb=>?_
  rcases a8x hn hF h with h0 | h0
  ·rw[show D5 e++rest=D3 [70,65,76,83,69]::rest by unfold D5 N3 par;rw[D4];simp[wr,h,h0]]
   rw[M5 (H9 (by decide +kernel) (a0J _)),if_neg (by decide +kernel),if_neg (by decide +kernel),if_pos rfl,fs];simp[h,h0]
  ·rw[show D5 e++rest=D3 [84,82,85,69]::rest by unfold D5 N3 par;rw[D4];simp[wr,h,h0]]
   rw[M5 (H9 (by decide +kernel) (a0J _)),if_neg (by decide +kernel),if_neg (by decide +kernel),if_neg (by decide +kernel),if_pos rfl,fs];simp[h,h0]
 ·refine lit (by simp[par,h]) fun f _ _ rest hb=>?_
  have hnm:∀ s,D1 e.s≠D3 s:=fun s q=>by
   have:=a0c s;rw[<- q] at this;rcases this with h | h <;> cases h
  rw[show D5 e++rest=D1 e.s::rest by unfold D5 N3 par;rw[D4];simp[wr,h]];rw[M5 (H9 (a4g (a2R hF (.inl h))) rfl),if_neg (by show ¬ (1:Int)=3;decide),if_neg (by show ¬ (1:Int)=4;decide),if_neg (hnm _),if_neg (hnm _),if_pos (show(D1 e.s).kind=1 from rfl),List.tail_cons,if_neg hb,fs];simp[h];rfl
 ·refine brk (by simp[par,h]) fun f _ rest hb ho=>?_
  rw[show A8 e++rest=D3 [83,73,90,69]::D1 e.s::rest by rw[D4];simp[wr,h]];rw[U2 (H9 (by decide +kernel) (a0J _)),if_pos rfl,List.tail_cons,H9 (a4g (a2R hF (.inr (.inr h)))) rfl,if_pos (show(D1 e.s).kind=1 from rfl),fs];simp[h];rfl
 ·obtain⟨x,hx⟩:=V8 hF (.inl h)
  have hxm:x ∈ e.l:=by rw[hx];exact List.Mem.head _
  obtain⟨iE,_⟩:=ih x hxm (hF.part hxm) (hW.part hxm);have hnm:∀ s,D1 e.s≠D3 s:=fun s q=>by
   have:=a0c s;rw[<- q] at this;rcases this with h | h <;> cases h
  refine lit (by simp[par,h]) fun f hd _ rest hb=>?_
  obtain⟨k,rfl⟩:=(hd.part hxm).pos;have he:=iE k (hd.part hxm) (C8 [93]::rest) (b5T (by decide +kernel) (by decide)) (c6x rest);have hi:W0 (k+1) [91] [93] (C8 [91]::(A8 x++C8 [93]::rest))=.ok (B0 x,rest):=c3N (by decide +kernel) (by decide +kernel) he;rw[show D5 e++rest=D1 e.s::C8 [91]::(A8 x++C8 [93]::rest) by unfold D5 N3 par;rw[D4];simp[wr,h,hx,Q6]];rw[M5 (H9 (a4g (a2R hF (.inr (.inl h)))) rfl),if_neg (by show ¬ (1:Int)=3;decide),if_neg (by show ¬ (1:Int)=4;decide),if_neg (hnm _),if_neg (hnm _),if_pos (show(D1 e.s).kind=1 from rfl),List.tail_cons,H9 (by decide +kernel) rfl,if_pos rfl,hi,fs];simp[h,hx];rfl
 ·obtain⟨x,hx⟩:=V8 hF (.inr (.inl h))
  have hxm:x ∈ e.l:=by rw[hx];exact List.Mem.head _
  obtain⟨_,iO⟩:=ih x hxm (hF.part hxm) (hW.part hxm);have hm:=b5B hF hor h;obtain⟨o,ho⟩:∃ o:Nat,e.o=o:=⟨e.o.toNat,by omega⟩;obtain⟨q1,q2,q3⟩:=c9h o (by omega) (by omega);refine brk (by simp[par,h]) fun f hd rest hb _=>?_
  have he:=iO f (hd.part hxm).up (fun _=>hd.part hxm) rest hb;rw[show A8 e++rest=L7 e.o::(D5 x++rest) by rw[D4];simp[wr,h,hx,Q6,D5]];rw[U2 (H9 (a6x (by omega)) (b9j _)),ho];simp only[if_neg q1,q2,q3,List.tail_cons,he,ne_eq,not_true,if_false];rw[if_pos (by omega),fs];simp[h,hx,ho,unQ]
 ·obtain⟨x,y,hx⟩:=a6C hF h
  have hxm:x ∈ e.l:=by rw[hx];exact List.Mem.head _
  have hym:y ∈ e.l:=by rw[hx];exact List.Mem.tail _ (List.Mem.head _)
  obtain⟨_,iO⟩:=ih x hxm (hF.part hxm) (hW.part hxm);obtain⟨_,jO⟩:=ih y hym (hF.part hym) (hW.part hym);have hm:=b6w hF h;obtain⟨o,ho⟩:∃ o:Nat,e.o=o:=⟨e.o.toNat,by omega⟩;obtain⟨q1,q2⟩:=c8y o (by omega) (by omega);refine brk (by simp[par,h]) fun f hd rest hb _=>?_
  have hnx:∀ r,C4 (L7 e.o::r)=L7 e.o:=fun r=>H9 (a6x (by omega)) (b9j _)
  have he:=iO f (hd.part hxm).up (fun _=>hd.part hxm) (L7 e.o::(D5 y++rest)) (by unfold a74;rw[hnx,ho];exact q2);have hf:=jO f (hd.part hym).up (fun _=>hd.part hym) rest hb;have hst:=b1f (hF.part hxm) (hW.part hxm).spec.2.1 (L7 e.o::(D5 y++rest));rw[show A8 e++rest=D5 x++(L7 e.o::(D5 y++rest)) by rw[D4];simp[wr,h,hx,Q6,D5],a9Z hst he,hnx,ho,q1,if_pos (by omega),List.tail_cons,hf,fs];simp[h,hx,ho,unQ]
 ·obtain⟨x,hx⟩:=V8 hF (.inr (.inr h))
  have hxm:x ∈ e.l:=by rw[hx];exact List.Mem.head _
  obtain⟨_,iO⟩:=ih x hxm (hF.part hxm) (hW.part hxm);have hm:=b3d hF h;obtain⟨o,ho⟩:∃ o:Nat,e.t=o:=⟨e.t.toNat,by omega⟩;obtain⟨q0,q1,q2⟩:=b8O o (by omega) (by omega);refine brk (by simp[par,h]) fun f hd rest hb _=>?_
  have he:=iO f (hd.part hxm).up (fun _=>hd.part hxm) rest hb;rw[show A8 e++rest=D3 (M7 e.t)::(D5 x++rest) by rw[D4];simp[wr,h,hx,Q6,D5]];rw[ho,U2 (H9 q0 (a0J _))];simp only[if_neg q1,q2,List.tail_cons,he,ne_eq];rw[if_pos (by omega),fs];simp[h,hx,ho,unQ]
abbrev a3L (u:Tok):Prop:=G2 u=true/\(-2147483648<=u.n/\u.n<=2147483647)
theorem z0:(-2147483648:Int)<=0/\(0:Int)<=2147483647:=by decide
theorem a2Z {s:B} (h:G2 (D3 s)=true):a3L (D3 s):=⟨h,by unfold D3;split <;> exact z0⟩
theorem a7W {s:B} (h:G2 (C8 s)=true):a3L (C8 s):=⟨h,z0⟩
theorem a6r {p:Bool × List Tok} (h:∀ u ∈ p.2,a3L u):∀ u ∈ N3 p,a3L u:=by
 unfold N3;split
 ·intro u hu
  rcases List.mem_cons.1 hu with rfl | hu
  ·exact a7W (by decide +kernel)
  ·rcases List.mem_append.1 hu with hu | hu
   ·exact h u hu
   ·rw[List.mem_singleton] at hu
    subst hu;exact a7W (by decide +kernel)
 ·exact h
theorem R4 {t:Tok} {l:List Tok} (h:a3L t) (hl:∀ u ∈ l,a3L u):∀ u ∈ t::l,a3L u:=fun u hu=>by
 rcases List.mem_cons.1 hu with rfl | hu
 ·exact h
 ·exact hl u hu
theorem b5C {k l:List Tok} (h:∀ u ∈ k,a3L u) (hl:∀ u ∈ l,a3L u):∀ u ∈ k++l,a3L u:=fun u hu=>by
 rcases List.mem_append.1 hu with hu | hu
 ·exact h u hu
 ·exact hl u hu
theorem a3o:∀ u ∈ ([]:List Tok),a3L u:=fun _ hu=>(List.not_mem_nil hu).elim
theorem a4z (e:Ex):Fine e->Wf e->∀ u ∈ A8 e,a3L u:=by
 refine Ex.ind (p:=fun e=>Fine e->Wf e->∀ u ∈ A8 e,a3L u) (fun e ih hF hW=>?_) e;obtain⟨⟨hk,hor,ht⟩,hn,hs⟩:=hW.spec;have nm (h:e.k=4\/e.k=5\/e.k=9):a3L (D1 e.s):=⟨a4g (a2R hF h),z0⟩;rcases a1O hF with h | h | h | h | h | h | h | h | h
 ·rw[show A8 e=[a9k e.n] by rw[D4];simp[wr,h]]
  exact R4 ⟨b4u _,hn⟩ a3o
 ·rw[show A8 e=[a4i e.n] by rw[D4];simp[wr,h]]
  exact R4 ⟨b0v (a8E hF hn h),hn⟩ a3o
 ·rcases a8x hn hF h with h0 | h0
  ·rw[show A8 e=[D3 [70,65,76,83,69]] by rw[D4];simp[wr,h,h0]]
   exact R4 (a2Z (by decide +kernel)) a3o
  ·rw[show A8 e=[D3 [84,82,85,69]] by rw[D4];simp[wr,h,h0]]
   exact R4 (a2Z (by decide +kernel)) a3o
 ·rw[show A8 e=[D1 e.s] by rw[D4];simp[wr,h]]
  exact R4 (nm (.inl h)) a3o
 ·rw[show A8 e=[D3 [83,73,90,69],D1 e.s] by rw[D4];simp[wr,h]]
  exact R4 (a2Z (by decide +kernel)) (R4 (nm (.inr (.inr h))) a3o)
 ·obtain⟨x,hx⟩:=V8 hF (.inl h)
  have hxm:x ∈ e.l:=by rw[hx];exact List.Mem.head _
  rw[show A8 e=D1 e.s::C8 [91]::(A8 x++[C8 [93]]) by rw[D4];simp[wr,h,hx,Q6]];exact R4 (nm (.inr (.inl h))) (R4 (a7W (by decide +kernel)) (b5C (ih x hxm (hF.part hxm) (hW.part hxm)) (R4 (a7W (by decide +kernel)) a3o)))
 ·obtain⟨x,hx⟩:=V8 hF (.inr (.inl h))
  have hxm:x ∈ e.l:=by rw[hx];exact List.Mem.head _
  have hm:=b5B hF hor h;rw[show A8 e=L7 e.o::N3 (par x.k,A8 x) by rw[D4];simp[wr,h,hx,Q6]];exact R4 (a2Z (a6x (by omega))) (a6r (ih x hxm (hF.part hxm) (hW.part hxm)))
 ·obtain⟨x,y,hx⟩:=a6C hF h
  have hxm:x ∈ e.l:=by rw[hx];exact List.Mem.head _
  have hym:y ∈ e.l:=by rw[hx];exact List.Mem.tail _ (List.Mem.head _)
  have hm:=b6w hF h;rw[show A8 e=N3 (par x.k,A8 x)++L7 e.o::N3 (par y.k,A8 y) by rw[D4];simp[wr,h,hx,Q6]];exact b5C (a6r (ih x hxm (hF.part hxm) (hW.part hxm))) (R4 (a2Z (a6x (by omega))) (a6r (ih y hym (hF.part hym) (hW.part hym))))
 ·obtain⟨x,hx⟩:=V8 hF (.inr (.inr h))
  have hxm:x ∈ e.l:=by rw[hx];exact List.Mem.head _
  have hm:=b3d hF h;obtain⟨o,ho⟩:∃ o:Nat,e.t=o:=⟨e.t.toNat,by omega⟩;rw[show A8 e=D3 (M7 e.t)::N3 (par x.k,A8 x) by rw[D4];simp[wr,h,hx,Q6],ho];exact R4 (a2Z (b8O o (by omega) (by omega)).1) (a6r (ih x hxm (hF.part hxm) (hW.part hxm)))
theorem b2W (e:Ex) (hF:Fine e):(A8 e).length≠0:=by
 rcases a1O hF with h | h | h | h | h | h | h | h | h
 ·simp[D4,wr,h]
 ·simp[D4,wr,h]
 ·simp only[D4,wr,h]
  simp;split <;> simp
 ·simp[D4,wr,h]
 ·simp[D4,wr,h]
 ·simp[D4,wr,h]
 ·simp[D4,wr,h]
 ·simp[D4,wr,h]
 ·simp[D4,wr,h]
theorem a2p {e:Ex} (hm:G3 e=true) (hW:Wf e) {rest:List Tok} (hb:a74 rest) (ho:a8s rest):M0 (A8 e++rest)=.ok (B0 e,(A8 e).length):=by
 have h:=(c1u e (a2u hm).1 hW).1 32 (c9W hm).up rest hb ho;unfold M0 a5d;rw[h];show(if G3 (B0 e) then Except.ok (B0 e,(A8 e++rest).length - rest.length) else .error 3)=_;rw[P0,hm,if_pos rfl,List.length_append,Nat.add_sub_cancel]
end
section
open Go.Eng Go
open Go.Ty (Tok C0)
open Go.Lx (G2)
set_option maxRecDepth 100000
def c9Q (rd:List Tok->a0i) (ok:List Tok->Prop) (sz:Ex->Nat):Prop:=
 ∀ ts x r,rd ts=.ok (x,r)->∃ p,(ts=p++r/\1<=p.length)/\sz x<=p.length/\∀ r',ok r'->rd (p++r')=.ok (x,r')
abbrev wl (x:Ex):Nat:=(A8 x).length
abbrev ol (x:Ex):Nat:=(D5 x).length
abbrev c8C (ins:B->B->List Tok->a0i):Prop:=∀ o s,s=[93]\/s=[41]->c9Q (ins o s) (fun _=>True) (fun x=>wl x+2)
theorem d0C (x:Ex):ol x<=wl x+2:=a4l (par x.k,A8 x)
theorem c2K {x:Ex} (h:par x.k=false):ol x=wl x:=by
 unfold ol wl D5 N3;rw[h];rfl
theorem d0V (x:Ex):wl x<=ol x:=by
 unfold wl ol D5 N3;split
 ·simp only[List.length_cons,List.length_append]
  omega
 ·exact Nat.le_refl _
theorem b5K:C4 []=zeroT:=rfl
theorem a1G (s:B):zeroT≠D3 s:=fun e=>by
 have hk:(0:Int)=(D3 s).kind:=congrArg Tok.kind e;rcases a0c s with h | h
 ·have:=hk.trans h;omega
 ·have:=hk.trans h;omega
theorem b5z {ins:B->B->List Tok->a0i}:Q2 ins []=.error 100:=by
 rw[M5 b5K,if_neg (by decide),if_neg (by decide),if_neg (a1G _),if_neg (a1G _),if_neg (by decide),if_neg (by decide)]
theorem c0M {ins:B->B->List Tok->a0i} (hi:c8C ins):c9Q (Q2 ins) a74 ol:=by
 intro ts x r h;cases ts with
 | nil=>rw[b5z] at h;cases h
 | cons t q=>
  obtain⟨u,hu⟩:∃ u,∀ q',C4 (t::q')=u:=⟨_,fun _=>rfl⟩;rw[M5 (hu q),List.tail_cons] at h;have one:∀ {x:Ex},wl x=1->par x.k=false->ol x<=[t].length:=fun h1 h2=>by rw[c2K h2,h1];exact Nat.le_refl 1
  by_cases k3:u.kind=3
  ·rw[if_pos k3] at h
   cases h;exact⟨[t],⟨rfl,Nat.le_refl 1⟩,one rfl rfl,fun r' _=>by rw[List.singleton_append,M5 (hu r'),if_pos k3];rfl⟩
  rw[if_neg k3] at h;by_cases k4:u.kind=4
  ·rw[if_pos k4] at h
   cases h;exact⟨[t],⟨rfl,Nat.le_refl 1⟩,one rfl rfl,fun r' _=>by rw[List.singleton_append,M5 (hu r'),if_neg k3,if_pos k4];rfl⟩
  rw[if_neg k4] at h;by_cases f:u=D3 [70,65,76,83,69]
  ·rw[if_pos f] at h
   cases h;exact⟨[t],⟨rfl,Nat.le_refl 1⟩,one rfl rfl,fun r' _=>by rw[List.singleton_append,M5 (hu r'),if_neg k3,if_neg k4,if_pos f];rfl⟩
  rw[if_neg f] at h;by_cases g:u=D3 [84,82,85,69]
  ·rw[if_pos g] at h
   cases h;exact⟨[t],⟨rfl,Nat.le_refl 1⟩,one rfl rfl,fun r' _=>by rw[List.singleton_append,M5 (hu r'),if_neg k3,if_neg k4,if_neg f,if_pos g];rfl⟩
  rw[if_neg g] at h;by_cases k1:u.kind=1
  ·rw[if_pos k1] at h
   by_cases b:C4 q=C8 [91]
   ·rw[if_pos b] at h
    cases hq:ins [91] [93] q with
    | error e=>rw[hq] at h;cases h
    | ok w=>
     obtain⟨y,r1⟩:=w;rw[hq] at h;cases h;obtain⟨p,⟨hp,hp1⟩,hs,hf⟩:=hi [91] [93] (.inl rfl) q y _ hq;refine⟨t::p,⟨by rw[hp];rfl,Nat.succ_le_succ (Nat.zero_le _)⟩,?_,fun r' _=>?_⟩
     ·rw[c2K rfl]
      show(D1 u.text::C8 [91]::(A8 y++[C8 [93]])).length<=(t::p).length;simp only[List.length_cons,List.length_append,List.length_nil];simp only[wl] at hs;omega
     ·have hb:C4 (p++r')=C8 [91]:=by
       rw[hp] at b;cases p with
       | nil=>exact absurd hp1 (by decide)
       | cons v w=>exact b
      rw[List.cons_append,M5 (hu _),if_neg k3,if_neg k4,if_neg f,if_neg g,if_pos k1,List.tail_cons,if_pos hb,hf r' trivial]
   ·rw[if_neg b] at h
    cases h;exact⟨[t],⟨rfl,Nat.le_refl 1⟩,one rfl rfl,fun r' hr=>by rw[List.singleton_append,M5 (hu r'),if_neg k3,if_neg k4,if_neg f,if_neg g,if_pos k1,List.tail_cons,if_neg hr]⟩
  rw[if_neg k1] at h;by_cases o:u=C8 [40]
  ·rw[if_pos o] at h
   obtain⟨p,⟨hp,hp1⟩,hs,hf⟩:=hi [40] [41] (.inr rfl) _ x r h;refine⟨p,⟨hp,hp1⟩,Nat.le_trans (d0C x) hs,fun r' _=>?_⟩;cases p with
   | nil=>exact absurd hp1 (by decide)
   | cons v w=>
    have hv:v=t:=(List.cons.inj hp).1.symm;subst hv;rw[List.cons_append,M5 (hu _),if_neg k3,if_neg k4,if_neg f,if_neg g,if_neg k1,if_pos o];exact hf r' trivial
  ·rw[if_neg o] at h
   cases h
theorem b7Q {mk:Ex->Ex} {p:a0i} {x:Ex} {r:List Tok} (h:unQ mk p=.ok (x,r)):∃ y,p=.ok (y,r)/\x=mk y:=by
 cases p with
 | error e=>cases h
 | ok q=>
  obtain⟨y,z⟩:=q;cases h;exact⟨y,rfl,rfl⟩
theorem a8J:∀ n o:Nat,opF zeroT n o=0
 | 0,_=>rfl
 | n+1,o=>by
  unfold opF;rw[if_neg (show zeroT≠L7 o from a1G _)];exact a8J n (o+1)
theorem c2F {ins:B->B->List Tok->a0i}:a0H ins []=.error 100:=by
 rw[U2 b5K,if_neg (a1G _),if_neg (by unfold a0u;rw[if_neg (a1G _),if_neg (a1G _),if_neg (a1G _)];decide),if_neg (by rw[a8J];decide),b5z]
theorem c3M {p:List Tok} (hp:1<=p.length) (r r':List Tok):C4 (p++r)=C4 (p++r'):=by
 cases p with
 | nil=>exact absurd hp (by decide)
 | cons t q=>rfl
theorem b2y {ins:B->B->List Tok->a0i} (hi:c8C ins):c9Q (a0H ins) (fun r=>a74 r/\a8s r) wl:=by
 have hO:=c0M hi;intro ts x r h;cases ts with
 | nil=>rw[c2F] at h;cases h
 | cons t q=>
  obtain⟨u,hu⟩:∃ u,∀ q',C4 (t::q')=u:=⟨_,fun _=>rfl⟩;rw[U2 (hu q),List.tail_cons] at h;by_cases k1:u=D3 [83,73,90,69]
  ·rw[if_pos k1] at h
   by_cases k2:(C4 q).kind=1
   ·rw[if_pos k2] at h
    cases q with
    | nil=>cases k2
    | cons v w=>
     cases h;refine⟨[t,v],⟨rfl,Nat.succ_le_succ (Nat.zero_le _)⟩,Nat.le_refl 2,fun r' _=>?_⟩;rw[show[t,v]++r'=t::v::r' from rfl,U2 (hu _),List.tail_cons,if_pos k1,if_pos (show(C4 (v::r')).kind=1 from k2)];rfl
   ·rw[if_neg k2] at h
    cases h
  rw[if_neg k1] at h;by_cases k2:a0u u≠0
  ·rw[if_pos k2] at h
   obtain⟨y,hy,rfl⟩:=b7Q h;obtain⟨p,⟨hp,hp1⟩,hs,hf⟩:=hO q y r hy;refine⟨t::p,⟨by rw[hp];rfl,Nat.succ_le_succ (Nat.zero_le _)⟩,?_,fun r' hr=>?_⟩
   ·show(D3 (M7 (a0u u))::D5 y).length<=(t::p).length
    exact Nat.succ_le_succ hs
   ·rw[List.cons_append,U2 (hu _),List.tail_cons,if_neg k1,if_pos k2,hf r' hr.1]
    rfl
  rw[if_neg k2] at h;by_cases k3:opF u 4 23≠0
  ·rw[if_pos k3] at h
   obtain⟨y,hy,rfl⟩:=b7Q h;obtain⟨p,⟨hp,hp1⟩,hs,hf⟩:=hO q y r hy;refine⟨t::p,⟨by rw[hp];rfl,Nat.succ_le_succ (Nat.zero_le _)⟩,?_,fun r' hr=>?_⟩
   ·show(L7 (opF u 4 23)::D5 y).length<=(t::p).length
    exact Nat.succ_le_succ hs
   ·rw[List.cons_append,U2 (hu _),List.tail_cons,if_neg k1,if_neg k2,if_pos k3,hf r' hr.1]
    rfl
  rw[if_neg k3] at h;cases hq:Q2 ins (t::q) with
  | error e=>rw[hq] at h;cases h
  | ok w=>
   obtain⟨a,r1⟩:=w;rw[hq] at h;obtain⟨p,⟨hp,hp1⟩,hs,hf⟩:=hO _ a r1 hq;have hd:∀ r',a0H ins (p++r')=match Q2 ins (p++r') with
    | .error e=>.error e
    | .ok (a,r)=>if opF (C4 r) 22 1≠0 then unQ (fun b=>sx 7 (opF (C4 r) 22 1) 0 0 [] [a,b]) (Q2 ins r.tail) else .ok (a,r):=fun r'=>by
    have hn:C4 (p++r')=u:=by rw[c3M hp1 r' r1,<- hp];exact hu q
    rw[U2 hn,if_neg k1,if_neg k2,if_neg k3] <;> rfl
   by_cases k4:opF (C4 r1) 22 1≠0
   ·replace h:=(if_pos k4).symm.trans h
    obtain⟨y,hy,rfl⟩:=b7Q h;cases r1 with
    | nil=>exact absurd (a8J 22 1) k4
    | cons v w=>
     obtain⟨p2,⟨hp2,hp21⟩,hs2,hf2⟩:=hO w y r hy;have hv:∀ w',C4 (v::w')=C4 (v::w):=fun _=>rfl
     have hb:∀ w',a74 (v::w'):=fun w' e=>by
      rw[hv,] at e;rw[e] at k4;exact k4 (by decide +kernel)
     refine⟨p++v::p2,⟨by rw[hp,hp2];simp,by rw[List.length_append];omega⟩,?_,fun r' hr=>?_⟩
     ·show(D5 a++L7 (opF (C4 (v::w)) 22 1)::D5 y).length<=_
      simp only[List.length_append,List.length_cons];simp only[ol] at hs hs2;omega
     ·rw[List.append_assoc,List.cons_append,hd,hf _ (hb _)]
      show(if opF (C4 (v::(p2++r'))) 22 1≠0 then unQ (fun b=>sx 7 (opF (C4 (v::(p2++r'))) 22 1) 0 0 [] [a,b]) (Q2 ins (v::(p2++r')).tail) else .ok (a,v::(p2++r')))=_;rw[hv,if_pos k4,List.tail_cons,hf2 r' hr.1];rfl
   ·replace h:=(if_neg k4).symm.trans h
    cases h;refine⟨p,⟨hp,hp1⟩,?_,fun r' hr=>?_⟩
    ·exact Nat.le_trans (d0V _) hs
    ·rw[hd,hf r' hr.1]
     exact if_neg (fun k=>k hr.2)
theorem b5x:∀ f,c8C (W0 f)
 | 0=>fun _ _ _ _ _ _ h=>by cases h
 | f+1=>fun o s ho ts x r h=>by
  unfold W0 at h;by_cases k1:C4 ts=C8 o
  ·rw[if_pos k1] at h
   cases ts with
   | nil=>cases congrArg Tok.kind k1
   | cons t q=>
    rw[List.tail_cons] at h;cases hq:a0H (W0 f) q with
    | error e=>rw[hq] at h;cases h
    | ok w=>
     obtain⟨y,r1⟩:=w;rw[hq] at h;by_cases k2:C4 r1=C8 s
     ·replace h:=(if_pos k2).symm.trans h
      cases r1 with
      | nil=>cases congrArg Tok.kind k2
      | cons v w=>
       cases h;obtain⟨p,⟨hp,hp1⟩,hs,hf⟩:=b2y (b5x f) q _ _ hq;have hv:∀ w',C4 (v::w')=C8 s:=fun _=>k2
       refine⟨t::(p++[v]),⟨by rw[hp];simp,Nat.succ_le_succ (Nat.zero_le _)⟩,?_,fun r' _=>?_⟩
       ·simp only[List.length_cons,List.length_append,List.length_nil]
        simp only[wl] at hs ⊢;omega
       ·have hno:a74 (v::r')/\a8s (v::r'):=by
         unfold a74 a8s;rw[hv];rcases ho with rfl | rfl <;> exact⟨by decide +kernel,by decide +kernel⟩
        rw[show t::(p++[v])++r'=t::(p++v::r') by simp];unfold W0;rw[if_pos (show C4 (t::(p++v::r'))=C8 o from k1),List.tail_cons,hf _ hno];exact if_pos k2
     ·replace h:=(if_neg k2).symm.trans h
      cases h
  ·rw[if_neg k1] at h
   cases h
abbrev Er (rd:List Tok->a0i):Prop:=∀ ts e,rd ts=.error e->e=100\/e=3
abbrev c9a (ins:B->B->List Tok->a0i):Prop:=∀ o s,Er (ins o s)
theorem c5B {ins:B->B->List Tok->a0i} (hi:c9a ins):Er (Q2 ins):=by
 intro ts e h;rw[M5 rfl] at h;repeat' split at h
 all_goals first | (cases h;done) | (cases h;rename_i h2;exact hi _ _ _ _ h2) | exact hi _ _ _ _ h | (cases h;exact .inl rfl)
theorem c9N {mk:Ex->Ex} {p:a0i} {e:Int} (h:unQ mk p=.error e):p=.error e:=by
 cases p with
 | error f=>cases h;rfl
 | ok q=>cases h
theorem b8J {ins:B->B->List Tok->a0i} (hi:c9a ins):Er (a0H ins):=by
 intro ts e h;have hO:=c5B hi;rw[U2 rfl] at h;repeat' split at h
 all_goals first | (cases h;done) | exact hO _ _ (c9N h) | (cases h;rename_i h2;exact hO _ _ h2) | (cases h;exact .inl rfl)
theorem c4E:∀ f,c9a (W0 f)
 | 0=>fun _ _ _ _ h=>by cases h;exact .inr rfl
 | f+1=>fun o s ts e h=>by
  unfold W0 at h;repeat' split at h
  all_goals first | (cases h;done) | (cases h;rename_i h2;exact b8J (c4E f) _ _ h2) | (cases h;exact .inl rfl)
theorem c3y {ts:List Tok} {x:Ex} {k:Nat} (h:M0 ts=.ok (x,k)):((1<=k/\k<=ts.length)/\G3 x=true)/\(A8 x).length<=k/\M0 (ts.take k)=.ok (x,k):=by
 unfold M0 at h;cases hq:a5d ts with
 | error e=>rw[hq] at h;cases h
 | ok w=>
  obtain⟨y,r⟩:=w;rw[hq] at h;by_cases hm:G3 y=true
  ·replace h:=(if_pos hm).symm.trans h
   cases h;obtain⟨p,⟨hp,hp1⟩,hs,hf⟩:=b2y (b5x 32) ts _ _ hq;have hl:ts.length - r.length=p.length:=by rw[hp,List.length_append];omega
   have ht:ts.take (ts.length - r.length)=p:=by rw[hl,hp,List.take_left]
   have he:=hf [] ⟨by unfold a74;decide +kernel,by unfold a8s;decide +kernel⟩;rw[List.append_nil] at he;refine⟨⟨⟨by omega,by omega⟩,hm⟩,by rw[hl];exact hs,?_⟩;rw[ht];unfold M0 a5d;rw[he];show(if G3 _ then Except.ok (_,p.length - 0) else .error 3)=_;rw[if_pos hm,hl,Nat.sub_zero]
  ·replace h:=(if_neg hm).symm.trans h
   cases h
theorem b4N {ts:List Tok} {e:Int} (h:M0 ts=.error e):e=100\/e=3:=by
 unfold M0 at h;cases hq:a5d ts with
 | error f=>
  rw[hq] at h;cases h;exact b8J (c4E 32) ts _ hq
 | ok w=>
  obtain⟨y,r⟩:=w;rw[hq] at h;by_cases hm:G3 y=true
  ·replace h:=(if_pos hm).symm.trans h
   cases h
  ·replace h:=(if_neg hm).symm.trans h
   cases h;exact .inr rfl
theorem b5b {ts:List Tok}:a1k ts<=ts.length:=by
 unfold a1k;cases h:M0 ts with
 | error e=>exact Nat.zero_le _
 | ok w=>exact(c3y h).1.1.2
end
end Go.Xp
namespace Go.Ty
section
open Go.Lx
theorem b1b {t:Ty} (h:may t=true) (h4:(t.kind != 4)=false):(t.item=0/\name t.proto=true)\/(is t.item=true/\t.proto=[]):=by
 have h4':t.kind=4:=by simpa using h4
 unfold may at h;split at h
 ·cases h
 ·rw[h4'] at h
  rw[if_neg (by decide),if_neg (by decide)] at h;split at h
  ·rename_i h0;exact .inl ⟨by simpa using h0,h⟩
  ·simp at h;exact .inr h
end
section
open Go.Lx
def B0 (x:Tok):Tok:={ x with at_:=0 }
def M (l:List Tok) (i:Nat) (y:Tok):Prop:=∃ x,l[i]?=some x/\B0 x=y
def begAt (l:List Tok):Nat->List Tok->Prop
 | _,[]=>True
 | i,y::w=>M l i y/\begAt l (i+1) w
theorem M.lt {l:List Tok} {i:Nat} {y:Tok} (a:M l i y):i < l.length:=by
 obtain⟨x,hx,_⟩:=a;exact(List.getElem?_eq_some_iff.1 hx).1
theorem a0j (l:List Tok):∀ (u w:List Tok) (i:Nat),begAt l i (u++w)↔begAt l i u/\begAt l (i+u.length) w
 | [],w,i=>by simp[begAt]
 | y::u,w,i=>by
  show(M l i y/\begAt l (i+1) (u++w))↔(M l i y/\begAt l (i+1) u)/\begAt l (i+(u.length+1)) w;rw[a0j l u w (i+1),and_assoc,show i+1+u.length=i+(u.length+1) by omega]
theorem a7x {l:List Tok} {i:Nat} {y:Tok}:M l i y↔i < l.length/\B0 (L4 l i)=y:=by
 constructor
 ·intro m
  have h:=m.lt;obtain⟨x,hx,e⟩:=m;rw[a3a h] at hx;cases hx;exact⟨h,e⟩
 ·rintro ⟨h,e⟩;exact⟨_,a3a h,e⟩
theorem O8 {l:List Tok} {i:Nat} {kd:Int} {s:B} (h3:kd≠3):next l i kd s=true↔M l i ⟨kd,0,s,0⟩:=by
 rw[a7x];unfold next a4V B0;generalize L4 l i=x;cases x;simp[h3];constructor
 ·rintro ⟨⟨⟨a,b⟩,c⟩,d⟩;exact⟨a,b,c,d⟩
 ·rintro ⟨a,b,c,d⟩;exact⟨⟨⟨a,b⟩,c⟩,d⟩
theorem c1A {l:List Tok} {i:Nat} {s:B}:next l i 3 s=true↔M l i ⟨3,0,s,(L4 l i).n⟩:=by
 rw[a7x];unfold next a4V B0;generalize L4 l i=x;cases x;simp;constructor
 ·rintro ⟨⟨a,b⟩,c⟩;exact⟨a,b,c⟩
 ·rintro ⟨a,b,c⟩;exact⟨⟨a,b⟩,c⟩
theorem a3C {l:List Tok} {i:Nat} {kd:Int} {s:B} {y:Tok} (m:M l i y) (h:y.kind≠kd\/y.text≠s):next l i kd s=false:=by
 cases hn:next l i kd s with
 | false=>rfl
 | true=>
  exfalso;obtain⟨_,e⟩:=a7x.1 m;subst e;unfold next a4V at hn;simp at hn;rcases h with h | h
  ·exact h hn.1.1.2
  ·exact h hn.1.2
theorem b00 (l:List Tok) (i:Nat):named l i=if next l i 2 c6n then some 1 else if next l i 2 b8N then some 2 else if next l i 2 b8Q then some 3 else none:=rfl
theorem is_three {k:Int} (h:is k=true):k=1\/k=2\/k=3:=by
 rw[is_eq] at h;unfold prim at h;simp at h;omega
theorem b0G {l:List Tok} {i:Nat} {k:Int} (h:named l i=some k):is k=true/\M l i (a2y (wordS k).1):=by
 rw[b00] at h;split at h
 ·cases h;rename_i hn;exact⟨by decide,(O8 (by decide)).1 hn⟩
 ·split at h
  ·cases h;rename_i hn;exact⟨by decide,(O8 (by decide)).1 hn⟩
  ·split at h
   ·cases h;rename_i hn;exact⟨by decide,(O8 (by decide)).1 hn⟩
   ·cases h
theorem b5w {l:List Tok} {i:Nat} {k:Int} (h:is k=true) (m:M l i (a2y (wordS k).1)):named l i=some k:=by
 rw[b00];rcases is_three h with rfl | rfl | rfl
 ·have m':M l i (a2y c6n):=m
  rw[if_pos ((O8 (by decide)).2 m')]
 ·have m':M l i (a2y b8N):=m
  rw[if_neg (by rw[a3C m' (.inr (by decide))];decide),if_pos ((O8 (by decide)).2 m')]
 ·have m':M l i (a2y b8Q):=m
  rw[if_neg (by rw[a3C m' (.inr (by decide))];decide),if_neg (by rw[a3C m' (.inr (by decide))];decide),if_pos ((O8 (by decide)).2 m')]
theorem b0E {l:List Tok} {i:Nat} {y:Tok} (m:M l i y) (h:y.kind≠2\/(y.text≠c6n/\y.text≠b8N/\y.text≠b8Q)):named l i=none:=by
 rw[b00];rw[if_neg (by rw[a3C m (h.imp_right fun h=>h.1)];decide),if_neg (by rw[a3C m (h.imp_right fun h=>h.2.1)];decide),if_neg (by rw[a3C m (h.imp_right fun h=>h.2.2)];decide)]
inductive Shape (t:Ty):Prop where
 | plain (k d:Int) (hk:is k=true) (e:t=⟨k,d,0,[]⟩)
 | timer (e:t=⟨5,0,0,[]⟩)
 | item (k d:Int) (hk:is k=true) (e:t=⟨4,d,k,[]⟩)
 | proto (s:B) (d:Int) (hs:name s=true) (e:t=⟨4,d,0,s⟩)
theorem may_shape {t:Ty} (h:may t=true):Shape t:=by
 obtain⟨k,d,i,s⟩:=t;by_cases hk:is k=true
 ·unfold may at h
  split at h
  ·cases h
  ·simp only[Bool.and_eq_true,beq_iff_eq] at h
   obtain⟨rfl,rfl⟩:=h;exact .plain k d hk rfl
 ·by_cases h4:k=4
  ·subst h4
   rcases b1b h (by simp) with ⟨h0,hn⟩ | ⟨hi,h0⟩
   ·simp only at h0 hn;subst h0;exact .proto s d hn rfl
   ·simp only at h0 hi;subst h0;exact .item i d hi rfl
  ·unfold may at h
   split at h
   ·cases h
   ·rw[if_pos (by simpa using h4),eqT_iff] at h
    exact .timer h
theorem b7j (k d:Int) (hk:is k=true):toks ⟨k,d,0,[]⟩=dimT ⟨k,d,0,[]⟩++[a2y (wordS k).1]:=by
 unfold toks;rw[List.append_assoc];rcases is_three hk with rfl | rfl | rfl <;> rfl
theorem b86 (k d:Int) (hk:is k=true):toks ⟨4,d,k,[]⟩=dimT ⟨4,d,k,[]⟩++[a2y a3B,a2y cOF,a2y (wordS k).1]:=by
 unfold toks;rw[List.append_assoc];rcases is_three hk with rfl | rfl | rfl <;> rfl
theorem c7B {s:B} (h:name s=true):s≠[]:=by rintro rfl;cases h
theorem b6Z (s:B) (d:Int) (hs:name s=true):toks ⟨4,d,0,s⟩=dimT ⟨4,d,0,s⟩++[a2y a3B,a2y cOF,⟨1,0,s,0⟩]:=by
 unfold toks;rw[List.append_assoc];unfold lastT;have:(s==[])=false:=by simpa using c7B hs
 simp only[this];rfl
theorem c2A {t:Ty} (h:may t=true):∃ s w,toks t=dimT t++a2y s::w:=by
 cases may_shape h with
 | plain k d hk e=>subst e;exact⟨_,_,b7j k d hk⟩
 | timer e=>subst e;exact⟨_,_,rfl⟩
 | item k d hk e=>subst e;exact⟨_,_,b86 k d hk⟩
 | proto s d hs e=>subst e;exact⟨_,_,b6Z s d hs⟩
theorem c9c {t:Ty} (l:List Tok) (h:may t=true) (hb:begAt l 0 (toks t)):pre l=(true,t.dim,(dimT t).length):=by
 have hd:=may_dim h;obtain⟨s,w,e⟩:=c2A h;rw[e,a0j] at hb;by_cases h0:t.dim=0
 ·have ed:dimT t=[]:=by unfold dimT;rw[h0];rfl
  rw[ed] at hb ⊢;rw[c4H (a3C hb.2.1 (.inl (show(2:Int)≠5 by decide))),h0];rfl
 ·have ed:dimT t=[C8 lb,⟨3,0,[],t.dim⟩,C8 rb]:=by unfold dimT;rw[if_pos (by simp;omega)]
  rw[ed] at hb ⊢;obtain⟨⟨m0,m1,m2,_⟩,_⟩:=hb;have en:(L4 l 1).n=t.dim:=by
   obtain⟨_,e1⟩:=a7x.1 m1;exact congrArg Tok.n e1
  rw[b7U ((O8 (by decide)).2 m0) (c1A.2 (by rw[en];exact m1)),en,(O8 (by decide)).2 m2];have:decide (t.dim > 0)=true:=by simp;omega
  rw[this];rfl
theorem b2u {l:List Tok} {d:Int} {n:Nat} {k:Int} (hP:pre l=(true,d,n)) (hn:named l n=some k):mid l=(true,⟨k,d,0,[]⟩,n+1):=by
 unfold mid;rw[hP];simp only[hn]
theorem b04 {l:List Tok} {d:Int} {n:Nat} (hP:pre l=(true,d,n)) (m0:M l n (a2y a3B)) (m1:M l (n+1) (a2y cOF)):mid l=(match named l (n+2) with
 | some k=>(true,⟨4,d,k,[]⟩,n+3)
 | none=>if decide ((n+2:Nat) < (l.length:Int))&&next l (n+2) 1 (L4 l (n+2)).text then (true,⟨4,d,0,(L4 l (n+2)).text⟩,n+3) else (true,⟨4,d,0,[]⟩,n+2)):=by
 unfold mid;rw[hP];simp only[b0E m0 (.inr (by decide)),(O8 (show(2:Int)≠3 by decide)).2 m0,(O8 (show(2:Int)≠3 by decide)).2 m1,if_true];cases named l (n+2) <;> rfl
theorem front_of {t:Ty} {l:List Tok} (h:may t=true) (hb:begAt l 0 (toks t)):front l=(t,(toks t).length,0):=by
 have hP:=c9c l h hb;have hM:mid l=(true,t,(toks t).length):=by
  cases may_shape h with
  | plain k d hk e=>
   subst e;rw[b7j k d hk] at hb ⊢;rw[a0j,Nat.zero_add] at hb;rw[b2u hP (b5w hk hb.2.1),List.length_append];rfl
  | timer e=>
   subst e;have m:M l 0 (a2y a5z):=hb.1;exact b3o hP (b0E m (.inr (by decide))) (a3C m (.inr (by decide))) ((O8 (by decide)).2 m)
  | item k d hk e=>
   subst e;rw[b86 k d hk] at hb ⊢;rw[a0j,Nat.zero_add] at hb;obtain⟨_,m0,m1,m2,_⟩:=hb;rw[b04 hP m0 m1,b5w hk m2,List.length_append];rfl
  | proto s d hs e=>
   subst e;rw[b6Z s d hs] at hb ⊢;rw[a0j,Nat.zero_add] at hb;obtain⟨_,m0,m1,m2,_⟩:=hb;have m2':M l ((dimT ⟨4,d,0,s⟩).length+2) ⟨1,0,s,0⟩:=m2;have et:(L4 l ((dimT ⟨4,d,0,s⟩).length+2)).text=s:=congrArg Tok.text (a7x.1 m2').2;have hlt:=m2'.lt;rw[b04 hP m0 m1,b0E m2' (.inl (show(1:Int)≠2 by decide)),et];have c:(decide ((((dimT ⟨4,d,0,s⟩).length+2:Nat):Int) < (l.length:Int))&&next l ((dimT ⟨4,d,0,s⟩).length+2) 1 s)=true:=by
    rw[(O8 (by decide)).2 m2',Bool.and_true];exact decide_eq_true (by omega)
   simp only[c,if_true,List.length_append];rfl
 exact b2O hM (by rw[h];rfl)
theorem b4r {l:List Tok} {d:Int} {n:Nat} (h:pre l=(true,d,n)) (t:Ty) (e:t.dim=d):n=(dimT t).length/\begAt l 0 (dimT t):=by
 by_cases h0:next l 0 5 lb=true
 ·by_cases h1:next l 1 3 []=true
  ·rw[b7U h0 h1] at h
   simp only[Prod.mk.injEq] at h;obtain⟨hc,hd,hn⟩:=h;rw[hc] at hn;simp only[Bool.and_eq_true,decide_eq_true_eq] at hc;have ed:dimT t=[C8 lb,⟨3,0,[],t.dim⟩,C8 rb]:=by unfold dimT;rw[if_pos (by simp;omega)]
   rw[ed];refine⟨hn.symm,(O8 (by decide)).1 h0,?_,(O8 (by decide)).1 hc.2,trivial⟩;rw[e,<- hd];exact c1A.1 h1
  ·rw[c3S h0 (by simpa using h1)] at h
   cases h
 ·rw[c4H (by simpa using h0)] at h
  cases h;have ed:dimT t=[]:=by unfold dimT;rw[e];rfl
  rw[ed];exact⟨rfl,trivial⟩
theorem c90 {l:List Tok} {t:Ty} {n:Nat} (h:mid l=(true,t,n)) (hm:may t=true):begAt l 0 (toks t):=by
 obtain⟨⟨b,d,n0⟩,hP⟩:∃ p,pre l=p:=⟨_,rfl⟩;cases b with
 | false=>unfold mid at h;rw[hP] at h;cases h
 | true=>
  cases hn:named l n0 with
  | some k=>
   rw[b2u hP hn] at h;cases h;obtain⟨hk,m⟩:=b0G hn;obtain⟨e,hb⟩:=b4r hP ⟨k,d,0,[]⟩ rfl;rw[b7j k d hk,a0j];subst e;exact⟨hb,by rw[Nat.zero_add];exact m,trivial⟩
  | none=>
   cases hc:next l n0 2 a3B with
   | true=>
    have m0:M l n0 (a2y a3B):=(O8 (by decide)).1 hc;cases ho:next l (n0+1) 2 cOF with
    | false=>
     unfold mid at h;rw[hP] at h;simp only[hn,hc,ho,if_true,Bool.false_eq_true,if_false] at h;cases h
    | true=>
     have m1:M l (n0+1) (a2y cOF):=(O8 (by decide)).1 ho;rw[b04 hP m0 m1] at h;cases hk:named l (n0+2) with
     | some k=>
      rw[hk] at h;cases h;obtain⟨hk,m2⟩:=b0G hk;obtain⟨e,hb⟩:=b4r hP ⟨4,d,k,[]⟩ rfl;rw[b86 k d hk,a0j];subst e;rw[Nat.zero_add];exact⟨hb,m0,m1,m2,trivial⟩
     | none=>
      rw[hk] at h;simp only at h;split at h
      ·rename_i hx
       simp only[Bool.and_eq_true] at hx;have m2:=(O8 (show(1:Int)≠3 by decide)).1 hx.2;cases h;have hs:name (L4 l (n0+2)).text=true:=by
        rcases b1b hm rfl with ⟨_,hs⟩ | ⟨hi,_⟩
        ·exact hs
        ·cases hi
       obtain⟨e,hb⟩:=b4r hP ⟨4,d,0,(L4 l (n0+2)).text⟩ rfl;rw[b6Z _ d hs,a0j];rw[<- e,Nat.zero_add];exact⟨hb,m0,m1,m2,trivial⟩
      ·cases h
       rcases b1b hm rfl with ⟨_,hs⟩ | ⟨hi,_⟩
       ·cases hs
       ·cases hi
   | false=>
    cases ht:next l n0 2 a5z with
    | true=>
     rw[b3o hP hn hc ht] at h;cases h;have e5:(⟨5,d,0,[]⟩:Ty)=timer:=by
      cases may_shape hm with
      | plain k d hk e=>cases e;cases hk
      | timer e=>exact e
      | item k d hk e=>cases e
      | proto s d hs e=>cases e
     rw[e5];cases e5;obtain⟨e,_⟩:=b4r hP timer rfl;subst e;exact⟨(O8 (by decide)).1 ht,trivial⟩
    | false=>
     rw[b9b hP hn hc ht] at h;cases h;cases may_shape hm with
     | plain k d hk e=>cases e;cases hk
     | timer e=>cases e
     | item k d hk e=>cases e
     | proto s d hs e=>cases e
theorem front_to (l:List Tok):front l=(zeroT,0,90)\/∃ t,may t=true/\begAt l 0 (toks t)/\front l=(t,(toks t).length,0):=by
 obtain⟨⟨ok,t,n⟩,hM⟩:∃ p,mid l=p:=⟨_,rfl⟩;by_cases hc:(!ok||!may t)=true
 ·exact .inl (b5O hM hc)
 ·simp at hc
  obtain⟨rfl,hm⟩:=hc;have hb:=c90 hM hm;exact .inr ⟨t,hm,hb,front_of hm hb⟩
end
end Go.Ty
namespace Go.Sx
section
open Go.Eng Go.Pc Go
open Go.Xp hiding B
open Go.Ty (Ty Vr Tok)
def stL (s:Sli Ex):Sli Ex:=sl (s.l.map B0)
def stR (r:Rp):Rp:=⟨r.name,B0 r.base,B0 r.count⟩
def a0I (x:Vr):Vr:=vrM x.tag x.items
mutual
def stP:Pr->Pr
 | .mk k n ch tg ex rep _ _ gl _ _ ll pn sp=>.mk k n (B0 ch) (stL tg) (stL ex) (stR rep) none 0 (c6o gl) none 0 (b9t ll) (sl pn.l) (stS sp)
def b9t:List Pr->List Pr
 | []=>[]
 | x::r=>stP x::b9t r
def stG:Gu->Gu
 | .mk k n cond ch tg vl time _ _ bl=>.mk k n (B0 cond) (B0 ch) (stL tg) (stL vl) (B0 time) none 0 (b9t bl)
def c6o:List Gu->List Gu
 | []=>[]
 | x::r=>stG x::c6o r
def stS:Sp->Sp
 | .mk k ty names e cs vs fs _ _ bl=>.mk k ty (sl names.l) (B0 e) cs (sl (vs.l.map a0I)) (sl fs.l) none 0 (b9t bl)
end
theorem a5u:∀ l:List Pr,b9t l=l.map stP
 | []=>rfl
 | x::r=>by rw[b9t,a5u r];rfl
theorem a9I:∀ l:List Gu,c6o l=l.map stG
 | []=>rfl
 | x::r=>by rw[c6o,a9I r];rfl
theorem X9 (e:Ex):G1 (B0 e)=G1 e:=by unfold G1;rw[P0];cases e;rfl
theorem c4A {k:Int} {s:B} {ts:List Tok} (h:isM k s ts=true):∃ t r,ts=t::r/\t.kind=k/\t.text=s:=by
 cases ts with
 | nil=>cases h
 | cons t r=>
  have h':((t.kind==k)&&(t.text==s))=true:=h;simp only[Bool.and_eq_true,beq_iff_eq] at h';exact⟨t,r,rfl,h'.1,h'.2⟩
theorem c7j {k:Int} {s:B} {ts:List Tok} (h:isM k s ts=true):0 < ts.length:=by
 obtain⟨t,r,rfl,_⟩:=c4A h;exact Nat.succ_pos _
theorem b5H (ts:List Tok):U3 ts=if (ts.getD 0 Go.Ty.zeroK).kind=1 then .ok ((ts.getD 0 Go.Ty.zeroK).text,ts.tail) else .error 110:=by
 cases ts with
 | nil=>rfl
 | cons t r=>rfl
theorem b5A (ts:List Tok):I8 ts=if a6V ts=0 then .ok (a9E ts,ts.drop (a1k ts)) else .error 110:=by
 unfold I8 a6V a9E a1k;cases hf:M0 ts with
 | ok x=>obtain⟨x,k⟩:=x;rfl
 | error e=>
  rcases b4N hf with rfl | rfl <;> rfl
theorem a8S (ts:List Tok):G5 ts=if (ts.getD 0 Go.Ty.zeroK).kind=1 then O2 (I8 ts) fun x r=>if G1 x then .ok (x,r) else .error 110 else .error 110:=by
 cases ts <;> rfl
open Go.Ty in
theorem b6M (l:List Tok):∀ (w:List Tok) (i:Nat),begAt l i w->i<=l.length->i+w.length<=l.length
 | [],i,_,hi=>hi
 | y::w,i,h,_=>by
  obtain⟨h1,h2⟩:=(a0j l [y] w i).1 h;have h3:=b6M l w (i+1) h2 (by
   have:=M.lt h1.1;omega)
  simp only[List.length_cons];omega
theorem c9J (ts:List Tok):(Go.Ty.front ts).2.1<=ts.length:=by
 rcases Go.Ty.front_to ts with h | ⟨t,hm,hb,h⟩
 ·rw[h];exact Nat.zero_le _
 ·rw[h]
  have:=b6M ts _ 0 hb (Nat.zero_le _);simpa using this
theorem b8F {t:Ty} (h:Go.Ty.may t=true):TyW t:=by
 have hd:=Go.Ty.may_dim h;cases Go.Ty.may_shape h with
 | plain k d hk e=>
  subst e;have:=Go.Ty.is_three hk;exact⟨by simp only;omega,by simp only;omega,by simp only at hd ⊢;omega,Nat.zero_le _⟩
 | timer e=>
  subst e;exact⟨by decide,by decide,by decide,Nat.zero_le _⟩
 | item k d hk e=>
  subst e;have:=Go.Ty.is_three hk;exact⟨by simp only;omega,by simp only;omega,by simp only at hd ⊢;omega,Nat.zero_le _⟩
 | proto s d hs e=>
  subst e;refine⟨by simp only;omega,by simp only;omega,by simp only at hd ⊢;omega,?_⟩;unfold Go.Lx.name at hs;simp only[Bool.and_eq_true,decide_eq_true_eq] at hs;have:=hs.1.1.1.2;show s.length<=Big;unfold Big;omega
theorem d1I (ts:List Tok):TyW (Go.Ty.front ts).1:=by
 rcases Go.Ty.front_to ts with h | ⟨t,hm,hb,h⟩
 ·rw[h];exact⟨by decide,by decide,by decide,Nat.zero_le _⟩
 ·rw[h];exact b8F hm
end
end Go.Sx
namespace Go.Eng
section
open Go Go.RowKit
section
variable {P:Program} {ops:Array Oper} {Q:Exit->Act->World->Prop} {n:Cx} {F:Fm} {h h':List Res} {m:View} {rest:List Oper}
variable {op:Op} {ty:TypeId} {pos:String} {after:Array Edge} {d:Nat} {v v2:Value}
end
end
section
open Go Go.RowKit
section
variable {P:Program} {m m':View} {h h':List Res} {w w':World}
end
section
variable {P:Program} {ops:Array Oper} {Q:Exit->Act->World->Prop} {n:Cx} {F:Fm} {h h':List Res} {m:View} {rest:List Oper}
variable {ty:TypeId} {pos:String} {after:Array Edge} {dst:Option Tmp} {g:Option (Nat × Bool)} {d:Nat}
theorem d0U (a:Option Addr) (cap sz:Nat) (h:a=none\/∃ b off,a=some ⟨b,off,none⟩):sl1 a 0 cap sz=a:=by
 unfold sl1;split
 ·rfl
 ·rcases h with rfl | ⟨b,off,rfl⟩
  ·rfl
  ·simp[Addr.add_lit]
theorem CT.know {f:FuncId} {args:List Value} {R:Value->View->List Res->Prop} {A:Prop} (he:∀ as w,(callFunc f as).run P w=.ok (.enter f as) w) (ha:∀ w,St m h w->A) (k:A->CT P f args h m R):CT P f args h m R:=
 ⟨he,fun w hs=>(k (ha w hs)).calls w hs⟩
theorem CT.knowRow {f:FuncId} {args:List Value} {R:Value->View->List Res->Prop} {a:Option Addr} {k cap sz:Nat} {e:TypeId} {ys:List Value} (he:∀ as w,(callFunc f as).run P w=.ok (.enter f as) w) (hm:Res.row (.slice a k cap) e sz k ys ∈ h)
 (kk:k<=cap->cap<=9223372036854775807->ys.length=k * sz->CT P f args h m R):CT P f args h m R:=
 CT.know he (fun _ st=>b0h (st.ok _ hm)) fun ⟨h1,h2,h3⟩=>kk h1 h2 h3
end
end
section
open Go Go.RowKit
theorem b3f (a b:ByteArray):(a==b)=(a.data==b.data):=rfl
theorem c5P {n k:List UInt8} (h:¬ n=k):((⟨n.toArray⟩:ByteArray)==⟨k.toArray⟩)=false:=by
 rw[b3f];exact beq_eq_false_iff_ne.2 fun e=>h (by simpa using e)
theorem b3T (n:List UInt8):((⟨n.toArray⟩:ByteArray)==⟨n.toArray⟩)=true:=by
 rw[b3f];exact beq_self_eq_true _
structure MapS (es:Array MapEntry) (ks:List (List UInt8)):Prop where
 a:∀ e ∈ es.toList,∃ n,e.key=str n/\e.val=.bool true/\n ∈ ks
 b:∀ n ∈ ks,∃ e ∈ es.toList,e.key=str n
section
variable {P:Program} {ops:Array Oper} {Q:Exit->Act->World->Prop} {n:Cx} {F:Fm} {h h':List Res} {m:View} {rest:List Oper}
variable {ty:TypeId} {pos:String} {after:Array Edge} {dst:Option Tmp} {g:Option (Nat × Bool)} {d:Nat}
end
section
variable {P:Program} {ops:Array Oper} {Q:Exit->Act->World->Prop} {n:Cx} {F:Fm} {m:View} {eff:List Nat} {t:Tl} {hs hp:List Res}
variable {ty:TypeId} {pos:String} {after:Array Edge} {d:Nat}
abbrev b6e (e:TypeId) (sz:Nat):Res:=.row (.slice none 0 0) e sz 0 []
theorem St.insNil (e:TypeId) (sz:Nat) {fr l1 l2 hs:List Res} {w:World} (s:St m (fr++((l1++l2)++hs)) w):St m (fr++((l1++b6e e sz::l2)++hs)) w:=by
 refine(s.addNil e sz).perm ?_;have h1:(fr++((l1++b6e e sz::l2)++hs)).Perm (b6e e sz::(fr++((l1++l2)++hs))):=by
  refine(List.Perm.append_left fr ((List.perm_middle (l₁:=l1) (l₂:=l2)).append_right hs)).trans ?_;exact List.perm_middle
 exact h1.symm
theorem a7F (e:TypeId) (sz:Nat) {l1 l2:List Res}:∀ (r:List Fl) {F:Fm} {fr:List Res},a3A P ops Q n t r F (fr++((l1++b6e e sz::l2)++hs)) m->a3A P ops Q n t r F (fr++((l1++l2)++hs)) m
 | [],_,_,h=>WL.mk fun a w ha st=>h.e a w ha (st.insNil e sz)
 | (_,_,_)::r,_,fr,h=>fun b=>a7F e sz r (fr:=_::fr) (h b)
theorem a5M.imp {r:Result Next} {R R':Value->World->Prop} {X:List PanicEntry->World->Prop} (h:a5M P r R X) (k:∀ v w,R v w->R' v w):a5M P r R' X:=by
 cases r with
 | ok x w=>
  cases x with
  | value v=>exact k _ _ h
  | skip=>exact k _ _ h
  | enter f args=>
   refine Calls.mono h fun e w' q=>?_
   rcases q with ⟨v,rfl,hv⟩ | q
   ·exact .inl ⟨v,rfl,k v w' hv⟩
   ·exact .inr q
  | _=>exact h
 | halt _ _=>exact h
theorem SRr.insNil (e:TypeId) (sz:Nat) {l1 l2:List Res}:∀ (T:Tr) {F:Fm},SRr P ops Q n eff t hs T F (l1++b6e e sz::l2) m->SRr P ops Q n eff t hs T F (l1++l2) m
 | .nil,_,h=>a7F e sz t.fl (fr:=[]) h
 | .alt a b,_,h=>⟨SRr.insNil e sz a h.1,SRr.insNil e sz b h.2⟩
 | .op i s,_,h=>by
  obtain⟨o,ho,hd,h⟩:=h;refine⟨o,ho,hd,?_⟩;have hsub:(l1++l2).Sublist (l1++b6e e sz::l2):=(List.sublist_cons_self _ _).append_left l1;cases he:eff.contains i with
  | false=>
   rw[he] at h;obtain⟨v,pg,hk⟩:=h;exact⟨v,pg,SRr.insNil e sz s hk⟩
  | true=>
   rw[he] at h;dsimp only at h ⊢;cases hr:a7a o with
   | true=>
    rw[hr] at h;obtain⟨v,pg,hk⟩:=h;exact⟨v,⟨fun a w ha st=>pg.e a w ha (St.insNil e sz (fr:=[]) st)⟩,SRr.insNil e sz s hk⟩
   | false=>
    rw[hr] at h;dsimp only at h ⊢;have sat:∀ {G:Fm} {l:List Res},Sat n hs G (l++l2) m->Sat n hs G (l++b6e e sz::l2) m:=fun ⟨fr,a,w,ha,st⟩=>⟨fr,a,w,ha,st.insNil e sz⟩
    cases hmk:a4R o&&eff.contains 4096 with
    | true=>
     rw[hmk] at h;exact⟨fun s a ha=>h.ex (sat s) a ha,fun a ha k cs el hout b s'=>SRr.insNil e sz (l1:=_::l1) s (h.k a ha k cs el hout b (sat (l:=_::l1) s'))⟩
    | false=>
    rw[hmk] at h;dsimp only at h ⊢;refine⟨fun fr a w ha st=>?_⟩;obtain⟨h1,h2⟩:=h.e fr a w ha (St.insNil e sz st);refine⟨fun hw=>(h1 hw).imp fun v w' q=>?_,fun hw=>?_⟩
    ·obtain⟨m',hp',q1,q2,q3,q4⟩:=q
     exact⟨m',hp',q1,q2,fun ha=>hsub.trans (q3 ha),q4⟩
    ·exact⟨fun _=>List.Sublist.refl _,SRr.insNil e sz s (h2 hw).2⟩
theorem a1z {q:Nat} {s:Tr} {tt e k:Nat} {sz by_:Nat} {ps:List (Nat × Operand)} {vs:List (Nat × Value)} {z:Value} {zs cs:List Value} {gd:Nat × Bool} {c:Bool}
 (ho:ops[q]?=some ⟨some d,.buildSlice tt k ps.toArray,ty,pos,after,some gd⟩) (he:eff.contains q=true) (hg:GU ops n F gd c) (E:EL P tt e sz by_) (hz:(P.info? e).bind (·.zero)=some z) (ev:c=true->EvP n F ps vs)
 (hzs:a9a z k=some zs) (hf:a5b (fun i=>some (i * sz,sz)) zs vs=some cs) (hk:k * sz<=16777216) (h0:Nat.beq (k * sz) 0=false) (hd:d < n.num)
 (kk:∀ b r,(c=true->r=.pt b (.cells cs.toArray e (0,0)))->SR P ops Q n eff t hs s ((d,gv c (.slice (some ⟨b,0,none⟩) k k))::F) (r::hp) m) :
 SR P ops Q n eff t hs (.op q s) F hp m:=⟨_,ho,fun y hy=>by cases hy;exact hd,by
 rw[he];simp only[b1k,b1i,Bool.false_and];refine⟨fun fr f w hf' st=>?_⟩;have hy:=hg.wanted (dst:=some d) (op:=.buildSlice tt k ps.toArray) (ty:=ty) (pos:=pos) (after:=after) hf';cases c with
 | true=>
  refine⟨fun _=>?_,fun h=>by rw[hy] at h;cases h⟩;have hrun:=a04 (P:=P) w (dst:=some d) (ty:=ty) (pos:=pos) (after:=after) (g:=some gd) E hz (ev rfl) hzs hf hk h0 hf';rw[hrun];exact⟨m,.pt w.heap.size (.cells cs.toArray e)::hp,Vl,(st.alloc _).perm List.perm_middle.symm,fun _=>List.sublist_cons_self _ _,(kk w.heap.size _ (fun _=>rfl)).e⟩
 | false=>
  refine⟨fun h=>(by rw[hy] at h;cases h),fun _=>⟨fun _=>List.Sublist.refl _,?_⟩⟩;exact SRr.insNil e sz (l1:=[]) s (kk 0 (b6e e sz) (fun h=>by cases h)).e⟩
end
section
variable {P:Program} {n:Cx} {F:Fm} {h:List Res} {m:View}
variable {ty:TypeId} {pos:String} {after:Array Edge} {dst:Option Tmp} {g:Option (Nat × Bool)}
def eqP (P:Program) (o:TypeId) (t:TypeId) (xs ys:List Value) (off:Nat):Option Bool:=match P.underlying t with
 | some (.struct gs)=>match Nat.beq t o with
  | true=>match (P.info? t).map (·.size) with
   | some k=>match seg xs off k with
    | some as=>match seg ys off k with
     | some bs=>b70 P as bs gs.toList
     | none=>none
    | none=>none
   | none=>none
  | false=>none
 | some d=>match P2 d with
  | true=>match xs[off]? with
   | some a=>match ys[off]? with
    | some b=>eqC d a b
    | none=>none
   | none=>none
  | false=>none
 | none=>none
def b8u (P:Program) (o:TypeId) (xs ys:List Value):List Field->Option Bool
 | []=>some true
 | f::fs=>match eqP P o f.type xs ys f.offset with
  | some r=>match b8u P o xs ys fs with
   | some q => match (f.name != "_") with
    | true=>some (r&&q)
    | false=>none
   | none=>none
  | none=>none
theorem b5l {xs as:List Value} {off k:Nat} (h:seg xs off k=some as):(xs.drop off).take k=as:=by
 obtain⟨h1,h2⟩:=a7S h;subst h1;refine List.ext_getElem? fun i=>?_
 rcases Nat.lt_or_ge i as.length with hi | hi
 ·have:=h2 i _ (List.getElem?_eq_getElem hi)
  rw[List.getElem?_take_of_lt hi,List.getElem?_drop,this,List.getElem?_eq_getElem hi]
 ·rw[List.getElem?_eq_none hi,List.getElem?_eq_none (by rw[List.length_take];omega)]
theorem c5u (w:World) (d:Nat) {o t:TypeId} (ho:P.stoodInHeld o=false) {xs ys:List Value} {off:Nat} {r:Bool} (he:eqP P o t xs ys off=some r):∃ a b,(part t xs.toArray off).run P w=.ok a w/\(part t ys.toArray off).run P w=.ok b w/\(Op.equalIn (d+2) t a b).run P w=.ok r w:=by
 unfold eqP at he;split at he
 ·rename_i gs ht
  split at he
  ·rename_i hto
   have hto:=Nat.eq_of_beq_eq_true hto;subst hto;have hs:=ho;split at he
   ·rename_i k hk
    split at he
    ·rename_i as ha
     split at he
     ·rename_i bs hb
      cases hi:P.info? t with
      | none=>rw[hi] at hk;cases hk
      | some i0=>
       have hsz:i0.size=k:=by rw[hi] at hk;simpa using hk
       have hf:P.fieldsOf t=gs:=by simp[Program.fieldsOf,ht]
       have hag:=a3Z (P:=P) w ht rfl;refine⟨.agg as.toArray,.agg bs.toArray,?_,?_,?_⟩
       ·simp[part,hag,sizeOf,typeInfo,hi,hsz,b5l ha]
       ·simp[part,hag,sizeOf,typeInfo,hi,hsz,b5l hb]
       ·rw[run_equalIn_struct (P:=P) w (d+1) t as.toArray bs.toArray (by rw[hf];exact ht) hs,hf]
        exact a7A w d as bs he
     ·cases he
    ·cases he
   ·cases he
  ·cases he
 ·rename_i ds _ ht
  split at he
  ·rename_i hp
   split at he
   ·rename_i a ha
    split at he
    ·rename_i b hb
     refine⟨a,b,?_,?_,b8p w (d:=d+1) ht he⟩
     ·simp[part,O5 w ht hp,ha]
     ·simp[part,O5 w ht hp,hb]
    ·cases he
   ·cases he
  ·cases he
 ·cases he
theorem b2b (w:World) (d:Nat) {o:TypeId} (ho:P.stoodInHeld o=false) (xs ys:List Value):∀ {fs:List Field} {r:Bool},b8u P o xs ys fs=some r->(Op.eqFields (d+2) xs.toArray ys.toArray fs).run P w=.ok r w
 | [],r,he=>by cases he;simp[Op.eqFields]
 | f::fs,r,he=>by
  unfold b8u at he;split at he
  ·rename_i c hc
   split at he
   ·rename_i q hq
    split at he
    ·rename_i h7
     cases he;have h8 : f.name ≠ "_" := by simpa using h7
     have ih:=b2b w d ho xs ys hq;obtain⟨a,b,ea,eb,e5⟩:=c5u (P:=P) w d ho hc;simp only[Op.eqFields,if_pos h8,Sem.run_bind];rw[ea,Result.andThen_ok,eb,Result.andThen_ok,e5,Result.andThen_ok];cases c
     ·simp
     ·simpa using ih
    ·cases he
   ·cases he
  ·cases he
theorem b4D {o:TypeId} {x y:Operand} {t t':TypeId} {fs:Array Field} {as bs:List Value} {r:Bool} (ht:P.underlying t=some (.struct fs)) (hs:P.stoodInHeld t=false) (hm:P.eqGuardType P.depth t=false) (ex:Ev n F x (.agg as.toArray)) (ey:Ev n F y (.agg bs.toArray))
 (ho:P.stoodInHeld o=false) (hr:b8u P o as bs fs.toList=some r):PO P ⟨dst,.binOp .neq t x y t',ty,pos,after,g⟩ n F h m (.bool (!r)):=.mk fun a w ha _=>by
 have hf:P.fieldsOf t=fs:=by simp[Program.fieldsOf,ht]
 have e1:=run_equalIn_struct (P:=P) w 9999 t as.toArray bs.toArray (by rw[hf];exact ht) hs;rw[hf,b2b w 9997 ho as bs hr] at e1;simp[execOp,ex a ha,ey a ha,run_eqGuard_agg w _ t _ _ _ _ hm,run_neq_struct,e1]
end
end
end Go.Eng
namespace Go.Sx
section
open Go.Eng Go.Pc Go
open Go.Xp hiding B
open Go.Ty (Ty Vr Tok)
open Go.Ly (Rw S9)
open Go.Lx (lexO G2)
theorem a9V (s:B):(lexO s).1.length<=256/\∀ x ∈ (lexO s).1,G2 x=true/\(-2147483648<=x.n/\x.n<=2147483647):=by
 obtain⟨l,z,e,h⟩:∃ l z e,lexO s=(l,z,e):=⟨_,_,_,rfl⟩;rw[h];by_cases he:e=0
 ·subst he
  obtain⟨h1,h2,-⟩:=Go.Lx.lexO_ok h;have h3:=Go.Lx.lx_len s 0 l h2;exact⟨by show l.length<=256;omega,Go.Lx.lx_may s 0 l h2 (by omega)⟩
 ·have h1:=Go.Lx.lexO_no h he
  subst h1;exact⟨Nat.zero_le _,fun x hx=>(List.not_mem_nil hx).elim⟩
theorem c6K (s:B):∀ t ∈ (lexO s).1,t.text.length<=140737488355328:=fun t ht=>by have:=Go.Lx.may_len ((a9V s).2 t ht).1;omega
structure Pz where
 bp:Nat
 ra:Option Addr
 rc:Nat
 R:List Rw
structure Pok (m:View) (z:Pz):Prop where
 rd:Rd m [] z.ra z.R.length z.rc 3 (fl S9 z.R)
 ok:z.R.length<=2048/\∀ x ∈ z.R,0<=x.depth/\x.depth<=32/\x.text.length<=256
 ne:∀ x ∈ z.R,(lexO x.text).2.2=0->(lexO x.text).1≠[]
theorem b3e (q:UInt8->Bool):∀ (l:B) {c:UInt8} {r:B},l.dropWhile q=c::r->q c=false
 | x::l,c,r,h=>by
  unfold List.dropWhile at h;split at h
  ·exact b3e q l h
  ·cases h;assumption
theorem c9p {s:B} (h:Go.Ly.validP s=true) (he:(lexO s).2.2=0):(lexO s).1≠[]:=by
 obtain⟨h1,-,h2,-⟩:=Go.Ly.validP_spec h;obtain⟨l,z,e,hl⟩:∃ l z e,lexO s=(l,z,e):=⟨_,_,_,rfl⟩;rw[hl] at he ⊢;obtain rfl:e=0:=he;obtain⟨-,h3,-⟩:=Go.Lx.lexO_ok hl;cases s with
 | nil=>exact absurd rfl h1
 | cons c r=>
  have hc:c≠32:=by
   have h4:=b3e (·==32) (Lib.trimRightB (c::r) 32) (c:=c) (r:=r) h2;simpa using h4
  rintro rfl;by_cases hn:(Go.Lx.tok (c::r)).2=0
  ·rw[Go.Lx.lx_bad hc hn] at h3;cases h3
  ·rw[Go.Lx.lx_tok hc hn] at h3
   cases hx:Go.Lx.lx ((c::r).drop (Go.Lx.tok (c::r)).2) (0+(Go.Lx.tok (c::r)).2) with
   | ok m=>rw[hx] at h3;cases h3
   | error e=>rw[hx] at h3;cases h3
theorem Pok.of {m:View} {z:Pz} (hr:Rd m [] z.ra z.R.length z.rc 3 (fl S9 z.R)) (h:Go.Ly.mayP z.R=true):Pok m z:=
 ⟨hr,Go.Ly.mayP_all h,fun x hx=>by
  unfold Go.Ly.mayP at h;split at h
  ·cases h
  ·exact c9p (Go.Ly.mayA_all h x hx).2.2⟩
theorem L3 {α β:Type} (x:α) (ts:List Tok) (i:Nat) (f:α->List Tok->PE β):E8 (.ok (x,ts)) i f=f x ts:=rfl
theorem S4 {α β:Type} (x:α) (i:Nat) (f:α->Nat->PE β):M8 (.ok (x,i)) f=f x i:=rfl
theorem P3 {β:Type} {ts:List Tok} {i:Nat} {f:Nat->PE β} (h:ts=[]):E7 ts i f=f (i+1):=by subst h;rfl
theorem P4 {β:Type} {ts:List Tok} {i:Nat} {f:Nat->PE β} (h:ts≠[]):E7 ts i f=.error (110,i):=by cases ts with | nil=>exact absurd rfl h | cons=>rfl
theorem a3J {β:Type} {k:Int} {s:B} {ts:List Tok} {i:Nat} {f:List Tok->PE β} (h:isM k s ts=true):V5 k s ts i f=f ts.tail:=by unfold V5;rw[h];rfl
theorem a3R {β:Type} {k:Int} {s:B} {ts:List Tok} {i:Nat} {f:List Tok->PE β} (h:isM k s ts=false):V5 k s ts i f=.error (110,i):=by unfold V5;rw[h];rfl
theorem a5P {β:Type} {R:List Rw} {d:Int} {i:Nat} {ts:List Tok} {f:List Tok->PE β} (h:a1E R d i=.ok ts):a1m R d i f=f ts:=by unfold a1m;rw[h]
theorem L8 {β:Type} {R:List Rw} {d:Int} {i:Nat} {e:Int × Nat} {f:List Tok->PE β} (h:a1E R d i=.error e):a1m R d i f=.error e:=by unfold a1m;rw[h]
theorem a3b {m:View} {z:Pz} {d:Int} {i:Nat} {ts:List Tok} (hz:Pok m z) (h:a1E z.R d i=.ok ts):(i < z.R.length/\0<=d/\d<=32)/\∃ x,z.R[i]?=some x/\x.depth=d/\ts=(lexO x.text).1:=by
 unfold a1E at h;cases hx:z.R[i]? with
 | none=>rw[hx] at h;cases h
 | some x=>
  rw[hx] at h;simp only at h;split at h
  ·cases h
  ·split at h
   ·cases h
   ·rename_i hd
    have hd:x.depth=d:=Decidable.byContradiction hd;cases h;have h1:=hz.ok.2 x (List.mem_of_getElem? hx);exact⟨⟨(List.getElem?_eq_some_iff.1 hx).1,by omega,by omega⟩,x,rfl,hd,rfl⟩
theorem c7J {m:View} {z:Pz} {d:Int} {i:Nat} {ts:List Tok} (hz:Pok m z) (h:a1E z.R d i=.ok ts):0 < ts.length:=by
 unfold a1E at h;cases hx:z.R[i]? with
 | none=>rw[hx] at h;cases h
 | some x=>
  rw[hx] at h;simp only at h;split at h
  ·cases h
  ·rename_i he
   split at h
   ·cases h
   ·cases h
    have h1:=hz.ne x (List.mem_of_getElem? hx) (Decidable.byContradiction he);exact List.length_pos_iff.2 h1
theorem a4v {R:List Rw} {d:Int} {i:Nat} (h:R.length<=i):a1E R d i=.error (110,i):=by
 unfold a1E;rw[List.getElem?_eq_none h]
theorem a9s {R:List Rw} {d:Int} {i:Nat} (h:M6 R d i=true):i < R.length:=by
 unfold M6 at h;cases hx:R[i]? with
 | none=>rw[hx] at h;cases h
 | some x=>exact(List.getElem?_eq_some_iff.1 hx).1
theorem b9G {R:List Rw} {rec:Int->Bool->Nat->PE Pr} {row:List Tok->E Gu} {least most:Nat} {d:Int} {k:Nat} {acc:List Gu} {i:Nat} (hk:R.length<=i+k) (hc:acc.length < least\/(acc.length < most/\M6 R d i=true)) :
 U9 R rec row least most d k acc i=a1m R d i fun ts=>E8 (row ts) i fun g r=>E7 r i fun i=>M8 (rec (d+1) false i) fun x i=>U9 R rec row least most d (k - 1) (acc++[a6P g x]) i:=by
 cases k with
 | zero=>
  have hl:acc.length < least:=hc.elim id fun h=>absurd (a9s h.2) (by omega)
  rw[L8 (a4v (by omega))];unfold U9;rw[if_pos hl]
 | succ k=>
  conv=>lhs;unfold U9
  rw[if_pos hc];rfl
theorem b4F {R:List Rw} {rec:Int->Bool->Nat->PE Pr} {row:List Tok->E Gu} {least most:Nat} {d:Int} {k:Nat} {acc:List Gu} {i:Nat} (hc:¬ (acc.length < least\/(acc.length < most/\M6 R d i=true))) :
 U9 R rec row least most d k acc i=.ok (acc,i):=by
 cases k with
 | zero=>
  unfold U9;rw[if_neg fun h=>hc (.inl h)]
 | succ k=>
  unfold U9;rw[if_neg hc]
theorem c2y {R:List Rw} {rec:Int->Bool->Nat->PE Pr} {d:Int} {k:Nat} {acc:List Pr} {i:Nat} (hk:R.length<=i+k) (hc:M6 R d i=true) :
 a1y R rec d k acc i=M8 (rec d false i) fun x i=>a1y R rec d (k - 1) (acc++[x]) i:=by
 cases k with
 | zero=>exact absurd (a9s hc) (by omega)
 | succ k=>
  conv=>lhs;unfold a1y
  rw[if_pos hc];rfl
theorem b7z {R:List Rw} {rec:Int->Bool->Nat->PE Pr} {d:Int} {k:Nat} {acc:List Pr} {i:Nat} (hc:M6 R d i=false):a1y R rec d k acc i=.ok (acc,i):=by
 cases k with
 | zero=>rfl
 | succ k=>unfold a1y;rw[if_neg (by rw[hc];decide)]
theorem c0L {R:List Rw} {rec:Int->Bool->Nat->PE Pr} {d:Int} {k:Nat} {ns:List Int} {acc:List Pr} {i:Nat} (hk:R.length<=i+k) (hc:acc.length=0\/(acc.length < 8/\M6 R (d+1) i=true)) :
 S5 R rec d k ns acc i=a1m R (d+1) i fun ts=>V5 2 [80,82,79,67,69,83,83,79,82] ts i fun r=>match a7E r with
  | some n=>M8 (rec (d+2) false (i+1)) fun x i=>S5 R rec d (k - 1) (ns++[n]) (acc++[x]) i
  | none=>.error (110,i):=by
 cases k with
 | zero=>
  have hl:acc.length=0:=hc.elim id fun h=>absurd (a9s h.2) (by omega)
  rw[L8 (a4v (by omega))];unfold S5;rw[if_pos hl]
 | succ k=>
  conv=>lhs;unfold S5
  rw[if_pos hc];rfl
theorem b5Q {R:List Rw} {rec:Int->Bool->Nat->PE Pr} {d:Int} {k:Nat} {ns:List Int} {acc:List Pr} {i:Nat} (hc:¬ (acc.length=0\/(acc.length < 8/\M6 R (d+1) i=true))) :
 S5 R rec d k ns acc i=.ok ((ns,acc),i):=by
 cases k with
 | zero=>
  unfold S5;rw[if_neg fun h=>hc (.inl h)]
 | succ k=>
  unfold S5;rw[if_neg hc]
theorem c2z {R:List Rw} {d:Int} {k:Nat} {acc:List Vr} {i:Nat} (hk:R.length<=i+k) (hc:acc.length=0\/M6 R (d+2) i=true) :
 X1 R d k acc i=a1m R (d+2) i fun ts=>E8 (a0C ts) i fun v r=>if Go.Ty.mayPr true (acc++[v]) then E7 r i fun i=>X1 R d (k - 1) (acc++[v]) i else .error (110,i):=by
 cases k with
 | zero=>
  have hl:acc.length=0:=hc.elim id fun h=>absurd (a9s h) (by omega)
  rw[L8 (a4v (by omega))];unfold X1;rw[if_pos hl]
 | succ k=>
  conv=>lhs;unfold X1
  rw[if_pos hc];rfl
theorem b7E {R:List Rw} {d:Int} {k:Nat} {acc:List Vr} {i:Nat} (hc:¬ (acc.length=0\/M6 R (d+2) i=true)):X1 R d k acc i=.ok (acc,i):=by
 cases k with
 | zero=>
  unfold X1;rw[if_neg fun h=>hc (.inl h)]
 | succ k=>
  unfold X1;rw[if_neg hc]
theorem c0b {R:List Rw} {rec:Int->Bool->Nat->PE Pr} {d:Int} {top:Bool} {ts:List Tok} {i:Nat} {t:Tok} {f:Int->List Tok->Nat->PE Pr} (h0:ts[0]?=some t) (hw:a1a R rec t.text=some f) (hc:t.kind=2/\(top=true\/t.text≠[80,76,65,67,69,68])):a2B R rec d top ts i=f d ts.tail i:=by
 cases ts with
 | nil=>cases h0
 | cons u r=>
  cases h0;unfold a2B;simp only[hw];rw[if_pos hc];rfl
theorem b4E {R:List Rw} {rec:Int->Bool->Nat->PE Pr} {d:Int} {top:Bool} {ts:List Tok} {i:Nat} {t:Tok} (h0:ts[0]?=some t) (hc:a1a R rec t.text=none\/¬ (t.kind=2/\(top=true\/t.text≠[80,76,65,67,69,68]))):a2B R rec d top ts i=P5 R rec d ts i:=by
 cases ts with
 | nil=>cases h0
 | cons u r=>
  cases h0;unfold a2B;cases hw:a1a R rec t.text with
  | none=>simp only[hw]
  | some f=>
   simp only[hw];rcases hc with hc | hc
   ·rw[hc] at hw;cases hw
   ·rw[if_neg hc]
structure Gs (m:View) (h:List Res) (a:Option Addr) (c:Nat) (l:List Gu):Prop where
 rd:Rd m h a l.length c 23 (fl guE l)
 ok:∀ g ∈ l,GOk m h g
 sub:∀ g ∈ l,∀ x ∈ g.bl,POk m h x
structure Ls (m:View) (h:List Res) (a:Option Addr) (c:Nat) (l:List Pr):Prop where
 rd:Rd m h a l.length c 42 (fl prE l)
 ok:∀ x ∈ l,POk m h x
structure Ns (m:View) (h:List Res) (s:Sli Int):Prop where
 rd:Rd m h s.a s.l.length s.c 1 (fl a4N s.l)
 ok:∀ x ∈ s.l,-9223372036854775808<=x/\x<=9223372036854775807
structure Ss (m:View) (h:List Res) (s:Sp):Prop where
 ok:SOk m h s
 sub:∀ x ∈ s.bl,POk m h x
structure Rs (m:View) (h:List Res) (r:Rp):Prop where
 n:r.name.length<=Big
 b:EOk m h r.base
 c:EOk m h r.count
variable {m:View} {h h':List Res}
theorem Gs.mono {a:Option Addr} {c:Nat} {l:List Gu} (q:Gs m h a c l) (s:h.Sublist h'):Gs m h' a c l:=⟨q.rd.mono Vl s,fun g hg=>(q.ok g hg).mono s,fun g hg x hx=>(q.sub g hg x hx).mono s⟩
theorem Ss.mono {x:Sp} (q:Ss m h x) (s:h.Sublist h'):Ss m h' x:=⟨q.ok.mono s,fun y hy=>(q.sub y hy).mono s⟩
theorem Rs.mono {r:Rp} (q:Rs m h r) (s:h.Sublist h'):Rs m h' r:=⟨q.n,q.b.mono s,q.c.mono s⟩
theorem a1M (m:View) (h:List Res):Gs m h none 0 []:=⟨Rd.nilF guE 23 m h,fun _ hx=>(List.not_mem_nil hx).elim,fun _ hx=>(List.not_mem_nil hx).elim⟩
theorem a4Y (m:View) (h:List Res):Ls m h none 0 []:=⟨Rd.nilF prE 42 m h,fun _ hx=>(List.not_mem_nil hx).elim⟩
theorem a0T (m:View) (h:List Res):Ns m h B8:=⟨Rd.nilF a4N 1 m h,fun _ hx=>(List.not_mem_nil hx).elim⟩
theorem H3 (m:View) (h:List Res):LOk m h B8:=⟨Rd.nilF exE 6 m h,fun _ hx=>(List.not_mem_nil hx).elim⟩
theorem c09 (m:View) (h:List Res):TOk m h A0:=.mk (Rd.nilF exE 6 m h) (fun _ hx=>by cases hx)
theorem a8g (m:View) (h:List Res):EOk m h A0:=⟨c09 m h,.mk (by decide) (by decide) (by decide) (by decide) (Nat.zero_le _) fun _ hx=>(List.not_mem_nil hx).elim⟩
theorem a0h (m:View) (h:List Res):Rs m h C5:=⟨Nat.zero_le _,a8g m h,a8g m h⟩
theorem b0V (m:View) (h:List Res):Go.Ty.PrOk m h none 0 0 []:=⟨Rd.nilF Go.Ty.encV 2 m h,fun _ hx=>(List.not_mem_nil hx).elim,fun _ hx=>(List.not_mem_nil hx).elim⟩
theorem X6 (m:View) (h:List Res):Ss m h B7:=
 ⟨⟨by decide,⟨by decide,by decide,by decide,Nat.zero_le _⟩,Rd.nilF Go.Lx.encB 1 m h,fun _ hx=>(List.not_mem_nil hx).elim,a8g m h,b0V m h,fun _ hx=>(List.not_mem_nil hx).elim,Rd.nilF foE 6 m h,fun _ hx=>(List.not_mem_nil hx).elim,Rd.nilF prE 42 m h⟩,fun _ hx=>(List.not_mem_nil hx).elim⟩
theorem a6N {k:Int} {nm:B} {ch:Ex} {tg ex:Sli Ex} {rep:Rp} {ga:Option Addr} {gc:Nat} {gl:List Gu} {la:Option Addr} {lc:Nat} {ll:List Pr} {pn:Sli Int} {sp:Sp} (hk:0<=k/\k<=255) (hn:nm.length<=Big) (hch:EOk m h ch) (ht:LOk m h tg) (he:LOk m h ex)
 (hr:Rs m h rep) (hg:Gs m h ga gc gl) (hl:Ls m h la lc ll) (hp:Ns m h pn) (hs:Ss m h sp):POk m h (.mk k nm ch tg ex rep ga gc gl la lc ll pn sp):=
 .mk ⟨hk,hn,hch,ht,he,hr.n,hr.b,hr.c,hg.rd,hg.ok,hl.rd,hp.rd,hp.ok,hs.ok⟩ fun x hx=>by
  cases hx with
  | l hx=>exact hl.ok x hx
  | s hx=>exact hs.sub x hx
  | g hq hx=>exact hg.sub _ hq x hx
end
section
open Go.Eng Go.Pc Go
open Go.Xp hiding B
open Go.Ty (Ty Vr Tok)
theorem b7N (e:Ex):B0 (B0 e)=B0 e:=by
 refine Ex.ind (p:=fun e=>B0 (B0 e)=B0 e) (fun e ih=>?_) e;rw[a0F e,a0F];show Ex.mk _ _ _ _ _ _ _ ((e.l.map B0).map B0)=_;rw[List.map_map];congr 1
 exact List.map_congr_left fun x hx=>ih x hx
theorem a1W (x w:Ex):C7 (B0 x) w=C7 x w:=by rw[Bool.eq_iff_iff,X3,X3,b7N]
theorem b7R (x w:Ex):C7 x (B0 w)=C7 x w:=by rw[Bool.eq_iff_iff,X3,X3,b7N]
theorem a4G (e:Ex):I4 (B0 e)=I4 e:=a1W e A0
theorem b6r:∀ (l pre:List Vr),Go.Ty.mayIn (pre.map a0I) (l.map a0I)=Go.Ty.mayIn pre l
 | [],_=>rfl
 | v::r,pre=>by
  have h1:Go.Ty.badV (pre.map a0I) (a0I v)=Go.Ty.badV pre v:=by
   unfold Go.Ty.badV Go.Ty.tagIn;rw[List.any_map];rfl
  have h2:=b6r r (pre++[v]);rw[List.map_append] at h2;show(if Go.Ty.badV (pre.map a0I) (a0I v) then false else Go.Ty.mayIn (pre.map a0I++[a0I v]) (r.map a0I))=if Go.Ty.badV pre v then false else Go.Ty.mayIn (pre++[v]) r
  rw[h1,<- h2];rfl
theorem a9Q (cs:Bool) (l:List Vr):Go.Ty.mayPr cs (l.map a0I)=Go.Ty.mayPr cs l:=by
 unfold Go.Ty.mayPr;rw[List.length_map];have h0:(Go.Ty.hdV (l.map a0I)).tag=(Go.Ty.hdV l).tag/\(Go.Ty.hdV (l.map a0I)).items=(Go.Ty.hdV l).items:=by cases l <;> exact⟨rfl,rfl⟩
 rw[h0.1,h0.2];have h1:=b6r l [];rw[List.map_nil] at h1;rw[h1]
theorem a5w {α β:Type} (l:List α) (f:α->β) (a b:Int) (q:β->Bool) (r:α->Bool) (h:∀ x,q (f x)=r x):J6 (l.map f) a b q=J6 l a b r:=by
 unfold J6;rw[List.length_map,List.any_map];congr 2
 congr 1
 funext x
 simp[h]
theorem b8D {α:Type} (q:α->α->Bool) (f:α->α) (h:∀ x y,q (f x) (f y)=q x y):∀ (l r:List α),eqL q (l.map f) (r.map f)=eqL q l r
 | [],[]=>rfl
 | [],_::_=>rfl
 | _::_,[]=>rfl
 | x::l,y::r=>by
  show(q (f x) (f y)&&eqL q (l.map f) (r.map f))=_;rw[h,b8D q f h l r];rfl
theorem Z0 (s:Sp):stS s=spM s.k s.ty s.names.l (B0 s.e) s.cs (s.vs.l.map a0I) s.fs.l (s.bl.map stP):=by
 cases s;rw[stS,a5u];rfl
theorem b2J (a b:Sp):K2 (stS a) (stS b)=K2 a b:=by
 rw[Z0,Z0];unfold K2;show((((((((a.k==b.k)&&Go.Ty.eqT a.ty b.ty)&&(a.names.l==b.names.l))&&C7 (B0 a.e) (B0 b.e))&&(a.cs==b.cs))&&eqL L1 (a.vs.l.map a0I) (b.vs.l.map a0I))&&eqL a0n a.fs.l b.fs.l)&&(((a.bl.map stP).length:Int)==(b.bl.map stP).length))=_;rw[a1W,b7R,b8D L1 a0I (fun _ _=>rfl),List.length_map,List.length_map]
theorem c7F (s:Sp):a2t (stS s)=stS (a2t s):=by
 rw[Z0 s];unfold a2t;show(if s.k=1 then _ else if s.k=2 then _ else if s.k=3 then _ else if s.k=4 then _ else _)=_;split
 ·rw[Z0];rfl
 ·split
  ·rw[Z0];rfl
  ·split
   ·rw[Z0];rfl
   ·split
    ·rw[Z0];rfl
    ·rw[Z0];rfl
theorem c6y (s:Sp):a1F (stS s)=a1F s:=by
 rw[Z0 s];unfold a1F;show(if s.k=1 then Go.Ty.may s.ty else if s.k=2 then S8 s.ty&&G3 (B0 s.e) else if s.k=3 then S8 s.ty&&G1 (B0 s.e) else if s.k=4 then Go.Ty.mayPr s.cs (s.vs.l.map a0I) else (((s.bl.map stP).length:Int)==1)&&J6 s.fs.l 0 8 foP)=_;rw[P0,X9,a9Q,List.length_map]
theorem c7V (s:Sp):spP (stS s)=spP s:=by
 have h1:(stS s).k=s.k:=by rw[Z0];rfl
 have h2:(stS s).names.l=s.names.l:=by rw[Z0];rfl
 unfold spP;rw[h1,h2,c6y,c7F,b2J]
end
end Go.Sx
namespace Go.Eng
section
open Go Go.RowKit
def b3G (es:Array MapEntry) (kv:List (List UInt8 × Value)):Prop:=es.toList.map (fun x=>(x.key,x.val))=kv.map fun p=>(str p.1,p.2)
def a2C (n:List UInt8):List (List UInt8 × Value)->Option Value
 | []=>none
 | (k,v)::r=>if n=k then some v else a2C n r
theorem b7l {n:List UInt8}:∀ (l:List MapEntry) (kv:List (List UInt8 × Value)) (i:Nat),l.map (fun x=>(x.key,x.val))=kv.map (fun p=>(str p.1,p.2)) ->
 (a2C n kv=none/\Instr.findNow .string (str n) l i=some none)\/∃ j v,a2C n kv=some v/\Instr.findNow .string (str n) l i=some (some (i+j,v))
 | [],[],_,_=>.inl ⟨rfl,rfl⟩
 | [],_::_,_,h=>by cases h
 | _::_,[],_,h=>by cases h
 | e::l,(k,v)::kv,i,h=>by
  simp only[List.map_cons,List.cons.injEq,Prod.mk.injEq] at h;obtain⟨⟨hk,hv⟩,h⟩:=h;by_cases hn:n=k
  ·subst hn
   refine .inr ⟨0,v,by simp[a2C],?_⟩;simp[Instr.findNow,hk,Instr.sameNow,b3T,hv]
  ·have hb:((⟨n.toArray⟩:ByteArray)==⟨k.toArray⟩)=false:=c5P hn
   have e1:Instr.findNow .string (str n) (e::l) i=Instr.findNow .string (str n) l (i+1):=by
    simp[Instr.findNow,hk,Instr.sameNow,hb]
   have e2:a2C n ((k,v)::kv)=a2C n kv:=by simp[a2C,hn]
   rw[e1,e2];rcases b7l l kv (i+1) h with h1 | ⟨j,v,h1,h2⟩
   ·exact .inl h1
   ·exact .inr ⟨j+1,v,h1,by rw[h2];congr 3;omega⟩
section
variable {P:Program} {ops:Array Oper} {Q:Exit->Act->World->Prop} {n:Cx} {F:Fm} {h h':List Res} {m:View} {rest:List Oper}
variable {ty:TypeId} {pos:String} {after:Array Edge} {dst:Option Tmp} {g:Option (Nat × Bool)} {d:Nat}
theorem b4W (w:World) {t kt et:TypeId} {b:Nat} {es:Array MapEntry} {clock:Nat} {kv:List (List UInt8 × Value)} {x:List UInt8} {v:Value} (ht:P.underlying t=some (.map kt et)) (hk:P.underlying kt=some (.string)) (hM:b3G es kv) (hx:a2C x kv=none)
 (hb:w.heap[b]?=some (.map es clock)):∃ es' clock',b3G es' (kv++[(x,v)])/\(Instr.mapUpdate t (.map (some b)) (str x) v).run P w=.ok () { w with heap:=w.heap.setIfInBounds b (.map es' clock') }:=by
 have hck:(Instr.checkKey false 10000 kt (str x)).run P w=.ok () w:=by
  unfold Instr.checkKey;simp[run_underlying hk]
 have hget:(getObj b).run P w=.ok (.map es clock) w:=by simp[getObj,Sem.run,hb]
 have hset:∀ o,(setObj b o).run P w=.ok () { w with heap:=w.heap.setIfInBounds b o }:=fun o=>by simp[setObj,Sem.run,hb]
 rcases b7l (n:=x) es.toList kv 0 hM with ⟨h1,h2⟩ | ⟨j,v,h1,h2⟩
 ·refine⟨es.push { key:=str x,val:=v,born:=clock },clock+1,?_,?_⟩
  ·unfold b3G at hM ⊢
   simp[hM]
  ·simp[Instr.mapUpdate,run_underlying ht,hget,hck,Instr.findKey,run_underlying hk,h2,hset]
 ·rw[hx] at h1;cases h1
theorem U7 {op:Op} {x y z:Operand} {t kt et:TypeId} {b:Nat} {es:Array MapEntry} {clock:Nat} {kv:List (List UInt8 × Value)} {i:List UInt8} {v:Value} {hq:Array MapEntry->Nat->List Res} (hop:op=.mapUpdate t x y z\/op=.insert t x y z) (ht:P.underlying t=some (.map kt et)) (hk:P.underlying kt=some (.string)) (hM:b3G es kv) (hi:a2C i kv=none)
 (ex:Ev n F x (.map (some b))) (ey:Ev n F y (str i)) (ez:Ev n F z v) (u:∀ es' c',Upd h (.pt b (.map es clock)) (.pt b (.map es' c')) (hq es' c')) (k:∀ es' c',b3G es' (kv++[(i,v)])->WL P ops Q n rest F (hq es' c') m) :
 WL P ops Q n (⟨none,op,ty,pos,after,none⟩::rest) F h m:=.mk fun a w ha hs=>by
 obtain⟨es',c',h1,h2⟩:=b4W (P:=P) w (x:=i) (v:=v) ht hk hM hi (hs.ok _ (u es clock).mem);have hrun:(execOp a.eval ⟨none,op,ty,pos,after,none⟩).run P w=.ok .skip { w with heap:=w.heap.setIfInBounds b (.map es' c') }:=by
  rcases hop with rfl | rfl <;> simp[execOp,ex a ha,ey a ha,ez a ha,h2]
 exact J7 rfl (b1h hrun (k es' c' h1 _ _ ha (hs.setObj (u es' c'))))
theorem b7q {x y:Operand} {t kt et:TypeId} {b:Nat} {es:Array MapEntry} {clock:Nat} {kv:List (List UInt8 × Value)} {i:List UInt8} {z:Value} (ht:P.underlying t=some (.map kt et)) (hk:P.underlying kt=some (.string)) (hz:(P.info? et).bind (·.zero)=some z) (hM:b3G es kv)
 (ex:Ev n F x (.map (some b))) (ey:Ev n F y (str i)) (hm:Res.pt b (.map es clock) ∈ h):PO P ⟨dst,.lookup t x y true,ty,pos,after,g⟩ n F h m (.tuple #[(a2C i kv).getD z,.bool (a2C i kv).isSome]):=.mk fun a w ha hs=>by
 have hb:w.heap[b]?=some (.map es clock):=hs.ok _ hm;have hck:(Instr.checkKey es.isEmpty 10000 kt (str i)).run P w=.ok () w:=by
  unfold Instr.checkKey;simp[run_underlying hk]
 have hget:(getObj b).run P w=.ok (.map es clock) w:=by simp[getObj,Sem.run,hb]
 have hzr:(zeroValue et).run P w=.ok z w:=by
  cases hi:P.info? et with
  | none=>simp[hi] at hz
  | some j=>
   have:j.zero=some z:=by simpa [hi] using hz
   simp[zeroValue,typeInfo,hi,this]
 rcases b7l (n:=i) es.toList kv 0 hM with ⟨h1,h2⟩ | ⟨j,v,h1,h2⟩
 ·simp[execOp,ex a ha,ey a ha,Instr.lookup,run_underlying ht,hget,hck,Instr.findKey,run_underlying hk,h1,h2,hzr]
 ·simp[execOp,ex a ha,ey a ha,Instr.lookup,run_underlying ht,hget,hck,Instr.findKey,run_underlying hk,h1,h2]
theorem d1d {fn:Func} {ex:Exit} {m0:View} {R:Value->View->List Res->Prop} {r r':ResultVar} {v v':Value} {q:FuncId} {cap:List Value} (hex:ex=.ret\/ex=.normal) (hds:n.ds=[b1L q cap]) (he:∀ as w,(callFunc q as).run P w=.ok (.enter q as) w)
 (hd:b1K P q cap .returning m h h) (hfn:fn.results=#[r,r']) (x1:RV P n F h m r v) (x2:RV P n F h m r' v') (hle:m0.le m) (hsub:h'.Sublist h) (hR:R (.tuple #[v,v']) m h') :
 ∀ a w,Fr n F a->St m h w->bodyPostD P fn (RQ m0 R) ex a w:=fun a w ha hs=>by
 have key:Leaves P fn a.tmps (RQ m0 R) a.defers .returning w:=by
  rw[ha.d,hds];refine b3q he (by simp) hd hs fun w' hs'=>⟨.tuple #[v,v'],?_,_,m,h',rfl,hle,hs'.sub hsub,hR⟩
  have h1:=x1.e a w' ha hs';have h2:=x2.e a w' ha hs';simp[a0S,hfn,h1,h2]
 rcases hex with rfl | rfl <;> exact key
theorem d0l {fn:Func} {m0:View} {R:Value->View->List Res->Prop} {r r':ResultVar} {v v' u:Value} {q:FuncId} {cap:List Value} {h2:List Res} (hds:n.ds=[b1L q cap]) (he:∀ as w,(callFunc q as).run P w=.ok (.enter q as) w)
 (hd:b1K P q cap (.panicking [{ v:=u,recovered:=false }]) m h h2) (hfn:fn.results=#[r,r']) (x1:RV P n F h2 m r v) (x2:RV P n F h2 m r' v') (hle:m0.le m) (hsub:h'.Sublist h2) (hR:R (.tuple #[v,v']) m h') :
 ∀ a w,Fr n F a->St m h w->bodyPostD P fn (RQ m0 R) (.panic [{ v:=u,recovered:=false }]) a w:=fun a w ha hs=>by
 show Leaves P fn a.tmps (RQ m0 R) a.defers (.panicking [{ v:=u,recovered:=false }]) w;rw[ha.d,hds];refine b3q he (by simp) hd hs fun w' hs'=>⟨.tuple #[v,v'],?_,_,m,h',rfl,hle,hs'.sub hsub,hR⟩
 have h1:=x1.e a w' ha hs';have h2:=x2.e a w' ha hs';simp[a0S,hfn,h1,h2]
end
end
end Go.Eng
namespace Go.Sx
section
open Go.Eng Go.Pc Go
open Go.Xp hiding B
open Go.Ty (Ty Vr Tok)
open Go.Ly (Rw)
def Er {α:Type} (r:E α):Prop:=∀ e,r=.error e->e=110
theorem a0q {α:Type} {x:α × List Tok}:Er (.ok x):=nofun
theorem a6S {α:Type}:Er (.error 110:E α):=fun e h=>by cases h;rfl
theorem V7 {α β:Type} {r:E α} {f:α->List Tok->E β} (h:Er r) (hf:∀ x ts,Er (f x ts)):Er (O2 r f):=by
 cases r with
 | ok x=>exact hf x.1 x.2
 | error e=>rw[h e rfl];exact a6S
theorem a6e {β:Type} {k:Int} {s:B} {ts:List Tok} {f:List Tok->E β} (h:∀ r,Er (f r)):Er (W4 k s ts f):=by
 unfold W4;split
 ·exact h _
 ·exact a6S
theorem a2e {α:Type} {c:Prop} [Decidable c] {a b:E α} (ha:Er a) (hb:Er b):Er (if c then a else b):=by
 split
 ·exact ha
 ·exact hb
theorem a2F (ts:List Tok):Er (U3 ts):=by rw[b5H];exact a2e a0q a6S
theorem Z5 (ts:List Tok):Er (I8 ts):=by rw[b5A];exact a2e a0q a6S
theorem a6E (ts:List Tok):Er (G5 ts):=by rw[a8S];exact a2e (V7 (Z5 ts) fun _ _=>a2e a0q a6S) a6S
theorem b3K (ts:List Tok):Er (a5m ts):=a2e a0q a6S
theorem b8Z (ts:List Tok):Er (a2f ts):=V7 (b3K ts) fun _ _=>a2e a0q a6S
theorem b9Y (ts:List Tok):Er (a0g ts):=V7 (b3K _) fun _ _=>V7 (a2F _) fun _ _=>a2e a0q a6S
theorem b9f {α:Type} {take:List Tok->E α} {sep:B} (h:∀ ts,Er (take ts)):∀ (n:Nat) (acc:List α) (ts:List Tok),Er (a1h take sep n acc ts)
 | 0,_,_=>a2e a6S a0q
 | n+1,_,_=>a2e (V7 (h _) fun _ _=>b9f h n _ _) a0q
theorem a3s {α:Type} {take:List Tok->E α} {sep:B} {most:Nat} {ts:List Tok} (h:∀ ts,Er (take ts)):Er (M1 take sep most ts):=V7 (h _) fun _ _=>b9f h _ _ _
theorem c8f {α:Type} {take:List Tok->E α} {ts:List Tok} (h:∀ ts,Er (take ts)):Er (brM take ts):=a6e fun _=>a2e a0q (V7 (a3s h) fun _ _=>a6e fun _=>a0q)
theorem c2D (ts:List Tok):Er (b0Y ts):=a2e a0q (V7 (a2F _) fun _ _=>a6e fun _=>V7 (Z5 _) fun _ _=>a6e fun _=>V7 (Z5 _) fun _ _=>a0q)
theorem c8J (ts:List Tok):Er (ifM ts):=V7 (Z5 _) fun _ _=>a0q
theorem b8s (c:Ex) (ts:List Tok):Er (a4r c ts):=V7 (a6E _) fun _ _=>a6e fun _=>a2e (V7 (Z5 _) fun _ _=>a0q) (V7 (a3s a6E) fun _ _=>a0q)
theorem c4j (ts:List Tok):Er (a2H ts):=a2e (V7 (Z5 _) fun _ _=>a6e fun _=>a2e a0q (b8s _ _)) (b8s _ _)
theorem d01 (ts:List Tok):Er (a8v ts):=a2e a0q (V7 (a3s Z5) fun _ _=>a0q)
theorem c9b (ts:List Tok):Er (a8f ts):=V7 (a2F _) fun _ _=>a2e (V7 (a3s a6E) fun _ _=>a0q) a0q
theorem b7e (ts:List Tok):Er (a0C ts):=V7 (a2F _) fun _ _=>a2e (V7 (a3s b8Z) fun _ _=>a0q) a0q
def Ep {α:Type} (r:PE α):Prop:=∀ e j,r=.error (e,j)->e≠0
theorem R9 {α:Type} {x:α × Nat}:Ep (.ok x):=nofun
theorem a3N {α:Type} {i:Nat}:Ep (.error (110,i):PE α):=fun e j h=>by cases h;decide
theorem Z1 {α β:Type} {r:PE α} {f:α->Nat->PE β} (h:Ep r) (hf:∀ x i,Ep (f x i)):Ep (M8 r f):=by
 cases r with
 | ok x=>exact hf x.1 x.2
 | error e=>exact fun a j q=>h a j (by cases q;rfl)
theorem N8 {α β:Type} {r:E α} {i:Nat} {f:α->List Tok->PE β} (h:Er r) (hf:∀ x ts,Ep (f x ts)):Ep (E8 r i f):=by
 cases r with
 | ok x=>exact hf x.1 x.2
 | error e=>rw[h e rfl];exact a3N
theorem W2 {α:Type} {c:Prop} [Decidable c] {a b:PE α} (ha:Ep a) (hb:Ep b):Ep (if c then a else b):=by
 split
 ·exact ha
 ·exact hb
theorem M4 {β:Type} {ts:List Tok} {i:Nat} {f:Nat->PE β} (h:∀ i,Ep (f i)):Ep (E7 ts i f):=W2 (h _) a3N
theorem a3K {β:Type} {k:Int} {s:B} {ts:List Tok} {i:Nat} {f:List Tok->PE β} (h:∀ r,Ep (f r)):Ep (V5 k s ts i f):=W2 (h _) a3N
variable {R:List Rw}
theorem a7Q {β:Type} {d:Int} {i:Nat} {f:List Tok->PE β} (h:∀ r,Ep (f r)):Ep (a1m R d i f):=by
 unfold a1m a1E;cases hx:R[i]? with
 | none=>exact a3N
 | some x=>
  simp only;split
  ·rename_i h1
   split at h1
   ·cases h1
   ·split at h1
    ·cases h1
    ·exact h _
  ·rename_i h1
   split at h1
   ·rename_i he
    cases h1;exact fun a j q=>by cases q;exact he
   ·split at h1
    ·cases h1;exact a3N
    ·cases h1
theorem b3J {β:Type} {d k:Int} {s:B} {i:Nat} {f:Nat->PE β} (h:∀ i,Ep (f i)):Ep (a2A R d k s i f):=a7Q fun _=>a3K fun _=>M4 h
variable {rec:Int->Bool->Nat->PE Pr} (hr:∀ d t i,Ep (rec d t i))
include hr
theorem a6w {row:List Tok->E Gu} (hw:∀ ts,Er (row ts)) {least most:Nat} {d:Int}:∀ (k:Nat) (acc:List Gu) (i:Nat),Ep (U9 R rec row least most d k acc i)
 | 0,_,_=>W2 a3N R9
 | k+1,_,_=>W2 (a7Q fun _=>N8 (hw _) fun _ _=>M4 fun _=>Z1 (hr _ _ _) fun _ _=>a6w hw k _ _) R9
theorem b6l {d:Int}:∀ (k:Nat) (acc:List Pr) (i:Nat),Ep (a1y R rec d k acc i)
 | 0,_,_=>R9
 | k+1,_,_=>W2 (Z1 (hr _ _ _) fun _ _=>b6l k _ _) R9
theorem b2Y {d:Int}:∀ (k:Nat) (ns:List Int) (acc:List Pr) (i:Nat),Ep (S5 R rec d k ns acc i)
 | 0,_,_,_=>W2 a3N R9
 | k+1,_,_,_=>W2 (a7Q fun _=>a3K fun r=>by
  cases a7E r with
  | none=>exact a3N
  | some n=>exact Z1 (hr _ _ _) fun _ _=>b2Y k _ _ _) R9
omit hr in
theorem b3b {d:Int}:∀ (k:Nat) (acc:List Vr) (i:Nat),Ep (X1 R d k acc i)
 | 0,_,_=>W2 a3N R9
 | k+1,_,_=>W2 (a7Q fun _=>N8 (b7e _) fun _ _=>W2 (M4 fun _=>b3b k _ _) a3N) R9
omit hr in
theorem c2v {d:Int} {ts:List Tok} {i:Nat}:Ep (a7b R d ts i):=
 W2 (N8 (a3s b8Z) fun _ _=>a3K fun _=>M4 fun _=>R9) (M4 fun _=>b3J fun _=>Z1 (b3b _ _ _) fun _ _=>b3J fun _=>R9)
omit hr in
theorem b4f {s:Sp} {ts:List Tok} {i:Nat}:Ep (a8K s ts i):=a3K fun _=>W2 (M4 fun _=>R9) a3N
theorem c7d {d:Int} {ts:List Tok} {i:Nat}:Ep (a0a R rec d ts i):=
 W2 (N8 (a2F _) fun _ _=>Z1 c2v fun _ _=>R9)
  (W2 (N8 (a2F _) fun _ _=>N8 (c8f b9Y) fun _ _=>M4 fun _=>Z1 (hr _ _ _) fun _ _=>b3J fun _=>R9)
   (W2 (N8 (b3K _) fun _ _=>N8 (a2F _) fun _ _=>a3K fun _=>N8 (Z5 _) fun _ _=>b4f)
    (W2 (N8 (b3K _) fun _ _=>N8 (a3s a2F) fun _ _=>W2 (N8 (a6E _) fun _ _=>b4f) b4f) R9)))
theorem b2C {k:Int} {d:Int} {ts:List Tok} {i:Nat}:Ep (a2w R rec k d ts i):=
 N8 (c2D _) fun _ _=>M4 fun _=>W2 (Z1 (hr _ _ _) fun _ _=>R9) (Z1 (b6l hr _ _ _) fun _ _=>R9)
theorem a8F {k:Int} {row:List Tok->E Gu} (hw:∀ ts,Er (row ts)) {d:Int} {ts:List Tok} {i:Nat}:Ep (X5 R rec k row d ts i):=
 N8 (c2D _) fun _ _=>M4 fun _=>Z1 (a6w hr hw _ _ _) fun _ _=>R9
theorem b2h {d:Int} {ts:List Tok} {i:Nat}:Ep (P5 R rec d ts i):=
 W2 (N8 (a2F _) fun _ _=>N8 (c8f Z5) fun _ _=>M4 fun _=>R9)
  (N8 (a3s a6E) fun _ _=>W2 (N8 (a3s Z5) fun _ _=>M4 fun _=>R9) (W2 a3N (W2 (N8 (a3s Z5) fun _ _=>M4 fun _=>R9)
   (a3K fun _=>W2 (M4 fun _=>Z1 (a6w hr c9b _ _ _) fun _ _=>R9) (W2 (N8 (Z5 _) fun _ _=>M4 fun _=>R9) (N8 (a3s a6E) fun _ _=>M4 fun _=>R9))))))
theorem c6H {s:B} {f:Int->List Tok->Nat->PE Pr} (h:a1a R rec s=some f) (d:Int) (ts:List Tok) (i:Nat):Ep (f d ts i):=by
 unfold a1a at h;split at h
 ·cases h;exact M4 fun _=>R9
 split at h
 ·cases h;exact M4 fun _=>R9
 split at h
 ·cases h;exact b2C hr
 split at h
 ·cases h;exact b2C hr
 split at h
 ·cases h;exact W2 (M4 fun _=>Z1 (hr _ _ _) fun _ _=>Z1 (hr _ _ _) fun _ _=>R9) (a3K fun _=>a8F hr c4j)
 split at h
 ·cases h;exact a8F hr c4j
 split at h
 ·cases h;exact a8F hr c8J
 split at h
 ·cases h;exact N8 (Z5 _) fun _ _=>M4 fun _=>Z1 (a6w hr d01 _ _ _) fun _ _=>R9
 split at h
 ·cases h;exact N8 (Z5 _) fun _ _=>M4 fun _=>Z1 (hr _ _ _) fun _ _=>R9
 split at h
 ·cases h;exact a3K fun _=>M4 fun _=>Z1 (b2Y hr _ _ _ _) fun _ _=>R9
 ·cases h
theorem c6T {d:Int} {top:Bool} {ts:List Tok} {i:Nat}:Ep (a2B R rec d top ts i):=by
 cases ts with
 | nil=>exact a3N
 | cons t r=>
  unfold a2B;cases hw:a1a R rec t.text with
  | none=>simp only[hw];exact b2h hr
  | some f=>simp only[hw];exact W2 (c6H hr hw _ _ _) (b2h hr)
theorem c6L {d:Int} {top:Bool} {i:Nat}:Ep (b2x R rec d top i):=a7Q fun _=>Z1 (c7d hr) fun so _=>by
 cases so with
 | none=>exact c6T hr
 | some s=>exact Z1 (hr _ _ _) fun _ _=>R9
omit hr in
theorem a9D:∀ (n:Nat) (d:Int) (t:Bool) (i:Nat),Ep (A4 R n d t i)
 | 0,_,_,_=>a3N
 | n+1,_,_,_=>c6L (a9D n)
omit hr in
theorem c8N:Ep (b1H R):=Z1 (a9D _ _ _ _) fun _ i=>by
 cases R[i]? with
 | none=>exact R9
 | some y=>
  show Ep (.error (if (Go.Lx.lexO y.text).2.2≠0 then (Go.Lx.lexO y.text).2.2 else 110,i));intro e j h;cases h;split
  ·assumption
  ·decide
end
section
open Go.Eng Go.Pc Go
open Go.Xp hiding B
open Go.Ty (Ty Vr Tok)
open Go.Ly (Rw)
def A2 (s:B):Tok:=if Go.Lx.key s then ⟨2,0,s,0⟩ else ⟨5,0,s,0⟩
def G4 (s:B):Tok:=⟨1,0,s,0⟩
def F8 (t:Ty):List Tok:=(Go.Ty.tokens t).1
def W5 (k:Int):List Tok:=F8 ⟨k,0,0,[]⟩
def B4 {α:Type} (sep:B) (f:α->List Tok):List α->List Tok
 | []=>[]
 | [x]=>f x
 | x::y::r=>f x++⟨5,0,sep,0⟩::B4 sep f (y::r)
theorem a3z {α:Type} (sep:B) (f:α->List Tok):∀ (l:List α) (x:α),l≠[]->B4 sep f (l++[x])=B4 sep f l++(⟨5,0,sep,0⟩::f x)
 | [],_,h=>absurd rfl h
 | [y],x,_=>rfl
 | y::z::r,x,_=>by
  show f y++⟨5,0,sep,0⟩::B4 sep f (z::r++[x])=(f y++⟨5,0,sep,0⟩::B4 sep f (z::r))++(⟨5,0,sep,0⟩::f x);rw[a3z sep f (z::r) x (by simp)];simp
def a1n (s:B) (l:List Tok):List Tok:=if l.length=0 then [] else A2 s::l
def Y9 (r:Rp):List Tok:=if r.name=[] then [] else ((([G4 r.name]++[A2 [61]])++B5 r.base)++[A2 [70,79,82]])++B5 r.count
def J3 (f:Fo):List Tok:=((if f.val then [A2 [86,65,76]] else [])++F8 f.ty)++[G4 f.name]
abbrev Ln:=Int × List Tok
def A3 (k:Int) (n:B) (ch:Ex) (tg ex:List Ex) (rep:Rp):List Tok:=
 if k=1 then [A2 [83,75,73,80]]
 else if k=2 then [A2 [83,84,79,80]]
 else if k=3 then (B4 [44] B5 tg++[A2 [58,61]])++B4 [44] B5 ex
 else if k=4 then (B5 ch++[A2 [63]])++B4 [59] B5 tg
 else if k=5 then (B5 ch++[A2 [33]])++B4 [59] B5 ex
 else if k=6 then (B5 ch++[A2 [63],A2 [65,70,84,69,82]])++B4 [] B5 ex
 else if k=7 then B5 ch++[A2 [63],A2 [67,65,83,69]]
 else if k=8 then [A2 [83,69,81]]++Y9 rep
 else if k=9 then [A2 [80,65,82]]++Y9 rep
 else if k=10 then [A2 [80,82,73],A2 [80,65,82]]
 else if k=11 then [A2 [80,76,65,67,69,68],A2 [80,65,82]]
 else if k=12 then [A2 [65,76,84]]++Y9 rep
 else if k=13 then [A2 [80,82,73],A2 [65,76,84]]++Y9 rep
 else if k=14 then [A2 [73,70]]++Y9 rep
 else if k=15 then [A2 [67,65,83,69]]++B4 [] B5 ex
 else if k=16 then [A2 [87,72,73,76,69]]++B4 [] B5 ex
 else (([G4 n]++[A2 [40]])++B4 [44] B5 ex)++[A2 [41]]
def Z4 (c:Ex):List Tok:=if I4 c then [] else B5 c++[⟨5,0,[38],0⟩]
def F5 (k:Int) (n:B) (cond ch:Ex) (tg vl:List Ex) (time:Ex):List Tok:=
 if k=1 then B5 cond
 else if k=2 then Z4 cond++[A2 [83,75,73,80]]
 else if k=3 then ((Z4 cond++B5 ch)++[A2 [63]])++B4 [59] B5 tg
 else if k=4 then ((Z4 cond++B5 ch)++[A2 [63],A2 [65,70,84,69,82]])++B5 time
 else if k=5 then B4 [44] B5 vl
 else if k=6 then [A2 [69,76,83,69]]
 else [G4 n]++a1n [59] (B4 [59] B5 tg)
def I7 (l:List B):List Tok:=B4 [44] (fun s=>[G4 s]) l
def I0 (v:Vr):List Tok:=[G4 v.tag]++a1n [59] (B4 [59] W5 v.items)
mutual
def B2:Pr->Int->List Ln
 | .mk k n ch tg ex rep _ _ gl _ _ ll pn sp,d=>if k=18 then G6 sp d++a1p ll d else (d,A3 k n ch tg.l ex.l rep)::(F3 k pn.l ll d++D2 gl (d+1))
def a1p:List Pr->Int->List Ln
 | [],_=>[]
 | x::_,d=>B2 x d
def F3 (k:Int):List Int->List Pr->Int->List Ln
 | _,[],_=>[]
 | ns,x::r,d=>(if k=11 then (d+1,[A2 [80,82,79,67,69,83,83,79,82],⟨3,0,[],IntKind.i32.wrap (ns.headD 0)⟩])::B2 x (d+2) else B2 x (d+1))++F3 k ns.tail r d
def V9:Gu->Int->List Ln
 | .mk k n cond ch tg vl time _ _ bl,d=>(d,F5 k n cond ch tg.l vl.l time)::a1p bl (d+1)
def D2:List Gu->Int->List Ln
 | [],_=>[]
 | g::r,d=>V9 g d++D2 r d
def G6:Sp->Int->List Ln
 | .mk k ty ns e cs vs fs _ _ bl,d=>
  if k=1 then [(d,(F8 ty++I7 ns.l)++[A2 [58]])]
  else if k=2 then [(d,(((([A2 [86,65,76]]++F8 ty)++I7 ns.l)++[A2 [73,83]])++B5 e)++[A2 [58]])]
  else if k=3 then [(d,(((F8 ty++I7 ns.l)++[A2 [73,83]])++B5 e)++[A2 [58]])]
  else if k=5 then (d,((([A2 [80,82,79,67]]++I7 ns.l)++[A2 [40]])++B4 [44] J3 fs.l)++[A2 [41]])::(a1p bl (d+1)++[(d,[A2 [58]])])
  else if cs=false then [(d,((([A2 [80,82,79,84,79,67,79,76]]++I7 ns.l)++[A2 [73,83]])++B4 [59] W5 (Go.Ty.hdV vs.l).items)++[A2 [58]])]
  else (d,[A2 [80,82,79,84,79,67,79,76]]++I7 ns.l)::(d+1,[A2 [67,65,83,69]])::(vs.l.map (fun v=>((d+2,I0 v):Ln))++[(d,[A2 [58]])])
end
abbrev Ps:=List Rw × Bool
def D0 (st:Ps) (x:Ln):Ps:=if (Go.Lx.textO x.2).2≠0\/st.1.length > 2048 then (st.1,true) else (st.1++[⟨st.1.length+1,x.1,(Go.Lx.textO x.2).1⟩],st.2)
def C1 (st:Ps) (l:List Ln):Ps:=l.foldl D0 st
theorem a0Z (st:Ps) (a b:List Ln):C1 st (a++b)=C1 (C1 st a) b:=List.foldl_append
theorem a0V (st:Ps) (x:Ln) (b:List Ln):C1 st (x::b)=C1 (D0 st x) b:=rfl
def R0 (p:Pr):List Rw × Int:=if mayP p then (if (C1 ([],false) (B2 p 0)).2||!Go.Ly.mayP (C1 ([],false) (B2 p 0)).1 then ([],3) else ((C1 ([],false) (B2 p 0)).1,0)) else ([],2)
end
end Go.Sx
namespace Go.Eng
section
open Go Go.RowKit
section
variable {P:Program} {ops:Array Oper} {Q:Exit->Act->World->Prop} {n:Cx} {F:Fm} {h h':List Res} {m:View} {rest:List Oper}
variable {ty:TypeId} {pos:String} {after:Array Edge} {d:Nat}
theorem c2S {x y:Operand} {t tn e:TypeId} {sz by_ q:Nat} {kn kq:IntKind} {j:Int} (E:EL P t e sz by_) (htn:P.underlying tn=some (.int kn)) (ex:Ev n F x (.slice none 0 0)) (ey:Ev n F y (.int kq j)) (hj:j=(q:Int)) (h0:0 < q) (hb:q * by_<=140737488355328) (h63:q<=4611686018427387904) (hd:d < n.num)
 (kk:∀ b cap,q<=cap->cap<=9223372036854775807->WL P ops Q n rest ((d,.slice (some ⟨b,0,none⟩) q cap)::F) (.row (.slice (some ⟨b,0,none⟩) 0 cap) e sz 0 []::h) m) :
 WL P ops Q n (⟨some d,.call ⟨.builtin .append,#[x,y],#[t,tn]⟩,ty,pos,after,none⟩::rest) F h m:=.mk fun f w hf hs=>by
 subst hj;obtain⟨i,z,ht,hi,hz,hsize,hby,hzs,hsz⟩:=E.ex;subst hsize hby
 have hr:=Lib.run_append_grow_zeros (P:=P) w t tn ty e i z kq kn ht htn hi hz none 0 0 [] (run_firstCells_none w.drew i.size 0 0 0) q h0 hsz (by omega) (by omega) (by omega) (growslice_fits (by omega) (by rw[Nat.zero_add];exact hb));simp only[Nat.zero_add] at hr;have hge:=grownCap_ge w q 0 e;have hcm:grownCap w q 0 e<=maxLen:=grownCap_le_maxLen w q 0 e (by unfold maxLen;omega);refine J7 rfl (R2 (v:=.slice (some ⟨w.heap.size,0,none⟩) q (grownCap w q 0 e)) (w':=w.drew.alloc (.cells (([]:List Value).toArray++Builtin.zeroCells z.cells q++Builtin.zeroCells z.cells (grownCap w q 0 e - q)) e)) ?_ (kk w.heap.size (grownCap w q 0 e) hge (by unfold maxLen at hcm;omega) _ _ (hf.put hd _) ?_))
 ·simp at hr
  simp[execOp,resolve,invoke,builtin,ex f hf,ey f hf,hr]
 ·refine(hs.drew.alloc (.cells (([]:List Value).toArray++Builtin.zeroCells z.cells q++Builtin.zeroCells z.cells (grownCap w q 0 e - q)) e)).conv (r':=.row (.slice (some ⟨w.heap.size,0,none⟩) 0 (grownCap w q 0 e)) e i.size 0 []) Upd.here rfl fun hh=>?_
  have:=a7I (sz:=i.size) (n:=0) (cap:=grownCap w q 0 e) hh (Nat.zero_le _) hcm (by
   simp only[Array.size_append,List.size_toArray,size_zeroCells,hzs,List.length_nil,Nat.zero_add,<- Nat.add_mul];congr 1
   omega)
  rw[Nat.zero_mul,List.take_zero] at this;exact this
theorem b5N {x:Operand} {t:TypeId} {e:TypeId} {a:Option Addr} {l c:Nat} {dst:Option Tmp} {g:Option (Nat × Bool)} (ht:P.underlying t=some (.slice e)) (ex:Ev n F x (.slice a l c)) :
 PO P ⟨dst,.call ⟨.builtin .cap,#[x],#[t]⟩,ty,pos,after,g⟩ n F h m (.int .i64 c):=.mk fun b w ha _=>by
 simp[execOp,resolve,invoke,builtin,ex b ha,Builtin.cap_,run_underlying ht,goInt]
end
end
end Go.Eng
namespace Go.Sx
section
open Go.Eng Go.Pc Go
open Go.Xp hiding B D1
open Go.Ty (Ty Vr Tok)
theorem b0p (p:Pr):(stP p).k=p.k/\(stP p).name=p.name/\(stP p).ch=B0 p.ch/\(stP p).tg.l=p.tg.l.map B0/\(stP p).ex.l=p.ex.l.map B0/\(stP p).rep=stR p.rep/\(stP p).gl=p.gl.map stG/\(stP p).ll=p.ll.map stP/\(stP p).pn.l=p.pn.l/\(stP p).sp=stS p.sp:=by
 cases p;refine⟨rfl,rfl,rfl,rfl,rfl,rfl,?_,?_,rfl,rfl⟩
 ·exact a9I _
 ·exact a5u _
theorem b6d (g:Gu):(stG g).k=g.k/\(stG g).name=g.name/\(stG g).cond=B0 g.cond/\(stG g).ch=B0 g.ch/\(stG g).tg.l=g.tg.l.map B0/\(stG g).vl.l=g.vl.l.map B0/\(stG g).time=B0 g.time/\(stG g).bl=g.bl.map stP:=by
 cases g;exact⟨rfl,rfl,rfl,rfl,rfl,rfl,rfl,a5u _⟩
theorem b8H (s:Sp):(stS s).k=s.k/\(stS s).ty=s.ty/\(stS s).names.l=s.names.l/\(stS s).e=B0 s.e/\(stS s).cs=s.cs/\(stS s).vs.l=s.vs.l.map a0I/\(stS s).fs.l=s.fs.l/\(stS s).bl=s.bl.map stP:=by
 rw[Z0];exact⟨rfl,rfl,rfl,rfl,rfl,rfl,rfl,rfl⟩
theorem d0T (g:Gu):guP (stG g)=guP g:=by
 obtain⟨h1,h2,h3,h4,h5,h6,h7,h8⟩:=b6d g;unfold guP a5e;rw[h1,h2,h3,h4,h5,h6,h7,h8,List.length_map,a4G,a4G,a4G,P0,P0,X9,a5w _ B0 _ _ G1 G1 X9,a5w _ B0 _ _ G3 G3 P0]
theorem d1j (u:Us) (g:Gu):inG u (stG g)=inG u g:=by
 unfold inG;rw[d0T,(b6d g).1]
theorem d0m:stS B7=B7:=by
 rw[Z0];have:B0 A0=A0:=by rw[a0F];rfl
 show spM 0 Go.Ty.zeroT [] (B0 A0) false [] [] []=B7;rw[this];rfl
theorem b1Y (p:Pr) (u:Us):L9 (stP p) u=L9 p u:=by
 obtain⟨h1,h2,h3,h4,h5,h6,h7,h8,h9,h10⟩:=b0p p;unfold L9;rw[h2,h3,h4,h5,h7,h8,h9,h10,List.length_map,a4G,X9,a5w _ B0 _ _ G1 G1 X9,a5w _ B0 _ _ G3 G3 P0,a5w _ stG _ _ (inG u) (inG u) (d1j u),c7V];have:K2 (stS p.sp) B7=K2 p.sp B7:=by
  have:=b2J p.sp B7;rwa [d0m] at this
 rw[this]
theorem c1b (p:Pr):O0 (stP p)=O0 p:=by
 obtain⟨h1,h2,h3,h4,h5,h6,h7,h8,h9,h10⟩:=b0p p;unfold O0;have hr:Q0 (stP p).rep=Q0 p.rep:=by
  rw[h6];unfold Q0 stR;show(if p.rep.name==[] then I4 (B0 p.rep.base)&&I4 (B0 p.rep.count) else Go.Lx.name p.rep.name&&G3 (B0 p.rep.base)&&G3 (B0 p.rep.count))=_;rw[a4G,a4G,P0,P0]
 have hn:(stP p).rep.name=p.rep.name:=by rw[h6];rfl
 rw[h1,hr,hn,b1Y,b1Y]
theorem c5h (p:Pr) (d:Int) (pl:Bool) (q:Int):Z7 (stP p) d pl q=Z7 p d pl q:=by
 unfold Z7;rw[c1b,(b0p p).1]
abbrev b6k (p:Pr):Prop:=∀ d pl q,J5 (stP p) d pl q=J5 p d pl q
theorem b8X {d:Int} {pl:Bool}:∀ {l:List Pr} {q:Int},(∀ x ∈ l,b6k x)->W1 (l.map stP) d pl q=W1 l d pl q
 | [],_,_=>rfl
 | x::r,q,h=>by
  have h1:=h x (List.Mem.head _) d pl q;show(if (J5 (stP x) d pl q).1 then W1 (r.map stP) d pl (J5 (stP x) d pl q).2 else J5 (stP x) d pl q)=(if (J5 x d pl q).1 then W1 r d pl (J5 x d pl q).2 else J5 x d pl q);rw[h1,b8X fun y hy=>h y (List.Mem.tail _ hy)]
theorem b9m {d:Int} {l:List Pr} {q:Int} (h:∀ x ∈ l,b6k x):a4O (l.map stP) d q=a4O l d q:=by
 cases l with
 | nil=>rfl
 | cons x r=>exact h x (List.Mem.head _) d false q
theorem b8o {d:Int}:∀ {l:List Gu} {q:Int},(∀ g ∈ l,∀ x ∈ g.bl,b6k x)->a1D (l.map stG) d q=a1D l d q
 | [],_,_=>rfl
 | g::r,q,h=>by
  have h1:a0r (stG g) d q=a0r g d q:=by
   rw[a4y,a4y,(b6d g).2.2.2.2.2.2.2];exact b9m (h g (List.Mem.head _))
  show(if (a0r (stG g) d q).1 then a1D (r.map stG) d (a0r (stG g) d q).2 else a0r (stG g) d q)=(if (a0r g d q).1 then a1D r d (a0r g d q).2 else a0r g d q);rw[h1,b8o fun y hy=>h y (List.Mem.tail _ hy)]
theorem c7H (p:Pr):b6k p:=by
 refine Pr.ind (q:=b6k) (fun p ih d pl q=>?_) p;obtain⟨h1,h2,h3,h4,h5,h6,h7,h8,h9,h10⟩:=b0p p;have hs:∀ a b,a0v (stS p.sp) a b=a0v p.sp a b:=fun a b=>by
  rw[a6c,a6c,(b8H p.sp).2.2.2.2.1,(b8H p.sp).2.2.2.2.2.2.2,b9m fun x hx=>ih x (.s hx)]
 have hl:∀ a b c,W1 (p.ll.map stP) a b c=W1 p.ll a b c:=fun a b c=>b8X fun x hx=>ih x (.l hx)
 have hg:∀ a b,a1D (p.gl.map stG) a b=a1D p.gl a b:=fun a b=>b8o fun g hg x hx=>ih x (.g hg hx)
 rw[a6p (stP p),a6p p,c5h,h1,h7,h8,h10,hs,hl,hl,hg,hg]
theorem c7E (p:Pr):mayP (stP p)=mayP p:=by unfold mayP;rw[c7H]
theorem b2k {α β:Type} (sep:B) (f:β->List Tok) (g:α->β) (e:α->List Tok) (h:∀ x,f (g x)=e x):∀ l:List α,B4 sep f (l.map g)=B4 sep e l
 | []=>rfl
 | [x]=>h x
 | x::y::r=>by
  show f (g x)++⟨5,0,sep,0⟩::B4 sep f ((y::r).map g)=e x++⟨5,0,sep,0⟩::B4 sep e (y::r);rw[h,b2k sep f g e h (y::r)]
theorem a3v (sep:B) (l:List Ex):B4 sep B5 (l.map B0)=B4 sep B5 l:=b2k sep B5 B0 B5 a0o l
theorem c8H (r:Rp):Y9 (stR r)=Y9 r:=by
 unfold Y9 stR;show(if r.name=[] then [] else ((([G4 r.name]++[A2 [61]])++B5 (B0 r.base))++[A2 [70,79,82]])++B5 (B0 r.count))=_;rw[a0o,a0o]
theorem c7z (e:Ex):Z4 (B0 e)=Z4 e:=by
 unfold Z4;rw[a4G,a0o]
abbrev b0r (p:Pr):Prop:=∀ d,B2 (stP p) d=B2 p d
theorem b2n {k d:Int}:∀ {l:List Pr} {ns:List Int},(∀ x ∈ l,b0r x)->F3 k ns (l.map stP) d=F3 k ns l d
 | [],ns,_=>by cases ns <;> rfl
 | x::r,ns,h=>by
  have h1:=h x (List.Mem.head _);show(if k=11 then _::B2 (stP x) (d+2) else B2 (stP x) (d+1))++F3 k ns.tail (r.map stP) d=_;rw[h1,h1,b2n fun y hy=>h y (List.Mem.tail _ hy)];rfl
theorem a8o {d:Int} {l:List Pr} (h:∀ x ∈ l,b0r x):a1p (l.map stP) d=a1p l d:=by
 cases l with
 | nil=>rfl
 | cons x r=>exact h x (List.Mem.head _) d
theorem a4s (g:Gu) (d:Int):V9 g d=(d,F5 g.k g.name g.cond g.ch g.tg.l g.vl.l g.time)::a1p g.bl (d+1):=by cases g;rfl
theorem c0S {d:Int} {g:Gu} (h:∀ x ∈ g.bl,b0r x):V9 (stG g) d=V9 g d:=by
 obtain⟨h1,h2,h3,h4,h5,h6,h7,h8⟩:=b6d g;rw[a4s,a4s,h1,h2,h3,h4,h5,h6,h7,h8,a8o h];unfold F5;rw[a0o,a0o,a0o,c7z,a3v,a3v]
theorem b02 {d:Int}:∀ {l:List Gu},(∀ g ∈ l,∀ x ∈ g.bl,b0r x)->D2 (l.map stG) d=D2 l d
 | [],_=>rfl
 | g::r,h=>by
  show V9 (stG g) d++D2 (r.map stG) d=V9 g d++D2 r d;rw[c0S (h g (List.Mem.head _)),b02 fun y hy=>h y (List.Mem.tail _ hy)]
theorem a00 (s:Sp) (d:Int):G6 s d=if s.k=1 then [(d,(F8 s.ty++I7 s.names.l)++[A2 [58]])]
 else if s.k=2 then [(d,(((([A2 [86,65,76]]++F8 s.ty)++I7 s.names.l)++[A2 [73,83]])++B5 s.e)++[A2 [58]])]
 else if s.k=3 then [(d,(((F8 s.ty++I7 s.names.l)++[A2 [73,83]])++B5 s.e)++[A2 [58]])]
 else if s.k=5 then (d,((([A2 [80,82,79,67]]++I7 s.names.l)++[A2 [40]])++B4 [44] J3 s.fs.l)++[A2 [41]])::(a1p s.bl (d+1)++[(d,[A2 [58]])])
 else if s.cs=false then [(d,((([A2 [80,82,79,84,79,67,79,76]]++I7 s.names.l)++[A2 [73,83]])++B4 [59] W5 (Go.Ty.hdV s.vs.l).items)++[A2 [58]])]
 else (d,[A2 [80,82,79,84,79,67,79,76]]++I7 s.names.l)::(d+1,[A2 [67,65,83,69]])::(s.vs.l.map (fun v=>((d+2,I0 v):Ln))++[(d,[A2 [58]])]):=by cases s;rfl
theorem b9Z {d:Int} {s:Sp} (h:∀ x ∈ s.bl,b0r x):G6 (stS s) d=G6 s d:=by
 obtain⟨h1,h2,h3,h4,h5,h6,h7,h8⟩:=b8H s;have hv:(Go.Ty.hdV (s.vs.l.map a0I)).items=(Go.Ty.hdV s.vs.l).items:=by cases s.vs.l <;> rfl
 rw[a00,a00,h1,h2,h3,h4,h5,h6,h7,h8,a8o h,a0o,hv,List.map_map];rfl
theorem a4j (p:Pr) (d:Int):B2 p d=if p.k=18 then G6 p.sp d++a1p p.ll d else (d,A3 p.k p.name p.ch p.tg.l p.ex.l p.rep)::(F3 p.k p.pn.l p.ll d++D2 p.gl (d+1)):=by cases p;rfl
theorem c3b (p:Pr):b0r p:=by
 refine Pr.ind (q:=b0r) (fun p ih d=>?_) p;obtain⟨h1,h2,h3,h4,h5,h6,h7,h8,h9,h10⟩:=b0p p;have hf:A3 p.k p.name (B0 p.ch) (p.tg.l.map B0) (p.ex.l.map B0) (stR p.rep)=A3 p.k p.name p.ch p.tg.l p.ex.l p.rep:=by
  unfold A3;rw[a0o,a3v,a3v,a3v,a3v,a3v,c8H]
 rw[a4j,a4j,h1,h2,h3,h4,h5,h6,h7,h8,h9,h10,hf,b9Z fun x hx=>ih x (.s hx),a8o fun x hx=>ih x (.l hx),b2n fun x hx=>ih x (.l hx),b02 fun g hg x hx=>ih x (.g hg hx)]
theorem c3U (p:Pr):R0 (stP p)=R0 p:=by
 unfold R0;rw[c7E,c3b]
def O6 (s:B):List B:=Lib.splitK [47] 0 (Lib.count s [47]) s
def a7u (i:Nat) (x:B):Go.Ly.Rw:=⟨(i:Int)+1,(x.length:Int) - ((Lib.trimLeftB x 46).length:Int),Lib.trimLeftB x 46⟩
def a7o:Nat->List B->List Go.Ly.Rw
 | _,[]=>[]
 | i,x::l=>a7u i x::a7o (i+1) l
theorem a9T:∀ {i j:Nat} {l:List B} {x:B},l[j]?=some x->a7o i (l.take (j+1))=a7o i (l.take j)++[a7u (i+j) x]
 | _,_,[],_,h=>by cases h
 | i,0,y::l,x,h=>by cases h;rfl
 | i,j+1,y::l,x,h=>by
  have ih:=a9T (i:=i+1) (j:=j) (l:=l) (x:=x) (by simpa using h);show a7u i y::a7o (i+1) (l.take (j+1))=a7u i y::(a7o (i+1) (l.take j)++[a7u (i+(j+1)) x]);rw[ih,show i+1+j=i+(j+1) by omega]
def a1f (s:B):List Go.Ly.Rw:=a7o 0 (O6 s)
def a4D (s:B) (k:Int):Bool:=(((((S0 (a1f s)).1.k==k)&&(((S0 (a1f s)).2.1:Int)==0))&&((S0 (a1f s)).2.2==0))&&((R0 (S0 (a1f s)).1).2==0))&&eqL Go.Ly.eqR (R0 (S0 (a1f s)).1).1 (a1f s)
end
end Go.Sx
namespace Go.Pc
section
open Go.Eng Go.Xp Go
open Go.Ty (Ty Vr)
def a0y (r s:Rp):Bool:=((r.name==s.name)&&C7 r.base s.base)&&C7 r.count s.count
def a0P (c:Bool) (l:List Vr) (d:Bool) (s:List Vr):Bool:=(c==d)&&eqL L1 l s
mutual
def D6:Pr->Pr->Bool
 | .mk k nm ch tg ex rp _ _ gl _ _ ll pn sp=>fun q=>eqL (fun a b:Int=>a==b) pn.l q.pn.l&&((((((((((k==q.k)&&(nm==q.name))&&a0y rp q.rep)&&C7 ch q.ch)&&eqL C7 tg.l q.tg.l)&&eqL C7 ex.l q.ex.l)&&b4l gl q.gl)&&a2c ll q.ll)&&R1 sp q.sp))
def a2c:List Pr->List Pr->Bool
 | []=>fun s=>match s with
  | []=>true
  | _::_=>false
 | x::r=>fun s=>match s with
  | []=>false
  | y::t=>D6 x y&&a2c r t
def N9:Gu->Gu->Bool
 | .mk k nm c ch tg vl tm _ _ bl=>fun g=>(((((((k==g.k)&&(nm==g.name))&&C7 c g.cond)&&C7 ch g.ch)&&C7 tm g.time)&&eqL C7 tg.l g.tg.l)&&eqL C7 vl.l g.vl.l)&&a2c bl g.bl
def b4l:List Gu->List Gu->Bool
 | []=>fun s=>match s with
  | []=>true
  | _::_=>false
 | x::r=>fun s=>match s with
  | []=>false
  | y::t=>N9 x y&&b4l r t
def R1:Sp->Sp->Bool
 | .mk k ty nms e cs vs fs _ _ bl=>fun s=>((((k==s.k)&&Go.Ty.eqT ty s.ty)&&eqL a0n fs.l s.fs.l))&&(((eqL (fun a b:B=>a==b) nms.l s.names.l&&C7 e s.e)&&a0P cs vs.l s.cs s.vs.l)&&a2c bl s.bl)
end
theorem a3i:∀ l s:List Pr,a2c l s=eqL D6 l s
 | [],[]=>rfl
 | x::r,y::s=>by show(D6 x y&&a2c r s)=(D6 x y&&eqL D6 r s);rw[a3i r s]
 | [],_::_=>rfl
 | _::_,[]=>rfl
theorem a8O:∀ l s:List Gu,b4l l s=eqL N9 l s
 | [],[]=>rfl
 | x::r,y::s=>by show(N9 x y&&b4l r s)=(N9 x y&&eqL N9 r s);rw[a8O r s]
 | [],_::_=>rfl
 | _::_,[]=>rfl
theorem a5T (p q:Pr):D6 p q=(eqL (fun a b:Int=>a==b) p.pn.l q.pn.l&&((((((((((p.k==q.k)&&(p.name==q.name))&&a0y p.rep q.rep)&&C7 p.ch q.ch)&&eqL C7 p.tg.l q.tg.l)&&eqL C7 p.ex.l q.ex.l)&&eqL N9 p.gl q.gl)&&eqL D6 p.ll q.ll)&&R1 p.sp q.sp))):=by
 rw[<- a8O,<- a3i];cases p;rfl
theorem a5E (p g:Gu):N9 p g=((((((((p.k==g.k)&&(p.name==g.name))&&C7 p.cond g.cond)&&C7 p.ch g.ch)&&C7 p.time g.time)&&eqL C7 p.tg.l g.tg.l)&&eqL C7 p.vl.l g.vl.l)&&eqL D6 p.bl g.bl):=by
 rw[<- a3i];cases p;rfl
theorem a4u (p s:Sp):R1 p s=(((((p.k==s.k)&&Go.Ty.eqT p.ty s.ty)&&eqL a0n p.fs.l s.fs.l))&&(((eqL (fun a b:B=>a==b) p.names.l s.names.l&&C7 p.e s.e)&&a0P p.cs p.vs.l s.cs s.vs.l)&&eqL D6 p.bl s.bl)):=by
 rw[<- a3i];cases p;rfl
theorem c0q {x y:Sp} (h:(((x.k != y.k)||!(Go.Ty.eqT x.ty y.ty))||((x.fs.l.length:Int) != (y.fs.l.length:Int)))=true):R1 x y=false:=by
 rw[a4u];simp only[Bool.or_eq_true,bne_iff_ne,Bool.not_eq_true'] at h;rcases h with (h | h) | h
 ·have:(x.k==y.k)=false:=by simpa using h
  simp[this]
 ·simp[h]
 ·rw[V1 a0n x.fs.l y.fs.l (by omega)]
  simp
theorem b7h {x y:Sp} (h:(((x.k != y.k)||!(Go.Ty.eqT x.ty y.ty))||((x.fs.l.length:Int) != (y.fs.l.length:Int)))=false) :
 x.fs.l.length=y.fs.l.length/\R1 x y=(eqL a0n x.fs.l y.fs.l&&(((eqL (fun a b:B=>a==b) x.names.l y.names.l&&C7 x.e y.e)&&a0P x.cs x.vs.l y.cs y.vs.l)&&eqL D6 x.bl y.bl)):=by
 rw[a4u];simp only[Bool.or_eq_false_iff,bne_eq_false_iff_eq,Bool.not_eq_false'] at h;obtain⟨⟨h1,h2⟩,h3⟩:=h;refine⟨by omega,?_⟩;have h4:(x.k==y.k)=true:=by simpa using h1
 rw[h4,h2,Bool.true_and,Bool.true_and]
end
end Go.Pc
namespace Go.Eng
section
open Go Go.RowKit
section
variable {P:Program} {m m':View} {h h':List Res} {w w':World}
def Vw (m':View) (h':List Res) (m:View) (h:List Res):Prop:=∀ (a:Option Addr) (n cap sz:Nat) (xs:List Value),Rd m' h' a n cap sz xs->Rd m h a n cap sz xs
theorem c1U {m:View} {g:Nat} {cur:Array Value} {e:TypeId} {fz:Nat × Nat} {n cap sz:Nat} {xs:List Value} (hl:xs.length=n * sz) (h1:n<=cap) (h2:cap<=9223372036854775807) (ht:cur.toList.take (n * sz)=xs):Rd (m.add g (.cells cur e fz)) [] (some ⟨g,0,none⟩) n cap sz xs:=
 ⟨hl,h1,h2,fun w s j u hj=>by
  refine⟨g,0,rfl,?_⟩;have hb:=s.blk g _ (View.add_blk m g (.cells cur e fz));rw[<- ht,List.getElem?_take] at hj;split at hj
  ·simp[World.cell?,hb];simpa using hj
  ·simp at hj⟩
theorem c1n {m:View} {g:Nat} {o:Obj} {h2:List Res}:Vw (m.add g o) h2 m (.pt g o::h2):=fun a n cap sz xs r=>
 ⟨r.len,r.le,r.mx,fun w s=>r.at_ w ⟨s.os,s.out,s.tape,fun b o' hb=>by
  unfold View.add at hb;simp only at hb;split at hb
  ·rename_i e
   cases hb;rw[e];exact s.ok _ (List.Mem.head _)
  ·exact s.blk b o' hb,fun r hr=>s.ok r (List.Mem.tail _ hr),(List.pairwise_cons.1 s.nd).2,fun x hx b hb=>by
  unfold View.add;simp only;split
  ·rename_i e
   exact((List.pairwise_cons.1 s.nd).1 x hx b (by rw[e];rfl) hb).elim
  ·exact s.fr x (List.Mem.tail _ hx) b hb⟩⟩
theorem CT.lendRow {f:FuncId} {args:List Value} {a:Option Addr} {n cap sz:Nat} {e:TypeId} {xs:List Value} {R:View->Value->List Res->Prop} (he:∀ as w,(callFunc f as).run P w=.ok (.enter f as) w)
 (c:∀ m',m.le m'->Rd m' [] a n cap sz xs->CT P f args h m' (fun v _ h'=>R m' v h')) :
 CT P f args (.row (.slice a n cap) e sz n xs::h) m (fun v _ h'=>∃ m' hx h2,R m' v h2/\h'=hx++h2/\Vw m' h2 m (hx++h2)/\Rd m hx a n cap sz xs):=
 ⟨he,fun w s=>by
  have hrow:w.ownsRow 0 e sz (.slice a n cap) n xs:=s.ok _ (List.Mem.head _);obtain⟨k1,k2,k3⟩:=b0h hrow;obtain⟨hl,hn | ⟨g,cp,cur,hv,_,hh,hnc,hcm,hsz,ht⟩⟩:=hrow
  ·obtain⟨_,rfl⟩:=hn
   have hx0:xs=[]:=List.eq_nil_of_length_eq_zero (by simpa using k3);subst hx0;have s2:St m h w:=⟨s.os,s.out,s.tape,s.blk,fun r hr=>s.ok r (List.Mem.tail _ hr),(List.pairwise_cons.1 s.nd).2,fun r hr=>s.fr r (List.Mem.tail _ hr)⟩;have r0:∀ {q:View},Rd q [] a 0 cap sz []:=⟨k3,k1,k2,fun _ _ j u hj=>by cases hj⟩;refine Calls.mono ((c m Vl r0).calls w s2) ?_;rintro e' w' ⟨v,m2,h2,rfl,hle,s3,hR⟩;exact⟨v,m2,h2,rfl,hle,s3,m,[],h2,hR,rfl,fun _ _ _ _ _ r=>r,r0⟩
  ·simp only[Value.slice.injEq] at hv
   obtain⟨rfl,_,rfl⟩:=hv;have hfp:(Res.row (.slice (some ⟨g,0,none⟩) n cap) e sz n xs).fp=some g:=rfl;have hmg:m.blk g=none:=s.fr _ (List.Mem.head _) g hfp;have s2:St (m.add g (.cells cur e (0,0))) h w:=⟨s.os,s.out,s.tape,fun b o' hb=>by
    unfold View.add at hb;simp only at hb;split at hb
    ·rename_i e
     cases hb;rw[e];exact hh
    ·exact s.blk b o' hb,fun r hr=>s.ok r (List.Mem.tail _ hr),(List.pairwise_cons.1 s.nd).2,fun r hr b hb=>by
    unfold View.add;simp only;split
    ·rename_i e
     exact((List.pairwise_cons.1 s.nd).1 r hr b (e ▸ hfp) hb).elim
    ·exact s.fr r (List.Mem.tail _ hr) b hb⟩
   refine Calls.mono ((c _ (View.le_add hmg) (c1U k3 k1 k2 ht)).calls w s2) ?_;rintro e' w' ⟨v,m2,h2,rfl,hle,s3,hR⟩;have hml:=(View.le_add (o:=.cells cur e (0,0)) hmg).trans hle;have hg2:m2.blk g=some (.cells cur e (0,0)):=hle.blk _ _ (View.add_blk m g _);refine⟨v,m,.pt g (.cells cur e (0,0))::h2,rfl,Vl,⟨s3.os.trans hml.os,s3.out.trans hml.out,s3.tape.trans hml.tape,fun b o hb=>s3.blk b o (hml.blk b o hb),fun r hr=>?_,?_,fun r hr b hb=>?_⟩,_,[.pt g (.cells cur e (0,0))],h2,hR,rfl,c1n,?_⟩
   ·rcases List.mem_cons.1 hr with rfl | hr
    ·exact s3.blk g _ hg2
    ·exact s3.ok r hr
   ·refine List.pairwise_cons.2 ⟨fun r hr b h1 h3=>?_,s3.nd⟩
    cases h1;have:=s3.fr r hr _ h3;rw[hg2] at this;cases this
   ·rcases List.mem_cons.1 hr with rfl | hr
    ·cases hb
     exact hmg
    ·have h1:=s3.fr r hr b hb
     cases hm:m.blk b with
     | none=>rfl
     | some o=>
      rw[hml.blk b o hm] at h1;cases h1
   ·exact c1n _ _ _ _ _ (c1U k3 k1 k2 ht)⟩
end
end
end Go.Eng
namespace Go.Pc
section
open Go.Eng Go.Xp Go
open Go.Ty (Ty Vr)
set_option linter.unusedSimpArgs false
theorem L6 {α:Type} (l:List α) (q:α->Bool):J6 l 0 0 q=l.isEmpty:=by
 unfold J6 a5n;cases l with
 | nil=>rfl
 | cons x r=>
  have:¬ (((x::r).length:Int)<=0):=by simp only[List.length_cons];omega
  simp only[this,decide_false,Bool.and_false,Bool.false_and,List.isEmpty_cons]
theorem a4q {α:Type} (l:List α) (q:α->Bool):J6 l 0 8 q=(decide ((l.length:Int)<=8)&&l.all q):=by
 have h1:(l.length:Int) >= 0:=by omega
 have h2:(!(l.any fun x=>!q x))=l.all q:=by
  induction l with
  | nil=>rfl
  | cons x r ih=>
   have:=ih (by omega);simp only[List.any_cons,List.all_cons,<- this];cases q x <;> simp
 unfold J6 a5n;rw[h2];simp[h1]
theorem Y6 (n:Nat):a5n 1 1 (n:Int)=((n:Int)==1):=by
 unfold a5n;rw[Bool.eq_iff_iff];simp;omega
theorem Z9 (n:Nat):a5n 2 2 (n:Int)=((n:Int)==2):=by
 unfold a5n;rw[Bool.eq_iff_iff];simp;omega
theorem T9 {α:Type} (l:List α):a5n 0 0 (l.length:Int)=l.isEmpty:=by
 cases l with
 | nil=>rfl
 | cons x r=>
  unfold a5n;have:¬ (((x::r).length:Int)<=0):=by simp only[List.length_cons];omega
  simp only[this,decide_false,Bool.and_false,List.isEmpty_cons]
theorem X8 {α:Type} (q:α->α->Bool) (l:List α):eqL q l []=l.isEmpty:=by cases l <;> rfl
theorem U1 {α:Type} {q:α->α->Bool} (hq:∀ x,q x x=true):∀ l:List α,eqL q l l=true
 | []=>rfl
 | x::r=>by show(q x x&&eqL q r r)=true;rw[hq,U1 hq r];rfl
theorem I6 {α:Type} (l:List α):((l.length:Int)==0)=l.isEmpty:=by
 cases l with
 | nil=>rfl
 | cons x r=>
  rw[List.isEmpty_cons,beq_eq_false_iff_ne];simp only[List.length_cons];omega
theorem a3q (t:Ty):Go.Ty.eqT t t=true:=(Go.Ty.eqT_iff t t).2 rfl
theorem a2V (f:Fo):a0n f f=true:=by unfold a0n;simp[a3q]
theorem a2q (v:Vr):L1 v v=true:=by unfold L1;simp
theorem H4:I4 A0=true:=by decide
def b0B:Gu:=.mk 0 [] A0 A0 B8 B8 A0 none 0 []
def a3V:Rp:=⟨[],A0,A0⟩
def S3:Pr:=.mk 0 [] A0 B8 B8 a3V none 0 [] none 0 [] B8 B7
theorem a1I {nm:B} {c ch tm:Ex} {tg vl:Sli Ex}:N9 (.mk 0 nm c ch tg vl tm none 0 []) b0B=((((((nm==[])&&I4 c)&&I4 ch)&&I4 tm)&&tg.l.isEmpty)&&vl.l.isEmpty):=by
 rw[a5E];show(((((((((0:Int)==0)&&(nm==[]))&&C7 c A0)&&C7 ch A0)&&C7 tm A0)&&eqL C7 tg.l [])&&eqL C7 vl.l [])&&eqL D6 [] [])=_;rw[X8,X8,show((0:Int)==0)=true from rfl,Bool.true_and,show eqL D6 [] []=true from rfl,Bool.and_true];rfl
theorem W8 (s:Sp):R1 s B7=K2 s B7:=by
 rw[a4u];unfold K2;show(((((s.k==0)&&Go.Ty.eqT s.ty Go.Ty.zeroT)&&eqL a0n s.fs.l []))&&(((eqL (fun a b:B=>a==b) s.names.l []&&C7 s.e A0)&&((s.cs==false)&&eqL L1 s.vs.l []))&&eqL D6 s.bl []))=((((((((s.k==0)&&Go.Ty.eqT s.ty Go.Ty.zeroT)&&(s.names.l==[]))&&C7 s.e A0)&&(s.cs==false))&&eqL L1 s.vs.l [])&&eqL a0n s.fs.l [])&&((s.bl.length:Int)==0));rw[X8,X8,X8,X8,I6,show(s.names.l==[])=s.names.l.isEmpty by cases s.names.l <;> rfl];generalize (s.k==0)=a;generalize Go.Ty.eqT s.ty Go.Ty.zeroT=b;generalize s.fs.l.isEmpty=c;generalize s.names.l.isEmpty=d;generalize C7 s.e A0=e;generalize (s.cs==false)=f;generalize s.vs.l.isEmpty=g;generalize s.bl.isEmpty=i;revert a b c d e f g i
 decide
theorem N7 {nm:B} {ch:Ex} {tg ex:Sli Ex} {pn:Sli Int} {sp:Sp}:D6 (.mk 0 nm ch tg ex a3V none 0 [] none 0 [] pn sp) S3=(((((pn.l.isEmpty&&(nm==[]))&&I4 ch)&&tg.l.isEmpty)&&ex.l.isEmpty)&&K2 sp B7):=by
 rw[a5T,<- W8];show(eqL (fun a b:Int=>a==b) pn.l []&&(((((((((((0:Int)==0)&&(nm==[]))&&a0y a3V a3V)&&C7 ch A0)&&eqL C7 tg.l [])&&eqL C7 ex.l [])&&eqL N9 [] [])&&eqL D6 [] [])&&R1 sp B7)))=_;rw[X8,X8,X8,show((0:Int)==0)=true from rfl,show a0y a3V a3V=true by decide,show eqL D6 [] []=true from rfl,show eqL N9 [] []=true from rfl];show _=(((((pn.l.isEmpty&&(nm==[]))&&C7 ch A0)&&tg.l.isEmpty)&&ex.l.isEmpty)&&R1 sp B7);generalize pn.l.isEmpty=a;generalize (nm==[])=b;generalize C7 ch A0=c;generalize tg.l.isEmpty=d;generalize ex.l.isEmpty=e;generalize R1 sp B7=f;revert a b c d e f
 decide
theorem a0t {α:Type}:(B8:Sli α).l.isEmpty=true:=rfl
theorem a2l:(([]:B)==[])=true:=rfl
theorem c7T {g:Gu} (h:g.k=1\/g.k=2):guP g=((G3 g.cond&&((g.bl.length:Int)==1))&&N9 (.mk 0 g.name A0 g.ch g.tg g.vl g.time none 0 []) b0B):=by
 rw[a1I];try rw[H4]
 unfold guP a5e;rcases h with h | h
 ·rw[h]
  simp only[Int.reduceEq,Int.reduceBEq,Int.reduceBNe,Int.reduceLE,if_true,if_false,reduceIte,decide_true,decide_false,L6,O1,Bool.or_true,Bool.or_false,Bool.true_or,Bool.false_or,Bool.and_true,Bool.and_false,Bool.true_and,Bool.false_and,Bool.false_eq_true,a0t,a2l,H4];generalize G3 g.cond=x0;generalize I4 g.ch=x1;generalize I4 g.time=x2;generalize g.tg.l.isEmpty=x3;generalize g.vl.l.isEmpty=x4;generalize (g.name==[])=x5;generalize ((g.bl.length:Int)==1)=x6;revert x0 x1 x2 x3 x4 x5 x6
  decide
 ·rw[h]
  simp only[Int.reduceEq,Int.reduceBEq,Int.reduceBNe,Int.reduceLE,if_true,if_false,reduceIte,decide_true,decide_false,L6,O1,Bool.or_true,Bool.or_false,Bool.true_or,Bool.false_or,Bool.and_true,Bool.and_false,Bool.true_and,Bool.false_and,Bool.false_eq_true,a0t,a2l,H4];generalize G3 g.cond=x0;generalize I4 g.ch=x1;generalize I4 g.time=x2;generalize g.tg.l.isEmpty=x3;generalize g.vl.l.isEmpty=x4;generalize (g.name==[])=x5;generalize ((g.bl.length:Int)==1)=x6;revert x0 x1 x2 x3 x4 x5 x6
  decide
theorem d1W {g:Gu} (h:g.k=3):guP g=(((((I4 g.cond||G3 g.cond)&&G1 g.ch)&&J6 g.tg.l 1 8 G1)&&((g.bl.length:Int)==1))&&N9 (.mk 0 g.name A0 A0 B8 g.vl g.time none 0 []) b0B):=by
 rw[a1I];try rw[H4]
 unfold guP a5e;rw[h];simp only[Int.reduceEq,Int.reduceBEq,Int.reduceBNe,Int.reduceLE,if_true,if_false,reduceIte,decide_true,decide_false,L6,O1,Bool.or_true,Bool.or_false,Bool.true_or,Bool.false_or,Bool.and_true,Bool.and_false,Bool.true_and,Bool.false_and,Bool.false_eq_true,a0t,a2l,H4];generalize J6 g.tg.l 1 8 G1=x0;generalize G3 g.cond=x1;generalize I4 g.cond=x2;generalize G1 g.ch=x3;generalize I4 g.time=x4;generalize g.vl.l.isEmpty=x5;generalize (g.name==[])=x6;generalize ((g.bl.length:Int)==1)=x7;revert x0 x1 x2 x3 x4 x5 x6 x7
 decide
theorem d2a {g:Gu} (h:g.k=4):guP g=(((((I4 g.cond||G3 g.cond)&&G1 g.ch)&&G3 g.time)&&((g.bl.length:Int)==1))&&N9 (.mk 0 g.name A0 A0 g.tg g.vl A0 none 0 []) b0B):=by
 rw[a1I];try rw[H4]
 unfold guP a5e;rw[h];simp only[Int.reduceEq,Int.reduceBEq,Int.reduceBNe,Int.reduceLE,if_true,if_false,reduceIte,decide_true,decide_false,L6,O1,Bool.or_true,Bool.or_false,Bool.true_or,Bool.false_or,Bool.and_true,Bool.and_false,Bool.true_and,Bool.false_and,Bool.false_eq_true,a0t,a2l,H4];generalize G3 g.cond=x0;generalize I4 g.cond=x1;generalize G1 g.ch=x2;generalize G3 g.time=x3;generalize g.tg.l.isEmpty=x4;generalize g.vl.l.isEmpty=x5;generalize (g.name==[])=x6;generalize ((g.bl.length:Int)==1)=x7;revert x0 x1 x2 x3 x4 x5 x6 x7
 decide
theorem d1O {g:Gu} (h:g.k=5):guP g=((J6 g.vl.l 1 8 G3&&((g.bl.length:Int)==1))&&N9 (.mk 0 g.name g.cond g.ch g.tg B8 g.time none 0 []) b0B):=by
 rw[a1I];try rw[H4]
 unfold guP a5e;rw[h];simp only[Int.reduceEq,Int.reduceBEq,Int.reduceBNe,Int.reduceLE,if_true,if_false,reduceIte,decide_true,decide_false,L6,O1,Bool.or_true,Bool.or_false,Bool.true_or,Bool.false_or,Bool.and_true,Bool.and_false,Bool.true_and,Bool.false_and,Bool.false_eq_true,a0t,a2l,H4];generalize J6 g.vl.l 1 8 G3=x0;generalize I4 g.cond=x1;generalize I4 g.ch=x2;generalize I4 g.time=x3;generalize g.tg.l.isEmpty=x4;generalize (g.name==[])=x5;generalize ((g.bl.length:Int)==1)=x6;revert x0 x1 x2 x3 x4 x5 x6
 decide
theorem d21 {g:Gu} (h:g.k=6):guP g=((true&&((g.bl.length:Int)==1))&&N9 (.mk 0 g.name g.cond g.ch g.tg g.vl g.time none 0 []) b0B):=by
 rw[a1I];try rw[H4]
 unfold guP a5e;rw[h];simp only[Int.reduceEq,Int.reduceBEq,Int.reduceBNe,Int.reduceLE,if_true,if_false,reduceIte,decide_true,decide_false,L6,O1,Bool.or_true,Bool.or_false,Bool.true_or,Bool.false_or,Bool.and_true,Bool.and_false,Bool.true_and,Bool.false_and,Bool.false_eq_true,a0t,a2l,H4];generalize I4 g.cond=x0;generalize I4 g.ch=x1;generalize I4 g.time=x2;generalize g.tg.l.isEmpty=x3;generalize g.vl.l.isEmpty=x4;generalize (g.name==[])=x5;generalize ((g.bl.length:Int)==1)=x6;revert x0 x1 x2 x3 x4 x5 x6
 decide
theorem b5v {k:Int} {ty:Ty} {names:Sli B} {e:Ex} {cs:Bool} {vs:Sli Vr} {fs:Sli Fo} {ba:Option Addr} {bc:Nat} {bl:List Pr}:(Sp.mk k ty names e cs vs fs ba bc bl).k=k:=rfl
theorem b0a {k:Int} {ty:Ty} {names:Sli B} {e:Ex} {cs:Bool} {vs:Sli Vr} {fs:Sli Fo} {ba:Option Addr} {bc:Nat} {bl:List Pr}:(Sp.mk k ty names e cs vs fs ba bc bl).ty=ty:=rfl
theorem a4B {k:Int} {ty:Ty} {names:Sli B} {e:Ex} {cs:Bool} {vs:Sli Vr} {fs:Sli Fo} {ba:Option Addr} {bc:Nat} {bl:List Pr}:(Sp.mk k ty names e cs vs fs ba bc bl).names=names:=rfl
theorem b5E {k:Int} {ty:Ty} {names:Sli B} {e:Ex} {cs:Bool} {vs:Sli Vr} {fs:Sli Fo} {ba:Option Addr} {bc:Nat} {bl:List Pr}:(Sp.mk k ty names e cs vs fs ba bc bl).e=e:=rfl
theorem b0C {k:Int} {ty:Ty} {names:Sli B} {e:Ex} {cs:Bool} {vs:Sli Vr} {fs:Sli Fo} {ba:Option Addr} {bc:Nat} {bl:List Pr}:(Sp.mk k ty names e cs vs fs ba bc bl).cs=cs:=rfl
theorem b0t {k:Int} {ty:Ty} {names:Sli B} {e:Ex} {cs:Bool} {vs:Sli Vr} {fs:Sli Fo} {ba:Option Addr} {bc:Nat} {bl:List Pr}:(Sp.mk k ty names e cs vs fs ba bc bl).vs=vs:=rfl
theorem b0z {k:Int} {ty:Ty} {names:Sli B} {e:Ex} {cs:Bool} {vs:Sli Vr} {fs:Sli Fo} {ba:Option Addr} {bc:Nat} {bl:List Pr}:(Sp.mk k ty names e cs vs fs ba bc bl).fs=fs:=rfl
theorem b1x {k:Int} {ty:Ty} {names:Sli B} {e:Ex} {cs:Bool} {vs:Sli Vr} {fs:Sli Fo} {ba:Option Addr} {bc:Nat} {bl:List Pr}:(Sp.mk k ty names e cs vs fs ba bc bl).bl=bl:=rfl
theorem a2D {α:Type}:(B8:Sli α).l=[]:=rfl
theorem a3l (e:Ex):C7 e e=true:=(X3 e e).2 rfl
theorem a7U {α:Type}:((([]:List α).length:Nat):Int)=0:=rfl
theorem a4A:C7 A0 A0=true:=by decide
theorem d1y {s:Sp} (h:s.k=1):spP s=((Go.Ty.may s.ty&&J6 s.names.l 1 8 Go.Lx.name)&&R1 (.mk 0 Go.Ty.zeroT B8 s.e s.cs s.vs s.fs s.ba s.bc s.bl) B7):=by
 rw[W8];unfold spP a1F a2t K2;rw[h];show _=(_&&(((((((((0:Int)==0)&&Go.Ty.eqT Go.Ty.zeroT Go.Ty.zeroT)&&(([]:List B)==[]))&&C7 s.e A0)&&(s.cs==false))&&eqL L1 s.vs.l [])&&eqL a0n s.fs.l [])&&(((s.bl:List Pr).length:Int)==0)));simp only[Int.reduceEq,Int.reduceBEq,Int.reduceLE,and_self,and_true,true_and,if_true,if_false,reduceIte,beq_self_eq_true,Bool.and_true,Bool.true_and,b5v,b0a,a4B,b5E,b0C,b0t,b0z,b1x,a4A,a3l,a7U,a3q,X8,I6,U1 a2V,U1 a2q,a0t,a2D,List.isEmpty_nil,a4q];all_goals
  generalize Go.Ty.may s.ty=x0;generalize J6 s.names.l 1 8 Go.Lx.name=x1;generalize C7 s.e A0=x2;generalize (s.cs==false)=x3;generalize s.vs.l.isEmpty=x4;generalize s.fs.l.isEmpty=x5;generalize s.bl.isEmpty=x6;revert x0 x1 x2 x3 x4 x5 x6
  decide
theorem d1f {s:Sp} (h:s.k=2):spP s=(((S8 s.ty&&J6 s.names.l 1 1 Go.Lx.name)&&G3 s.e)&&R1 (.mk 0 Go.Ty.zeroT B8 A0 s.cs s.vs s.fs s.ba s.bc s.bl) B7):=by
 rw[W8];unfold spP a1F a2t K2;rw[h];show _=(_&&(((((((((0:Int)==0)&&Go.Ty.eqT Go.Ty.zeroT Go.Ty.zeroT)&&(([]:List B)==[]))&&C7 A0 A0)&&(s.cs==false))&&eqL L1 s.vs.l [])&&eqL a0n s.fs.l [])&&(((s.bl:List Pr).length:Int)==0)));simp only[Int.reduceEq,Int.reduceBEq,Int.reduceLE,and_self,and_true,true_and,if_true,if_false,reduceIte,beq_self_eq_true,Bool.and_true,Bool.true_and,b5v,b0a,a4B,b5E,b0C,b0t,b0z,b1x,a4A,a3l,a7U,a3q,X8,I6,U1 a2V,U1 a2q,a0t,a2D,List.isEmpty_nil,a4q];all_goals
  generalize S8 s.ty=x0;generalize J6 s.names.l 1 1 Go.Lx.name=x1;generalize G3 s.e=x2;generalize (s.cs==false)=x3;generalize s.vs.l.isEmpty=x4;generalize s.fs.l.isEmpty=x5;generalize s.bl.isEmpty=x6;revert x0 x1 x2 x3 x4 x5 x6
  decide
theorem d1t {s:Sp} (h:s.k=3):spP s=(((S8 s.ty&&J6 s.names.l 1 1 Go.Lx.name)&&G1 s.e)&&R1 (.mk 0 Go.Ty.zeroT B8 A0 s.cs s.vs s.fs s.ba s.bc s.bl) B7):=by
 rw[W8];unfold spP a1F a2t K2;rw[h];show _=(_&&(((((((((0:Int)==0)&&Go.Ty.eqT Go.Ty.zeroT Go.Ty.zeroT)&&(([]:List B)==[]))&&C7 A0 A0)&&(s.cs==false))&&eqL L1 s.vs.l [])&&eqL a0n s.fs.l [])&&(((s.bl:List Pr).length:Int)==0)));simp only[Int.reduceEq,Int.reduceBEq,Int.reduceLE,and_self,and_true,true_and,if_true,if_false,reduceIte,beq_self_eq_true,Bool.and_true,Bool.true_and,b5v,b0a,a4B,b5E,b0C,b0t,b0z,b1x,a4A,a3l,a7U,a3q,X8,I6,U1 a2V,U1 a2q,a0t,a2D,List.isEmpty_nil,a4q];all_goals
  generalize S8 s.ty=x0;generalize J6 s.names.l 1 1 Go.Lx.name=x1;generalize G1 s.e=x2;generalize (s.cs==false)=x3;generalize s.vs.l.isEmpty=x4;generalize s.fs.l.isEmpty=x5;generalize s.bl.isEmpty=x6;revert x0 x1 x2 x3 x4 x5 x6
  decide
theorem d1X {s:Sp} (h:s.k=4):spP s=((J6 s.names.l 1 1 Go.Lx.name&&Go.Ty.mayPr s.cs s.vs.l)&&R1 (.mk 0 s.ty B8 s.e false B8 s.fs s.ba s.bc s.bl) B7):=by
 rw[W8];unfold spP a1F a2t K2;rw[h];show _=(_&&(((((((((0:Int)==0)&&Go.Ty.eqT s.ty Go.Ty.zeroT)&&(([]:List B)==[]))&&C7 s.e A0)&&(false==false))&&eqL L1 [] [])&&eqL a0n s.fs.l [])&&(((s.bl:List Pr).length:Int)==0)));simp only[Int.reduceEq,Int.reduceBEq,Int.reduceLE,and_self,and_true,true_and,if_true,if_false,reduceIte,beq_self_eq_true,Bool.and_true,Bool.true_and,b5v,b0a,a4B,b5E,b0C,b0t,b0z,b1x,a4A,a3l,a7U,a3q,X8,I6,U1 a2V,U1 a2q,a0t,a2D,List.isEmpty_nil,a4q];all_goals
  generalize J6 s.names.l 1 1 Go.Lx.name=x0;generalize Go.Ty.mayPr s.cs s.vs.l=x1;generalize Go.Ty.eqT s.ty Go.Ty.zeroT=x2;generalize C7 s.e A0=x3;generalize s.fs.l.isEmpty=x4;generalize s.bl.isEmpty=x5;revert x0 x1 x2 x3 x4 x5
  decide
theorem d2e {s:Sp} (h:s.k=5):spP s=((((J6 s.names.l 1 1 Go.Lx.name&&decide ((s.fs.l.length:Int)<=8))&&((s.bl.length:Int)==1))&&s.fs.l.all foP)&&R1 (.mk 0 s.ty B8 s.e s.cs s.vs B8 none 0 []) B7):=by
 rw[W8];unfold spP a1F a2t K2;rw[h];show _=(_&&(((((((((0:Int)==0)&&Go.Ty.eqT s.ty Go.Ty.zeroT)&&(([]:List B)==[]))&&C7 s.e A0)&&(s.cs==false))&&eqL L1 s.vs.l [])&&eqL a0n [] [])&&((([]:List Pr).length:Int)==0)));simp only[Int.reduceEq,Int.reduceBEq,Int.reduceLE,and_self,and_true,true_and,if_true,if_false,reduceIte,beq_self_eq_true,Bool.and_true,Bool.true_and,b5v,b0a,a4B,b5E,b0C,b0t,b0z,b1x,a4A,a3l,a7U,a3q,X8,I6,U1 a2V,U1 a2q,a0t,a2D,List.isEmpty_nil,a4q];all_goals
  generalize J6 s.names.l 1 1 Go.Lx.name=x0;generalize decide ((s.fs.l.length:Int)<=8)=x1;generalize ((s.bl.length:Int)==1)=x2;generalize s.fs.l.all foP=x3;generalize Go.Ty.eqT s.ty Go.Ty.zeroT=x4;generalize C7 s.e A0=x5;generalize (s.cs==false)=x6;generalize s.vs.l.isEmpty=x7;revert x0 x1 x2 x3 x4 x5 x6 x7
  decide
def a0X (nm:B) (ch:Ex) (tg ex:Sli Ex) (pn:Sli Int) (sp:Sp):Pr:=.mk 0 nm ch tg ex a3V none 0 [] none 0 [] pn sp
def gQ (a b:Int):Gu->Bool:=inG { us0 with lo:=a,hi:=b }
def b7b (p:Pr):Bool:=if p.k=8\/p.k=9 then ((((true&&((!(!(p.rep.name==[])))||((p.ll.length:Int)==1)))&&((p.gl.length:Int)==0))&&Q0 p.rep)&&D6 (a0X p.name p.ch p.tg p.ex p.pn p.sp) S3) else false
def a4o (p:Pr):Bool:=if p.ll.length<=2048 then O0 p else b7b p
theorem a2x {p:Pr} {pb A:Bool} (hA:pb=false->A=false) (hb:pb=true->p.ll.length<=2048) (hk:¬ (p.k=8\/p.k=9)) (h:O0 p=A):a4o p=A:=by
 unfold a4o;by_cases hl:p.ll.length<=2048
 ·rw[if_pos hl,h]
 ·have hf:pb=false:=by
   cases hp:pb with
   | false=>rfl
   | true=>exact absurd (hb hp) hl
  rw[if_neg hl,hA hf];unfold b7b;rw[if_neg hk]
theorem b3P {p:Pr} {u:Us} (hu:B3 p.k=(u,true)):O0 p=(Q0 p.rep&&(if (p.rep.name==[])=true then L9 p u else (u.rep&&L9 p (b3N u)))):=by
 unfold O0;rw[hu];cases hr:Q0 p.rep with
 | false=>rfl
 | true=>
  cases hn:(p.rep.name==[]) with
  | true=>
   have:(p.rep.name != [])=false:=by rw[bne,hn];rfl
   simp[this]
  | false=>
   have:(p.rep.name != [])=true:=by rw[bne,hn];rfl
   cases hx:u.rep <;> simp[this,hx]
theorem a0N {p:Pr} {u:Us} (hu:B3 p.k=(u,true)) (hr:u.rep=false):O0 p=(Q0 p.rep&&((p.rep.name==[])&&L9 p u)):=by
 rw[b3P hu,hr];cases (p.rep.name==[]) <;> simp
theorem a5a {α:Type} {l:List α} (h:l.isEmpty=true):l.length<=2048:=by cases l with
 | nil=>simp
 | cons _ _=>cases h
theorem c3l {n:Nat} (h:((n:Int)==1)=true):n<=2048:=by
 have:(n:Int)=1:=by simpa using h
 omega
theorem c8z {n:Nat} (h:((n:Int)==2)=true):n<=2048:=by
 have:(n:Int)=2:=by simpa using h
 omega
theorem a3w:K2 B7 B7=true:=by decide
theorem c1Q {p:Pr} (h:p.k=1\/p.k=2):a4o p=(((((!(!(p.rep.name==[])))&&((p.ll.length:Int)==0))&&((p.gl.length:Int)==0))&&Q0 p.rep)&&D6 (a0X p.name p.ch p.tg p.ex p.pn p.sp) S3):=by
 have hu:B3 p.k=(us0,true):=by rcases h with h | h <;> rw[h] <;> rfl
 refine a2x (pb:=((p.ll.length:Int)==0)) (fun hp=>by rw[hp];simp only[Bool.and_false,Bool.false_and]) (fun hp=>by rw[I6] at hp;exact a5a hp) (by omega) ?_;rw[a0N hu rfl];unfold a0X;rw[N7];dsimp only [L9,us0];simp only[Bool.false_eq_true,if_true,if_false,reduceIte,L6,T9,Y6,Z9,O1,I6,Bool.and_true,Bool.true_and,Bool.false_and,Bool.false_or,Bool.or_false,Bool.not_false,Bool.not_true,a0t,a2l,H4,a2D,List.isEmpty_nil,a3w];generalize Q0 p.rep=x0;generalize (p.rep.name==[])=x1;generalize p.ll.isEmpty=x2;generalize p.gl.isEmpty=x3;generalize (p.name==[])=x4;generalize I4 p.ch=x5;generalize p.tg.l.isEmpty=x6;generalize p.ex.l.isEmpty=x7;generalize p.pn.l.isEmpty=x8;generalize K2 p.sp B7=x9;revert x0 x1 x2 x3 x4 x5 x6 x7 x8 x9
 decide +kernel
theorem d1s {p:Pr} (h:p.k=3):a4o p=(((((((!(!(p.rep.name==[])))&&J6 p.tg.l 1 8 G1)&&J6 p.ex.l 1 8 G3)&&((p.ll.length:Int)==0))&&((p.gl.length:Int)==0))&&Q0 p.rep)&&D6 (a0X p.name p.ch B8 B8 p.pn p.sp) S3):=by
 have hu:B3 p.k=({ us0 with t0:=1,t1:=8,e0:=1,e1:=8 },true):=by rw[h];rfl
 refine a2x (pb:=((p.ll.length:Int)==0)) (fun hp=>by rw[hp];simp only[Bool.and_false,Bool.false_and]) (fun hp=>by rw[I6] at hp;exact a5a hp) (by omega) ?_;rw[a0N hu rfl];unfold a0X;rw[N7];dsimp only [L9,us0];simp only[Bool.false_eq_true,if_true,if_false,reduceIte,L6,T9,Y6,Z9,O1,I6,Bool.and_true,Bool.true_and,Bool.false_and,Bool.false_or,Bool.or_false,Bool.not_false,Bool.not_true,a0t,a2l,H4,a2D,List.isEmpty_nil,a3w];generalize Q0 p.rep=x0;generalize (p.rep.name==[])=x1;generalize p.ll.isEmpty=x2;generalize p.gl.isEmpty=x3;generalize (p.name==[])=x4;generalize I4 p.ch=x5;generalize J6 p.tg.l 1 8 G1=x6;generalize p.pn.l.isEmpty=x7;generalize K2 p.sp B7=x8;generalize J6 p.ex.l 1 8 G3=x9;revert x0 x1 x2 x3 x4 x5 x6 x7 x8 x9
 decide +kernel
theorem d1k {p:Pr} (h:p.k=4):a4o p=(((((((!(!(p.rep.name==[])))&&G1 p.ch)&&J6 p.tg.l 1 8 G1)&&((p.ll.length:Int)==0))&&((p.gl.length:Int)==0))&&Q0 p.rep)&&D6 (a0X p.name A0 B8 p.ex p.pn p.sp) S3):=by
 have hu:B3 p.k=({ us0 with chan:=true,t0:=1,t1:=8 },true):=by rw[h];rfl
 refine a2x (pb:=((p.ll.length:Int)==0)) (fun hp=>by rw[hp];simp only[Bool.and_false,Bool.false_and]) (fun hp=>by rw[I6] at hp;exact a5a hp) (by omega) ?_;rw[a0N hu rfl];unfold a0X;rw[N7];dsimp only [L9,us0];simp only[Bool.false_eq_true,if_true,if_false,reduceIte,L6,T9,Y6,Z9,O1,I6,Bool.and_true,Bool.true_and,Bool.false_and,Bool.false_or,Bool.or_false,Bool.not_false,Bool.not_true,a0t,a2l,H4,a2D,List.isEmpty_nil,a3w];generalize Q0 p.rep=x0;generalize (p.rep.name==[])=x1;generalize p.ll.isEmpty=x2;generalize p.gl.isEmpty=x3;generalize (p.name==[])=x4;generalize G1 p.ch=x5;generalize J6 p.tg.l 1 8 G1=x6;generalize p.ex.l.isEmpty=x7;generalize p.pn.l.isEmpty=x8;generalize K2 p.sp B7=x9;revert x0 x1 x2 x3 x4 x5 x6 x7 x8 x9
 decide +kernel
theorem d1e {p:Pr} (h:p.k=5):a4o p=(((((((!(!(p.rep.name==[])))&&G1 p.ch)&&J6 p.ex.l 1 9 G3)&&((p.ll.length:Int)==0))&&((p.gl.length:Int)==0))&&Q0 p.rep)&&D6 (a0X p.name A0 p.tg B8 p.pn p.sp) S3):=by
 have hu:B3 p.k=({ us0 with chan:=true,e0:=1,e1:=9 },true):=by rw[h];rfl
 refine a2x (pb:=((p.ll.length:Int)==0)) (fun hp=>by rw[hp];simp only[Bool.and_false,Bool.false_and]) (fun hp=>by rw[I6] at hp;exact a5a hp) (by omega) ?_;rw[a0N hu rfl];unfold a0X;rw[N7];dsimp only [L9,us0];simp only[Bool.false_eq_true,if_true,if_false,reduceIte,L6,T9,Y6,Z9,O1,I6,Bool.and_true,Bool.true_and,Bool.false_and,Bool.false_or,Bool.or_false,Bool.not_false,Bool.not_true,a0t,a2l,H4,a2D,List.isEmpty_nil,a3w];generalize Q0 p.rep=x0;generalize (p.rep.name==[])=x1;generalize p.ll.isEmpty=x2;generalize p.gl.isEmpty=x3;generalize (p.name==[])=x4;generalize G1 p.ch=x5;generalize p.tg.l.isEmpty=x6;generalize p.pn.l.isEmpty=x7;generalize K2 p.sp B7=x8;generalize J6 p.ex.l 1 9 G3=x9;revert x0 x1 x2 x3 x4 x5 x6 x7 x8 x9
 decide +kernel
theorem d0j {p:Pr} (h:p.k=6):a4o p=(((((((!(!(p.rep.name==[])))&&G1 p.ch)&&J6 p.ex.l 1 1 G3)&&((p.ll.length:Int)==0))&&((p.gl.length:Int)==0))&&Q0 p.rep)&&D6 (a0X p.name A0 p.tg B8 p.pn p.sp) S3):=by
 have hu:B3 p.k=({ us0 with chan:=true,e0:=1,e1:=1 },true):=by rw[h];rfl
 refine a2x (pb:=((p.ll.length:Int)==0)) (fun hp=>by rw[hp];simp only[Bool.and_false,Bool.false_and]) (fun hp=>by rw[I6] at hp;exact a5a hp) (by omega) ?_;rw[a0N hu rfl];unfold a0X;rw[N7];dsimp only [L9,us0];simp only[Bool.false_eq_true,if_true,if_false,reduceIte,L6,T9,Y6,Z9,O1,I6,Bool.and_true,Bool.true_and,Bool.false_and,Bool.false_or,Bool.or_false,Bool.not_false,Bool.not_true,a0t,a2l,H4,a2D,List.isEmpty_nil,a3w];generalize Q0 p.rep=x0;generalize (p.rep.name==[])=x1;generalize p.ll.isEmpty=x2;generalize p.gl.isEmpty=x3;generalize (p.name==[])=x4;generalize G1 p.ch=x5;generalize p.tg.l.isEmpty=x6;generalize p.pn.l.isEmpty=x7;generalize K2 p.sp B7=x8;generalize J6 p.ex.l 1 1 G3=x9;revert x0 x1 x2 x3 x4 x5 x6 x7 x8 x9
 decide +kernel
theorem d0B {p:Pr} (h:p.k=7):a4o p=((((((!(!(p.rep.name==[])))&&G1 p.ch)&&((p.ll.length:Int)==0))&&J6 p.gl 1 16 (gQ 7 7))&&Q0 p.rep)&&D6 (a0X p.name A0 p.tg p.ex p.pn p.sp) S3):=by
 have hu:B3 p.k=({ us0 with chan:=true,g0:=1,g1:=16,lo:=7,hi:=7 },true):=by rw[h];rfl
 refine a2x (pb:=((p.ll.length:Int)==0)) (fun hp=>by rw[hp];simp only[Bool.and_false,Bool.false_and]) (fun hp=>by rw[I6] at hp;exact a5a hp) (by omega) ?_;rw[a0N hu rfl];unfold a0X;rw[N7];dsimp only [L9,us0];simp only[Bool.false_eq_true,if_true,if_false,reduceIte,L6,T9,Y6,Z9,O1,I6,Bool.and_true,Bool.true_and,Bool.false_and,Bool.false_or,Bool.or_false,Bool.not_false,Bool.not_true,a0t,a2l,H4,a2D,List.isEmpty_nil,a3w];have e1:J6 p.gl 1 16 (inG { rep:=false,name:=false,chan:=true,spec:=false,procs:=false,t0:=0,t1:=0,e0:=0,e1:=0,p0:=0,p1:=0,g0:=1,g1:=16,lo:=7,hi:=7 })=J6 p.gl 1 16 (gQ 7 7):=rfl;rw[e1];generalize Q0 p.rep=x0;generalize (p.rep.name==[])=x1;generalize p.ll.isEmpty=x2;generalize (p.name==[])=x3;generalize G1 p.ch=x4;generalize p.tg.l.isEmpty=x5;generalize p.ex.l.isEmpty=x6;generalize p.pn.l.isEmpty=x7;generalize K2 p.sp B7=x8;generalize J6 p.gl 1 16 (gQ 7 7)=x9
 revert x0 x1 x2 x3 x4 x5 x6 x7 x8 x9
 decide +kernel
theorem c8B {p:Pr} (h:p.k=10):a4o p=(((((!(!(p.rep.name==[])))&&((p.ll.length:Int)==2))&&((p.gl.length:Int)==0))&&Q0 p.rep)&&D6 (a0X p.name p.ch p.tg p.ex p.pn p.sp) S3):=by
 have hu:B3 p.k=({ us0 with p0:=2,p1:=2 },true):=by rw[h];rfl
 refine a2x (pb:=((p.ll.length:Int)==2)) (fun hp=>by rw[hp];simp only[Bool.and_false,Bool.false_and]) (fun hp=>c8z hp) (by omega) ?_;rw[a0N hu rfl];unfold a0X;rw[N7];dsimp only [L9,us0];simp only[Bool.false_eq_true,if_true,if_false,reduceIte,L6,T9,Y6,Z9,O1,I6,Bool.and_true,Bool.true_and,Bool.false_and,Bool.false_or,Bool.or_false,Bool.not_false,Bool.not_true,a0t,a2l,H4,a2D,List.isEmpty_nil,a3w];generalize Q0 p.rep=x0;generalize (p.rep.name==[])=x1;generalize ((p.ll.length:Int)==2)=x2;generalize p.gl.isEmpty=x3;generalize (p.name==[])=x4;generalize I4 p.ch=x5;generalize p.tg.l.isEmpty=x6;generalize p.ex.l.isEmpty=x7;generalize p.pn.l.isEmpty=x8;generalize K2 p.sp B7=x9;revert x0 x1 x2 x3 x4 x5 x6 x7 x8 x9
 decide +kernel
theorem c8p {p:Pr} (h:p.k=15):a4o p=((((((!(!(p.rep.name==[])))&&J6 p.ex.l 1 1 G3)&&((p.ll.length:Int)==0))&&J6 p.gl 0 16 (gQ 5 6))&&Q0 p.rep)&&D6 (a0X p.name p.ch p.tg B8 p.pn p.sp) S3):=by
 have hu:B3 p.k=({ us0 with e0:=1,e1:=1,g0:=0,g1:=16,lo:=5,hi:=6 },true):=by rw[h];rfl
 refine a2x (pb:=((p.ll.length:Int)==0)) (fun hp=>by rw[hp];simp only[Bool.and_false,Bool.false_and]) (fun hp=>by rw[I6] at hp;exact a5a hp) (by omega) ?_;rw[a0N hu rfl];unfold a0X;rw[N7];dsimp only [L9,us0];simp only[Bool.false_eq_true,if_true,if_false,reduceIte,L6,T9,Y6,Z9,O1,I6,Bool.and_true,Bool.true_and,Bool.false_and,Bool.false_or,Bool.or_false,Bool.not_false,Bool.not_true,a0t,a2l,H4,a2D,List.isEmpty_nil,a3w];have e1:J6 p.gl 0 16 (inG { rep:=false,name:=false,chan:=false,spec:=false,procs:=false,t0:=0,t1:=0,e0:=1,e1:=1,p0:=0,p1:=0,g0:=0,g1:=16,lo:=5,hi:=6 })=J6 p.gl 0 16 (gQ 5 6):=rfl;rw[e1];generalize Q0 p.rep=x0;generalize (p.rep.name==[])=x1;generalize p.ll.isEmpty=x2;generalize (p.name==[])=x3;generalize I4 p.ch=x4;generalize p.tg.l.isEmpty=x5;generalize p.pn.l.isEmpty=x6;generalize K2 p.sp B7=x7;generalize J6 p.ex.l 1 1 G3=x8;generalize J6 p.gl 0 16 (gQ 5 6)=x9
 revert x0 x1 x2 x3 x4 x5 x6 x7 x8 x9
 decide +kernel
theorem c8K {p:Pr} (h:p.k=16):a4o p=((((((!(!(p.rep.name==[])))&&J6 p.ex.l 1 1 G3)&&((p.ll.length:Int)==1))&&((p.gl.length:Int)==0))&&Q0 p.rep)&&D6 (a0X p.name p.ch p.tg B8 p.pn p.sp) S3):=by
 have hu:B3 p.k=({ us0 with e0:=1,e1:=1,p0:=1,p1:=1 },true):=by rw[h];rfl
 refine a2x (pb:=((p.ll.length:Int)==1)) (fun hp=>by rw[hp];simp only[Bool.and_false,Bool.false_and]) (fun hp=>c3l hp) (by omega) ?_;rw[a0N hu rfl];unfold a0X;rw[N7];dsimp only [L9,us0];simp only[Bool.false_eq_true,if_true,if_false,reduceIte,L6,T9,Y6,Z9,O1,I6,Bool.and_true,Bool.true_and,Bool.false_and,Bool.false_or,Bool.or_false,Bool.not_false,Bool.not_true,a0t,a2l,H4,a2D,List.isEmpty_nil,a3w];generalize Q0 p.rep=x0;generalize (p.rep.name==[])=x1;generalize ((p.ll.length:Int)==1)=x2;generalize p.gl.isEmpty=x3;generalize (p.name==[])=x4;generalize I4 p.ch=x5;generalize p.tg.l.isEmpty=x6;generalize p.pn.l.isEmpty=x7;generalize K2 p.sp B7=x8;generalize J6 p.ex.l 1 1 G3=x9;revert x0 x1 x2 x3 x4 x5 x6 x7 x8 x9
 decide +kernel
theorem d08 {p:Pr} (h:p.k=17):a4o p=(((((((!(!(p.rep.name==[])))&&Go.Lx.name p.name)&&J6 p.ex.l 0 8 G3)&&((p.ll.length:Int)==0))&&((p.gl.length:Int)==0))&&Q0 p.rep)&&D6 (a0X [] p.ch p.tg B8 p.pn p.sp) S3):=by
 have hu:B3 p.k=({ us0 with name:=true,e0:=0,e1:=8 },true):=by rw[h];rfl
 refine a2x (pb:=((p.ll.length:Int)==0)) (fun hp=>by rw[hp];simp only[Bool.and_false,Bool.false_and]) (fun hp=>by rw[I6] at hp;exact a5a hp) (by omega) ?_;rw[a0N hu rfl];unfold a0X;rw[N7];dsimp only [L9,us0];simp only[Bool.false_eq_true,if_true,if_false,reduceIte,L6,T9,Y6,Z9,O1,I6,Bool.and_true,Bool.true_and,Bool.false_and,Bool.false_or,Bool.or_false,Bool.not_false,Bool.not_true,a0t,a2l,H4,a2D,List.isEmpty_nil,a3w];generalize Q0 p.rep=x0;generalize (p.rep.name==[])=x1;generalize p.ll.isEmpty=x2;generalize p.gl.isEmpty=x3;generalize Go.Lx.name p.name=x4;generalize I4 p.ch=x5;generalize p.tg.l.isEmpty=x6;generalize p.pn.l.isEmpty=x7;generalize K2 p.sp B7=x8;generalize J6 p.ex.l 0 8 G3=x9;revert x0 x1 x2 x3 x4 x5 x6 x7 x8 x9
 decide +kernel
theorem c9B {p:Pr} (h:p.k=18):a4o p=((((((!(!(p.rep.name==[])))&&spP p.sp)&&((p.ll.length:Int)==1))&&((p.gl.length:Int)==0))&&Q0 p.rep)&&D6 (a0X p.name p.ch p.tg p.ex p.pn B7) S3):=by
 have hu:B3 p.k=({ us0 with spec:=true,p0:=1,p1:=1 },true):=by rw[h];rfl
 refine a2x (pb:=((p.ll.length:Int)==1)) (fun hp=>by rw[hp];simp only[Bool.and_false,Bool.false_and]) (fun hp=>c3l hp) (by omega) ?_;rw[a0N hu rfl];unfold a0X;rw[N7];dsimp only [L9,us0];simp only[Bool.false_eq_true,if_true,if_false,reduceIte,L6,T9,Y6,Z9,O1,I6,Bool.and_true,Bool.true_and,Bool.false_and,Bool.false_or,Bool.or_false,Bool.not_false,Bool.not_true,a0t,a2l,H4,a2D,List.isEmpty_nil,a3w];generalize Q0 p.rep=x0;generalize (p.rep.name==[])=x1;generalize ((p.ll.length:Int)==1)=x2;generalize p.gl.isEmpty=x3;generalize (p.name==[])=x4;generalize I4 p.ch=x5;generalize p.tg.l.isEmpty=x6;generalize p.ex.l.isEmpty=x7;generalize p.pn.l.isEmpty=x8;generalize spP p.sp=x9;revert x0 x1 x2 x3 x4 x5 x6 x7 x8 x9
 decide +kernel
end
end Go.Pc
namespace Go.Sx
section
open Go.Eng Go.Pc Go
open Go.Xp hiding B D1
open Go.Ty (Ty Vr Tok)
theorem a4d {α:Type} (q:α->α->Bool) (f:α->α):∀ (l r:List α),(∀ x ∈ l,∀ y,q (f x) y=q x y)->eqL q (l.map f) r=eqL q l r
 | [],[],_=>rfl
 | [],_::_,_=>rfl
 | _::_,[],_=>rfl
 | x::l,y::r,h=>by
  show(q (f x) y&&eqL q (l.map f) r)=(q x y&&eqL q l r);rw[h x (List.Mem.head _),a4d q f l r fun z hz=>h z (List.Mem.tail _ hz)]
theorem b91 (p q:Pr):D6 p q=(eqL (fun a b:Int=>a==b) p.pn.l q.pn.l&&((((((((((p.k==q.k)&&(p.name==q.name))&&a0y p.rep q.rep)&&C7 p.ch q.ch)&&eqL C7 p.tg.l q.tg.l)&&eqL C7 p.ex.l q.ex.l)&&eqL N9 p.gl q.gl)&&eqL D6 p.ll q.ll)&&R1 p.sp q.sp))):=by
 rw[<- a8O,<- a3i];cases p;rfl
theorem b8v (p q:Gu):N9 p q=((((((((p.k==q.k)&&(p.name==q.name))&&C7 p.cond q.cond)&&C7 p.ch q.ch)&&C7 p.time q.time)&&eqL C7 p.tg.l q.tg.l)&&eqL C7 p.vl.l q.vl.l)&&eqL D6 p.bl q.bl):=by
 rw[<- a3i];cases p;rfl
theorem b96 (p q:Sp):R1 p q=(((((p.k==q.k)&&Go.Ty.eqT p.ty q.ty)&&eqL a0n p.fs.l q.fs.l))&&(((eqL (fun a b:B=>a==b) p.names.l q.names.l&&C7 p.e q.e)&&a0P p.cs p.vs.l q.cs q.vs.l)&&eqL D6 p.bl q.bl)):=by
 rw[<- a3i];cases p;rfl
theorem c5j (r s:Rp):a0y (stR r) s=a0y r s:=by
 unfold a0y;show(((r.name==s.name)&&C7 (B0 r.base) s.base)&&C7 (B0 r.count) s.count)=_;rw[a1W,a1W]
theorem b93 (p:Pr):∀ q,D6 (stP p) q=D6 p q:=by
 refine Pr.ind (q:=fun p=>∀ q,D6 (stP p) q=D6 p q) (fun p ih q=>?_) p;obtain⟨h1,h2,h3,h4,h5,h6,h7,h8,h9,h10⟩:=b0p p;have hs:R1 (stS p.sp) q.sp=R1 p.sp q.sp:=by
  obtain⟨s1,s2,s3,s4,s5,s6,s7,s8⟩:=b8H p.sp;have hv:a0P p.sp.cs (p.sp.vs.l.map a0I) q.sp.cs q.sp.vs.l=a0P p.sp.cs p.sp.vs.l q.sp.cs q.sp.vs.l:=by
   unfold a0P;rw[a4d L1 a0I _ _ fun _ _ _=>rfl]
  rw[b96,b96,s1,s2,s3,s4,s5,s6,s7,s8,a1W,hv,a4d D6 stP _ _ fun x hx y=>ih x (.s hx) y]
 have hg:eqL N9 (p.gl.map stG) q.gl=eqL N9 p.gl q.gl:=by
  refine a4d N9 stG _ _ fun g hgm y=>?_
  obtain⟨g1,g2,g3,g4,g5,g6,g7,g8⟩:=b6d g;rw[b8v,b8v,g1,g2,g3,g4,g5,g6,g7,g8,a1W,a1W,a1W,a4d C7 B0 _ _ (fun x _ y=>a1W x y),a4d C7 B0 _ _ (fun x _ y=>a1W x y),a4d D6 stP _ _ fun x hx y=>ih x (.g hgm hx) y]
 rw[b91,b91,h1,h2,h3,h4,h5,h6,h7,h8,h9,h10,hs,hg,a1W,c5j,a4d C7 B0 _ _ (fun x _ y=>a1W x y),a4d C7 B0 _ _ (fun x _ y=>a1W x y),a4d D6 stP _ _ fun x hx y=>ih x (.l hx) y]
def a3Y (s:B) (n e:Int):Bool:=D6 (S0 (a1f s)).1 S3&&((((S0 (a1f s)).2.1:Nat):Int)==n)&&((S0 (a1f s)).2.2==e)
end
end Go.Sx
namespace Go.Pc
section
open Go.Eng Go.Xp Go
open Go.Ty (Ty Vr)
set_option linter.unusedSimpArgs false
theorem c9O {p:Pr} (h:p.k=8\/p.k=9):a4o p=((((true&&((!(!(p.rep.name==[])))||((p.ll.length:Int)==1)))&&((p.gl.length:Int)==0))&&Q0 p.rep)&&D6 (a0X p.name p.ch p.tg p.ex p.pn p.sp) S3):=by
 unfold a4o;by_cases hl:p.ll.length<=2048
 ·rw[if_pos hl]
  have hu:B3 p.k=({ us0 with rep:=true,p0:=0,p1:=2048 },true):=by rcases h with h | h <;> rw[h] <;> rfl
  rw[b3P hu];unfold a0X;rw[N7];have hs:a5n 0 2048 (p.ll.length:Int)=true:=by
   unfold a5n;simp;omega
  rw[show b3N { us0 with rep:=true,p0:=0,p1:=2048 }={ us0 with rep:=true,p0:=1,p1:=1 } from rfl];dsimp only [L9,us0];simp only[Bool.false_eq_true,if_false,reduceIte,L6,Y6,hs,O1,I6,Bool.and_true,Bool.true_and,Bool.false_and,Bool.false_or,Bool.or_false,Bool.not_false,Bool.not_true];generalize Q0 p.rep=x0;generalize (p.rep.name==[])=x1;generalize ((p.ll.length:Int)==1)=x2;generalize p.gl.isEmpty=x3;generalize (p.name==[])=x4;generalize I4 p.ch=x5;generalize p.tg.l.isEmpty=x6;generalize p.ex.l.isEmpty=x7;generalize p.pn.l.isEmpty=x8;generalize K2 p.sp B7=x9;revert x0 x1 x2 x3 x4 x5 x6 x7 x8 x9
  decide +kernel
 ·rw[if_neg hl]
  unfold b7b;rw[if_pos h]
theorem c4k {p:Pr} {lo hi le mo:Int} (h89:¬ (p.k=8\/p.k=9)) (hu:B3 p.k=({ us0 with rep:=true,g0:=0,g1:=16,lo:=lo,hi:=hi },true)) (hml:mo=(if (p.rep.name==[])=true then 16 else 1)/\le=(if (p.rep.name==[])=true then 0 else 1)) :
 a4o p=((((true&&((p.ll.length:Int)==0))&&J6 p.gl le mo (gQ lo hi))&&Q0 p.rep)&&D6 (a0X p.name p.ch p.tg p.ex p.pn p.sp) S3):=by
 refine a2x (pb:=((p.ll.length:Int)==0)) (fun hp=>by rw[hp];simp only[Bool.and_false,Bool.false_and]) (fun hp=>by rw[I6] at hp;exact a5a hp) h89 ?_;rw[b3P hu];unfold a0X;rw[N7,show b3N { us0 with rep:=true,g0:=0,g1:=16,lo:=lo,hi:=hi }={ us0 with rep:=true,g0:=1,g1:=1,lo:=lo,hi:=hi } from rfl];obtain⟨rfl,rfl⟩:=hml;have e1:∀ a b:Int,J6 p.gl a b (inG { rep:=true,name:=false,chan:=false,spec:=false,procs:=false,t0:=0,t1:=0,e0:=0,e1:=0,p0:=0,p1:=0,g0:=a,g1:=b,lo:=lo,hi:=hi })=J6 p.gl a b (gQ lo hi):=fun _ _=>rfl
 dsimp only [L9,us0];simp only[Bool.false_eq_true,if_false,reduceIte,L6,T9,O1,I6,Bool.and_true,Bool.true_and,Bool.false_and,Bool.false_or,Bool.or_false,Bool.not_false,Bool.not_true,e1];cases hn:(p.rep.name==[]) with
 | true=>
  simp only[if_true];generalize Q0 p.rep=x0;generalize p.ll.isEmpty=x2;generalize J6 p.gl 0 16 (gQ lo hi)=x3;generalize (p.name==[])=x4;generalize I4 p.ch=x5;generalize p.tg.l.isEmpty=x6;generalize p.ex.l.isEmpty=x7;generalize p.pn.l.isEmpty=x8;generalize K2 p.sp B7=x9;revert x0 x2 x3 x4 x5 x6 x7 x8 x9
  decide +kernel
 | false=>
  simp only[Bool.false_eq_true,if_false];generalize Q0 p.rep=x0;generalize p.ll.isEmpty=x2;generalize J6 p.gl 1 1 (gQ lo hi)=x3;generalize (p.name==[])=x4;generalize I4 p.ch=x5;generalize p.tg.l.isEmpty=x6;generalize p.ex.l.isEmpty=x7;generalize p.pn.l.isEmpty=x8;generalize K2 p.sp B7=x9;revert x0 x2 x3 x4 x5 x6 x7 x8 x9
  decide +kernel
theorem b6t {p:Pr} {le mo:Int} (h:p.k=12\/p.k=13) (hml:mo=(if (p.rep.name==[])=true then 16 else 1)/\le=(if (p.rep.name==[])=true then 0 else 1)) :
 a4o p=((((true&&((p.ll.length:Int)==0))&&J6 p.gl le mo (gQ 2 4))&&Q0 p.rep)&&D6 (a0X p.name p.ch p.tg p.ex p.pn p.sp) S3):=
 c4k (by omega) (by rcases h with h | h <;> rw[h] <;> rfl) hml
theorem c9v {p:Pr} {le mo:Int} (h:p.k=14) (hml:mo=(if (p.rep.name==[])=true then 16 else 1)/\le=(if (p.rep.name==[])=true then 0 else 1)) :
 a4o p=((((true&&((p.ll.length:Int)==0))&&J6 p.gl le mo (gQ 1 1))&&Q0 p.rep)&&D6 (a0X p.name p.ch p.tg p.ex p.pn p.sp) S3):=
 c4k (by omega) (by rw[h];rfl) hml
end
end Go.Pc
namespace Go.Xp
section
open Go.Eng Go
open Go.Ty (Tok C0)
open Go.Lx (G2)
set_option maxRecDepth 100000
def nx (t:Tok):Tok:=if G2 t then { t with at_:=0 } else zeroT
abbrev nxL (ts:List Tok):List Tok:=ts.map nx
theorem b6p {t:Tok} (h:G2 t=true):G2 { t with at_:=0 }=true:=Go.Lx.may_at h (by decide)
theorem d1b (t:Tok):nx (nx t)=nx t:=by
 unfold nx;cases h:G2 t with
 | true=>rw[if_pos rfl,if_pos (b6p h)]
 | false=>rfl
theorem a4F (ts:List Tok):C4 (nxL ts)=C4 ts:=by
 cases ts with
 | nil=>rfl
 | cons t r=>exact d1b t
def nxR:a0i->a0i
 | .ok (x,r)=>.ok (x,nxL r)
 | .error e=>.error e
abbrev d00 (ins:B->B->List Tok->a0i):Prop:=∀ o s ts,ins o s (nxL ts)=nxR (ins o s ts)
theorem b3v {ins:B->B->List Tok->a0i} (hi:d00 ins) (ts:List Tok):Q2 ins (nxL ts)=nxR (Q2 ins ts):=by
 have ht:(nxL ts).tail=nxL ts.tail:=by cases ts <;> rfl
 rw[M5 (a4F ts),M5 (rfl:C4 ts=C4 ts),ht,a4F,hi,hi];repeat' split
 all_goals first | rfl | (simp_all [nxR];done)
theorem b7A (mk:Ex->Ex) (p:a0i):unQ mk (nxR p)=nxR (unQ mk p):=by
 cases p with
 | ok q=>rfl
 | error e=>rfl
theorem b9e {ins:B->B->List Tok->a0i} (hi:d00 ins) (ts:List Tok):a0H ins (nxL ts)=nxR (a0H ins ts):=by
 have ht:(nxL ts).tail=nxL ts.tail:=by cases ts <;> rfl
 have ht2:(nxL ts.tail).tail=nxL ts.tail.tail:=by cases ts.tail <;> rfl
 rw[U2 (a4F ts),U2 (rfl:C4 ts=C4 ts),ht,ht2,a4F,b3v hi,b3v hi,b7A,b7A];split
 ·split <;> rfl
 ·split
  ·rfl
  ·split
   ·rfl
   ·cases hq:Q2 ins ts with
    | error e=>rfl
    | ok p=>
     obtain⟨a,r⟩:=p;have ht3:(nxL r).tail=nxL r.tail:=by cases r <;> rfl
     show(if opF (C4 (nxL r)) 22 1≠0 then unQ (fun b=>sx 7 (opF (C4 (nxL r)) 22 1) 0 0 [] [a,b]) (Q2 ins (nxL r).tail) else .ok (a,nxL r))=nxR (if opF (C4 r) 22 1≠0 then unQ (fun b=>sx 7 (opF (C4 r) 22 1) 0 0 [] [a,b]) (Q2 ins r.tail) else .ok (a,r));rw[a4F,ht3,b3v hi,b7A];split <;> rfl
theorem c4f:∀ f,d00 (W0 f)
 | 0=>fun _ _ _=>rfl
 | f+1=>fun o s ts=>by
  have ht:(nxL ts).tail=nxL ts.tail:=by cases ts <;> rfl
  unfold W0;rw[a4F,ht,b9e (c4f f)];split
  ·cases a0H (W0 f) ts.tail with
   | error e=>rfl
   | ok p=>
    obtain⟨x,r⟩:=p;have ht3:(nxL r).tail=nxL r.tail:=by cases r <;> rfl
    show(if C4 (nxL r)=C8 s then .ok (x,(nxL r).tail) else .error 100:a0i)=nxR (if C4 r=C8 s then .ok (x,r.tail) else .error 100);rw[a4F,ht3];split <;> rfl
  ·rfl
theorem b4S (ts:List Tok):M0 (nxL ts)=M0 ts:=by
 unfold M0 a5d;rw[b9e (c4f 32)];cases a0H (W0 32) ts with
 | error e=>rfl
 | ok p=>
  obtain⟨x,r⟩:=p;show(if G3 x then Except.ok (x,(nxL ts).length - (nxL r).length) else .error 3)=if G3 x then Except.ok (x,ts.length - r.length) else .error 3
  rw[List.length_map,List.length_map]
theorem a9L {ts us:List Tok} (h:nxL ts=nxL us):M0 ts=M0 us:=by rw[<- b4S,h,b4S]
end
end Go.Xp
namespace Go.Sx
section
open Go.Eng Go.Pc Go
open Go.Xp hiding B
open Go.Ty (Ty Vr Tok)
open Go.Ly (Rw)
open Go.Lx (G2)
def z0 (t:Tok):Tok:={ t with at_:=0 }
def a6M (ts:List Tok):Prop:=∀ x ∈ ts,G2 x=true
theorem a6M.tail {ts:List Tok} (h:a6M ts):a6M ts.tail:=fun x hx=>h x (List.mem_of_mem_tail hx)
theorem a6M.drop {ts:List Tok} (h:a6M ts) (k:Nat):a6M (ts.drop k):=fun x hx=>h x (List.mem_of_mem_drop hx)
theorem a6R (k:Int) (s:B) (ts:List Tok):isM k s (ts.map z0)=isM k s ts:=by cases ts <;> rfl
theorem d0D {t:Tok} (h:G2 t=true):nx t=z0 t/\nx (z0 t)=z0 t:=by
 refine⟨by unfold nx;rw[if_pos h];rfl,?_⟩;unfold nx;rw[if_pos (show G2 (z0 t)=true from b6p h)];rfl
theorem c8i {ts:List Tok} (h:a6M ts):nxL (ts.map z0)=nxL ts:=by
 unfold nxL;rw[List.map_map];exact List.map_congr_left fun x hx=>by show nx (z0 x)=nx x;rw[(d0D (h x hx)).2,(d0D (h x hx)).1]
theorem b3m:∀ (w:List Tok) (l:List Tok) (i:Nat),Go.Ty.begAt (l.map z0) i w↔Go.Ty.begAt l i w
 | [],_,_=>Iff.rfl
 | y::w,l,i=>by
  show(Go.Ty.M (l.map z0) i y/\Go.Ty.begAt (l.map z0) (i+1) w)↔(Go.Ty.M l i y/\Go.Ty.begAt l (i+1) w);rw[b3m w l (i+1)];refine and_congr_left fun _=>?_
  unfold Go.Ty.M;constructor
  ·rintro ⟨x,hx,e⟩
   rw[List.getElem?_map] at hx;cases hl:l[i]? with
   | none=>rw[hl] at hx;cases hx
   | some u=>rw[hl] at hx;cases hx;exact⟨u,rfl,e⟩
  ·rintro ⟨x,hx,e⟩
   exact⟨z0 x,by rw[List.getElem?_map,hx];rfl,e⟩
theorem c5U (l:List Tok):Go.Ty.front (l.map z0)=Go.Ty.front l:=by
 rcases Go.Ty.front_to l with h | ⟨t,hm,hb,h⟩
 ·rcases Go.Ty.front_to (l.map z0) with h2 | ⟨t,hm,hb,_⟩
  ·rw[h,h2]
  ·have:=Go.Ty.front_of hm ((b3m _ _ _).1 hb)
   rw[h] at this;cases this
 ·rw[h,Go.Ty.front_of hm ((b3m _ _ _).2 hb)]
def a7M {α:Type}:E α->E α->Prop
 | .ok (x,r),.ok (y,s)=>x=y/\a6M r/\s=r.map z0
 | .error a,.error b=>a=b
 | _,_=>False
def a0w {α:Type} (f:List Tok->E α):Prop:=∀ ts,a6M ts->a7M (f ts) (f (ts.map z0))
theorem a43 {α:Type} (x:α) {r:List Tok} (h:a6M r):a7M (.ok (x,r)) (.ok (x,r.map z0)):=⟨rfl,h,rfl⟩
theorem a4a {α:Type} (e:Int):a7M (α:=α) (.error e) (.error e):=rfl
theorem a2n {α β:Type} {r r':E α} {f:α->List Tok->E β} (h:a7M r r') (hf:∀ x,a0w (f x)):a7M (O2 r f) (O2 r' f):=by
 rcases r with a | ⟨x,s⟩ <;> rcases r' with b | ⟨y,t⟩
 ·exact h
 ·exact h.elim
 ·exact h.elim
 ·obtain⟨rfl,hk,rfl⟩:=h
  exact hf x s hk
theorem V4 {α β:Type} {g:List Tok->E α} {f:α->List Tok->E β} (hg:a0w g) (hf:∀ x,a0w (f x)):a0w fun ts=>O2 (g ts) f:=fun ts h=>a2n (hg ts h) hf
theorem a2Q {β:Type} {k:Int} {s:B} {f:List Tok->E β} (hf:a0w f):a0w fun ts=>W4 k s ts f:=fun ts h=>by
 show a7M (W4 k s ts f) (W4 k s (ts.map z0) f);unfold W4;rw[a6R];split
 ·rw[<- List.map_tail];exact hf _ h.tail
 ·exact a4a 110
theorem a6d {α:Type} {k:Int} {s:B} {f g:List Tok->E α} (hf:a0w f) (hg:a0w g):a0w fun ts=>if isM k s ts then f ts.tail else g ts:=fun ts h=>by
 show a7M (if isM k s ts then f ts.tail else g ts) (if isM k s (ts.map z0) then f (ts.map z0).tail else g (ts.map z0));rw[a6R];split
 ·rw[<- List.map_tail];exact hf _ h.tail
 ·exact hg _ h
theorem a1H {α:Type} (x:α):a0w fun ts=>(.ok (x,ts):E α):=fun _ h=>a43 x h
theorem a0p:a0w U3:=fun ts h=>by
 cases ts with
 | nil=>exact a4a 110
 | cons t r=>
  show a7M (if t.kind=1 then .ok (t.text,r) else .error 110) (if t.kind=1 then .ok (t.text,r.map z0) else .error 110);split
  ·exact a43 _ (fun x hx=>h x (List.mem_cons_of_mem _ hx))
  ·exact a4a 110
theorem Q3:a0w I8:=fun ts h=>by
 unfold I8;rw[a9L (c8i h)];cases M0 ts with
 | error e=>exact a4a 110
 | ok p=>
  show a7M (.ok (p.1,ts.drop p.2)) (.ok (p.1,(ts.map z0).drop p.2));rw[<- List.map_drop];exact a43 _ (h.drop _)
theorem a0m:a0w G5:=fun ts h=>by
 have hk:((ts.map z0).headD Go.Ty.zeroK).kind=(ts.headD Go.Ty.zeroK).kind:=by cases ts <;> rfl
 unfold G5;rw[hk];split
 ·exact a2n (Q3 ts h) fun x r hr=>by
   show a7M (if G1 x then .ok (x,r) else .error 110) (if G1 x then .ok (x,r.map z0) else .error 110);split
   ·exact a43 _ hr
   ·exact a4a 110
 ·exact a4a 110
theorem a7j:a0w a5m:=fun ts h=>by
 unfold a5m;rw[c5U];split
 ·rw[<- List.map_drop];exact a43 _ (h.drop _)
 ·exact a4a 110
theorem b2A:a0w a2f:=fun ts h=>a2n (a7j ts h) fun t r hr=>by
 show a7M (if S8 t then .ok (t.kind,r) else .error 110) (if S8 t then .ok (t.kind,r.map z0) else .error 110);split
 ·exact a43 _ hr
 ·exact a4a 110
theorem b6b:a0w a0g:=fun ts h=>by
 unfold a0g;rw[a6R];have hA:a6M (if isM 2 [86,65,76] ts then ts.tail else ts):=by split;exact h.tail;exact h
 have hE:(if isM 2 [86,65,76] ts then (ts.map z0).tail else ts.map z0)=(if isM 2 [86,65,76] ts then ts.tail else ts).map z0:=by split;rw[List.map_tail];rfl
 rw[hE];exact a2n (a7j _ hA) fun t=>V4 a0p fun n r hr=>by
  show a7M (if _ then Except.ok (_,r) else .error 110) (if _ then Except.ok (_,r.map z0) else .error 110);split
  ·exact a43 _ hr
  ·exact a4a 110
theorem b6n {α:Type} {take:List Tok->E α} (ht:a0w take) (sep:B):∀ (n:Nat) (acc:List α),a0w (a1h take sep n acc)
 | 0,acc=>fun ts h=>by
  show a7M (if isM 5 sep ts then .error 110 else .ok (acc,ts)) (if isM 5 sep (ts.map z0) then .error 110 else .ok (acc,ts.map z0));rw[a6R];split
  ·exact a4a 110
  ·exact a43 _ h
 | n+1,acc=>fun ts h=>by
  show a7M (if isM 5 sep ts then O2 (take ts.tail) _ else .ok (acc,ts)) (if isM 5 sep (ts.map z0) then O2 (take (ts.map z0).tail) _ else .ok (acc,ts.map z0));rw[a6R];split
  ·rw[<- List.map_tail];exact a2n (ht _ h.tail) fun x=>b6n ht sep n (acc++[x])
  ·exact a43 _ h
theorem a0b {α:Type} {take:List Tok->E α} (ht:a0w take) (sep:B) (most:Nat):a0w (M1 take sep most):=fun ts h=>a2n (ht ts h) fun x=>b6n ht sep _ [x]
theorem b8A {α:Type} {take:List Tok->E α} (ht:a0w take):a0w (brM take):=a2Q (a6d (f:=fun r=>.ok ([],r)) (a1H []) (V4 (a0b ht [44] 8) fun l=>a2Q (a1H l)))
theorem b5u:a0w b0Y:=fun ts h=>by
 unfold b0Y;rw[show(ts.map z0).isEmpty=ts.isEmpty by cases ts <;> rfl];split
 ·exact a43 _ h
 ·exact a2n (a0p ts h) fun n=>a2Q (V4 Q3 fun b=>a2Q (V4 Q3 fun c=>a1H _))
theorem c6t:a0w ifM:=V4 Q3 fun _=>a1H _
theorem c7I {ts:List Tok} (h:a6M ts):a5g (ts.map z0)=a5g ts:=by
 unfold a5g;rw[a9L (c8i h)];cases M0 ts with
 | error e=>rfl
 | ok p=>
  show isM 5 [38] ((ts.map z0).drop p.2)=isM 5 [38] (ts.drop p.2);rw[<- List.map_drop,a6R]
theorem b3i (c:Ex):a0w (a4r c):=V4 a0m fun ch=>a2Q (a6d (f:=fun r=>O2 (I8 r) fun t r=>.ok (guM 4 [] c ch [] [] t,r)) (V4 Q3 fun _=>a1H _) (V4 (a0b a0m [59] 8) fun _=>a1H _))
theorem b6q:a0w a2H:=fun ts h=>by
 unfold a2H;rw[c7I h];split
 ·exact a2n (Q3 ts h) fun c=>a2Q (a6d (f:=fun r=>.ok (guM 2 [] c A0 [] [] A0,r)) (a1H _) (b3i c))
 ·exact b3i A0 ts h
theorem c1w:a0w a8v:=a6d (f:=fun r=>.ok (guM 6 [] A0 A0 [] [] A0,r)) (a1H _) (V4 (a0b Q3 [44] 8) fun _=>a1H _)
theorem c1c:a0w a8f:=V4 a0p fun n=>a6d (f:=fun r=>O2 (M1 G5 [59] 8 r) fun l r=>.ok (guM 7 n A0 A0 l [] A0,r)) (V4 (a0b a0m [59] 8) fun _=>a1H _) (a1H _)
theorem b48:a0w a0C:=V4 a0p fun n=>a6d (f:=fun r=>O2 (M1 a2f [59] 8 r) fun l r=>.ok (vrM n l,r)) (V4 (a0b b2A [59] 8) fun _=>a1H _) (a1H _)
def a1C {α:Type} (f:List Tok->PE α):Prop:=∀ ts,a6M ts->f (ts.map z0)=f ts
theorem J0 {α β:Type} {g:List Tok->E α} (hg:a0w g) (i:Nat) {f:α->List Tok->PE β} (hf:∀ x,a1C (f x)):a1C fun ts=>E8 (g ts) i f:=fun ts h=>by
 show E8 (g (ts.map z0)) i f=E8 (g ts) i f;have q:=hg ts h;rcases hr:g ts with a | ⟨x,s⟩ <;> rcases hr':g (ts.map z0) with b | ⟨y,t⟩ <;> rw[hr,hr'] at q
 ·cases (show a=b from q);rfl
 ·exact q.elim
 ·exact q.elim
 ·obtain⟨rfl,hk,rfl⟩:=q
  exact hf x s hk
theorem J1 {β:Type} (i:Nat) (f:Nat->PE β):a1C fun ts=>E7 ts i f:=fun ts _=>by cases ts <;> rfl
theorem a1d {β:Type} {k:Int} {s:B} (i:Nat) {f:List Tok->PE β} (hf:a1C f):a1C fun ts=>V5 k s ts i f:=fun ts h=>by
 show V5 k s (ts.map z0) i f=V5 k s ts i f;unfold V5;rw[a6R];split
 ·rw[<- List.map_tail];exact hf _ h.tail
 ·rfl
theorem a0B {α:Type} {k:Int} {s:B} {f g:List Tok->PE α} (hf:a1C f) (hg:a1C g):a1C fun ts=>if isM k s ts then f ts.tail else g ts:=fun ts h=>by
 show(if isM k s (ts.map z0) then f (ts.map z0).tail else g (ts.map z0))=if isM k s ts then f ts.tail else g ts
 rw[a6R];split
 ·rw[<- List.map_tail];exact hf _ h.tail
 ·exact hg _ h
section
variable (R:List Rw) (rec:Int->Bool->Nat->PE Pr)
theorem c1x (k:Int) (i:Nat):a1C fun ts=>b3Z k ts i:=J1 i _
theorem b7y (k d:Int) (i:Nat):a1C fun ts=>a2w R rec k d ts i:=J0 b5u i fun _=>J1 i _
theorem a9h (k:Int) (row:List Tok->E Gu) (d:Int) (i:Nat):a1C fun ts=>X5 R rec k row d ts i:=J0 b5u i fun _=>J1 i _
theorem c3q (d:Int) (i:Nat):a1C fun ts=>c0d R rec d ts i:=a0B (f:=fun ts=>E7 ts i _) (J1 i _) (a1d i (a9h R rec 13 a2H d i))
theorem c4v (d:Int) (i:Nat):a1C fun ts=>c0Q R rec d ts i:=J0 Q3 i fun _=>J1 i _
theorem c0H (d:Int) (i:Nat):a1C fun ts=>b1Z rec d ts i:=J0 Q3 i fun _=>J1 i _
theorem b65 (d:Int) (i:Nat):a1C fun ts=>a6v R rec d ts i:=a1d i (J1 i _)
theorem c71 (ts:List Tok):a7E (ts.map z0)=a7E ts:=by
 rcases ts with _ | ⟨t,_ | ⟨u,r⟩⟩ <;> rfl
theorem b0b {α:Type} (c:PE α):a1C fun _=>c:=fun _ _=>rfl
theorem c8T (ts:List Tok):((ts.map z0).headD Go.Ty.zeroK).kind=(ts.headD Go.Ty.zeroK).kind:=by cases ts <;> rfl
theorem b5i (d:Int) (i:Nat):a1C fun ts=>P5 R rec d ts i:=fun ts h=>by
 show P5 R rec d (ts.map z0) i=P5 R rec d ts i;unfold P5;rw[c8T,<- List.map_tail,a6R];split
 ·exact J0 a0p i (fun n=>J0 (b8A Q3) i fun l=>J1 i _) ts h
 ·refine J0 (a0b a0m [44] 8) i (fun f=>?_) ts h
  refine a0B (f:=fun r=>E8 (M1 I8 [44] 8 r) i _) (J0 (a0b Q3 [44] 8) i fun _=>J1 i _) ?_;by_cases hf:f.length > 1
  ·simp only[if_pos hf];exact b0b _
  ·simp only[if_neg hf]
   refine a0B (f:=fun r=>E8 (M1 I8 [59] 9 r) i _) (J0 (a0b Q3 [59] 9) i fun _=>J1 i _) ?_;refine a1d i ?_;refine a0B (f:=fun r=>E7 r i _) (J1 i _) ?_;exact a0B (f:=fun r=>E8 (I8 r) i _) (J0 Q3 i fun _=>J1 i _) (J0 (a0b a0m [59] 8) i fun _=>J1 i _)
theorem b9z (s:B) (f:Int->List Tok->Nat->PE Pr) (h:a1a R rec s=some f) (d:Int) (i:Nat):a1C fun ts=>f d ts i:=by
 unfold a1a at h;repeat' split at h
 all_goals first | (cases h;first | exact c1x _ i | exact b7y R rec _ d i | exact c3q R rec d i | exact a9h R rec _ _ d i | exact c4v R rec d i | exact c0H rec d i | exact b65 R rec d i) | cases h
theorem b9S (d:Int) (top:Bool) (i:Nat):a1C fun ts=>a2B R rec d top ts i:=fun ts h=>by
 cases ts with
 | nil=>rfl
 | cons t r=>
  have hs:P5 R rec d (z0 t::r.map z0) i=P5 R rec d (t::r) i:=b5i R rec d i (t::r) h;show a2B R rec d top (z0 t::r.map z0) i=a2B R rec d top (t::r) i;unfold a2B;simp only[show(z0 t).text=t.text from rfl,show(z0 t).kind=t.kind from rfl,hs];cases hw:a1a R rec t.text with
  | none=>rfl
  | some f=>
   have hf:f d (r.map z0) i=f d r i:=b9z R rec _ f hw d i r fun x hx=>h x (List.mem_cons_of_mem _ hx)
   simp only[hf]
theorem b0M (s:Sp) (i:Nat):a1C fun ts=>a8K s ts i:=a1d i (by
 by_cases h:spP s=true
 ·simp only[if_pos h];exact J1 i _
 ·simp only[if_neg h];exact b0b _)
theorem b7w (d:Int) (i:Nat):a1C fun ts=>a7b R d ts i:=a0B (f:=fun ts=>E8 (M1 a2f [59] 8 ts) i _) (J0 (a0b b2A [59] 8) i fun _=>a1d i (J1 i _)) (J1 i _)
theorem c3j {α β:Type} {g:List Tok->PE α} (hg:a1C g) (f:α->Nat->PE β):a1C fun ts=>M8 (g ts) f:=fun ts h=>by
 show M8 (g (ts.map z0)) f=M8 (g ts) f;rw[hg ts h]
theorem b9K (d:Int) (i:Nat):a1C fun ts=>a0a R rec d ts i:=by
 refine a0B (f:=fun ts=>E8 (U3 ts) i _) (J0 a0p i fun n=>c3j (b7w R d i) _) ?_;refine a0B (f:=fun ts=>E8 (U3 ts) i _) (J0 a0p i fun n=>J0 (b8A b6b) i fun fs=>J1 i _) ?_;refine a0B (f:=fun ts=>E8 (a5m ts) i _) (J0 a7j i fun t=>J0 a0p i fun n=>a1d i (J0 Q3 i fun e=>b0M _ i)) ?_;intro ts h;simp only[a6R];split
 ·have q:a1C fun ts=>E8 (a5m ts) i fun t r=>E8 (M1 U3 [44] 8 r) i fun ns r=>if isM 2 [73,83] r then E8 (G5 r.tail) i fun e r=>a8K (spM 3 t ns e false [] [] []) r i else a8K (spM 1 t ns A0 false [] [] []) r i:=
   J0 a7j i fun t=>J0 (a0b a0p [44] 8) i fun ns=>a0B (f:=fun r=>E8 (G5 r) i fun e r=>a8K (spM 3 t ns e false [] [] []) r i) (J0 a0m i fun e=>b0M _ i) (b0M _ i)
  exact q ts h
 ·rfl
theorem b6I (d:Int) (top:Bool) (i:Nat) (f:Option Sp->Nat->PE Pr):a1C fun ts=>M8 (a0a R rec d ts i) fun so j=>match so with
 | some s=>f (some s) j
 | none=>a2B R rec d top ts j:=fun ts h=>by
 show M8 (a0a R rec d (ts.map z0) i) _=M8 (a0a R rec d ts i) _;have e:a0a R rec d (ts.map z0) i=a0a R rec d ts i:=b9K R rec d i ts h;rw[e];congr 1
 funext so j
 cases so with
 | some s=>rfl
 | none=>exact b9S R rec d top j ts h
end
end
section
open Go.Eng Go.Pc Go
open Go.Xp hiding B D1
open Go.Ty (Ty Vr Tok)
open Go.Ly (Rw)
open Go.Lx (G2)
def a8y (r:List Tok):Prop:=a74 r/\a8s r
theorem a2m:a8y []:=by unfold a8y a74 a8s;decide +kernel
def endT (t:Tok):Bool:=G2 t&&(t.at_==0)&&!Go.Ty.eqK t (C8 [91])&&(opF t 22 1==0)
theorem b1T {t:Tok} (h:endT t=true) (r:List Tok):a8y (t::r):=by
 unfold endT at h;simp only[Bool.and_eq_true,beq_iff_eq,Bool.not_eq_true'] at h;have hn:C4 (t::r)=t:=H9 h.1.1.1 h.1.1.2;refine⟨?_,?_⟩
 ·unfold a74
  rw[hn];intro e;have:=(Go.Ty.eqK_iff t (C8 [91])).2 e;rw[this] at h;simp at h
 ·unfold a8s
  rw[hn];exact h.2
def Rd1 {α:Type} (f:List Tok->E α) (ts:List Tok) (x:α) (P:List Tok->Prop):Prop:=∀ r,P r->f (ts++r)=.ok (x,r)
theorem T8 {e:Ex} (hm:G3 e=true) (hW:Wf e):Rd1 I8 (B5 e) (B0 e) a8y:=fun r hr=>by
 unfold I8 B5;rw[if_pos hm,a2p hm hW hr.1 hr.2];show Except.ok (B0 e,(A8 e++r).drop (A8 e).length)=_;rw[List.drop_left]
theorem a8H {e:Ex} (h:G1 e=true):∃ r,B5 e=⟨1,0,e.s,0⟩::r:=by
 have hm:=a7H h;have hk:=b2F h;unfold B5;rw[if_pos hm];cases e with
 | mk k o t n s a c l=>
  show ∃ r,wr k o t n s (Q6 l)=_;rcases hk with q | q
  ·have q:k=4:=q
   subst q;exact⟨_,rfl⟩
  ·have q:k=5:=q
   subst q;exact⟨_,rfl⟩
theorem a6m {e:Ex} (hm:G1 e=true) (hW:Wf e):Rd1 G5 (B5 e) (B0 e) a8y:=fun r hr=>by
 obtain⟨q,hq⟩:=a8H hm;unfold G5;rw[if_pos (by rw[hq];rfl),T8 (a7H hm) hW r hr];show(if G1 (B0 e) then Except.ok (B0 e,r) else .error 110)=_;rw[X9,if_pos hm]
theorem a9U:∀ (w u r:List Tok),(∀ x ∈ w,x.at_=0)->Go.Ty.begAt (u++(w++r)) u.length w
 | [],_,_,_=>trivial
 | y::w,u,r,h=>by
  refine⟨⟨y,by simp,?_⟩,?_⟩
  ·have:=h y (List.mem_cons_self ..)
   cases y;cases this;rfl
  ·have:=a9U w (u++[y]) r (fun x hx=>h x (List.mem_cons_of_mem _ hx))
   simpa using this
theorem a5U {t:Ty} (h:Go.Ty.may t=true):Rd1 a5m (F8 t) t fun _=>True:=fun r _=>by
 have ht:F8 t=Go.Ty.toks t:=by unfold F8;rw[Go.Ty.tokens_yes h]
 have h0:∀ x ∈ Go.Ty.toks t,x.at_=0:=by
  intro x hx;unfold Go.Ty.toks at hx;simp only[List.mem_append,List.mem_singleton] at hx;rcases hx with (hx | hx) | hx
  ·unfold Go.Ty.dimT at hx
   split at hx
   ·simp at hx;rcases hx with rfl | rfl | rfl <;> rfl
   ·cases hx
  ·unfold Go.Ty.chanT at hx
   split at hx
   ·simp at hx;rcases hx with rfl | rfl <;> rfl
   ·cases hx
  ·rw[hx];unfold Go.Ty.lastT;repeat' split
   all_goals rfl
 have hf:=Go.Ty.front_of (l:=Go.Ty.toks t++r) h (a9U _ [] r h0);unfold a5m;rw[ht,hf];show(if (0:Int)=0 then Except.ok (t,(Go.Ty.toks t++r).drop (Go.Ty.toks t).length) else .error 110)=_;rw[if_pos rfl,List.drop_left]
theorem b9x (s:B):Rd1 U3 [G4 s] s fun _=>True:=fun _ _=>rfl
theorem c06 {k:Int} (h:S8 ⟨k,0,0,[]⟩=true):Rd1 a2f (W5 k) k fun _=>True:=fun r _=>by
 have hm:Go.Ty.may ⟨k,0,0,[]⟩=true:=by
  unfold S8 at h;simp only[Bool.and_eq_true] at h;exact h.1.1
 unfold a2f;rw[show W5 k=F8 ⟨k,0,0,[]⟩ from rfl,a5U hm r trivial];show(if S8 ⟨k,0,0,[]⟩ then Except.ok (k,r) else .error 110)=_;rw[if_pos h]
def a8p (s:B):Tok:=⟨5,0,s,0⟩
theorem c9i (s:B) (r:List Tok):isM 5 s (a8p s::r)=true:=by show(((5:Int)==5)&&(s==s))=true;simp
theorem b2z {α β:Type} {f:List Tok->E α} {tok:β->List Tok} {g:β->α} {P:List Tok->Prop} {sep:B} (hs:∀ r,P (a8p sep::r)) {rest:List Tok} (hr:P rest) (hn:isM 5 sep rest=false) :
 ∀ (l:List β) (n:Nat) (acc:List α),l.length<=n->(∀ x ∈ l,Rd1 f (tok x) (g x) P)->a1h f sep n acc (l.flatMap (fun x=>a8p sep::tok x)++rest)=.ok (acc++l.map g,rest)
 | [],n,acc,_,_=>by
  show a1h f sep n acc rest=.ok (acc++[],rest);rw[List.append_nil];cases n with
  | zero=>unfold a1h;rw[hn];rfl
  | succ n=>unfold a1h;rw[hn];rfl
 | x::l,n+1,acc,hl,hx=>by
  have ih:=b2z hs hr hn l n (acc++[g x]) (by simpa using hl) (fun y hy=>hx y (List.mem_cons_of_mem _ hy));have hP:P (l.flatMap (fun x=>a8p sep::tok x)++rest):=by
   cases l with
   | nil=>exact hr
   | cons y m=>exact hs _
  show a1h f sep (n+1) acc (a8p sep::(tok x++l.flatMap (fun x=>a8p sep::tok x)++rest))=_;unfold a1h;rw[c9i,if_pos rfl,List.tail_cons,List.append_assoc,hx x (List.mem_cons_self ..) _ hP];show a1h f sep n (acc++[g x]) (l.flatMap (fun x=>a8p sep::tok x)++rest)=_;rw[ih];simp
theorem X7 {β:Type} (sep:B) (tok:β->List Tok):∀ (x:β) (l:List β),B4 sep tok (x::l)=tok x++l.flatMap (fun x=>a8p sep::tok x)
 | x,[]=>by show tok x=_;simp
 | x,y::l=>by
  show tok x++⟨5,0,sep,0⟩::B4 sep tok (y::l)=_;rw[X7 sep tok y l];simp[a8p]
theorem a5O {α β:Type} {f:List Tok->E α} {tok:β->List Tok} {g:β->α} {P:List Tok->Prop} {sep:B} {most:Nat} (hs:∀ r,P (a8p sep::r)) {l:List β} (h1:1<=l.length) (h2:l.length<=most) (hx:∀ x ∈ l,Rd1 f (tok x) (g x) P) :
 Rd1 (M1 f sep most) (B4 sep tok l) (l.map g) fun r=>P r/\isM 5 sep r=false:=fun rest hr=>by
 cases l with
 | nil=>simp at h1
 | cons x l=>
  have hP:P (l.flatMap (fun x=>a8p sep::tok x)++rest):=by
   cases l with
   | nil=>exact hr.1
   | cons y m=>exact hs _
  unfold M1;rw[X7,List.append_assoc,hx x (List.mem_cons_self ..) _ hP];show a1h f sep (most - 1) [g x] (l.flatMap (fun x=>a8p sep::tok x)++rest)=_;rw[b2z hs hr.1 hr.2 l (most - 1) [g x] (by simp at h2;omega) (fun y hy=>hx y (List.mem_cons_of_mem _ hy))];rfl
end
section
open Go.Eng Go.Pc Go
open Go.Xp hiding B D1
open Go.Ty (Ty Vr Tok)
open Go.Ly (Rw)
open Go.Lx (G2)
def kw (s:B):Tok:=⟨2,0,s,0⟩
def sy (s:B):Tok:=⟨5,0,s,0⟩
def c2C:List Tok:=[sy [91],kw [73,78,84],kw [66,89,84,69],kw [66,79,79,76],kw [67,72,65,78],kw [84,73,77,69,82]]
theorem b0A {t:Ty} (h:Go.Ty.may t=true):∃ u r,F8 t=u::r/\u ∈ c2C:=by
 unfold F8;rw[Go.Ty.tokens_yes h];show ∃ u r,Go.Ty.toks t=u::r/\_;unfold Go.Ty.toks Go.Ty.dimT Go.Ty.chanT;by_cases hd:decide (t.dim > 0)=true
 ·rw[if_pos hd]
  exact⟨_,_,rfl,by decide⟩
 ·rw[if_neg hd]
  by_cases hk:(t.kind==4)=true
  ·rw[if_pos hk]
   exact⟨_,_,rfl,by decide⟩
  ·rw[if_neg hk]
   refine⟨Go.Ty.lastT t,[],rfl,?_⟩;have hb:Go.Ty.baseT t=t.kind:=by unfold Go.Ty.baseT;rw[if_neg hk]
   unfold Go.Ty.may at h;split at h
   ·cases h
   ·split at h
    ·rename_i hi
     rw[Go.Ty.is_eq] at hi;unfold Go.Ty.prim at hi;simp only[Bool.or_eq_true,beq_iff_eq] at hi;unfold Go.Ty.lastT;rw[hb];rcases hi with (hi | hi) | hi <;> rw[hi,if_pos (by decide)] <;> decide
    ·split at h
     ·rw[(Go.Ty.eqT_iff _ _).1 h]
      decide
     ·rename_i hn
      simp at hn hk;exact absurd hn hk
theorem a2a {k:Int} {s:B} (hd:(c2C.all fun u=>!isM k s [u])=true) {t:Ty} (h:Go.Ty.may t=true) (r:List Tok):isM k s (F8 t++r)=false:=by
 obtain⟨u,q,e,hu⟩:=b0A h;have:=List.all_eq_true.1 hd u hu;have h2:isM k s [u]=false:=by simpa using this
 rw[e];exact h2
theorem b94 {t:Ty} (h:Go.Ty.may t=true) (r:List Tok):(isM 5 [91] (F8 t++r)||isM 2 [73,78,84] (F8 t++r)||isM 2 [66,89,84,69] (F8 t++r)||isM 2 [66,79,79,76] (F8 t++r)||isM 2 [67,72,65,78] (F8 t++r)||isM 2 [84,73,77,69,82] (F8 t++r))=true:=by
 obtain⟨u,q,e,hu⟩:=b0A h;rw[e];simp only[c2C,List.mem_cons,List.not_mem_nil,or_false] at hu;rcases hu with rfl | rfl | rfl | rfl | rfl | rfl <;> rfl
theorem b5W {f:Fo} (h:foP f=true):Go.Ty.may f.ty=true:=by
 unfold foP at h;simp only[Bool.and_eq_true] at h;exact h.1.2
theorem b6h {f:Fo} (h:foP f=true):Rd1 a0g (J3 f) f fun _=>True:=fun r _=>by
 have hm:=b5W h;have hv:isM 2 [86,65,76] (J3 f++r)=f.val:=by
  unfold J3;cases hf:f.val with
  | true=>exact(show isM 2 [86,65,76] [A2 [86,65,76]]=true by decide +kernel)
  | false=>
   show isM 2 [86,65,76] ((([]++F8 f.ty)++[G4 f.name])++r)=false;rw[List.nil_append,List.append_assoc];exact a2a (by decide) hm _
 have ht:(if isM 2 [86,65,76] (J3 f++r) then (J3 f++r).tail else J3 f++r)=F8 f.ty++(G4 f.name::r):=by
  rw[hv];unfold J3;cases f.val with
  | true=>
   show(F8 f.ty++[G4 f.name])++r=_;simp
  | false=>
   show(([]++F8 f.ty)++[G4 f.name])++r=_;simp
 unfold a0g;rw[hv] at ht ⊢;rw[ht,a5U hm _ trivial];show(if foP ⟨f.val,f.ty,f.name⟩ then Except.ok ((⟨f.val,f.ty,f.name⟩:Fo),r) else .error 110)=_;rw[if_pos h]
theorem a1V {β:Type} {t:Tok} {k:Int} {s:B} (h:isM k s [t]=true) (r:List Tok) (f:List Tok->E β):W4 k s (t::r) f=f r:=by
 have h:isM k s (t::r)=true:=h;unfold W4;rw[if_pos h];rfl
theorem V6 {s:B} (h:endT (sy s)=true) (r:List Tok):a8y (sy s::r):=b1T h r
theorem a1Q:endT (sy [44])=true:=by decide +kernel
theorem a7R:endT (sy [59])=true:=by decide +kernel
theorem b2S:endT (sy [58])=true:=by decide +kernel
theorem c5k:endT (sy [58,61])=true:=by decide +kernel
theorem a8l:endT (sy [63])=true:=by decide +kernel
theorem c5N:endT (sy [33])=true:=by decide +kernel
theorem a9p:endT (sy [38])=true:=by decide +kernel
theorem b9l:endT (sy [41])=true:=by decide +kernel
theorem c6W:endT (kw [70,79,82])=true:=by decide +kernel
theorem a4P {sep:B} (hsep:endT (sy sep)=true) {l:List Ex} {most:Nat} (h1:1<=l.length) (h2:l.length<=most) (hm:∀ x ∈ l,G3 x=true) (hW:∀ x ∈ l,Wf x) :
 Rd1 (M1 I8 sep most) (B4 sep B5 l) (l.map B0) fun r=>a8y r/\isM 5 sep r=false:=
 a5O (fun r=>V6 hsep r) h1 h2 fun x hx=>T8 (hm x hx) (hW x hx)
theorem a3f {sep:B} (hsep:endT (sy sep)=true) {l:List Ex} {most:Nat} (h1:1<=l.length) (h2:l.length<=most) (hm:∀ x ∈ l,G1 x=true) (hW:∀ x ∈ l,Wf x) :
 Rd1 (M1 G5 sep most) (B4 sep B5 l) (l.map B0) fun r=>a8y r/\isM 5 sep r=false:=
 a5O (fun r=>V6 hsep r) h1 h2 fun x hx=>a6m (hm x hx) (hW x hx)
theorem b0X {l:List Int} (h1:1<=l.length) (h2:l.length<=8) (hm:∀ x ∈ l,S8 ⟨x,0,0,[]⟩=true):Rd1 (M1 a2f [59] 8) (B4 [59] W5 l) l fun r=>isM 5 [59] r=false:=fun r hr=>by
 have:=a5O (g:=fun x:Int=>x) (P:=fun _=>True) (sep:=[59]) (most:=8) (fun _=>trivial) h1 h2 (fun x hx=>c06 (hm x hx)) r ⟨trivial,hr⟩;simpa using this
theorem a9R {l:List B} (h1:1<=l.length) (h2:l.length<=8):Rd1 (M1 U3 [44] 8) (I7 l) l fun r=>isM 5 [44] r=false:=fun r hr=>by
 have:=a5O (f:=U3) (tok:=fun s=>[G4 s]) (g:=fun x:B=>x) (P:=fun _=>True) (sep:=[44]) (most:=8) (fun _=>trivial) h1 h2 (fun x _=>b9x x) r ⟨trivial,hr⟩;simpa [I7] using this
theorem a2Y {s:B}:a8y []/\isM 5 s []=false:=⟨a2m,rfl⟩
theorem c3E {e:Ex} (h:I4 e=true):G3 e=false:=by
 have hs:B0 e=B0 A0:=(X3 e A0).1 h;rw[<- P0,hs,P0];decide +kernel
theorem c7G {c:Ex} (hm:G3 c=true) (hW:Wf c):ifM (B5 c)=.ok (guM 1 [] (B0 c) A0 [] [] A0,[]):=by
 have:=T8 hm hW [] a2m;rw[List.append_nil] at this;unfold ifM;rw[this];rfl
theorem b8W {c:Ex} (hm:G3 c=true) (hW:Wf c) (r:List Tok):a5g (B5 c++sy [38]::r)=true:=by
 unfold a5g B5;rw[if_pos hm,a2p hm hW (V6 a9p r).1 (V6 a9p r).2];show isM 5 [38] ((A8 c++sy [38]::r).drop (A8 c).length)=true;rw[List.drop_left];rfl
theorem c4Y {c:Ex} (hm:G3 c=true) (hW:Wf c) {r:List Tok} (hr:a8y r) (h:isM 5 [38] r=false):a5g (B5 c++r)=false:=by
 unfold a5g B5;rw[if_pos hm,a2p hm hW hr.1 hr.2];show isM 5 [38] ((A8 c++r).drop (A8 c).length)=false;rw[List.drop_left,h]
theorem c2V {l:List Ex} (h1:1<=l.length) (h2:l.length<=8) (hm:∀ x ∈ l,G3 x=true) (hW:∀ x ∈ l,Wf x) (he:isM 2 [69,76,83,69] (B4 [44] B5 l)=false):a8v (B4 [44] B5 l)=.ok (guM 5 [] A0 A0 [] (l.map B0) A0,[]):=by
 have:=a4P (most:=8) a1Q h1 h2 hm hW [] a2Y;rw[List.append_nil] at this;unfold a8v;rw[he,if_neg (by decide),this];rfl
theorem c0N:a8v [A2 [69,76,83,69]]=.ok (guM 6 [] A0 A0 [] [] A0,[]):=by
 unfold a8v;rw[if_pos (by decide +kernel)];rfl
end
section
open Go.Eng Go.Pc Go
open Go.Xp hiding B D1
open Go.Ty (Ty Vr Tok)
open Go.Ly (Rw)
open Go.Lx (G2)
theorem b2H (s:B):(D3 s).text=s:=by unfold D3;split <;> rfl
def b2g:B:=[69,76,83,69]
theorem b6W {ts:List Tok} (hk:(C4 ts).kind=2) (ht:(C4 ts).text=b2g):∃ e,M0 ts=.error e:=by
 have ne:∀ s:B,s≠b2g->C4 ts≠D3 s:=fun s hs e=>hs (by rw[<- b2H s,<- e,ht])
 have no:∀ o:Int,(S7 o).1≠b2g->C4 ts≠L7 o:=fun o ho=>ne _ ho
 have hc:a0u (C4 ts)=0:=by
  unfold a0u;rw[if_neg (ne _ (by decide)),if_neg (ne _ (by decide)),if_neg (ne _ (by decide))]
 have ho:opF (C4 ts) 4 23=0:=by
  unfold opF;rw[if_neg (no _ (by decide))]
  unfold opF;rw[if_neg (no _ (by decide))]
  unfold opF;rw[if_neg (no _ (by decide))]
  unfold opF;rw[if_neg (no _ (by decide))]
  rfl
 have hx:Q2 (W0 32) ts=.error 100:=by
  rw[M5 rfl,if_neg (by rw[hk];decide),if_neg (by rw[hk];decide),if_neg (ne _ (by decide)),if_neg (ne _ (by decide)),if_neg (by rw[hk];decide),if_neg (fun e=>by rw[e] at hk;cases hk)]
 have:a5d ts=.error 100:=by
  unfold a5d;rw[U2 rfl,if_neg (ne _ (by decide)),if_neg (by rw[hc];decide),if_neg (by rw[ho];decide),hx]
 exact⟨100,by unfold M0;rw[this]⟩
theorem c4U {e:Ex} (hm:G3 e=true) (hW:Wf e) {r:List Tok} (hr:a8y r):isM 2 b2g (B5 e++r)=false:=by
 cases hi:isM 2 b2g (B5 e++r) with
 | false=>rfl
 | true=>
  exfalso;have hF:=(a2u hm).1;have hp:=b2W e hF;have ht:B5 e=A8 e:=by unfold B5;rw[if_pos hm]
  rw[ht] at hi;have hw:=a2p hm hW hr.1 hr.2;cases hq:A8 e with
  | nil=>rw[hq] at hp;simp at hp
  | cons t q=>
   rw[hq] at hi hw;have hi':((t.kind==2)&&(t.text==b2g))=true:=hi;simp only[Bool.and_eq_true,beq_iff_eq] at hi';have hg:=a4z e hF hW t (by rw[hq];exact List.mem_cons_self ..);have hn:C4 ((t::q)++r)={ t with at_:=0 }:=by
    show C4 (t::(q++r))=_;rw[a2T,if_pos hg.1]
   obtain⟨x,hx⟩:=b6W (ts:=(t::q)++r) (by rw[hn];exact hi'.1) (by rw[hn];exact hi'.2);rw[hx] at hw;cases hw
theorem c1e {e:Ex} (h:G1 e=true) (s:B) (r:List Tok):isM 2 s (B5 e++r)=false:=by
 obtain⟨q,hq⟩:=a8H h;rw[hq];rfl
theorem b3n {l:List Ex} (h1:1<=l.length) (hm:∀ x ∈ l,G1 x=true) (s sep:B) (r:List Tok):isM 2 s (B4 sep B5 l++r)=false:=by
 cases l with
 | nil=>simp at h1
 | cons x l=>
  rw[X7,List.append_assoc];exact c1e (hm x (List.mem_cons_self ..)) s _
theorem I5 {s:B} (h:Go.Lx.key s=true):A2 s=kw s:=by unfold A2;rw[if_pos h];rfl
theorem P6 {s:B} (h:Go.Lx.key s=false):A2 s=sy s:=by unfold A2;rw[if_neg (by rw[h];decide)];rfl
theorem I1 {α β:Type} (x:α) (ts:List Tok) (f:α->List Tok->E β):O2 (.ok (x,ts)) f=f x ts:=rfl
theorem b2d {c ch:Ex} {tg:List Ex} (hc:G1 ch=true) (hcW:Wf ch) (h1:1<=tg.length) (h2:tg.length<=8) (hm:∀ x ∈ tg,G1 x=true) (hW:∀ x ∈ tg,Wf x) :
 a4r c (B5 ch++sy [63]::B4 [59] B5 tg)=.ok (guM 3 [] c (B0 ch) (tg.map B0) [] A0,[]):=by
 have hk:isM 2 [65,70,84,69,82] (B4 [59] B5 tg)=false:=by have:=b3n h1 hm [65,70,84,69,82] [59] [];rwa [List.append_nil] at this
 have hl:=a3f (most:=8) a7R h1 h2 hm hW [] a2Y;rw[List.append_nil] at hl;unfold a4r;rw[a6m hc hcW _ (V6 a8l _)];simp only[I1];rw[a1V (by decide),hk,hl];rfl
theorem b2Z {c ch tm:Ex} (hc:G1 ch=true) (hcW:Wf ch) (ht:G3 tm=true) (htW:Wf tm) :
 a4r c (B5 ch++sy [63]::kw [65,70,84,69,82]::B5 tm)=.ok (guM 4 [] c (B0 ch) [] [] (B0 tm),[]):=by
 have hl:=T8 ht htW [] a2m;rw[List.append_nil] at hl;unfold a4r;rw[a6m hc hcW _ (V6 a8l _)];simp only[I1];rw[a1V (by decide),if_pos (show isM 2 [65,70,84,69,82] (kw [65,70,84,69,82]::B5 tm)=true from rfl),List.tail_cons,hl];rfl
theorem b5o {c ch:Ex} (hm:G3 c=true) (hW:Wf c) (hc:G1 ch=true) (r:List Tok):a2H (B5 c++sy [38]::(B5 ch++r))=a4r (B0 c) (B5 ch++r):=by
 unfold a2H;rw[b8W hm hW,if_pos rfl,T8 hm hW _ (V6 a9p _)];simp only[I1];rw[a1V (by decide),c1e hc];rfl
theorem b4Y {ch:Ex} (hc:G1 ch=true) (hcW:Wf ch) (r:List Tok):a2H (B5 ch++sy [63]::r)=a4r A0 (B5 ch++sy [63]::r):=by
 unfold a2H;rw[c4Y (a7H hc) hcW (V6 a8l _) rfl];rfl
theorem c05 {c:Ex} (hm:G3 c=true) (hW:Wf c):a2H (B5 c++[sy [38],kw [83,75,73,80]])=.ok (guM 2 [] (B0 c) A0 [] [] A0,[]):=by
 unfold a2H;rw[b8W hm hW,if_pos rfl,T8 hm hW _ (V6 a9p _)];rfl
theorem c2E {n:B} {tg:List Ex} (h2:tg.length<=8) (hm:∀ x ∈ tg,G1 x=true) (hW:∀ x ∈ tg,Wf x):a8f ([G4 n]++a1n [59] (B4 [59] B5 tg))=.ok (guM 7 n A0 A0 (tg.map B0) [] A0,[]):=by
 cases tg with
 | nil=>rfl
 | cons x l=>
  have hl:=a3f (l:=x::l) (most:=8) a7R (by simp) h2 hm hW [] a2Y;rw[List.append_nil] at hl;have hp:(B4 [59] B5 (x::l)).length≠0:=by
   obtain⟨q,hq⟩:=a8H (hm x (List.mem_cons_self ..));rw[X7,hq];simp
  unfold a1n;rw[if_neg hp];show O2 (M1 G5 [59] 8 (B4 [59] B5 (x::l))) _=_;rw[hl];rfl
theorem b5U {r:Rp} (hn:r.name≠[]) (hb:G3 r.base=true) (hbW:Wf r.base) (hc:G3 r.count=true) (hcW:Wf r.count):b0Y (Y9 r)=.ok (⟨r.name,B0 r.base,B0 r.count⟩,[]):=by
 have hl:=T8 hc hcW [] a2m;rw[List.append_nil] at hl;have h0:Y9 r=G4 r.name::sy [61]::(B5 r.base++kw [70,79,82]::B5 r.count):=by
  unfold Y9;rw[if_neg hn,P6 (s:=[61]) (by decide +kernel),I5 (s:=[70,79,82]) (by decide +kernel)];simp
 rw[h0];show O2 (I8 (B5 r.base++kw [70,79,82]::B5 r.count)) _=_;rw[T8 hb hbW _ (b1T c6W _)];show O2 (I8 (B5 r.count)) _=_;rw[hl];rfl
theorem b6K {r:Rp} (hn:r.name=[]):b0Y (Y9 r)=.ok (C5,[]):=by unfold Y9;rw[if_pos hn];rfl
end
section
open Go.Eng Go.Pc Go
open Go.Xp hiding B D1
open Go.Ty (Ty Vr Tok)
open Go.Ly (Rw)
open Go.Lx (G2)
def GT (t:Tok):Prop:=t.at_=0/\-2147483648<=t.n/\t.n<=2147483647
def GL (l:List Tok):Prop:=∀ t ∈ l,GT t
theorem a4Z:GL []:=fun _ h=>by cases h
theorem G0 {a b:List Tok} (ha:GL a) (hb:GL b):GL (a++b):=fun t h=>(List.mem_append.1 h).elim (ha t) (hb t)
theorem a2M {t:Tok} {l:List Tok} (ht:GT t) (hl:GL l):GL (t::l):=fun u h=>by
 rcases List.mem_cons.1 h with rfl | h
 ·exact ht
 ·exact hl u h
theorem a3E (k:Int) (s:B):GT ⟨k,0,s,0⟩:=⟨rfl,by show(-2147483648:Int)<=0;decide,by show(0:Int)<=2147483647;decide⟩
theorem a1X (s:B):GT (A2 s):=by unfold A2;split <;> exact a3E _ _
theorem a07 {t:Tok} (h:GT t):GL [t]:=a2M h a4Z
theorem a3U {e:Ex} (hW:Wf e):GL (B5 e):=fun t ht=>by
 have ha:=c9w e t ht;unfold B5 at ht;split at ht
 ·rename_i hm
  exact⟨ha,(a4z e (a2u hm).1 hW t ht).2⟩
 ·cases ht
theorem a7g {α:Type} {sep:B} {f:α->List Tok}:∀ {l:List α},(∀ x ∈ l,GL (f x))->GL (B4 sep f l)
 | [],_=>a4Z
 | [x],h=>h x (List.mem_cons_self ..)
 | x::y::r,h=>G0 (h x (List.mem_cons_self ..)) (a2M (a3E _ _) (a7g (l:=y::r) fun z hz=>h z (List.mem_cons_of_mem _ hz)))
theorem b1y (t:Ty):GL (F8 t):=by
 unfold F8 Go.Ty.tokens;split
 ·rename_i h
  have hd:=Go.Ty.may_dim h;show GL (Go.Ty.toks t);unfold Go.Ty.toks;refine G0 (G0 ?_ ?_) (a07 ?_)
  ·unfold Go.Ty.dimT
   split
   ·exact a2M (a3E _ _) (a2M ⟨rfl,by show -2147483648<=t.dim;omega,by show t.dim<=2147483647;omega⟩ (a07 (a3E _ _)))
   ·exact a4Z
  ·unfold Go.Ty.chanT
   split
   ·exact a2M (a3E _ _) (a07 (a3E _ _))
   ·exact a4Z
  ·unfold Go.Ty.lastT
   repeat' split
   all_goals exact a3E _ _
 ·exact a4Z
theorem b8c {s:B} {l:List Tok} (h:GL l):GL (a1n s l):=by
 unfold a1n;split
 ·exact a4Z
 ·exact a2M (a1X s) h
theorem c4n {c:Prop} [Decidable c] {a b:List Tok} (ha:GL a) (hb:GL b):GL (if c then a else b):=by
 split
 ·exact ha
 ·exact hb
structure GW (g:Gu):Prop where
 k:0<=g.k
 cond:Wf g.cond
 ch:Wf g.ch
 time:Wf g.time
 tg:∀ x ∈ g.tg.l,Wf x
 vl:∀ x ∈ g.vl.l,Wf x
structure P1W (p:Pr):Prop where
 k:0<=p.k
 ch:Wf p.ch
 tg:∀ x ∈ p.tg.l,Wf x
 ex:∀ x ∈ p.ex.l,Wf x
 rb:Wf p.rep.base
 rc:Wf p.rep.count
 gs:∀ g ∈ p.gl,GW g
 se:Wf p.sp.e
 sk:0<=p.sp.k
 vw:∀ v ∈ p.sp.vs.l,v.items.length=v.n
inductive PW:Pr->Prop
 | mk {p:Pr} (o:P1W p) (s:∀ x,In x p->PW x):PW p
theorem PW.own {p:Pr} (q:PW p):P1W p:=by cases q;assumption
theorem PW.sub {p x:Pr} (q:PW p) (hx:In x p):PW x:=by cases q with | mk o s=>exact s x hx
theorem d0r {m:View} {h:List Res} {p:Pr} (q:POk m h p):PW p:=by
 induction q with
 | mk o _ ih=>exact .mk ⟨o.k.1,o.ch.w,fun x hx=>(o.tg.ok x hx).w,fun x hx=>(o.ex.ok x hx).w,o.rb.w,o.rc.w,fun g hg=>⟨(o.gs g hg).k.1,(o.gs g hg).cond.w,(o.gs g hg).ch.w,(o.gs g hg).time.w,fun x hx=>((o.gs g hg).tg.ok x hx).w,fun x hx=>((o.gs g hg).vl.ok x hx).w⟩,o.sp.e.w,o.sp.k.1,o.sp.vw⟩ ih
theorem c8m {r:Rp} (hb:Wf r.base) (hc:Wf r.count):GL (Y9 r):=by
 unfold Y9;split
 ·exact a4Z
 ·exact G0 (G0 (G0 (G0 (a07 (a3E _ _)) (a07 (a1X _))) (a3U hb)) (a07 (a1X _))) (a3U hc)
theorem a9v {sep:B} {l:List Ex} (h:∀ x ∈ l,Wf x):GL (B4 sep B5 l):=a7g fun x hx=>a3U (h x hx)
theorem c3D {p:Pr} (h:P1W p):GL (A3 p.k p.name p.ch p.tg.l p.ex.l p.rep):=by
 have w:∀ s,GL [A2 s]:=fun s=>a07 (a1X s)
 have w2:∀ s u,GL [A2 s,A2 u]:=fun s u=>a2M (a1X s) (w u)
 have t1:=a3U h.ch;have t2:∀ sep,GL (B4 sep B5 p.tg.l):=fun sep=>a9v h.tg
 have t3:∀ sep,GL (B4 sep B5 p.ex.l):=fun sep=>a9v h.ex
 have t4:=c8m h.rb h.rc;have t5:GL [G4 p.name]:=a07 (a3E _ _);unfold A3;repeat' refine c4n ?_ ?_
 all_goals first | exact w _ | exact w2 _ _ | exact G0 (G0 (t2 _) (w _)) (t3 _) | exact G0 (G0 t1 (w _)) (t2 _) | exact G0 (G0 t1 (w _)) (t3 _) | exact G0 (G0 t1 (w2 _ _)) (t3 _) | exact G0 t1 (w2 _ _) | exact G0 (w _) t4 | exact G0 (w2 _ _) t4 | exact G0 (w _) (t3 _) | exact G0 (G0 (G0 t5 (w _)) (t3 _)) (w _)
theorem c3m {g:Gu} (h:GW g):GL (F5 g.k g.name g.cond g.ch g.tg.l g.vl.l g.time):=by
 have w:∀ s,GL [A2 s]:=fun s=>a07 (a1X s)
 have w2:∀ s u,GL [A2 s,A2 u]:=fun s u=>a2M (a1X s) (w u)
 have c:GL (Z4 g.cond):=by
  unfold Z4;split
  ·exact a4Z
  ·exact G0 (a3U h.cond) (a07 (a3E _ _))
 have t1:=a3U h.ch;have t2:∀ sep,GL (B4 sep B5 g.tg.l):=fun sep=>a9v h.tg
 have t3:∀ sep,GL (B4 sep B5 g.vl.l):=fun sep=>a9v h.vl
 unfold F5;repeat' split
 all_goals first | exact a3U h.cond | exact G0 c (w _) | exact G0 (G0 (G0 c t1) (w _)) (t2 _) | exact G0 (G0 (G0 c t1) (w2 _ _)) (a3U h.time) | exact t3 _ | exact w _ | exact G0 (a07 (a3E _ _)) (b8c (t2 _))
theorem c3p {l:List Tok} (hg:GL l) (hf:(Go.Lx.textO l).2=0):a6M l/\∃ q,Go.Lx.lexO (Go.Lx.textO l).1=(q,0,0)/\a6M q/\q.map z0=l:=by
 have hk:a6M l:=by
  unfold Go.Lx.textO at hf;split at hf
  ·simp at hf
  ·rename_i hn
   intro x hx;simp only[List.any_eq_true,not_exists,not_and,Bool.not_eq_true',Bool.not_eq_false] at hn;exact hn x hx
 have hn:Go.Lx.TkN l:=fun x hx=>(hg x hx).2
 rcases Go.Lx.textO_or hk (s:=(Go.Lx.textO l).1) (f:=(Go.Lx.textO l).2) rfl with ⟨h,_⟩ | ⟨_,h1,h2⟩
 ·rw[hf] at h;cases h
 ·obtain⟨b1,_,b3⟩:=Go.Lx.text_back hk hn (by rw[<- h1];exact h2)
  refine⟨hk,Go.Lx.place none 0 l,by rw[h1,b1],b3,?_⟩;have key:∀ (l:List Tok) (p:Option Tok) (q:Nat),GL l->(Go.Lx.place p q l).map z0=l:=by
   intro l;induction l with
   | nil=>intros;rfl
   | cons t r ih=>
    intro p q hg;show z0 _::(Go.Lx.place _ _ r).map z0=t::r;rw[ih _ _ fun x hx=>hg x (List.mem_cons_of_mem _ hx)];have:=(hg t (List.mem_cons_self ..)).1;cases t;cases this;rfl
  exact key l none 0 hg
def c1G (R:List Rw) (i:Nat) (x:Ln):Prop:=∃ no,R[i]?=some ⟨no,x.1,(Go.Lx.textO x.2).1⟩
theorem c7p {R:List Rw} {i:Nat} {x:Ln} (hR:c1G R i x) (hg:GL x.2) (hf:(Go.Lx.textO x.2).2=0) {β:Type} {f:List Tok->PE β} (hI:a1C f):a1m R x.1 i f=f x.2:=by
 obtain⟨no,hR⟩:=hR;obtain⟨_,q,h1,h2,h3⟩:=c3p hg hf;unfold a1m a1E;rw[hR];simp only[h1];rw[if_neg (by simp),if_neg (by simp)];show f q=_;rw[<- hI q h2,h3]
theorem c5e {R:List Rw} {i:Nat} {x:Ln} (hR:c1G R i x) (d:Int):M6 R d i=(x.1==d):=by
 obtain⟨no,hR⟩:=hR;unfold M6;rw[hR]
end
section
open Go.Eng Go.Pc Go
open Go.Xp hiding B D1
open Go.Ty (Ty Vr Tok)
open Go.Ly (Rw)
open Go.Lx (G2)
def GLs (l:List Ln):Prop:=∀ x ∈ l,GL x.2
theorem a9r:GLs []:=fun _ h=>by cases h
theorem a6a {a b:List Ln} (ha:GLs a) (hb:GLs b):GLs (a++b):=fun t h=>(List.mem_append.1 h).elim (ha t) (hb t)
theorem a3x {x:Ln} {l:List Ln} (ht:GL x.2) (hl:GLs l):GLs (x::l):=fun u h=>by
 rcases List.mem_cons.1 h with rfl | h
 ·exact ht
 ·exact hl u h
theorem a4E {c:Prop} [Decidable c] {a b:List Ln} (ha:GLs a) (hb:GLs b):GLs (if c then a else b):=by
 split
 ·exact ha
 ·exact hb
theorem c4e {l:List Pr} {d:Int} (h:∀ x ∈ l,GLs (B2 x d)):GLs (a1p l d):=by
 cases l with
 | nil=>exact a9r
 | cons x r=>exact h x (List.mem_cons_self ..)
theorem c8h {k:Int}:∀ {l:List Pr} {ns:List Int} {d:Int},(∀ x ∈ l,∀ d,GLs (B2 x d))->GLs (F3 k ns l d)
 | [],_,_,_=>a9r
 | x::r,ns,d,h=>by
  show GLs ((if k=11 then (d+1,[A2 [80,82,79,67,69,83,83,79,82],⟨3,0,[],IntKind.i32.wrap (ns.headD 0)⟩])::B2 x (d+2) else B2 x (d+1))++F3 k ns.tail r d);refine a6a (a4E (a3x ?_ (h x (List.mem_cons_self ..) _)) (h x (List.mem_cons_self ..) _)) (c8h fun y hy=>h y (List.mem_cons_of_mem _ hy));have:=Go.Lx.wrap_range (ns.headD 0);exact a2M (a1X _) (a07 ⟨rfl,this.1,this.2⟩)
theorem c3w {d:Int}:∀ {l:List Gu},(∀ g ∈ l,GW g)->(∀ g ∈ l,∀ x ∈ g.bl,∀ d,GLs (B2 x d))->GLs (D2 l d)
 | [],_,_=>a9r
 | g::r,hw,h=>by
  show GLs (V9 g d++D2 r d);rw[a4s];exact a6a (a3x (c3m (hw g (List.mem_cons_self ..))) (c4e fun x hx=>h g (List.mem_cons_self ..) x hx _)) (c3w (fun g hg=>hw g (List.mem_cons_of_mem _ hg)) fun g hg=>h g (List.mem_cons_of_mem _ hg))
theorem c0C (f:Fo):GL (J3 f):=by
 unfold J3;exact G0 (G0 (c4n (a07 (a1X _)) a4Z) (b1y _)) (a07 (a3E _ _))
theorem a4t (l:List B):GL (I7 l):=a7g fun _ _=>a07 (a3E _ _)
theorem b5y (l:List Int):GL (B4 [59] W5 l):=a7g fun _ _=>b1y _
theorem c8I (v:Vr):GL (I0 v):=G0 (a07 (a3E _ _)) (b8c (b5y _))
theorem d0t {s:Sp} {d:Int} (he:Wf s.e) (h:∀ x ∈ s.bl,∀ d,GLs (B2 x d)):GLs (G6 s d):=by
 have w:∀ s,GL [A2 s]:=fun s=>a07 (a1X s)
 have o:∀ {d:Int} {l:List Tok},GL l->GLs [(d,l)]:=fun h=>a3x h a9r
 rw[a00];refine a4E (o (G0 (G0 (b1y _) (a4t _)) (w _))) (a4E (o (G0 (G0 (G0 (G0 (G0 (w _) (b1y _)) (a4t _)) (w _)) (a3U he)) (w _))) (a4E (o (G0 (G0 (G0 (G0 (b1y _) (a4t _)) (w _)) (a3U he)) (w _))) (a4E ?_ (a4E ?_ ?_))))
 ·exact a3x (G0 (G0 (G0 (G0 (w _) (a4t _)) (w _)) (a7g fun f _=>c0C f)) (w _)) (a6a (c4e fun x hx=>h x hx _) (o (w _)))
 ·exact o (G0 (G0 (G0 (G0 (w _) (a4t _)) (w _)) (b5y _)) (w _))
 ·refine a3x (G0 (w _) (a4t _)) (a3x (w _) (a6a ?_ (o (w _))))
  intro x hx;obtain⟨v,_,rfl⟩:=List.mem_map.1 hx;exact c8I v
theorem c0F (p:Pr):PW p->∀ d,GLs (B2 p d):=by
 refine Pr.ind (q:=fun p=>PW p->∀ d,GLs (B2 p d)) (fun p ih hw d=>?_) p;have o:=hw.own;rw[a4j];refine a4E (a6a (d0t o.se fun x hx d=>ih x (.s hx) (hw.sub (.s hx)) d) (c4e fun x hx=>ih x (.l hx) (hw.sub (.l hx)) d)) (a3x (c3D o) (a6a (c8h fun x hx d=>ih x (.l hx) (hw.sub (.l hx)) d) (c3w o.gs fun g hg x hx d=>ih x (.g hg hx) (hw.sub (.g hg hx)) d)))
structure OkL (R:List Rw) (i:Nat) (L:List Ln):Prop where
 at_:∀ j x,L[j]?=some x->c1G R (i+j) x
 fit:∀ x ∈ L,(Go.Lx.textO x.2).2=0
 gl:GLs L
theorem OkL.left {R:List Rw} {i:Nat} {a b:List Ln} (h:OkL R i (a++b)):OkL R i a:=⟨fun j x hx=>h.at_ j x (by rw[List.getElem?_append_left (List.getElem?_eq_some_iff.1 hx).1];exact hx),fun x hx=>h.fit x (List.mem_append_left _ hx),fun x hx=>h.gl x (List.mem_append_left _ hx)⟩
theorem OkL.right {R:List Rw} {i:Nat} {a b:List Ln} (h:OkL R i (a++b)):OkL R (i+a.length) b:=⟨fun j x hx=>by
 have:=h.at_ (a.length+j) x (by rw[List.getElem?_append_right (by omega)];rw[show a.length+j - a.length=j by omega];exact hx);rwa [<- Nat.add_assoc] at this,fun x hx=>h.fit x (List.mem_append_right _ hx),fun x hx=>h.gl x (List.mem_append_right _ hx)⟩
theorem OkL.tail {R:List Rw} {i:Nat} {x:Ln} {b:List Ln} (h:OkL R i (x::b)):OkL R (i+1) b:=OkL.right (a:=[x]) h
theorem OkL.open {R:List Rw} {i:Nat} {x:Ln} {b:List Ln} (h:OkL R i (x::b)) {β:Type} {f:List Tok->PE β} (hI:a1C f):a1m R x.1 i f=f x.2:=
 c7p (h.at_ 0 x rfl) (h.gl x (List.mem_cons_self ..)) (h.fit x (List.mem_cons_self ..)) hI
theorem OkL.here {R:List Rw} {i:Nat} {x:Ln} {b:List Ln} (h:OkL R i (x::b)) (d:Int):M6 R d i=(x.1==d):=c5e (h.at_ 0 x rfl) d
def Z3 (R:List Rw) (i:Nat) (d:Int):Prop:=∀ y,R[i]?=some y->y.depth<=d
theorem Z3.here {R:List Rw} {i:Nat} {d e:Int} (h:Z3 R i d) (he:d < e):M6 R e i=false:=by
 unfold M6;cases hr:R[i]? with
 | none=>rfl
 | some y=>have:=h y hr;show(y.depth==e)=false;rw[beq_eq_false_iff_ne];omega
theorem Z3.mono {R:List Rw} {i:Nat} {d e:Int} (h:Z3 R i d) (he:d<=e):Z3 R i e:=fun y hy=>Int.le_trans (h y hy) he
theorem OkL.after {R:List Rw} {i:Nat} {x:Ln} {b:List Ln} (h:OkL R i (x::b)) {d:Int} (hd:x.1<=d):Z3 R i d:=fun y hy=>by
 obtain⟨no,hr⟩:=h.at_ 0 x rfl;rw[Nat.add_zero,hy] at hr;cases hr;exact hd
end
end Go.Sx
namespace Go.Pc
section
open Go.Eng Go.Xp Go
open Go.Ty (Ty Vr)
theorem b2B (k:Int):(B3 k).1.p1<=2048/\(b3N (B3 k).1).p1<=2048:=by
 by_cases hk:1<=k/\k<=18
 ·have:k=1\/k=2\/k=3\/k=4\/k=5\/k=6\/k=7\/k=8\/k=9\/k=10\/k=11\/k=12\/k=13\/k=14\/k=15\/k=16\/k=17\/k=18:=by omega
  rcases this with h | h | h | h | h | h | h | h | h | h | h | h | h | h | h | h | h | h <;> rw[h] <;> decide
 ·have:B3 k=(us0,false):=by
   unfold B3;repeat rw[if_neg (by omega)]
  rw[this];decide
theorem b9I {p:Pr} (h:O0 p=true):p.ll.length<=2048:=by
 have hV:=a1U h;by_cases hr:p.rep.name=[]
 ·have h1:=(hV.pn hr).2
  have:=(b2B p.k).1;omega
 ·unfold O0 at h
  have h2:=hV.rp hr;have h3:(p.rep.name != [])=true:=by simpa using hr
  rw[hV.kd,hV.rep,h3,h2] at h;simp only[Bool.not_true,Bool.or_self,Bool.false_eq_true,if_false,if_true] at h;have h4:=a8c (plU h).1.1.1;have:=(b2B p.k).2;omega
theorem O4 {p:Pr} (h:O0 p=true):a4o p=true:=by
 unfold a4o;rw[if_pos (b9I h),h]
end
end Go.Pc
namespace Go.Sx
section
open Go.Eng Go.Pc Go
open Go.Xp hiding B D1
open Go.Ty (Ty Vr Tok)
open Go.Ly (Rw)
open Go.Lx (G2)
theorem a4W (p:Pr) (d:Int):∃ t r,B2 p d=(d,t)::r:=by
 rw[a4j];split
 ·rw[a00]
  repeat' split
  all_goals exact⟨_,_,rfl⟩
 ·exact⟨_,_,rfl⟩
theorem a8i (p:Pr) (d:Int):1<=(B2 p d).length:=by obtain⟨t,r,h⟩:=a4W p d;rw[h];simp
theorem OkL.len {R:List Rw} {i:Nat} {L:List Ln} (h:OkL R i L) (h0:L≠[]):i+L.length<=R.length:=by
 have hl:0 < L.length:=List.length_pos_iff.2 h0;obtain⟨no,hr⟩:=h.at_ (L.length - 1) (L[L.length - 1]'(by omega)) (List.getElem?_eq_getElem (by omega));have:=(List.getElem?_eq_some_iff.1 hr).1;omega
theorem b1j:∀ {l:List Pr} {d q:Int} {pl:Bool},(W1 l d pl q).1=true->∀ x ∈ l,∃ q',(J5 x d pl q').1=true
 | [],_,_,_,_,x,hx=>by cases hx
 | y::r,d,q,pl,h,x,hx=>by
  have e:W1 (y::r) d pl q=if (J5 y d pl q).1 then W1 r d pl (J5 y d pl q).2 else J5 y d pl q:=rfl
  rw[e] at h;by_cases hy:(J5 y d pl q).1=true
  ·rw[if_pos hy] at h
   rcases List.mem_cons.1 hx with rfl | hx
   ·exact⟨q,hy⟩
   ·exact b1j h x hx
  ·rw[if_neg hy] at h;exact absurd h hy
theorem b1v:∀ {l:List Gu} {d q:Int},(a1D l d q).1=true->∀ g ∈ l,∃ q',(a4O g.bl d q').1=true
 | [],_,_,_,x,hx=>by cases hx
 | y::r,d,q,h,x,hx=>by
  have e:a1D (y::r) d q=if (a0r y d q).1 then a1D r d (a0r y d q).2 else a0r y d q:=rfl
  rw[e] at h;by_cases hy:(a0r y d q).1=true
  ·rw[if_pos hy] at h
   rcases List.mem_cons.1 hx with rfl | hx
   ·rw[a4y] at hy;exact⟨q,hy⟩
   ·exact b1v h x hx
  ·rw[if_neg hy] at h;exact absurd h hy
structure MayV (p:Pr) (d:Int) (pl:Bool):Prop where
 plain:O0 p=true
 deep:d<=32
 top:p.k=11->pl=true
 ll:p.k≠18->∀ x ∈ p.ll,∃ q,(J5 x (if p.k=11 then d+2 else d+1) false q).1=true
 l8:p.k=18->∀ x ∈ p.ll,∃ q,(J5 x d pl q).1=true
 sp:p.k=18->∃ q,(a0v p.sp d q).1=true
 gl:∀ g ∈ p.gl,∃ q,(a4O g.bl (d+2) q).1=true
theorem d0H {p:Pr} {d left:Int} {pl:Bool} (h:(J5 p d pl left).1=true):MayV p d pl:=by
 rw[a6p] at h;by_cases hh:Z7 p d pl left=true
 ·rw[if_pos hh] at h;cases h
 rw[if_neg hh] at h;unfold Z7 at hh;simp only[Bool.not_eq_true,Bool.or_eq_false_iff,decide_eq_false_iff_not,Bool.not_eq_false',Bool.and_eq_false_iff,beq_eq_false_iff_ne] at hh;obtain⟨⟨⟨_,hd⟩,hp⟩,ht⟩:=hh;have htop:p.k=11->pl=true:=fun hk=>by rcases ht with q | q;exact absurd hk q;simpa using q
 by_cases hk:p.k=18
 ·rw[if_pos hk] at h
  by_cases hs:(a0v p.sp d (left - 1)).1=true
  ·rw[if_pos hs] at h
   by_cases hl:(W1 p.ll d pl (a0v p.sp d (left - 1)).2).1=true
   ·rw[if_pos hl] at h
    exact⟨hp,by omega,htop,fun q=>absurd hk q,fun _=>b1j hl,fun _=>⟨_,hs⟩,b1v h⟩
   ·rw[if_neg hl] at h;exact absurd h hl
  ·rw[if_neg hs] at h;exact absurd h hs
 ·rw[if_neg hk] at h
  by_cases hl:(W1 p.ll (if p.k=11 then d+2 else d+1) false (left - 1)).1=true
  ·rw[if_pos hl] at h
   exact⟨hp,by omega,htop,fun _=>b1j hl,fun q=>absurd q hk,fun q=>absurd q hk,b1v h⟩
  ·rw[if_neg hl] at h;exact absurd h hl
def b3Y (R:List Rw) (n:Nat) (p:Pr):Prop:=∀ (d left:Int) (top:Bool) (i:Nat),PW p->(J5 p d top left).1=true->OkL R i (B2 p d)->Z3 R (i+(B2 p d).length) d->(B2 p d).length<=n ->
 ∃ q,A4 R n d top i=.ok (q,i+(B2 p d).length)/\D6 p q=true
def N1 (d:Int) (l:List Pr):List Ln:=l.flatMap fun x=>B2 x d
theorem b4y {k:Int} (hk:k≠11):∀ (l:List Pr) (ns:List Int) (d:Int),F3 k ns l d=N1 (d+1) l
 | [],_,_=>rfl
 | x::r,ns,d=>by
  show(if k=11 then _ else B2 x (d+1))++F3 k ns.tail r d=B2 x (d+1)++N1 (d+1) r;rw[if_neg hk,b4y hk r]
theorem b5I {d:Int} {l:List Pr} {R:List Rw} {i:Nat} (hO:OkL R i (N1 d l)) (hA:Z3 R (i+(N1 d l).length) (d - 1)):Z3 R i d:=by
 cases l with
 | nil=>exact hA.mono (by omega)
 | cons x r=>
  obtain⟨t,s,h⟩:=a4W x d;have e:N1 d (x::r)=(d,t)::(s++N1 d r):=by show B2 x d++N1 d r=_;rw[h];rfl
  rw[e] at hO;exact hO.after (Int.le_refl d)
theorem b09 {R:List Rw} {n:Nat} {d:Int}:∀ (l:List Pr) (k:Nat) (acc:List Pr) (i:Nat),(∀ x ∈ l,b3Y R n x)->(∀ x ∈ l,PW x)->(∀ x ∈ l,∃ q,(J5 x d false q).1=true)->OkL R i (N1 d l)->Z3 R (i+(N1 d l).length) (d - 1)->(N1 d l).length<=n->l.length<=k ->
 ∃ qs,a1y R (A4 R n) d k acc i=.ok (acc++qs,i+(N1 d l).length)/\eqL D6 l qs=true
 | [],k,acc,i,_,_,_,_,hA,_,_=>by
  refine⟨[],?_,rfl⟩;have hh:M6 R d i=false:=hA.here (by omega);cases k with
  | zero=>show Except.ok (acc,i)=_;simp[N1]
  | succ k=>unfold a1y;rw[hh];simp[N1]
 | x::r,0,_,_,_,_,_,_,_,_,hk=>by simp at hk
 | x::r,k+1,acc,i,hB,hW,hM,hO,hA,hn,hk=>by
  have e:N1 d (x::r)=B2 x d++N1 d r:=rfl;rw[e] at hO hA hn;rw[List.length_append] at hA hn;obtain⟨t,s,hx⟩:=a4W x d;have hh:M6 R d i=true:=by
   have:=hO.left;rw[hx] at this;rw[this.here];simp
  have hA2:Z3 R (i+(B2 x d).length) d:=b5I hO.right (by rw[Nat.add_assoc];exact hA);obtain⟨q0,hm⟩:=hM x (List.mem_cons_self ..);obtain⟨q,h1,h2⟩:=hB x (List.mem_cons_self ..) d q0 false i (hW x (List.mem_cons_self ..)) hm hO.left hA2 (by omega);obtain⟨qs,h3,h4⟩:=b09 r k (acc++[q]) (i+(B2 x d).length) (fun y hy=>hB y (List.mem_cons_of_mem _ hy)) (fun y hy=>hW y (List.mem_cons_of_mem _ hy)) (fun y hy=>hM y (List.mem_cons_of_mem _ hy)) hO.right (by rw[Nat.add_assoc];exact hA) (by omega) (by simpa using hk);refine⟨q::qs,?_,?_⟩
  ·unfold a1y
   rw[hh,if_pos rfl,h1];show a1y R (A4 R n) d k (acc++[q]) (i+(B2 x d).length)=_;rw[h3,e,List.length_append];simp[Nat.add_assoc]
  ·show(D6 x q&&eqL D6 r qs)=true
   rw[h2,h4];rfl
end
section
open Go.Eng Go.Pc Go
open Go.Xp hiding B D1
open Go.Ty (Ty Vr Tok)
open Go.Ly (Rw)
open Go.Lx (G2)
theorem Y0 (e:Ex):C7 e (B0 e)=true:=(X3 e (B0 e)).2 (b7N e).symm
theorem a0l:∀ l:List Ex,eqL C7 l (l.map B0)=true
 | []=>rfl
 | x::r=>by show(C7 x (B0 x)&&eqL C7 r (r.map B0))=true;rw[Y0,a0l r];rfl
theorem D9 {l:List Ex} (h:l=[]):eqL C7 l []=true:=by rw[h];rfl
theorem emp {α:Type} {l:List α} (h:l.isEmpty=true):l=[]:=by cases l with
 | nil=>rfl
 | cons x r=>cases h
theorem a2L {g:Gu} {k:Int} {nm:B} {c ch tm:Ex} {tg vl:List Ex} {x y:Pr} (hk:g.k=k) (hn:g.name=nm) (h1:C7 g.cond c=true) (h2:C7 g.ch ch=true) (h3:C7 g.time tm=true) (h4:eqL C7 g.tg.l tg=true) (h5:eqL C7 g.vl.l vl=true) (hb:g.bl=[x]) (hs:D6 x y=true) :
 N9 g (a6P (guM k nm c ch tg vl tm) y)=true:=by
 rw[a5E];show((((((((g.k==k)&&(g.name==nm))&&C7 g.cond c)&&C7 g.ch ch)&&C7 g.time tm)&&eqL C7 g.tg.l tg)&&eqL C7 g.vl.l vl)&&eqL D6 g.bl [y])=true;rw[h1,h2,h3,h4,h5,hk,hn,hb];show((((((((k==k)&&(nm==nm))&&true)&&true)&&true)&&true)&&true)&&(D6 x y&&true))=true;rw[hs];simp
def a4c (row:List Tok->E Gu) (g:Gu):Prop:=∃ g',row (F5 g.k g.name g.cond g.ch g.tg.l g.vl.l g.time)=.ok (g',[])/\∀ x y,g.bl=[x]->D6 x y=true->N9 g (a6P g' y)=true
theorem a6n {nm:B} {c ch tm:Ex} {tg vl:Sli Ex} (h:N9 (.mk 0 nm c ch tg vl tm none 0 []) b0B=true):nm=[]/\I4 c=true/\I4 ch=true/\I4 tm=true/\tg.l=[]/\vl.l=[]:=by
 rw[a1I] at h;simp only[Bool.and_eq_true,beq_iff_eq] at h;exact⟨h.1.1.1.1.1,h.1.1.1.1.2,h.1.1.1.2,h.1.1.2,emp h.1.2,emp h.2⟩
theorem c4T {g:Gu} (h:guP g=true) (hW:GW g) (hk:g.k=1):a4c ifM g:=by
 rw[c7T (.inl hk)] at h;simp only[Bool.and_eq_true] at h;obtain⟨⟨h1,_⟩,h2⟩:=h;obtain⟨z1,_,z3,z4,z5,z6⟩:=a6n h2;refine⟨_,by unfold F5;rw[if_pos hk,c7G h1 hW.cond],fun x y hb hs=>a2L hk z1 (Y0 _) z3 z4 (D9 z5) (D9 z6) hb hs⟩
theorem b2m {c:Ex} (h:I4 c=true):Z4 c=[]:=by unfold Z4;rw[if_pos h]
theorem b0m {c:Ex} (h:G3 c=true):Z4 c=B5 c++[sy [38]]:=by
 unfold Z4;rw[if_neg (fun q=>by rw[c3E q] at h;cases h)];rfl
theorem b5D {g:Gu} (h:guP g=true) (hW:GW g) (hk:g.k=2\/g.k=3\/g.k=4):a4c a2H g:=by
 have w1:A2 [63]=sy [63]:=P6 (by decide +kernel);have w2:A2 [65,70,84,69,82]=kw [65,70,84,69,82]:=I5 (by decide +kernel);have w3:A2 [83,75,73,80]=kw [83,75,73,80]:=I5 (by decide +kernel);rcases hk with hk | hk | hk
 ·rw[c7T (.inr hk)] at h
  simp only[Bool.and_eq_true] at h;obtain⟨⟨h1,_⟩,h2⟩:=h;obtain⟨z1,_,z3,z4,z5,z6⟩:=a6n h2;refine⟨_,?_,fun x y hb hs=>a2L hk z1 (Y0 _) z3 z4 (D9 z5) (D9 z6) hb hs⟩;unfold F5;rw[if_neg (by omega),if_pos hk,b0m h1,w3,List.append_assoc];exact c05 h1 hW.cond
 ·rw[d1W hk] at h
  simp only[Bool.and_eq_true,Bool.or_eq_true] at h;obtain⟨⟨⟨⟨h1,h2⟩,h3⟩,_⟩,h4⟩:=h;obtain⟨z1,_,_,z4,_,z6⟩:=a6n h4;obtain⟨t1,t2,t3⟩:=F6 h3;have a:=b2d (c:=B0 g.cond) h2 hW.ch (by omega) (by omega) t1 hW.tg;have a0:=b2d (c:=A0) h2 hW.ch (by omega) (by omega) t1 hW.tg;rcases h1 with h1 | h1
  ·refine⟨_,?_,fun x y hb hs=>a2L hk z1 h1 (Y0 _) z4 (a0l _) (D9 z6) hb hs⟩
   unfold F5;rw[if_neg (by omega),if_neg (by omega),if_pos hk,b2m h1,w1,List.nil_append,List.append_assoc];exact(b4Y h2 hW.ch _).trans a0
  ·refine⟨_,?_,fun x y hb hs=>a2L hk z1 (Y0 _) (Y0 _) z4 (a0l _) (D9 z6) hb hs⟩
   unfold F5;rw[if_neg (by omega),if_neg (by omega),if_pos hk,b0m h1,w1];have e:(((B5 g.cond++[sy [38]])++B5 g.ch)++[sy [63]])++B4 [59] B5 g.tg.l=B5 g.cond++sy [38]::(B5 g.ch++sy [63]::B4 [59] B5 g.tg.l):=by simp
   rw[e];exact(b5o h1 hW.cond h2 _).trans a
 ·rw[d2a hk] at h
  simp only[Bool.and_eq_true,Bool.or_eq_true] at h;obtain⟨⟨⟨⟨h1,h2⟩,h3⟩,_⟩,h4⟩:=h;obtain⟨z1,_,_,_,z5,z6⟩:=a6n h4;have a:=b2Z (c:=B0 g.cond) h2 hW.ch h3 hW.time;have a0:=b2Z (c:=A0) h2 hW.ch h3 hW.time;rcases h1 with h1 | h1
  ·refine⟨_,?_,fun x y hb hs=>a2L hk z1 h1 (Y0 _) (Y0 _) (D9 z5) (D9 z6) hb hs⟩
   unfold F5;rw[if_neg (by omega),if_neg (by omega),if_neg (by omega),if_pos hk,b2m h1,w1,w2,List.nil_append,List.append_assoc];exact(b4Y h2 hW.ch _).trans a0
  ·refine⟨_,?_,fun x y hb hs=>a2L hk z1 (Y0 _) (Y0 _) (Y0 _) (D9 z5) (D9 z6) hb hs⟩
   unfold F5;rw[if_neg (by omega),if_neg (by omega),if_neg (by omega),if_pos hk,b0m h1,w1,w2];have e:(((B5 g.cond++[sy [38]])++B5 g.ch)++[sy [63],kw [65,70,84,69,82]])++B5 g.time=B5 g.cond++sy [38]::(B5 g.ch++sy [63]::kw [65,70,84,69,82]::B5 g.time):=by simp
   rw[e];exact(b5o h1 hW.cond h2 _).trans a
theorem c2Y {g:Gu} (h:guP g=true) (hW:GW g) (hk:g.k=5\/g.k=6):a4c a8v g:=by
 rcases hk with hk | hk
 ·rw[d1O hk] at h
  simp only[Bool.and_eq_true] at h;obtain⟨⟨h1,_⟩,h2⟩:=h;obtain⟨z1,z2,z3,z4,z5,_⟩:=a6n h2;obtain⟨t1,t2,t3⟩:=F6 h1;refine⟨_,?_,fun x y hb hs=>a2L hk z1 z2 z3 z4 (D9 z5) (a0l _) hb hs⟩;unfold F5;rw[if_neg (by omega),if_neg (by omega),if_neg (by omega),if_neg (by omega),if_pos hk];refine c2V (by omega) (by omega) t1 hW.vl ?_;cases hl:g.vl.l with
  | nil=>rw[hl] at t2;simp at t2
  | cons x r=>
   have hx:x ∈ g.vl.l:=by rw[hl];exact List.mem_cons_self ..
   rw[X7];refine c4U (t1 x hx) (hW.vl x hx) ?_;cases r with
   | nil=>exact a2m
   | cons y s=>exact V6 a1Q _
 ·rw[d21 hk] at h
  simp only[Bool.and_eq_true] at h;obtain⟨z1,z2,z3,z4,z5,z6⟩:=a6n h.2;refine⟨_,?_,fun x y hb hs=>a2L hk z1 z2 z3 z4 (D9 z5) (D9 z6) hb hs⟩;unfold F5;rw[if_neg (by omega),if_neg (by omega),if_neg (by omega),if_neg (by omega),if_neg (by omega),if_pos hk];exact c0N
theorem c3W {g:Gu} (h:guP g=true) (hW:GW g) (hk:g.k=7):a4c a8f g:=by
 have hh:=h;unfold guP at h;rw[hk] at h;simp only[O1,Bool.and_eq_true] at h;obtain⟨⟨⟨⟨⟨⟨⟨⟨h1,h2⟩,h3⟩,h4⟩,h5⟩,h6⟩,h7⟩,h8⟩,h9⟩:=h;simp only[Int.reduceBEq,Int.reduceEq,Bool.or_false,Bool.false_eq_true,if_true,if_false] at h4 h6 h7 h8 h9;obtain⟨t1,t2,t3⟩:=F6 h8;obtain⟨v1,v2,v3⟩:=F6 h9;have hv:g.vl.l=[]:=List.length_eq_zero_iff.1 (by omega);refine⟨_,?_,fun x y hb hs=>a2L hk rfl h4 h6 h7 (a0l _) (D9 hv) hb hs⟩;unfold F5;rw[if_neg (by omega),if_neg (by omega),if_neg (by omega),if_neg (by omega),if_neg (by omega),if_neg (by omega)];exact c2E (by omega) t1 hW.tg
end
section
open Go.Eng Go.Pc Go
open Go.Xp hiding B D1
open Go.Ty (Ty Vr Tok)
open Go.Ly (Rw)
open Go.Lx (G2)
theorem R8 {α β:Type} (x:α) (ts:List Tok) (i:Nat) (f:α->List Tok->PE β):E8 (.ok (x,ts)) i f=f x ts:=rfl
theorem W7 {β:Type} (i:Nat) (f:Nat->PE β):E7 [] i f=f (i+1):=rfl
theorem a1i {α β:Type} (x:α) (i:Nat) (f:α->Nat->PE β):M8 (.ok (x,i)) f=f x i:=rfl
def c1j (R:List Rw) (n:Nat) (d:Int) (g:Gu):Prop:=∃ x,g.bl=[x]/\b3Y R n x/\PW x/\∃ q,(J5 x d false q).1=true
theorem b7v {g:Gu} {x:Pr} (h:g.bl=[x]) (d:Int):V9 g d=(d,F5 g.k g.name g.cond g.ch g.tg.l g.vl.l g.time)::B2 x (d+1):=by rw[a4s,h];rfl
theorem b40 {d:Int} {l:List Gu} {R:List Rw} {i:Nat} (hO:OkL R i (D2 l d)) (hA:Z3 R (i+(D2 l d).length) (d - 1)):Z3 R i d:=by
 cases l with
 | nil=>exact hA.mono (by omega)
 | cons g r=>
  have e:D2 (g::r) d=(d,F5 g.k g.name g.cond g.ch g.tg.l g.vl.l g.time)::(a1p g.bl (d+1)++D2 r d):=by show V9 g d++D2 r d=_;rw[a4s];rfl
  rw[e] at hO;exact hO.after (Int.le_refl d)
theorem a8Z {R:List Rw} {n:Nat} {d:Int} {row:List Tok->E Gu} {least most:Nat} (hI:a0w row):∀ (l:List Gu) (k:Nat) (acc:List Gu) (i:Nat),(∀ g ∈ l,a4c row g)->(∀ g ∈ l,c1j R n (d+1) g)->OkL R i (D2 l d)->Z3 R (i+(D2 l d).length) (d - 1)->(D2 l d).length<=n+1->l.length<=k ->
 acc.length+l.length<=most->least<=acc.length+l.length->∃ gs,U9 R (A4 R n) row least most d k acc i=.ok (acc++gs,i+(D2 l d).length)/\eqL N9 l gs=true
 | [],k,acc,i,_,_,_,hA,_,_,_,hle=>by
  refine⟨[],?_,rfl⟩;have hh:M6 R d i=false:=hA.here (by omega);have hl:¬ acc.length < least:=by simp at hle;omega
  cases k with
  | zero=>unfold U9;rw[if_neg hl];simp[D2]
  | succ k=>unfold U9;rw[if_neg (by rw[hh];simp;omega)];simp[D2]
 | g::r,0,_,_,_,_,_,_,_,hk,_,_=>by simp at hk
 | g::r,k+1,acc,i,hH,hB,hO,hA,hn,hk,hm,hle=>by
  obtain⟨x,hb,hBx,hWx,q0,hMx⟩:=hB g (List.mem_cons_self ..);obtain⟨g',hr,hs⟩:=hH g (List.mem_cons_self ..);have e:D2 (g::r) d=(d,F5 g.k g.name g.cond g.ch g.tg.l g.vl.l g.time)::(B2 x (d+1)++D2 r d):=by show V9 g d++D2 r d=_;rw[b7v hb];rfl
  rw[e] at hO hA hn;have hlen:((d,F5 g.k g.name g.cond g.ch g.tg.l g.vl.l g.time)::(B2 x (d+1)++D2 r d):List Ln).length=1+((B2 x (d+1)).length+(D2 r d).length):=by simp;omega
  rw[hlen] at hA hn;have hh:M6 R d i=true:=by rw[hO.here];simp
  have hT:=hO.tail;have hA1:Z3 R (i+1+(B2 x (d+1)).length) d:=b40 hT.right (by rw[show i+1+(B2 x (d+1)).length+(D2 r d).length=i+(1+((B2 x (d+1)).length+(D2 r d).length)) by omega];exact hA);obtain⟨q,h1,h2⟩:=hBx (d+1) q0 false (i+1) hWx hMx hT.left (hA1.mono (by omega)) (by omega);obtain⟨gs,h3,h4⟩:=a8Z (least:=least) (most:=most) hI r k (acc++[a6P g' q]) (i+1+(B2 x (d+1)).length) (fun y hy=>hH y (List.mem_cons_of_mem _ hy)) (fun y hy=>hB y (List.mem_cons_of_mem _ hy)) hT.right
   (by rw[show i+1+(B2 x (d+1)).length+(D2 r d).length=i+(1+((B2 x (d+1)).length+(D2 r d).length)) by omega];exact hA) (by omega) (by simpa using hk) (by simp at hm ⊢;omega) (by simp at hle ⊢;omega)
  refine⟨a6P g' q::gs,?_,?_⟩
  ·unfold U9
   rw[if_pos (.inr ⟨by simp at hm;omega,hh⟩)];rw[hO.open (f:=fun ts=>E8 (row ts) i fun g r=>E7 r i fun i=>M8 (A4 R n (d+1) false i) fun x i=>U9 R (A4 R n) row least most d k (acc++[a6P g x]) i) (J0 hI i fun _=>J1 i _)];show E8 (row (F5 g.k g.name g.cond g.ch g.tg.l g.vl.l g.time)) i _=_;rw[hr,R8,W7,h1,a1i,h3,e,hlen];simp;omega
  ·show(N9 g (a6P g' q)&&eqL N9 r gs)=true
   rw[hs x q hb h2,h4];rfl
theorem b9W {v:Int} (h:0<=v/\v < 8):a7E [⟨3,0,[],IntKind.i32.wrap v⟩]=some v:=by
 have hw:IntKind.i32.wrap v=v:=Go.Lx.wrap_small ⟨h.1,by omega⟩;unfold a7E;rw[hw];simp[h.1,h.2]
def U8 (d:Int):List Int->List Pr->List Ln
 | _,[]=>[]
 | ns,x::r=>(d+1,[A2 [80,82,79,67,69,83,83,79,82],⟨3,0,[],IntKind.i32.wrap (ns.headD 0)⟩])::(B2 x (d+2)++U8 d ns.tail r)
theorem b63:∀ (l:List Pr) (ns:List Int) (d:Int),F3 11 ns l d=U8 d ns l
 | [],_,_=>rfl
 | x::r,ns,d=>by
  show((d+1,[A2 [80,82,79,67,69,83,83,79,82],⟨3,0,[],IntKind.i32.wrap (ns.headD 0)⟩])::B2 x (d+2))++F3 11 ns.tail r d=_;rw[b63 r];rfl
theorem a9c {R:List Rw} {n:Nat} {d:Int}:∀ (l:List Pr) (ns:List Int) (k:Nat) (ac:List Int) (acc:List Pr) (i:Nat),l.length=ns.length->(∀ v ∈ ns,0<=v/\v < 8)->(∀ x ∈ l,b3Y R n x)->(∀ x ∈ l,PW x)->(∀ x ∈ l,∃ q,(J5 x (d+2) false q).1=true)->OkL R i (U8 d ns l)->Z3 R (i+(U8 d ns l).length) d->(U8 d ns l).length<=n+1->l.length<=k ->
 acc.length+l.length<=8->1<=acc.length+l.length->∃ qs,S5 R (A4 R n) d k ac acc i=.ok ((ac++ns,acc++qs),i+(U8 d ns l).length)/\eqL D6 l qs=true
 | [],ns,k,ac,acc,i,hn0,_,_,_,_,_,hA,_,_,_,hle=>by
  have hns:ns=[]:=List.length_eq_zero_iff.1 hn0.symm;subst hns;refine⟨[],?_,rfl⟩;have hh:M6 R (d+1) i=false:=hA.here (by omega);have hl:¬ acc.length=0:=by simp at hle;omega
  cases k with
  | zero=>unfold S5;rw[if_neg hl];simp[U8]
  | succ k=>unfold S5;rw[if_neg (by rw[hh];simp;intro q;rw[q] at hl;exact hl rfl)];simp[U8]
 | x::r,ns,0,_,_,_,_,_,_,_,_,_,_,_,hk,_,_=>by simp at hk
 | x::r,[],k+1,_,_,_,hn0,_,_,_,_,_,_,_,_,_,_=>by simp at hn0
 | x::r,v::ns,k+1,ac,acc,i,hn0,hv,hB,hW,hM,hO,hA,hn,hk,hm,hle=>by
  have w:A2 [80,82,79,67,69,83,83,79,82]=kw [80,82,79,67,69,83,83,79,82]:=I5 (by decide +kernel);have e:U8 d (v::ns) (x::r)=(d+1,[kw [80,82,79,67,69,83,83,79,82],⟨3,0,[],IntKind.i32.wrap v⟩])::(B2 x (d+2)++U8 d ns r):=by rw[<- w];rfl
  rw[e] at hO hA hn;have hlen:((d+1,[kw [80,82,79,67,69,83,83,79,82],⟨3,0,[],IntKind.i32.wrap v⟩])::(B2 x (d+2)++U8 d ns r):List Ln).length=1+((B2 x (d+2)).length+(U8 d ns r).length):=by simp;omega
  rw[hlen] at hA hn;have hh:M6 R (d+1) i=true:=by rw[hO.here];simp
  have hT:=hO.tail;have hA1:Z3 R (i+1+(B2 x (d+2)).length) (d+1):=by
   have hr:=hT.right;cases r with
   | nil=>
    have:Z3 R (i+1+(B2 x (d+2)).length) d:=by
     have q:i+1+(B2 x (d+2)).length=i+(1+((B2 x (d+2)).length+(U8 d ns []).length)):=by simp[U8];omega
     rw[q];exact hA
    exact this.mono (by omega)
   | cons y s=>exact OkL.after hr (by show d+1<=d+1;omega)
  obtain⟨q0,hm0⟩:=hM x (List.mem_cons_self ..);obtain⟨q,h1,h2⟩:=hB x (List.mem_cons_self ..) (d+2) q0 false (i+1) (hW x (List.mem_cons_self ..)) hm0 hT.left (hA1.mono (by omega)) (by omega);obtain⟨qs,h3,h4⟩:=a9c r ns k (ac++[v]) (acc++[q]) (i+1+(B2 x (d+2)).length) (by simpa using hn0) (fun u hu=>hv u (List.mem_cons_of_mem _ hu)) (fun y hy=>hB y (List.mem_cons_of_mem _ hy)) (fun y hy=>hW y (List.mem_cons_of_mem _ hy)) (fun y hy=>hM y (List.mem_cons_of_mem _ hy)) hT.right
   (by rw[show i+1+(B2 x (d+2)).length+(U8 d ns r).length=i+(1+((B2 x (d+2)).length+(U8 d ns r).length)) by omega];exact hA) (by omega) (by simpa using hk) (by simp at hm ⊢;omega) (by simp;omega)
  refine⟨q::qs,?_,?_⟩
  ·unfold S5
   rw[if_pos (.inr ⟨by simp at hm;omega,hh⟩)];refine(hO.open (a1d i fun ts _=>by simp only[c71])).trans ?_;show(match a7E [⟨3,0,[],IntKind.i32.wrap v⟩] with
    | some n1=>M8 (A4 R n (d+2) false (i+1)) fun x i=>S5 R (A4 R n) d k (ac++[n1]) (acc++[x]) i
    | none=>.error (110,i))=_
   rw[b9W (hv v (List.mem_cons_self ..))];simp only[h1,a1i];rw[h3,e,hlen];simp;omega
  ·show(D6 x q&&eqL D6 r qs)=true
   rw[h2,h4];rfl
end
section
open Go.Eng Go.Pc Go
open Go.Xp hiding B D1
open Go.Ty (Ty Vr Tok)
open Go.Ly (Rw)
open Go.Lx (G2)
theorem S6 {p:Pr} {k:Int} {nm:B} {ch:Ex} {tg ex:List Ex} {rep:Rp} {gl:List Gu} {ll:List Pr} {pn:List Int} {sp:Sp} (h1:p.k=k) (h2:p.name=nm) (h3:C7 p.ch ch=true) (h4:eqL C7 p.tg.l tg=true) (h5:eqL C7 p.ex.l ex=true) (h6:a0y p.rep rep=true)
 (h7:eqL N9 p.gl gl=true) (h8:eqL D6 p.ll ll=true) (h9:p.pn.l=pn) (h10:R1 p.sp sp=true):D6 p (prM k nm ch tg ex rep gl ll pn sp)=true:=by
 rw[a5T];show(eqL (fun a b:Int=>a==b) p.pn.l pn&&((((((((((p.k==k)&&(p.name==nm))&&a0y p.rep rep)&&C7 p.ch ch)&&eqL C7 p.tg.l tg)&&eqL C7 p.ex.l ex)&&eqL N9 p.gl gl)&&eqL D6 p.ll ll)&&R1 p.sp sp)))=true;rw[h3,h4,h5,h6,h7,h8,h10,h1,h2,h9];have e:eqL (fun a b:Int=>a==b) pn pn=true:=U1 (fun x=>by simp) pn;rw[e];simp
theorem V2 {nm:B} {ch:Ex} {tg ex:Sli Ex} {pn:Sli Int} {sp:Sp} (h:D6 (a0X nm ch tg ex pn sp) S3=true):nm=[]/\I4 ch=true/\tg.l=[]/\ex.l=[]/\pn.l=[]/\R1 sp B7=true:=by
 have h:D6 (.mk 0 nm ch tg ex a3V none 0 [] none 0 [] pn sp) S3=true:=h;rw[N7] at h;simp only[Bool.and_eq_true,beq_iff_eq] at h;rw[W8];exact⟨h.1.1.1.1.2,h.1.1.1.2,emp h.1.1.2,emp h.1.2,emp h.1.1.1.1.1,h.2⟩
theorem S1 {r:Rp} (hr:Q0 r=true) (hn:r.name=[]):a0y r C5=true:=by
 unfold Q0 at hr;rw[hn] at hr;simp only[beq_self_eq_true,if_true,Bool.and_eq_true] at hr;unfold a0y;show(((r.name==[])&&C7 r.base A0)&&C7 r.count A0)=true;rw[hn,show C7 r.base A0=true from hr.1,show C7 r.count A0=true from hr.2];rfl
theorem Y4 {p:Pr} (h:(!(!(p.rep.name==[])))=true):p.rep.name=[]:=by simpa using h
theorem R3 {α:Type} {l:List α} (h:((l.length:Int)==0)=true):l=[]:=List.length_eq_zero_iff.1 (by have:=eq_of_beq h;omega)
theorem a1S {l:List Gu} (h:l=[]):eqL N9 l []=true:=by rw[h];rfl
theorem a03 {l:List Pr} (h:l=[]):eqL D6 l []=true:=by rw[h];rfl
def b6j:List (Int × B):=[(2,[80,82,79,84,79,67,79,76]),(2,[80,82,79,67]),(2,[86,65,76]),(5,[91]),(2,[73,78,84]),(2,[66,89,84,69]),(2,[66,79,79,76]),(2,[67,72,65,78]),(2,[84,73,77,69,82])]
section
variable {R:List Rw} {rec:Int->Bool->Nat->PE Pr} {n:Nat} {d:Int} {top:Bool} {i:Nat}
theorem b2c {t:Tok} {r:List Tok} (h:∀ x ∈ b6j,isM x.1 x.2 [t]=false):a0a R rec d (t::r) i=.ok (none,i):=by
 have g:∀ x ∈ b6j,isM x.1 x.2 (t::r)=false:=h;unfold a0a;simp only[g (2,[80,82,79,84,79,67,79,76]) (by decide),g (2,[80,82,79,67]) (by decide),g (2,[86,65,76]) (by decide),g (5,[91]) (by decide),g (2,[73,78,84]) (by decide),g (2,[66,89,84,69]) (by decide),g (2,[66,79,79,76]) (by decide),g (2,[67,72,65,78]) (by decide),g (2,[84,73,77,69,82]) (by decide),Bool.or_false,Bool.false_eq_true,if_false]
theorem c0V {s:B} {r:List Tok}:a0a R rec d (G4 s::r) i=.ok (none,i):=b2c fun x hx=>by
 simp only[b6j,List.mem_cons,List.not_mem_nil,or_false] at hx;rcases hx with rfl | rfl | rfl | rfl | rfl | rfl | rfl | rfl | rfl <;> rfl
theorem b2s {t:Tok} {r:List Tok} {L:List Ln} (hO:OkL R i ((d,t::r)::L)) (hs:a0a R (A4 R n) d (t::r) i=.ok (none,i)):A4 R (n+1) d top i=a2B R (A4 R n) d top (t::r) i:=by
 have h:=hO.open (b6I R (A4 R n) d top i fun so j=>M8 (A4 R n d top j) fun x i=>.ok (prM 18 [] A0 [] [] C5 [] [x] [] (so.getD B7),i));show b2x R (A4 R n) d top i=_;unfold b2x;refine h.trans ?_;show M8 (a0a R (A4 R n) d (t::r) i) _=_;rw[hs];rfl
theorem b9U {s:B} {r:List Tok}:a2B R rec d top (G4 s::r) i=P5 R rec d (G4 s::r) i:=by
 show(match a1a R rec s with
  | some f=>if (1:Int)=2/\(top=true\/s≠[80,76,65,67,69,68]) then f d r i else P5 R rec d (G4 s::r) i
  | none=>P5 R rec d (G4 s::r) i)=_
 cases a1a R rec s with
 | none=>rfl
 | some f=>show(if _ then _ else _)=_;rw[if_neg (fun q=>by cases q.1)]
theorem d1C {s:B} {f:Int->List Tok->Nat->PE Pr} (hf:a1a R rec s=some f) (ht:top=true\/s≠[80,76,65,67,69,68]) {r:List Tok}:a2B R rec d top (kw s::r) i=f d r i:=by
 show(match a1a R rec s with
  | some f=>if (2:Int)=2/\(top=true\/s≠[80,76,65,67,69,68]) then f d r i else P5 R rec d (kw s::r) i
  | none=>P5 R rec d (kw s::r) i)=_
 rw[hf];show(if _ then _ else _)=_;rw[if_pos ⟨rfl,ht⟩]
end
structure Ask (R:List Rw) (n:Nat) (p:Pr) (d:Int) (top:Bool) (i:Nat):Prop where
 b:∀ x,In x p->b3Y R n x
 w:PW p
 v:MayV p d top
 o:OkL R i (B2 p d)
 a:Z3 R (i+(B2 p d).length) d
 l:(B2 p d).length<=n+1
def Ans (R:List Rw) (n:Nat) (p:Pr) (d:Int) (top:Bool) (i:Nat):Prop:=∃ q,A4 R (n+1) d top i=.ok (q,i+(B2 p d).length)/\D6 p q=true
theorem a2S {p:Pr} (h:p.k≠18) (d:Int):B2 p d=(d,A3 p.k p.name p.ch p.tg.l p.ex.l p.rep)::(F3 p.k p.pn.l p.ll d++D2 p.gl (d+1)):=by rw[a4j,if_neg h]
theorem a1K {p:Pr} (h:p.k≠18) (hl:p.ll=[]) (hg:p.gl=[]) (d:Int):B2 p d=[(d,A3 p.k p.name p.ch p.tg.l p.ex.l p.rep)]:=by rw[a2S h,hl,hg];rfl
theorem a1N {R:List Rw} {n:Nat} {p:Pr} {d:Int} {top:Bool} {i:Nat} (A:Ask R n p d top i) (hk:p.k≠18) {s:B} {r:List Tok} (hf:A3 p.k p.name p.ch p.tg.l p.ex.l p.rep=G4 s::r) {q:Pr}
 (h:P5 R (A4 R n) d (G4 s::r) i=.ok (q,i+(B2 p d).length)) (hq:D6 p q=true):Ans R n p d top i:=by
 have hO:=A.o;rw[a2S hk,hf] at hO;exact⟨q,by rw[b2s hO c0V,b9U,h],hq⟩
theorem a02 {R:List Rw} {n:Nat} {p:Pr} {d:Int} {top:Bool} {i:Nat} (A:Ask R n p d top i) (hk:p.k≠18) {s:B} {r:List Tok} (hf:A3 p.k p.name p.ch p.tg.l p.ex.l p.rep=kw s::r) {f:Int->List Tok->Nat->PE Pr} (hw:a1a R (A4 R n) s=some f)
 (hs:∀ x ∈ b6j,isM x.1 x.2 [kw s]=false) (ht:top=true\/s≠[80,76,65,67,69,68]) {q:Pr} (h:f d r i=.ok (q,i+(B2 p d).length)) (hq:D6 p q=true):Ans R n p d top i:=by
 have hO:=A.o;rw[a2S hk,hf] at hO;exact⟨q,by rw[b2s hO (b2c hs),d1C hw ht,h],hq⟩
end
section
open Go.Eng Go.Pc Go
open Go.Xp hiding B D1
open Go.Ty (Ty Vr Tok)
open Go.Ly (Rw)
open Go.Lx (G2)
def b7t:List B:=[[70,65,76,83,69],[84,82,85,69],[83,73,90,69],M7 1,M7 2,M7 3,(S7 23).1,(S7 24).1,(S7 25).1,(S7 26).1,[40]]
theorem b9V {ts:List Tok} {s:B} (h1:(C4 ts).kind≠1) (h3:(C4 ts).kind≠3) (h4:(C4 ts).kind≠4) (ht:(C4 ts).text=s) (hs:∀ x ∈ b7t,x≠s):∃ e,M0 ts=.error e:=by
 have ne:∀ x:B,x ∈ b7t->C4 ts≠D3 x:=fun x hx e=>hs x hx (by rw[<- b2H x,<- e,ht])
 have no:∀ o:Int,(S7 o).1 ∈ b7t->C4 ts≠L7 o:=fun o ho=>ne _ ho
 have hc:a0u (C4 ts)=0:=by
  unfold a0u;rw[if_neg (ne _ (by decide)),if_neg (ne _ (by decide)),if_neg (ne _ (by decide))]
 have ho:opF (C4 ts) 4 23=0:=by
  unfold opF;rw[if_neg (no _ (by decide))]
  unfold opF;rw[if_neg (no _ (by decide))]
  unfold opF;rw[if_neg (no _ (by decide))]
  unfold opF;rw[if_neg (no _ (by decide))]
  rfl
 have hp:C4 ts≠C8 [40]:=fun e=>hs [40] (by decide) (by rw[<- ht,e];rfl)
 have hx:Q2 (W0 32) ts=.error 100:=by
  rw[M5 rfl,if_neg h3,if_neg h4,if_neg (ne _ (by decide)),if_neg (ne _ (by decide)),if_neg h1,if_neg hp]
 have:a5d ts=.error 100:=by
  unfold a5d;rw[U2 rfl,if_neg (ne _ (by decide)),if_neg (by rw[hc];decide),if_neg (by rw[ho];decide),hx]
 exact⟨100,by unfold M0;rw[this]⟩
theorem c2t {e:Ex} (hm:G3 e=true) (hW:Wf e) {r:List Tok} (hr:a8y r):isM 5 [41] (B5 e++r)=false:=by
 cases hi:isM 5 [41] (B5 e++r) with
 | false=>rfl
 | true=>
  exfalso;have hF:=(a2u hm).1;have hp:=b2W e hF;have ht:B5 e=A8 e:=by unfold B5;rw[if_pos hm]
  rw[ht] at hi;have hw:=a2p hm hW hr.1 hr.2;cases hq:A8 e with
  | nil=>rw[hq] at hp;simp at hp
  | cons t q=>
   rw[hq] at hi hw;have hi':((t.kind==5)&&(t.text==[41]))=true:=hi;simp only[Bool.and_eq_true,beq_iff_eq] at hi';have hg:=a4z e hF hW t (by rw[hq];exact List.mem_cons_self ..);have hn:C4 ((t::q)++r)={ t with at_:=0 }:=by
    show C4 (t::(q++r))=_;rw[a2T,if_pos hg.1]
   obtain⟨x,hx⟩:=b9V (ts:=(t::q)++r) (s:=[41]) (by rw[hn,show({ t with at_:=0 }:Tok).kind=5 from hi'.1];decide) (by rw[hn,show({ t with at_:=0 }:Tok).kind=5 from hi'.1];decide) (by rw[hn,show({ t with at_:=0 }:Tok).kind=5 from hi'.1];decide) (by rw[hn];exact hi'.2) (by decide);rw[hx] at hw;cases hw
theorem a4f {e:Ex} (h:G1 e=true) {r:List Tok} (hr:isM 5 [40] r=false):∃ q,B5 e++r=G4 e.s::q/\isM 5 [40] q=false:=by
 have hm:=a7H h;have hk:=b2F h;unfold B5;rw[if_pos hm];cases e with
 | mk k o t n s a c l=>
  rcases hk with q | q
  ·have q:k=4:=q
   subst q;exact⟨r,rfl,hr⟩
  ·have q:k=5:=q
   subst q;exact⟨_,rfl,rfl⟩
section
variable {R:List Rw} {n:Nat} {p:Pr} {d:Int} {top:Bool} {i:Nat}
theorem d0I (A:Ask R n p d top i) (hk:p.k=1):Ans R n p d top i:=by
 have h:=O4 A.v.plain;rw[c1Q (.inl hk)] at h;simp only[Bool.and_eq_true] at h;obtain⟨⟨⟨⟨h1,h2⟩,h3⟩,h4⟩,h5⟩:=h;obtain⟨z1,z2,z3,z4,z5,z6⟩:=V2 h5;have hf:A3 p.k p.name p.ch p.tg.l p.ex.l p.rep=kw [83,75,73,80]::[]:=by unfold A3;rw[if_pos hk,I5 (by decide +kernel)]
 have hl:=a1K (by omega) (R3 h2) (R3 h3) d (p:=p);refine a02 A (by omega) hf (f:=fun _ ts i=>b3Z 1 ts i) rfl (by decide) (.inr (by decide)) (q:=prM 1 [] A0 [] [] C5 [] [] [] B7) ?_ (S6 hk z1 z2 (D9 z3) (D9 z4) (S1 h4 (Y4 h1)) (a1S (R3 h3)) (a03 (R3 h2)) z5 z6);rw[hl];rfl
theorem d0Z (A:Ask R n p d top i) (hk:p.k=2):Ans R n p d top i:=by
 have h:=O4 A.v.plain;rw[c1Q (.inr hk)] at h;simp only[Bool.and_eq_true] at h;obtain⟨⟨⟨⟨h1,h2⟩,h3⟩,h4⟩,h5⟩:=h;obtain⟨z1,z2,z3,z4,z5,z6⟩:=V2 h5;have hf:A3 p.k p.name p.ch p.tg.l p.ex.l p.rep=kw [83,84,79,80]::[]:=by unfold A3;rw[if_neg (by omega),if_pos hk,I5 (by decide +kernel)]
 have hl:=a1K (by omega) (R3 h2) (R3 h3) d (p:=p);refine a02 A (by omega) hf (f:=fun _ ts i=>b3Z 2 ts i) rfl (by decide) (.inr (by decide)) (q:=prM 2 [] A0 [] [] C5 [] [] [] B7) ?_ (S6 hk z1 z2 (D9 z3) (D9 z4) (S1 h4 (Y4 h1)) (a1S (R3 h3)) (a03 (R3 h2)) z5 z6);rw[hl];rfl
theorem a2j {d:Int} {s:B} {q:List Tok} (h:isM 5 [40] q=false) {rec:Int->Bool->Nat->PE Pr}:P5 R rec d (G4 s::q) i=E8 (M1 G5 [44] 8 (G4 s::q)) i fun f r=>
 if isM 5 [58,61] r then E8 (M1 I8 [44] 8 r.tail) i fun l r=>E7 r i fun i=>.ok (prM 3 [] A0 f l C5 [] [] [] B7,i)
 else if f.length > 1 then .error (110,i)
 else if isM 5 [33] r then E8 (M1 I8 [59] 9 r.tail) i fun l r=>E7 r i fun i=>.ok (prM 5 [] (f.headD A0) [] l C5 [] [] [] B7,i)
 else V5 5 [63] r i fun r=>
  if isM 2 [67,65,83,69] r then E7 r.tail i fun i=>M8 (a0M R rec a8f 1 16 (d+1) i) fun l i=>.ok (prM 7 [] (f.headD A0) [] [] C5 l [] [] B7,i)
  else if isM 2 [65,70,84,69,82] r then E8 (I8 r.tail) i fun e r=>E7 r i fun i=>.ok (prM 6 [] (f.headD A0) [] [e] C5 [] [] [] B7,i)
  else E8 (M1 G5 [59] 8 r) i fun l r=>E7 r i fun i=>.ok (prM 4 [] (f.headD A0) l [] C5 [] [] [] B7,i):=by
 unfold P5;rw[if_neg (fun h2=>by rw[List.tail_cons,h] at h2;cases h2.2)]
theorem d0J (A:Ask R n p d top i) (hk:p.k=3):Ans R n p d top i:=by
 have h:=O4 A.v.plain;rw[d1s hk] at h;simp only[Bool.and_eq_true] at h;obtain⟨⟨⟨⟨⟨⟨h1,ht⟩,he⟩,h2⟩,h3⟩,h4⟩,h5⟩:=h;obtain⟨z1,z2,_,_,z5,z6⟩:=V2 h5;obtain⟨t1,t2,t3⟩:=F6 ht;obtain⟨e1,e2,e3⟩:=F6 he;have w:=A.w.own;have hl:=a1K (by omega) (R3 h2) (R3 h3) d (p:=p);have hf:A3 p.k p.name p.ch p.tg.l p.ex.l p.rep=B4 [44] B5 p.tg.l++sy [58,61]::B4 [44] B5 p.ex.l:=by
  unfold A3;rw[if_neg (by omega),if_neg (by omega),if_pos hk,P6 (by decide +kernel)];simp
 have r1:=a3f (most:=8) a1Q (by omega) (by omega) t1 w.tg (sy [58,61]::B4 [44] B5 p.ex.l) ⟨V6 c5k _,rfl⟩;have r2:=a4P (most:=8) a1Q (by omega) (by omega) e1 w.ex [] a2Y;rw[List.append_nil] at r2;obtain⟨x,l,hx⟩:∃ x l,p.tg.l=x::l:=by cases hq:p.tg.l with
  | nil=>rw[hq] at t2;simp at t2
  | cons x l=>exact⟨x,l,rfl⟩
 obtain⟨q,hq,hn⟩:=a4f (t1 x (by rw[hx];exact List.mem_cons_self ..)) (r:=(l.flatMap fun x=>a8p [44]::B5 x)++sy [58,61]::B4 [44] B5 p.ex.l) (by cases l <;> rfl);have hfl:B4 [44] B5 p.tg.l++sy [58,61]::B4 [44] B5 p.ex.l=G4 x.s::q:=by rw[hx,X7,List.append_assoc,hq]
 refine a1N A (by omega) (hf.trans hfl) (q:=prM 3 [] A0 (p.tg.l.map B0) (p.ex.l.map B0) C5 [] [] [] B7) ?_ (S6 hk z1 z2 (a0l _) (a0l _) (S1 h4 (Y4 h1)) (a1S (R3 h3)) (a03 (R3 h2)) z5 z6);rw[a2j hn,<- hfl,r1,hl];show E8 (M1 I8 [44] 8 (B4 [44] B5 p.ex.l)) i _=_;rw[r2];rfl
theorem a7m {e:Ex} (h:G1 e=true) (hW:Wf e) {r:List Tok} (hs:a8y r) (hn:isM 5 [44] r=false):M1 G5 [44] 8 (B5 e++r)=.ok ([B0 e],r):=
 a3f (l:=[e]) (sep:=[44]) (most:=8) a1Q (by simp) (by simp) (fun x hx=>by rw[List.mem_singleton.1 hx];exact h) (fun x hx=>by rw[List.mem_singleton.1 hx];exact hW) r ⟨hs,hn⟩
theorem d0n (A:Ask R n p d top i) (hk:p.k=4):Ans R n p d top i:=by
 have h:=O4 A.v.plain;rw[d1k hk] at h;simp only[Bool.and_eq_true] at h;obtain⟨⟨⟨⟨⟨⟨h1,hc⟩,ht⟩,h2⟩,h3⟩,h4⟩,h5⟩:=h;obtain⟨z1,_,_,z4,z5,z6⟩:=V2 h5;obtain⟨t1,t2,t3⟩:=F6 ht;have w:=A.w.own;have hl:=a1K (by omega) (R3 h2) (R3 h3) d (p:=p);have hf:A3 p.k p.name p.ch p.tg.l p.ex.l p.rep=B5 p.ch++sy [63]::B4 [59] B5 p.tg.l:=by
  unfold A3;rw[if_neg (by omega),if_neg (by omega),if_neg (by omega),if_pos hk,P6 (by decide +kernel)];simp
 have r1:=a7m hc w.ch (V6 a8l (B4 [59] B5 p.tg.l)) rfl;have r2:=a3f (most:=8) a7R (by omega) (by omega) t1 w.tg [] a2Y;rw[List.append_nil] at r2;obtain⟨q,hq,hn⟩:=a4f hc (r:=sy [63]::B4 [59] B5 p.tg.l) rfl;have k1:isM 2 [67,65,83,69] (B4 [59] B5 p.tg.l)=false:=by have:=b3n (by omega) t1 [67,65,83,69] [59] [];rwa [List.append_nil] at this
 have k2:isM 2 [65,70,84,69,82] (B4 [59] B5 p.tg.l)=false:=by have:=b3n (by omega) t1 [65,70,84,69,82] [59] [];rwa [List.append_nil] at this
 refine a1N A (by omega) (hf.trans hq) (q:=prM 4 [] (B0 p.ch) (p.tg.l.map B0) [] C5 [] [] [] B7) ?_ (S6 hk z1 (Y0 _) (a0l _) (D9 z4) (S1 h4 (Y4 h1)) (a1S (R3 h3)) (a03 (R3 h2)) z5 z6);rw[a2j hn,<- hq,r1,hl];show(if isM 2 [67,65,83,69] (B4 [59] B5 p.tg.l) then _ else if isM 2 [65,70,84,69,82] (B4 [59] B5 p.tg.l) then _ else E8 (M1 G5 [59] 8 (B4 [59] B5 p.tg.l)) i _)=_;rw[k1,k2,r2];rfl
theorem d0E (A:Ask R n p d top i) (hk:p.k=5):Ans R n p d top i:=by
 have h:=O4 A.v.plain;rw[d1e hk] at h;simp only[Bool.and_eq_true] at h;obtain⟨⟨⟨⟨⟨⟨h1,hc⟩,he⟩,h2⟩,h3⟩,h4⟩,h5⟩:=h;obtain⟨z1,_,z3,_,z5,z6⟩:=V2 h5;obtain⟨e1,e2,e3⟩:=F6 he;have w:=A.w.own;have hl:=a1K (by omega) (R3 h2) (R3 h3) d (p:=p);have hf:A3 p.k p.name p.ch p.tg.l p.ex.l p.rep=B5 p.ch++sy [33]::B4 [59] B5 p.ex.l:=by
  unfold A3;rw[if_neg (by omega),if_neg (by omega),if_neg (by omega),if_neg (by omega),if_pos hk,P6 (by decide +kernel)];simp
 have r1:=a7m hc w.ch (V6 c5N (B4 [59] B5 p.ex.l)) rfl;have r2:=a4P (most:=9) a7R (by omega) (by omega) e1 w.ex [] a2Y;rw[List.append_nil] at r2;obtain⟨q,hq,hn⟩:=a4f hc (r:=sy [33]::B4 [59] B5 p.ex.l) rfl;refine a1N A (by omega) (hf.trans hq) (q:=prM 5 [] (B0 p.ch) [] (p.ex.l.map B0) C5 [] [] [] B7) ?_ (S6 hk z1 (Y0 _) (D9 z3) (a0l _) (S1 h4 (Y4 h1)) (a1S (R3 h3)) (a03 (R3 h2)) z5 z6);rw[a2j hn,<- hq,r1,hl];show E8 (M1 I8 [59] 9 (B4 [59] B5 p.ex.l)) i _=_;rw[r2];rfl
theorem d0L (A:Ask R n p d top i) (hk:p.k=6):Ans R n p d top i:=by
 have h:=O4 A.v.plain;rw[d0j hk] at h;simp only[Bool.and_eq_true] at h;obtain⟨⟨⟨⟨⟨⟨h1,hc⟩,he⟩,h2⟩,h3⟩,h4⟩,h5⟩:=h;obtain⟨z1,_,z3,_,z5,z6⟩:=V2 h5;obtain⟨e1,e2,e3⟩:=F6 he;obtain⟨x,hx⟩:=List.length_eq_one_iff.1 (show p.ex.l.length=1 by omega);have w:=A.w.own;have hl:=a1K (by omega) (R3 h2) (R3 h3) d (p:=p);have hf:A3 p.k p.name p.ch p.tg.l p.ex.l p.rep=B5 p.ch++sy [63]::kw [65,70,84,69,82]::B5 x:=by
  unfold A3;rw[if_neg (by omega),if_neg (by omega),if_neg (by omega),if_neg (by omega),if_neg (by omega),if_pos hk,P6 (s:=[63]) (by decide +kernel),I5 (s:=[65,70,84,69,82]) (by decide +kernel),hx];simp[B4]
 have r1:=a7m hc w.ch (V6 a8l (kw [65,70,84,69,82]::B5 x)) rfl;have hxm:x ∈ p.ex.l:=by rw[hx];exact List.mem_cons_self ..
 have r2:=T8 (e1 x hxm) (w.ex x hxm) [] a2m;rw[List.append_nil] at r2;obtain⟨q,hq,hn⟩:=a4f hc (r:=sy [63]::kw [65,70,84,69,82]::B5 x) rfl;refine a1N A (by omega) (hf.trans hq) (q:=prM 6 [] (B0 p.ch) [] [B0 x] C5 [] [] [] B7) ?_ (S6 hk z1 (Y0 _) (D9 z3) (by rw[hx];exact a0l [x]) (S1 h4 (Y4 h1)) (a1S (R3 h3)) (a03 (R3 h2)) z5 z6);rw[a2j hn,<- hq,r1,hl];show E8 (I8 (B5 x)) i _=_;rw[r2];rfl
theorem a8V:∀ (l:List Gu) (d:Int),l.length<=(D2 l d).length
 | [],_=>by simp
 | g::r,d=>by
  show r.length+1<=(V9 g d++D2 r d).length;have:=a8V r d;rw[a4s,List.length_append,List.length_cons];omega
theorem c7n (A:Ask R n p d top i) {lo hi:Int} (hg:∀ g ∈ p.gl,gQ lo hi g=true):∀ g ∈ p.gl,c1j R n (d+1+1) g:=fun g hgm=>by
 have h1:=(a7q (hg g hgm)).1;obtain⟨x,hx⟩:=List.length_eq_one_iff.1 (a9z h1).body;have hxm:x ∈ g.bl:=by rw[hx];exact List.mem_cons_self ..
 obtain⟨q,hq⟩:=A.v.gl g hgm;refine⟨x,hx,A.b x (.g hgm hxm),A.w.sub (.g hgm hxm),q,?_⟩;rw[hx] at hq;rw[show d+1+1=d+2 by omega];exact hq
theorem a8b (A:Ask R n p d top i) (hk:p.k≠18) (hll:p.ll=[]) {row:List Tok->E Gu} (hI:a0w row) {least most:Nat} {lo hi:Int} (hg:∀ g ∈ p.gl,gQ lo hi g=true) (hH:∀ g ∈ p.gl,a4c row g) (h1:least<=p.gl.length) (h2:p.gl.length<=most) :
 ∃ gs,a0M R (A4 R n) row least most (d+1) (i+1)=.ok (gs,i+(B2 p d).length)/\eqL N9 p.gl gs=true:=by
 have hO:=A.o;have hA:=A.a;have hL:=A.l;rw[a2S hk,hll] at hO hA hL ⊢;have e:F3 p.k p.pn.l [] d++D2 p.gl (d+1)=D2 p.gl (d+1):=rfl;rw[e] at hO hA hL ⊢;have hR:=hO.len (by simp);simp only[List.length_cons] at hA hL hR ⊢;have hgl:=a8V p.gl (d+1);obtain⟨gs,h3,h4⟩:=a8Z (least:=least) (most:=most) hI p.gl (R.length - (i+1)) [] (i+1) hH (c7n A hg) hO.tail
  (by rw[show d+1 - 1=d by omega,show i+1+(D2 p.gl (d+1)).length=i+((D2 p.gl (d+1)).length+1) by omega];exact hA) (by omega) (by omega) (by simpa using h2) (by simpa using h1)
 refine⟨gs,?_,h4⟩;unfold a0M;rw[h3,List.nil_append,show i+1+(D2 p.gl (d+1)).length=i+((D2 p.gl (d+1)).length+1) by omega]
theorem d1o (A:Ask R n p d top i) (hk:p.k=7):Ans R n p d top i:=by
 have h:=O4 A.v.plain;rw[d0B hk] at h;simp only[Bool.and_eq_true] at h;obtain⟨⟨⟨⟨⟨h1,hc⟩,h2⟩,h3⟩,h4⟩,h5⟩:=h;obtain⟨z1,_,z3,z4,z5,z6⟩:=V2 h5;obtain⟨g1,g2,g3⟩:=F6 h3;have w:=A.w.own;have hH:∀ g ∈ p.gl,a4c a8f g:=fun g hg=>by
  have:=a7q (g1 g hg);exact c3W this.1 (w.gs g hg) (by have h:=this.2;simp at h;omega)
 obtain⟨gs,h6,h7⟩:=a8b A (by omega) (R3 h2) c1c (least:=1) (most:=16) g1 hH (by omega) (by omega);have hf:A3 p.k p.name p.ch p.tg.l p.ex.l p.rep=B5 p.ch++[sy [63],kw [67,65,83,69]]:=by
  unfold A3;rw[if_neg (by omega),if_neg (by omega),if_neg (by omega),if_neg (by omega),if_neg (by omega),if_neg (by omega),if_pos hk,P6 (s:=[63]) (by decide +kernel),I5 (s:=[67,65,83,69]) (by decide +kernel)]
 have r1:=a7m hc w.ch (V6 a8l [kw [67,65,83,69]]) rfl;obtain⟨q,hq,hn⟩:=a4f hc (r:=[sy [63],kw [67,65,83,69]]) rfl;refine a1N A (by omega) (hf.trans hq) (q:=prM 7 [] (B0 p.ch) [] [] C5 gs [] [] B7) ?_ (S6 hk z1 (Y0 _) (D9 z3) (D9 z4) (S1 h4 (Y4 h1)) h7 (a03 (R3 h2)) z5 z6);rw[a2j hn,<- hq,r1];show M8 (a0M R (A4 R n) a8f 1 16 (d+1) (i+1)) _=_;rw[h6];rfl
theorem d0f (A:Ask R n p d top i) (hk:p.k=17):Ans R n p d top i:=by
 have h:=O4 A.v.plain;rw[d08 hk] at h;simp only[Bool.and_eq_true] at h;obtain⟨⟨⟨⟨⟨⟨h1,hnm⟩,he⟩,h2⟩,h3⟩,h4⟩,h5⟩:=h;obtain⟨_,z2,z3,_,z5,z6⟩:=V2 h5;obtain⟨e1,e2,e3⟩:=F6 he;have w:=A.w.own;have hl:=a1K (by omega) (R3 h2) (R3 h3) d (p:=p);have hf:A3 p.k p.name p.ch p.tg.l p.ex.l p.rep=G4 p.name::sy [40]::(B4 [44] B5 p.ex.l++[sy [41]]):=by
  unfold A3;repeat rw[if_neg (by omega)]
  rw[P6 (s:=[40]) (by decide +kernel),P6 (s:=[41]) (by decide +kernel)];simp
 refine a1N A (by omega) hf (q:=prM 17 p.name A0 [] (p.ex.l.map B0) C5 [] [] [] B7) ?_ (S6 hk rfl z2 (D9 z3) (a0l _) (S1 h4 (Y4 h1)) (a1S (R3 h3)) (a03 (R3 h2)) z5 z6);have hb:brM I8 (sy [40]::(B4 [44] B5 p.ex.l++[sy [41]]))=.ok (p.ex.l.map B0,[]):=by
  unfold brM;rw[a1V (by decide)];cases hq:p.ex.l with
  | nil=>rfl
  | cons x l=>
   have r2:=a4P (l:=x::l) (most:=8) a1Q (by simp) (by rw[<- hq];omega) (fun y hy=>e1 y (by rw[hq];exact hy)) (fun y hy=>w.ex y (by rw[hq];exact hy)) [sy [41]] ⟨V6 b9l _,rfl⟩;have hx:x ∈ p.ex.l:=by rw[hq];exact List.mem_cons_self ..
   have hc:isM 5 [41] (B4 [44] B5 (x::l)++[sy [41]])=false:=by
    rw[X7,List.append_assoc];refine c2t (e1 x hx) (w.ex x hx) ?_;cases l with
    | nil=>exact V6 b9l _
    | cons y s=>exact V6 a1Q _
   rw[hc,if_neg (by decide),r2,I1,a1V (by decide)]
 unfold P5;rw[if_pos ⟨rfl,rfl⟩,hl];show E8 (brM I8 (sy [40]::(B4 [44] B5 p.ex.l++[sy [41]]))) i _=_;rw[hb];rfl
end
end
end Go.Sx

import Derived.Test.YtkemgjnejlkkcaaGreatDoorLAgainY2
import Derived.Lib.AppendZerosOnto
namespace Go.Xp
section
open Go.Eng Go
open Go.Ty (Tok C1)
open Go.Lx (G3)
set_option maxRecDepth 100000
def a7V (ts:List Tok):Prop:=C6 ts≠D0 [91]
def a8W (ts:List Tok):Prop:=opF (C6 ts) 22 1=0
theorem I4 {t:Tok} {r:List Tok} (h:G3 t=true) (ha:t.at_=0):C6 (t::r)=t:=by
 rw[a3k,if_pos h];cases t;cases ha;rfl
theorem M9 {ins:B->B->List Tok->a0y} {ts:List Tok} {t:Tok} (h:C6 ts=t):R1 ins ts=if t.kind=3 then .ok (sx 1 0 0 t.n [] [],ts.tail) else if t.kind=4 then .ok (sx 2 0 0 t.n [] [],ts.tail)
 else if t=D4 [70,65,76,83,69] then .ok (sx 3 0 0 0 [] [],ts.tail) else if t=D4 [84,82,85,69] then .ok (sx 3 0 0 1 [] [],ts.tail)
 else if t.kind=1 then (if C6 ts.tail=D0 [91] then (match ins [91] [93] ts.tail with
  | .ok (x,r)=>.ok (sx 5 0 0 0 t.text [x],r)
  | .error e=>.error e) else .ok (sx 4 0 0 0 t.text [],ts.tail))
 else if t=D0 [40] then ins [40] [41] ts else .error 100:=by subst h;rfl
theorem V5 {ins:B->B->List Tok->a0y} {ts:List Tok} {t:Tok} (h:C6 ts=t):a1e ins ts=if t=D4 [83,73,90,69] then (if (C6 ts.tail).kind=1 then .ok (sx 9 0 0 0 (C6 ts.tail).text [],ts.tail.tail) else .error 100)
 else if a0O t≠0 then unQ (fun x=>sx 8 0 (a0O t) 0 [] [x]) (R1 ins ts.tail)
 else if opF t 4 23≠0 then unQ (fun x=>sx 6 (opF t 4 23) 0 0 [] [x]) (R1 ins ts.tail)
 else match R1 ins ts with
  | .error e=>.error e
  | .ok (a,r)=>if opF (C6 r) 22 1≠0 then unQ (fun b=>sx 7 (opF (C6 r) 22 1) 0 0 [] [a,b]) (R1 ins r.tail) else .ok (a,r):=by subst h;rfl
inductive Dp:Nat->Ex->Prop
 | mk {n:Nat} {e:Ex} (h:∀ x ∈ e.l,Dp n x):Dp (n+1) e
theorem Dp.part {n:Nat} {e x:Ex} (d:Dp (n+1) e) (hx:x ∈ e.l):Dp n x:=by cases d with | mk h=>exact h x hx
theorem Dp.pos {n:Nat} {e:Ex} (d:Dp n e):∃ k,n=k+1:=by cases d;exact⟨_,rfl⟩
theorem Dp.up {e:Ex}:∀ {n:Nat},Dp n e->Dp (n+1) e:=by
 refine Ex.ind (p:=fun e=>∀ {n:Nat},Dp n e->Dp (n+1) e) (fun e ih n d=>?_) e;obtain⟨k,rfl⟩:=d.pos;exact .mk fun x hx=>ih x hx (d.part hx)
theorem c4D (e:Ex):∀ (deep left q:Int),1<=deep->S6 deep left e=some q->Dp (33 - deep).toNat e:=by
 refine Ex.ind (p:=fun e=>∀ (deep left q:Int),1<=deep->S6 deep left e=some q->Dp (33 - deep).toNat e) (fun e ih deep left q h1 hq=>?_) e;rw[a3v] at hq;split at hq
 ·cases hq
 ·rename_i hh
  have hb:=b0m (by simpa using hh);have key:∀ (l:List Ex),(∀ x ∈ l,x ∈ e.l)->∀ z,a0T (deep+1) z l=some q->∀ x ∈ l,Dp (33 - (deep+1)).toNat x:=by
   intro l;induction l with
   | nil=>intro _ z _ x hx;cases hx
   | cons y r ihr=>
    intro hm z h x hx;unfold a0T at h;split at h
    ·rename_i p hp
     rcases List.mem_cons.1 hx with rfl | hx
     ·exact ih x (hm x (by simp)) _ _ _ (by omega) hp
     ·exact ihr (fun y hy=>hm y (by simp[hy])) p h x hx
    ·cases h
  obtain⟨k,hk⟩:∃ k,(33 - deep).toNat=k+1:=⟨(33 - (deep+1)).toNat,by omega⟩;rw[hk];refine .mk fun x hx=>?_
  have:=key e.l (fun _ h=>h) _ hq x hx;rwa [show(33 - (deep+1)).toNat=k by omega] at this
theorem d0G {e:Ex} (h:E9 e=true):Dp 32 e:=by
 obtain⟨q,hq⟩:=Option.isSome_iff_exists.1 h;exact c4D e 1 256 q (by decide) hq
def c3X (t:Tok):Prop:=t.kind=1\/t.kind=3\/t.kind=4\/t=D4 [70,65,76,83,69]\/t=D4 [84,82,85,69]\/t=D0 [40]
theorem c3Q {t:Tok} (h:c3X t):t≠D4 [83,73,90,69]/\a0O t=0/\opF t 4 23=0:=by
 have key:t.kind=1\/t.kind=3\/t.kind=4->t≠D4 [83,73,90,69]/\a0O t=0/\opF t 4 23=0:=by
  intro hk;have hm:∀ s,t≠D4 s:=by
   rintro s rfl;have:=a0M s;omega
  have ho:∀ o,t≠M3 o:=fun o=>hm _
  refine⟨hm _,?_,?_⟩
  ·unfold a0O
   rw[if_neg (hm _),if_neg (hm _),if_neg (hm _)]
  ·simp only[opF,if_neg (ho _)]
 rcases h with h | h | h | rfl | rfl | rfl
 ·exact key (.inl h)
 ·exact key (.inr (.inl h))
 ·exact key (.inr (.inr h))
 ·decide +kernel
 ·decide +kernel
 ·decide +kernel
theorem b5r (n:Int):G3 (b0h n)=true:=rfl
theorem b0L {n:Int} (h:0<=n/\n<=255):G3 (a4P n)=true:=by
 unfold G3 a4P;simp;omega
theorem a4V {s:B} (h:Go.Lx.name s=true):G3 (D3 s)=true:=by
 unfold G3 D3;simp[h]
theorem c4N:∀ o,o < 27->1<=o->G3 (M3 (o:Nat))=true:=by decide +kernel
theorem a6K {o:Int} (h:1<=o/\o<=26):G3 (M3 o)=true:=by
 have:=c4N o.toNat (by omega) (by omega);rwa [show((o.toNat:Nat):Int)=o by omega] at this
theorem c07 (o:Int):(M3 o).at_=0:=a1n _
theorem d1g:∀ o,o < 27->23<=o->(M3 (o:Nat)≠D4 [83,73,90,69])/\a0O (M3 (o:Nat))=0/\opF (M3 (o:Nat)) 4 23=o:=by decide +kernel
theorem d09:∀ o,o < 23->1<=o->opF (M3 (o:Nat)) 22 1=o/\M3 (o:Nat)≠D0 [91]:=by decide +kernel
theorem b9X:∀ k,k < 4->1<=k->G3 (D4 (N3 (k:Nat)))=true/\D4 (N3 (k:Nat))≠D4 [83,73,90,69]/\a0O (D4 (N3 (k:Nat)))=k:=by decide +kernel
theorem b5Z {s:B} {r:List Tok} (h:G3 (D0 s)=true) (hs:s≠[91]):a7V (D0 s::r):=by
 unfold a7V;rw[I4 h rfl];intro q;exact hs (congrArg Tok.text q)
theorem c8D (r:List Tok):a8W (D0 [93]::r):=by
 unfold a8W;rw[I4 (by decide +kernel) rfl];decide +kernel
theorem c8Z (r:List Tok):a8W (D0 [41]::r):=by
 unfold a8W;rw[I4 (by decide +kernel) rfl];decide +kernel
theorem c5r {f:Nat} {o s:B} {ts r:List Tok} {x:Ex} (ho:G3 (D0 o)=true) (hs:G3 (D0 s)=true) (h:a1e (X3 f) ts=.ok (x,D0 s::r)):X3 (f+1) o s (D0 o::ts)=.ok (x,r):=by
 unfold X3;rw[I4 ho rfl,if_pos rfl];show(match a1e (X3 f) ts with | .error e=>.error e | .ok (x,r)=>if C6 r=D0 s then .ok (x,r.tail) else .error 100:a0y)=_;rw[h];show(if C6 (D0 s::r)=D0 s then .ok (x,(D0 s::r).tail) else .error 100:a0y)=_;rw[I4 hs rfl,if_pos rfl];rfl
section
variable {e:Ex} (hF:Fine e)
include hF
theorem a8Z (hn:-2147483648<=e.n/\e.n<=2147483647) (h:e.k=2):0<=e.n/\e.n<=255:=by
 have h1:=hF.ok;unfold F2 at h1;simp only[h] at h1;by_cases hb:a8U .i32 e.n 8=0
 ·exact(d3z hn).1 hb
 ·simp[hb] at h1
theorem a3s (h:e.k=4\/e.k=5\/e.k=9):Go.Lx.name e.s=true:=by
 have h1:=hF.ok;unfold F2 at h1;cases hb:Go.Lx.name e.s with
 | true=>rfl
 | false=>rcases h with h | h | h <;> simp[h,hb] at h1
theorem b6Y (ho:0<=e.o/\e.o<=255) (h:e.k=6):23<=e.o/\e.o<=26:=by
 have h1:=hF.ok;unfold F2 at h1;simp only[h] at h1;by_cases h2:e.o < 23
 ·simp[h2] at h1
 ·have h3:=c2R (o:=e.o) (by omega)
  rw[h3] at h1;by_cases h4:e.o - 23 >= 4
  ·simp[h2,h4] at h1
  ·omega
theorem b5M (h:e.k=7):1<=e.o/\e.o<=22:=by
 have h1:=hF.ok;unfold F2 at h1;simp only[h] at h1;by_cases h2:e.o < 1
 ·simp[h2] at h1
 ·by_cases h4:e.o > 22
  ·simp[h2,h4] at h1
  ·omega
theorem b3v (h:e.k=8):1<=e.t/\e.t<=3:=by
 have h1:=hF.ok;unfold F2 at h1;simp only[h] at h1;by_cases h2:e.t=1
 ·omega
 by_cases h3:e.t=2
 ·omega
 by_cases h4:e.t=3
 ·omega
 simp[N3,h2,h3,h4] at h1
theorem c0D (h:e.k=1\/e.k=2\/e.k=3\/e.k=4\/e.k=9):e.l=[]:=by
 have h1:=hF.ok;have h2:=hF.num;have:(F2 e).1=0:=by
  unfold F2 at h1 ⊢;rcases h with h | h | h | h | h <;> simp only[h] at h1 ⊢ <;> (revert h1;simp) <;> split <;> simp
 rw[this] at h2;match hl:e.l with
 | []=>rfl
 | _::_=>rw[hl] at h2;simp at h2;omega
end
theorem b8u {e:Ex} (hF:Fine e):B2 e=(if e.k=1 then sx 1 0 0 e.n [] [] else if e.k=2 then sx 2 0 0 e.n [] [] else if e.k=3 then sx 3 0 0 e.n [] [] else if e.k=4 then sx 4 0 0 0 e.s []
 else if e.k=9 then sx 9 0 0 0 e.s [] else if e.k=5 then sx 5 0 0 0 e.s (e.l.map B2) else if e.k=6 then sx 6 e.o 0 0 [] (e.l.map B2) else if e.k=7 then sx 7 e.o 0 0 [] (e.l.map B2) else sx 8 0 e.t 0 [] (e.l.map B2)):=by
 have h1:=hF.ok;have hl:=c0D hF;rw[a1b];unfold F2 at h1;rcases a2q hF with h | h | h | h | h | h | h | h | h
 ·simp only[h] at h1 ⊢
  rw[hl (by omega)];simp[fin] at h1;simp[sx,h1]
 ·simp only[h] at h1 ⊢
  rw[hl (by omega)];revert h1
  simp only[show ¬ ((2:Int)=1) by decide,if_false,if_true];split
  ·intro h1;cases h1
  ·intro h1
   simp[fin] at h1;simp[sx,h1]
 ·simp only[h] at h1 ⊢
  rw[hl (by omega)];revert h1
  simp only[show ¬ ((3:Int)=1) by decide,show ¬ ((3:Int)=2) by decide,if_false,if_true];split
  ·intro h1;cases h1
  ·intro h1
   simp[fin] at h1;simp[sx,h1]
 ·simp only[h] at h1 ⊢
  rw[hl (by omega)];revert h1
  cases Go.Lx.name e.s
  ·simp
  ·intro h1
   simp[fin] at h1;simp[sx,h1]
 ·simp only[h] at h1 ⊢
  rw[hl (by omega)];revert h1
  cases Go.Lx.name e.s
  ·simp
  ·intro h1
   simp[fin] at h1;simp[sx,h1]
 ·simp only[h] at h1 ⊢
  revert h1
  cases Go.Lx.name e.s
  ·simp
  ·intro h1
   simp[fin] at h1;simp[sx,h1]
 ·simp only[h] at h1 ⊢
  revert h1
  simp only[show ¬ ((6:Int)=1) by decide,show ¬ ((6:Int)=2) by decide,show ¬ ((6:Int)=3) by decide,show ¬ ((6:Int)=4) by decide,show ¬ ((6:Int)=9) by decide,show ¬ ((6:Int)=5) by decide,if_false,if_true];split
  ·intro h1;cases h1
  ·intro h1
   simp[fin] at h1;simp[sx,h1]
 ·simp only[h] at h1 ⊢
  revert h1
  simp only[show ¬ ((7:Int)=1) by decide,show ¬ ((7:Int)=2) by decide,show ¬ ((7:Int)=3) by decide,show ¬ ((7:Int)=4) by decide,show ¬ ((7:Int)=9) by decide,show ¬ ((7:Int)=5) by decide,show ¬ ((7:Int)=6) by decide,if_false,if_true];split
  ·intro h1;cases h1
  ·intro h1
   simp[fin] at h1;simp[sx,h1]
 ·simp only[h] at h1 ⊢
  revert h1
  simp only[show ¬ ((8:Int)=1) by decide,show ¬ ((8:Int)=2) by decide,show ¬ ((8:Int)=3) by decide,show ¬ ((8:Int)=4) by decide,show ¬ ((8:Int)=9) by decide,show ¬ ((8:Int)=5) by decide,show ¬ ((8:Int)=6) by decide,show ¬ ((8:Int)=7) by decide,if_false,if_true];split
  ·intro h1;cases h1
  ·intro h1
   simp[fin] at h1;simp[sx,h1]
theorem b2m {e:Ex} (hF:Fine e) (hn:-2147483648<=e.n/\e.n<=2147483647) (rest:List Tok):c3X (C6 (D6 e++rest)):=by
 rcases a2q hF with h | h | h | h | h | h | h | h | h
 ·rw[show D6 e++rest=b0h e.n::rest by unfold D6 O3 par;rw[D5];simp[wr,h],I4 (b5r _) rfl]
  exact .inr (.inl rfl)
 ·rw[show D6 e++rest=a4P e.n::rest by unfold D6 O3 par;rw[D5];simp[wr,h],I4 (b0L (a8Z hF hn h)) rfl]
  exact .inr (.inr (.inl rfl))
 ·rcases a9B hn hF h with h0 | h0
  ·rw[show D6 e++rest=D4 [70,65,76,83,69]::rest by unfold D6 O3 par;rw[D5];simp[wr,h,h0],I4 (by decide +kernel) (a1n _)]
   exact .inr (.inr (.inr (.inl rfl)))
  ·rw[show D6 e++rest=D4 [84,82,85,69]::rest by unfold D6 O3 par;rw[D5];simp[wr,h,h0],I4 (by decide +kernel) (a1n _)]
   exact .inr (.inr (.inr (.inr (.inl rfl))))
 ·rw[show D6 e++rest=D3 e.s::rest by unfold D6 O3 par;rw[D5];simp[wr,h],I4 (a4V (a3s hF (.inl h))) rfl]
  exact .inl rfl
 ·rw[show D6 e++rest=D0 [40]::((B0 e++[D0 [41]])++rest) by unfold D6 O3 par;simp[h],I4 (by decide +kernel) rfl]
  exact .inr (.inr (.inr (.inr (.inr rfl))))
 ·obtain⟨x,hx⟩:=X4 hF (.inl h)
  rw[show D6 e++rest=D3 e.s::(D0 [91]::(B0 x++[D0 [93]])++rest) by unfold D6 O3 par;rw[D5];simp[wr,h,hx,R8],I4 (a4V (a3s hF (.inr (.inl h)))) rfl];exact .inl rfl
 ·rw[show D6 e++rest=D0 [40]::((B0 e++[D0 [41]])++rest) by unfold D6 O3 par;simp[h],I4 (by decide +kernel) rfl]
  exact .inr (.inr (.inr (.inr (.inr rfl))))
 ·rw[show D6 e++rest=D0 [40]::((B0 e++[D0 [41]])++rest) by unfold D6 O3 par;simp[h],I4 (by decide +kernel) rfl]
  exact .inr (.inr (.inr (.inr (.inr rfl))))
 ·rw[show D6 e++rest=D0 [40]::((B0 e++[D0 [41]])++rest) by unfold D6 O3 par;simp[h],I4 (by decide +kernel) rfl]
  exact .inr (.inr (.inr (.inr (.inr rfl))))
abbrev RdE (e:Ex):Prop:=∀ f,Dp (f+1) e->∀ rest,a7V rest->a8W rest->a1e (X3 f) (B0 e++rest)=.ok (B2 e,rest)
abbrev RdO (e:Ex):Prop:=∀ f,Dp (f+1) e->(par e.k=true->Dp f e)->∀ rest,a7V rest->R1 (X3 f) (D6 e++rest)=.ok (B2 e,rest)
theorem b2z {f:Nat} {ts r:List Tok} {x:Ex} (hs:c3X (C6 ts)) (ho:R1 (X3 f) ts=.ok (x,r)):a1e (X3 f) ts=if opF (C6 r) 22 1≠0 then unQ (fun b=>sx 7 (opF (C6 r) 22 1) 0 0 [] [x,b]) (R1 (X3 f) r.tail) else .ok (x,r):=by
 obtain⟨h1,h2,h3⟩:=c3Q hs;unfold a1e;simp only[if_neg h1,h2,h3,ho,ne_eq,not_true,if_false]
theorem d0u {f:Nat} {ts r:List Tok} {x:Ex} (h:X3 f [40] [41] (D0 [40]::ts)=.ok (x,r)):R1 (X3 f) (D0 [40]::ts)=.ok (x,r):=by
 rw[M9 (I4 (by decide +kernel) rfl),if_neg (by decide),if_neg (by decide),if_neg (by decide +kernel),if_neg (by decide +kernel),if_neg (by decide),if_pos rfl];exact h
theorem c3Z {e:Ex} (h:par e.k=true) (hE:RdE e):RdO e:=by
 intro f hd hp rest hb;obtain⟨k,rfl⟩:=(hp h).pos;have he:=hE k (hp h) (D0 [41]::rest) (b5Z (by decide +kernel) (by decide)) (c8Z rest);rw[show D6 e++rest=D0 [40]::(B0 e++D0 [41]::rest) by unfold D6 O3;rw[h];simp];exact d0u (c5r (by decide +kernel) (by decide +kernel) he)
theorem c3p {e:Ex} (hp:par e.k=false) (hF:Fine e) (hn:-2147483648<=e.n/\e.n<=2147483647) (hO:RdO e):RdE e:=by
 intro f hd rest hb ho;have h1:=hO f hd (fun q=>by rw[hp] at q;cases q) rest hb;have hs:=b2m hF hn rest;rw[show B0 e=D6 e by unfold D6 O3;rw[hp];rfl,b2z hs h1,if_neg (fun q=>q ho)]
theorem c2S (e:Ex):Fine e->Wf e->RdE e/\RdO e:=by
 refine Ex.ind (p:=fun e=>Fine e->Wf e->RdE e/\RdO e) (fun e ih hF hW=>?_) e;obtain⟨⟨hk,hor,ht⟩,hn,hs⟩:=hW.spec;have fs:=b8u hF;have lit (hp:par e.k=false) (hO:RdO e):RdE e/\RdO e:=⟨c3p hp hF hn hO,hO⟩;have brk (hp:par e.k=true) (hE:RdE e):RdE e/\RdO e:=⟨hE,c3Z hp hE⟩;rcases a2q hF with h | h | h | h | h | h | h | h | h
 ·refine lit (by simp[par,h]) fun f _ _ rest hb=>?_
  rw[show D6 e++rest=b0h e.n::rest by unfold D6 O3 par;rw[D5];simp[wr,h]];rw[M9 (I4 (b5r _) rfl),if_pos (show(b0h e.n).kind=3 from rfl),fs];simp[h];rfl
 ·refine lit (by simp[par,h]) fun f _ _ rest hb=>?_
  rw[show D6 e++rest=a4P e.n::rest by unfold D6 O3 par;rw[D5];simp[wr,h]];rw[M9 (I4 (b0L (a8Z hF hn h)) rfl),if_neg (by show ¬ (4:Int)=3;decide),if_pos (show(a4P e.n).kind=4 from rfl),fs];simp[h];rfl
 ·refine lit (by simp[par,h]) fun f _ _ rest hb=>?_
  rcases a9B hn hF h with h0 | h0
  ·rw[show D6 e++rest=D4 [70,65,76,83,69]::rest by unfold D6 O3 par;rw[D5];simp[wr,h,h0]]
   rw[M9 (I4 (by decide +kernel) (a1n _)),if_neg (by decide +kernel),if_neg (by decide +kernel),if_pos rfl,fs];simp[h,h0]
  ·rw[show D6 e++rest=D4 [84,82,85,69]::rest by unfold D6 O3 par;rw[D5];simp[wr,h,h0]]
   rw[M9 (I4 (by decide +kernel) (a1n _)),if_neg (by decide +kernel),if_neg (by decide +kernel),if_neg (by decide +kernel),if_pos rfl,fs];simp[h,h0]
 ·refine lit (by simp[par,h]) fun f _ _ rest hb=>?_
  have hnm:∀ s,D3 e.s≠D4 s:=fun s q=>by
   have:=a0M s;rw[<- q] at this;rcases this with h | h <;> cases h
  rw[show D6 e++rest=D3 e.s::rest by unfold D6 O3 par;rw[D5];simp[wr,h]];rw[M9 (I4 (a4V (a3s hF (.inl h))) rfl),if_neg (by show ¬ (1:Int)=3;decide),if_neg (by show ¬ (1:Int)=4;decide),if_neg (hnm _),if_neg (hnm _),if_pos (show(D3 e.s).kind=1 from rfl),List.tail_cons,if_neg hb,fs];simp[h];rfl
 ·refine brk (by simp[par,h]) fun f _ rest hb ho=>?_
  rw[show B0 e++rest=D4 [83,73,90,69]::D3 e.s::rest by rw[D5];simp[wr,h]];rw[V5 (I4 (by decide +kernel) (a1n _)),if_pos rfl,List.tail_cons,I4 (a4V (a3s hF (.inr (.inr h)))) rfl,if_pos (show(D3 e.s).kind=1 from rfl),fs];simp[h];rfl
 ·obtain⟨x,hx⟩:=X4 hF (.inl h)
  have hxm:x ∈ e.l:=by rw[hx];exact List.Mem.head _
  obtain⟨iE,_⟩:=ih x hxm (hF.part hxm) (hW.part hxm);have hnm:∀ s,D3 e.s≠D4 s:=fun s q=>by
   have:=a0M s;rw[<- q] at this;rcases this with h | h <;> cases h
  refine lit (by simp[par,h]) fun f hd _ rest hb=>?_
  obtain⟨k,rfl⟩:=(hd.part hxm).pos;have he:=iE k (hd.part hxm) (D0 [93]::rest) (b5Z (by decide +kernel) (by decide)) (c8D rest);have hi:X3 (k+1) [91] [93] (D0 [91]::(B0 x++D0 [93]::rest))=.ok (B2 x,rest):=c5r (by decide +kernel) (by decide +kernel) he;rw[show D6 e++rest=D3 e.s::D0 [91]::(B0 x++D0 [93]::rest) by unfold D6 O3 par;rw[D5];simp[wr,h,hx,R8]];rw[M9 (I4 (a4V (a3s hF (.inr (.inl h)))) rfl),if_neg (by show ¬ (1:Int)=3;decide),if_neg (by show ¬ (1:Int)=4;decide),if_neg (hnm _),if_neg (hnm _),if_pos (show(D3 e.s).kind=1 from rfl),List.tail_cons,I4 (by decide +kernel) rfl,if_pos rfl,hi,fs];simp[h,hx];rfl
 ·obtain⟨x,hx⟩:=X4 hF (.inr (.inl h))
  have hxm:x ∈ e.l:=by rw[hx];exact List.Mem.head _
  obtain⟨_,iO⟩:=ih x hxm (hF.part hxm) (hW.part hxm);have hm:=b6Y hF hor h;obtain⟨o,ho⟩:∃ o:Nat,e.o=o:=⟨e.o.toNat,by omega⟩;obtain⟨q1,q2,q3⟩:=d1g o (by omega) (by omega);refine brk (by simp[par,h]) fun f hd rest hb _=>?_
  have he:=iO f (hd.part hxm).up (fun _=>hd.part hxm) rest hb;rw[show B0 e++rest=M3 e.o::(D6 x++rest) by rw[D5];simp[wr,h,hx,R8,D6]];rw[V5 (I4 (a6K (by omega)) (c07 _)),ho];simp only[if_neg q1,q2,q3,List.tail_cons,he,ne_eq,not_true,if_false];rw[if_pos (by omega),fs];simp[h,hx,ho,unQ]
 ·obtain⟨x,y,hx⟩:=a6M hF h
  have hxm:x ∈ e.l:=by rw[hx];exact List.Mem.head _
  have hym:y ∈ e.l:=by rw[hx];exact List.Mem.tail _ (List.Mem.head _)
  obtain⟨_,iO⟩:=ih x hxm (hF.part hxm) (hW.part hxm);obtain⟨_,jO⟩:=ih y hym (hF.part hym) (hW.part hym);have hm:=b5M hF h;obtain⟨o,ho⟩:∃ o:Nat,e.o=o:=⟨e.o.toNat,by omega⟩;obtain⟨q1,q2⟩:=d09 o (by omega) (by omega);refine brk (by simp[par,h]) fun f hd rest hb _=>?_
  have hnx:∀ r,C6 (M3 e.o::r)=M3 e.o:=fun r=>I4 (a6K (by omega)) (c07 _)
  have he:=iO f (hd.part hxm).up (fun _=>hd.part hxm) (M3 e.o::(D6 y++rest)) (by unfold a7V;rw[hnx,ho];exact q2);have hf:=jO f (hd.part hym).up (fun _=>hd.part hym) rest hb;have hst:=b2m (hF.part hxm) (hW.part hxm).spec.2.1 (M3 e.o::(D6 y++rest));rw[show B0 e++rest=D6 x++(M3 e.o::(D6 y++rest)) by rw[D5];simp[wr,h,hx,R8,D6],b2z hst he,hnx,ho,q1,if_pos (by omega),List.tail_cons,hf,fs];simp[h,hx,ho,unQ]
 ·obtain⟨x,hx⟩:=X4 hF (.inr (.inr h))
  have hxm:x ∈ e.l:=by rw[hx];exact List.Mem.head _
  obtain⟨_,iO⟩:=ih x hxm (hF.part hxm) (hW.part hxm);have hm:=b3v hF h;obtain⟨o,ho⟩:∃ o:Nat,e.t=o:=⟨e.t.toNat,by omega⟩;obtain⟨q0,q1,q2⟩:=b9X o (by omega) (by omega);refine brk (by simp[par,h]) fun f hd rest hb _=>?_
  have he:=iO f (hd.part hxm).up (fun _=>hd.part hxm) rest hb;rw[show B0 e++rest=D4 (N3 e.t)::(D6 x++rest) by rw[D5];simp[wr,h,hx,R8,D6]];rw[ho,V5 (I4 q0 (a1n _))];simp only[if_neg q1,q2,List.tail_cons,he,ne_eq];rw[if_pos (by omega),fs];simp[h,hx,ho,unQ]
abbrev a4r (u:Tok):Prop:=G3 u=true/\(-2147483648<=u.n/\u.n<=2147483647)
theorem z0:(-2147483648:Int)<=0/\(0:Int)<=2147483647:=by decide
theorem a3u {s:B} (h:G3 (D4 s)=true):a4r (D4 s):=⟨h,by unfold D4;split <;> exact z0⟩
theorem a8r {s:B} (h:G3 (D0 s)=true):a4r (D0 s):=⟨h,z0⟩
theorem a7u {p:Bool × List Tok} (h:∀ u ∈ p.2,a4r u):∀ u ∈ O3 p,a4r u:=by
 unfold O3;split
 ·intro u hu
  rcases List.mem_cons.1 hu with rfl | hu
  ·exact a8r (by decide +kernel)
  ·rcases List.mem_append.1 hu with hu | hu
   ·exact h u hu
   ·rw[List.mem_singleton] at hu
    subst hu;exact a8r (by decide +kernel)
 ·exact h
theorem S9 {t:Tok} {l:List Tok} (h:a4r t) (hl:∀ u ∈ l,a4r u):∀ u ∈ t::l,a4r u:=fun u hu=>by
 rcases List.mem_cons.1 hu with rfl | hu
 ·exact h
 ·exact hl u hu
theorem b65 {k l:List Tok} (h:∀ u ∈ k,a4r u) (hl:∀ u ∈ l,a4r u):∀ u ∈ k++l,a4r u:=fun u hu=>by
 rcases List.mem_append.1 hu with hu | hu
 ·exact h u hu
 ·exact hl u hu
theorem a3I:∀ u ∈ ([]:List Tok),a4r u:=fun _ hu=>(List.not_mem_nil hu).elim
theorem a5d (e:Ex):Fine e->Wf e->∀ u ∈ B0 e,a4r u:=by
 refine Ex.ind (p:=fun e=>Fine e->Wf e->∀ u ∈ B0 e,a4r u) (fun e ih hF hW=>?_) e;obtain⟨⟨hk,hor,ht⟩,hn,hs⟩:=hW.spec;have nm (h:e.k=4\/e.k=5\/e.k=9):a4r (D3 e.s):=⟨a4V (a3s hF h),z0⟩;rcases a2q hF with h | h | h | h | h | h | h | h | h
 ·rw[show B0 e=[b0h e.n] by rw[D5];simp[wr,h]]
  exact S9 ⟨b5r _,hn⟩ a3I
 ·rw[show B0 e=[a4P e.n] by rw[D5];simp[wr,h]]
  exact S9 ⟨b0L (a8Z hF hn h),hn⟩ a3I
 ·rcases a9B hn hF h with h0 | h0
  ·rw[show B0 e=[D4 [70,65,76,83,69]] by rw[D5];simp[wr,h,h0]]
   exact S9 (a3u (by decide +kernel)) a3I
  ·rw[show B0 e=[D4 [84,82,85,69]] by rw[D5];simp[wr,h,h0]]
   exact S9 (a3u (by decide +kernel)) a3I
 ·rw[show B0 e=[D3 e.s] by rw[D5];simp[wr,h]]
  exact S9 (nm (.inl h)) a3I
 ·rw[show B0 e=[D4 [83,73,90,69],D3 e.s] by rw[D5];simp[wr,h]]
  exact S9 (a3u (by decide +kernel)) (S9 (nm (.inr (.inr h))) a3I)
 ·obtain⟨x,hx⟩:=X4 hF (.inl h)
  have hxm:x ∈ e.l:=by rw[hx];exact List.Mem.head _
  rw[show B0 e=D3 e.s::D0 [91]::(B0 x++[D0 [93]]) by rw[D5];simp[wr,h,hx,R8]];exact S9 (nm (.inr (.inl h))) (S9 (a8r (by decide +kernel)) (b65 (ih x hxm (hF.part hxm) (hW.part hxm)) (S9 (a8r (by decide +kernel)) a3I)))
 ·obtain⟨x,hx⟩:=X4 hF (.inr (.inl h))
  have hxm:x ∈ e.l:=by rw[hx];exact List.Mem.head _
  have hm:=b6Y hF hor h;rw[show B0 e=M3 e.o::O3 (par x.k,B0 x) by rw[D5];simp[wr,h,hx,R8]];exact S9 (a3u (a6K (by omega))) (a7u (ih x hxm (hF.part hxm) (hW.part hxm)))
 ·obtain⟨x,y,hx⟩:=a6M hF h
  have hxm:x ∈ e.l:=by rw[hx];exact List.Mem.head _
  have hym:y ∈ e.l:=by rw[hx];exact List.Mem.tail _ (List.Mem.head _)
  have hm:=b5M hF h;rw[show B0 e=O3 (par x.k,B0 x)++M3 e.o::O3 (par y.k,B0 y) by rw[D5];simp[wr,h,hx,R8]];exact b65 (a7u (ih x hxm (hF.part hxm) (hW.part hxm))) (S9 (a3u (a6K (by omega))) (a7u (ih y hym (hF.part hym) (hW.part hym))))
 ·obtain⟨x,hx⟩:=X4 hF (.inr (.inr h))
  have hxm:x ∈ e.l:=by rw[hx];exact List.Mem.head _
  have hm:=b3v hF h;obtain⟨o,ho⟩:∃ o:Nat,e.t=o:=⟨e.t.toNat,by omega⟩;rw[show B0 e=D4 (N3 e.t)::O3 (par x.k,B0 x) by rw[D5];simp[wr,h,hx,R8],ho];exact S9 (a3u (b9X o (by omega) (by omega)).1) (a7u (ih x hxm (hF.part hxm) (hW.part hxm)))
theorem b2Z (e:Ex) (hF:Fine e):(B0 e).length≠0:=by
 rcases a2q hF with h | h | h | h | h | h | h | h | h
 ·simp[D5,wr,h]
 ·simp[D5,wr,h]
 ·simp only[D5,wr,h]
  simp;split <;> simp
 ·simp[D5,wr,h]
 ·simp[D5,wr,h]
 ·simp[D5,wr,h]
 ·simp[D5,wr,h]
 ·simp[D5,wr,h]
 ·simp[D5,wr,h]
theorem a2D {e:Ex} (hm:E9 e=true) (hW:Wf e) {rest:List Tok} (hb:a7V rest) (ho:a8W rest):K7 (B0 e++rest)=.ok (B2 e,(B0 e).length):=by
 have h:=(c2S e (a2C hm).1 hW).1 32 (d0G hm).up rest hb ho;unfold K7 a5M;rw[h];show(if E9 (B2 e) then Except.ok (B2 e,(B0 e++rest).length - rest.length) else .error 3)=_;rw[P8,hm,if_pos rfl,List.length_append,Nat.add_sub_cancel]
end
section
open Go.Eng Go
open Go.Ty (Tok C1)
open Go.Lx (G3)
set_option maxRecDepth 100000
def d0T (rd:List Tok->a0y) (ok:List Tok->Prop) (sz:Ex->Nat):Prop:=
 ∀ ts x r,rd ts=.ok (x,r)->∃ p,(ts=p++r/\1<=p.length)/\sz x<=p.length/\∀ r',ok r'->rd (p++r')=.ok (x,r')
abbrev wl (x:Ex):Nat:=(B0 x).length
abbrev ol (x:Ex):Nat:=(D6 x).length
abbrev d0a (ins:B->B->List Tok->a0y):Prop:=∀ o s,s=[93]\/s=[41]->d0T (ins o s) (fun _=>True) (fun x=>wl x+2)
theorem d2e (x:Ex):ol x<=wl x+2:=a5c (par x.k,B0 x)
theorem c6a {x:Ex} (h:par x.k=false):ol x=wl x:=by
 unfold ol wl D6 O3;rw[h];rfl
theorem d1M (x:Ex):wl x<=ol x:=by
 unfold wl ol D6 O3;split
 ·simp only[List.length_cons,List.length_append]
  omega
 ·exact Nat.le_refl _
theorem b6f:C6 []=zeroT:=rfl
theorem a2k (s:B):zeroT≠D4 s:=fun e=>by
 have hk:(0:Int)=(D4 s).kind:=congrArg Tok.kind e;rcases a0M s with h | h
 ·have:=hk.trans h;omega
 ·have:=hk.trans h;omega
theorem b6V {ins:B->B->List Tok->a0y}:R1 ins []=.error 100:=by
 rw[M9 b6f,if_neg (by decide),if_neg (by decide),if_neg (a2k _),if_neg (a2k _),if_neg (by decide),if_neg (by decide)]
theorem c1A {ins:B->B->List Tok->a0y} (hi:d0a ins):d0T (R1 ins) a7V ol:=by
 intro ts x r h;cases ts with
 | nil=>rw[b6V] at h;cases h
 | cons t q=>
  obtain⟨u,hu⟩:∃ u,∀ q',C6 (t::q')=u:=⟨_,fun _=>rfl⟩;rw[M9 (hu q),List.tail_cons] at h;have one:∀ {x:Ex},wl x=1->par x.k=false->ol x<=[t].length:=fun h1 h2=>by rw[c6a h2,h1];exact Nat.le_refl 1
  by_cases k3:u.kind=3
  ·rw[if_pos k3] at h
   cases h;exact⟨[t],⟨rfl,Nat.le_refl 1⟩,one rfl rfl,fun r' _=>by rw[List.singleton_append,M9 (hu r'),if_pos k3];rfl⟩
  rw[if_neg k3] at h;by_cases k4:u.kind=4
  ·rw[if_pos k4] at h
   cases h;exact⟨[t],⟨rfl,Nat.le_refl 1⟩,one rfl rfl,fun r' _=>by rw[List.singleton_append,M9 (hu r'),if_neg k3,if_pos k4];rfl⟩
  rw[if_neg k4] at h;by_cases f:u=D4 [70,65,76,83,69]
  ·rw[if_pos f] at h
   cases h;exact⟨[t],⟨rfl,Nat.le_refl 1⟩,one rfl rfl,fun r' _=>by rw[List.singleton_append,M9 (hu r'),if_neg k3,if_neg k4,if_pos f];rfl⟩
  rw[if_neg f] at h;by_cases g:u=D4 [84,82,85,69]
  ·rw[if_pos g] at h
   cases h;exact⟨[t],⟨rfl,Nat.le_refl 1⟩,one rfl rfl,fun r' _=>by rw[List.singleton_append,M9 (hu r'),if_neg k3,if_neg k4,if_neg f,if_pos g];rfl⟩
  rw[if_neg g] at h;by_cases k1:u.kind=1
  ·rw[if_pos k1] at h
   by_cases b:C6 q=D0 [91]
   ·rw[if_pos b] at h
    cases hq:ins [91] [93] q with
    | error e=>rw[hq] at h;cases h
    | ok w=>
     obtain⟨y,r1⟩:=w;rw[hq] at h;cases h;obtain⟨p,⟨hp,hp1⟩,hs,hf⟩:=hi [91] [93] (.inl rfl) q y _ hq;refine⟨t::p,⟨by rw[hp];rfl,Nat.succ_le_succ (Nat.zero_le _)⟩,?_,fun r' _=>?_⟩
     ·rw[c6a rfl]
      show(D3 u.text::D0 [91]::(B0 y++[D0 [93]])).length<=(t::p).length;simp only[List.length_cons,List.length_append,List.length_nil];simp only[wl] at hs;omega
     ·have hb:C6 (p++r')=D0 [91]:=by
       rw[hp] at b;cases p with
       | nil=>exact absurd hp1 (by decide)
       | cons v w=>exact b
      rw[List.cons_append,M9 (hu _),if_neg k3,if_neg k4,if_neg f,if_neg g,if_pos k1,List.tail_cons,if_pos hb,hf r' trivial]
   ·rw[if_neg b] at h
    cases h;exact⟨[t],⟨rfl,Nat.le_refl 1⟩,one rfl rfl,fun r' hr=>by rw[List.singleton_append,M9 (hu r'),if_neg k3,if_neg k4,if_neg f,if_neg g,if_pos k1,List.tail_cons,if_neg hr]⟩
  rw[if_neg k1] at h;by_cases o:u=D0 [40]
  ·rw[if_pos o] at h
   obtain⟨p,⟨hp,hp1⟩,hs,hf⟩:=hi [40] [41] (.inr rfl) _ x r h;refine⟨p,⟨hp,hp1⟩,Nat.le_trans (d2e x) hs,fun r' _=>?_⟩;cases p with
   | nil=>exact absurd hp1 (by decide)
   | cons v w=>
    have hv:v=t:=(List.cons.inj hp).1.symm;subst hv;rw[List.cons_append,M9 (hu _),if_neg k3,if_neg k4,if_neg f,if_neg g,if_neg k1,if_pos o];exact hf r' trivial
  ·rw[if_neg o] at h
   cases h
theorem b8X {mk:Ex->Ex} {p:a0y} {x:Ex} {r:List Tok} (h:unQ mk p=.ok (x,r)):∃ y,p=.ok (y,r)/\x=mk y:=by
 cases p with
 | error e=>cases h
 | ok q=>
  obtain⟨y,z⟩:=q;cases h;exact⟨y,rfl,rfl⟩
theorem a9E:∀ n o:Nat,opF zeroT n o=0
 | 0,_=>rfl
 | n+1,o=>by
  unfold opF;rw[if_neg (show zeroT≠M3 o from a2k _)];exact a9E n (o+1)
theorem c2O {ins:B->B->List Tok->a0y}:a1e ins []=.error 100:=by
 rw[V5 b6f,if_neg (a2k _),if_neg (by unfold a0O;rw[if_neg (a2k _),if_neg (a2k _),if_neg (a2k _)];decide),if_neg (by rw[a9E];decide),b6V]
theorem c5W {p:List Tok} (hp:1<=p.length) (r r':List Tok):C6 (p++r)=C6 (p++r'):=by
 cases p with
 | nil=>exact absurd hp (by decide)
 | cons t q=>rfl
theorem b3k {ins:B->B->List Tok->a0y} (hi:d0a ins):d0T (a1e ins) (fun r=>a7V r/\a8W r) wl:=by
 have hO:=c1A hi;intro ts x r h;cases ts with
 | nil=>rw[c2O] at h;cases h
 | cons t q=>
  obtain⟨u,hu⟩:∃ u,∀ q',C6 (t::q')=u:=⟨_,fun _=>rfl⟩;rw[V5 (hu q),List.tail_cons] at h;by_cases k1:u=D4 [83,73,90,69]
  ·rw[if_pos k1] at h
   by_cases k2:(C6 q).kind=1
   ·rw[if_pos k2] at h
    cases q with
    | nil=>cases k2
    | cons v w=>
     cases h;refine⟨[t,v],⟨rfl,Nat.succ_le_succ (Nat.zero_le _)⟩,Nat.le_refl 2,fun r' _=>?_⟩;rw[show[t,v]++r'=t::v::r' from rfl,V5 (hu _),List.tail_cons,if_pos k1,if_pos (show(C6 (v::r')).kind=1 from k2)];rfl
   ·rw[if_neg k2] at h
    cases h
  rw[if_neg k1] at h;by_cases k2:a0O u≠0
  ·rw[if_pos k2] at h
   obtain⟨y,hy,rfl⟩:=b8X h;obtain⟨p,⟨hp,hp1⟩,hs,hf⟩:=hO q y r hy;refine⟨t::p,⟨by rw[hp];rfl,Nat.succ_le_succ (Nat.zero_le _)⟩,?_,fun r' hr=>?_⟩
   ·show(D4 (N3 (a0O u))::D6 y).length<=(t::p).length
    exact Nat.succ_le_succ hs
   ·rw[List.cons_append,V5 (hu _),List.tail_cons,if_neg k1,if_pos k2,hf r' hr.1]
    rfl
  rw[if_neg k2] at h;by_cases k3:opF u 4 23≠0
  ·rw[if_pos k3] at h
   obtain⟨y,hy,rfl⟩:=b8X h;obtain⟨p,⟨hp,hp1⟩,hs,hf⟩:=hO q y r hy;refine⟨t::p,⟨by rw[hp];rfl,Nat.succ_le_succ (Nat.zero_le _)⟩,?_,fun r' hr=>?_⟩
   ·show(M3 (opF u 4 23)::D6 y).length<=(t::p).length
    exact Nat.succ_le_succ hs
   ·rw[List.cons_append,V5 (hu _),List.tail_cons,if_neg k1,if_neg k2,if_pos k3,hf r' hr.1]
    rfl
  rw[if_neg k3] at h;cases hq:R1 ins (t::q) with
  | error e=>rw[hq] at h;cases h
  | ok w=>
   obtain⟨a,r1⟩:=w;rw[hq] at h;obtain⟨p,⟨hp,hp1⟩,hs,hf⟩:=hO _ a r1 hq;have hd:∀ r',a1e ins (p++r')=match R1 ins (p++r') with
    | .error e=>.error e
    | .ok (a,r)=>if opF (C6 r) 22 1≠0 then unQ (fun b=>sx 7 (opF (C6 r) 22 1) 0 0 [] [a,b]) (R1 ins r.tail) else .ok (a,r):=fun r'=>by
    have hn:C6 (p++r')=u:=by rw[c5W hp1 r' r1,<- hp];exact hu q
    rw[V5 hn,if_neg k1,if_neg k2,if_neg k3] <;> rfl
   by_cases k4:opF (C6 r1) 22 1≠0
   ·replace h:=(if_pos k4).symm.trans h
    obtain⟨y,hy,rfl⟩:=b8X h;cases r1 with
    | nil=>exact absurd (a9E 22 1) k4
    | cons v w=>
     obtain⟨p2,⟨hp2,hp21⟩,hs2,hf2⟩:=hO w y r hy;have hv:∀ w',C6 (v::w')=C6 (v::w):=fun _=>rfl
     have hb:∀ w',a7V (v::w'):=fun w' e=>by
      rw[hv,] at e;rw[e] at k4;exact k4 (by decide +kernel)
     refine⟨p++v::p2,⟨by rw[hp,hp2];simp,by rw[List.length_append];omega⟩,?_,fun r' hr=>?_⟩
     ·show(D6 a++M3 (opF (C6 (v::w)) 22 1)::D6 y).length<=_
      simp only[List.length_append,List.length_cons];simp only[ol] at hs hs2;omega
     ·rw[List.append_assoc,List.cons_append,hd,hf _ (hb _)]
      show(if opF (C6 (v::(p2++r'))) 22 1≠0 then unQ (fun b=>sx 7 (opF (C6 (v::(p2++r'))) 22 1) 0 0 [] [a,b]) (R1 ins (v::(p2++r')).tail) else .ok (a,v::(p2++r')))=_;rw[hv,if_pos k4,List.tail_cons,hf2 r' hr.1];rfl
   ·replace h:=(if_neg k4).symm.trans h
    cases h;refine⟨p,⟨hp,hp1⟩,?_,fun r' hr=>?_⟩
    ·exact Nat.le_trans (d1M _) hs
    ·rw[hd,hf r' hr.1]
     exact if_neg (fun k=>k hr.2)
theorem b6N:∀ f,d0a (X3 f)
 | 0=>fun _ _ _ _ _ _ h=>by cases h
 | f+1=>fun o s ho ts x r h=>by
  unfold X3 at h;by_cases k1:C6 ts=D0 o
  ·rw[if_pos k1] at h
   cases ts with
   | nil=>cases congrArg Tok.kind k1
   | cons t q=>
    rw[List.tail_cons] at h;cases hq:a1e (X3 f) q with
    | error e=>rw[hq] at h;cases h
    | ok w=>
     obtain⟨y,r1⟩:=w;rw[hq] at h;by_cases k2:C6 r1=D0 s
     ·replace h:=(if_pos k2).symm.trans h
      cases r1 with
      | nil=>cases congrArg Tok.kind k2
      | cons v w=>
       cases h;obtain⟨p,⟨hp,hp1⟩,hs,hf⟩:=b3k (b6N f) q _ _ hq;have hv:∀ w',C6 (v::w')=D0 s:=fun _=>k2
       refine⟨t::(p++[v]),⟨by rw[hp];simp,Nat.succ_le_succ (Nat.zero_le _)⟩,?_,fun r' _=>?_⟩
       ·simp only[List.length_cons,List.length_append,List.length_nil]
        simp only[wl] at hs ⊢;omega
       ·have hno:a7V (v::r')/\a8W (v::r'):=by
         unfold a7V a8W;rw[hv];rcases ho with rfl | rfl <;> exact⟨by decide +kernel,by decide +kernel⟩
        rw[show t::(p++[v])++r'=t::(p++v::r') by simp];unfold X3;rw[if_pos (show C6 (t::(p++v::r'))=D0 o from k1),List.tail_cons,hf _ hno];exact if_pos k2
     ·replace h:=(if_neg k2).symm.trans h
      cases h
  ·rw[if_neg k1] at h
   cases h
abbrev Er (rd:List Tok->a0y):Prop:=∀ ts e,rd ts=.error e->e=100\/e=3
abbrev d0P (ins:B->B->List Tok->a0y):Prop:=∀ o s,Er (ins o s)
theorem c7I {ins:B->B->List Tok->a0y} (hi:d0P ins):Er (R1 ins):=by
 intro ts e h;rw[M9 rfl] at h;repeat' split at h
 all_goals first | (cases h;done) | (cases h;rename_i h2;exact hi _ _ _ _ h2) | exact hi _ _ _ _ h | (cases h;exact .inl rfl)
theorem d1w {mk:Ex->Ex} {p:a0y} {e:Int} (h:unQ mk p=.error e):p=.error e:=by
 cases p with
 | error f=>cases h;rfl
 | ok q=>cases h
theorem b9N {ins:B->B->List Tok->a0y} (hi:d0P ins):Er (a1e ins):=by
 intro ts e h;have hO:=c7I hi;rw[V5 rfl] at h;repeat' split at h
 all_goals first | (cases h;done) | exact hO _ _ (d1w h) | (cases h;rename_i h2;exact hO _ _ h2) | (cases h;exact .inl rfl)
theorem c4L:∀ f,d0P (X3 f)
 | 0=>fun _ _ _ _ h=>by cases h;exact .inr rfl
 | f+1=>fun o s ts e h=>by
  unfold X3 at h;repeat' split at h
  all_goals first | (cases h;done) | (cases h;rename_i h2;exact b9N (c4L f) _ _ h2) | (cases h;exact .inl rfl)
theorem c5Q {ts:List Tok} {x:Ex} {k:Nat} (h:K7 ts=.ok (x,k)):((1<=k/\k<=ts.length)/\E9 x=true)/\(B0 x).length<=k/\K7 (ts.take k)=.ok (x,k):=by
 unfold K7 at h;cases hq:a5M ts with
 | error e=>rw[hq] at h;cases h
 | ok w=>
  obtain⟨y,r⟩:=w;rw[hq] at h;by_cases hm:E9 y=true
  ·replace h:=(if_pos hm).symm.trans h
   cases h;obtain⟨p,⟨hp,hp1⟩,hs,hf⟩:=b3k (b6N 32) ts _ _ hq;have hl:ts.length - r.length=p.length:=by rw[hp,List.length_append];omega
   have ht:ts.take (ts.length - r.length)=p:=by rw[hl,hp,List.take_left]
   have he:=hf [] ⟨by unfold a7V;decide +kernel,by unfold a8W;decide +kernel⟩;rw[List.append_nil] at he;refine⟨⟨⟨by omega,by omega⟩,hm⟩,by rw[hl];exact hs,?_⟩;rw[ht];unfold K7 a5M;rw[he];show(if E9 _ then Except.ok (_,p.length - 0) else .error 3)=_;rw[if_pos hm,hl,Nat.sub_zero]
  ·replace h:=(if_neg hm).symm.trans h
   cases h
theorem b6n {ts:List Tok} {e:Int} (h:K7 ts=.error e):e=100\/e=3:=by
 unfold K7 at h;cases hq:a5M ts with
 | error f=>
  rw[hq] at h;cases h;exact b9N (c4L 32) ts _ hq
 | ok w=>
  obtain⟨y,r⟩:=w;rw[hq] at h;by_cases hm:E9 y=true
  ·replace h:=(if_pos hm).symm.trans h
   cases h
  ·replace h:=(if_neg hm).symm.trans h
   cases h;exact .inr rfl
theorem b5F {ts:List Tok}:a2b ts<=ts.length:=by
 unfold a2b;cases h:K7 ts with
 | error e=>exact Nat.zero_le _
 | ok w=>exact(c5Q h).1.1.2
end
end Go.Xp
namespace Go.Ty
section
open Go.Lx
theorem b1v {t:Ty} (h:may t=true) (h4:(t.kind != 4)=false):(t.item=0/\name t.proto=true)\/(is t.item=true/\t.proto=[]):=by
 have h4':t.kind=4:=by simpa using h4
 unfold may at h;split at h
 ·cases h
 ·rw[h4'] at h
  rw[if_neg (by decide),if_neg (by decide)] at h;split at h
  ·rename_i h0;exact .inl ⟨by simpa using h0,h⟩
  ·simp at h;exact .inr h
end
section
open Go.Lx
def B2 (x:Tok):Tok:={ x with at_:=0 }
def M (l:List Tok) (i:Nat) (y:Tok):Prop:=∃ x,l[i]?=some x/\B2 x=y
def begAt (l:List Tok):Nat->List Tok->Prop
 | _,[]=>True
 | i,y::w=>M l i y/\begAt l (i+1) w
theorem M.lt {l:List Tok} {i:Nat} {y:Tok} (a:M l i y):i < l.length:=by
 obtain⟨x,hx,_⟩:=a;exact(List.getElem?_eq_some_iff.1 hx).1
theorem a0F (l:List Tok):∀ (u w:List Tok) (i:Nat),begAt l i (u++w)↔begAt l i u/\begAt l (i+u.length) w
 | [],w,i=>by simp[begAt]
 | y::u,w,i=>by
  show(M l i y/\begAt l (i+1) (u++w))↔(M l i y/\begAt l (i+1) u)/\begAt l (i+(u.length+1)) w;rw[a0F l u w (i+1),and_assoc,show i+1+u.length=i+(u.length+1) by omega]
theorem a8A {l:List Tok} {i:Nat} {y:Tok}:M l i y↔i < l.length/\B2 (L7 l i)=y:=by
 constructor
 ·intro m
  have h:=m.lt;obtain⟨x,hx,e⟩:=m;rw[a3q h] at hx;cases hx;exact⟨h,e⟩
 ·rintro ⟨h,e⟩;exact⟨_,a3q h,e⟩
theorem P6 {l:List Tok} {i:Nat} {kd:Int} {s:B} (h3:kd≠3):next l i kd s=true↔M l i ⟨kd,0,s,0⟩:=by
 rw[a8A];unfold next a5p B2;generalize L7 l i=x;cases x;simp[h3];constructor
 ·rintro ⟨⟨⟨a,b⟩,c⟩,d⟩;exact⟨a,b,c,d⟩
 ·rintro ⟨a,b,c,d⟩;exact⟨⟨⟨a,b⟩,c⟩,d⟩
theorem c6d {l:List Tok} {i:Nat} {s:B}:next l i 3 s=true↔M l i ⟨3,0,s,(L7 l i).n⟩:=by
 rw[a8A];unfold next a5p B2;generalize L7 l i=x;cases x;simp;constructor
 ·rintro ⟨⟨a,b⟩,c⟩;exact⟨a,b,c⟩
 ·rintro ⟨a,b,c⟩;exact⟨⟨a,b⟩,c⟩
theorem a4g {l:List Tok} {i:Nat} {kd:Int} {s:B} {y:Tok} (m:M l i y) (h:y.kind≠kd\/y.text≠s):next l i kd s=false:=by
 cases hn:next l i kd s with
 | false=>rfl
 | true=>
  exfalso;obtain⟨_,e⟩:=a8A.1 m;subst e;unfold next a5p at hn;simp at hn;rcases h with h | h
  ·exact h hn.1.1.2
  ·exact h hn.1.2
theorem b1B (l:List Tok) (i:Nat):named l i=if next l i 2 c6n then some 1 else if next l i 2 b9H then some 2 else if next l i 2 c0b then some 3 else none:=rfl
theorem is_three {k:Int} (h:is k=true):k=1\/k=2\/k=3:=by
 rw[is_eq] at h;unfold prim at h;simp at h;omega
theorem b2a {l:List Tok} {i:Nat} {k:Int} (h:named l i=some k):is k=true/\M l i (a2S (wordS k).1):=by
 rw[b1B] at h;split at h
 ·cases h;rename_i hn;exact⟨by decide,(P6 (by decide)).1 hn⟩
 ·split at h
  ·cases h;rename_i hn;exact⟨by decide,(P6 (by decide)).1 hn⟩
  ·split at h
   ·cases h;rename_i hn;exact⟨by decide,(P6 (by decide)).1 hn⟩
   ·cases h
theorem b6o {l:List Tok} {i:Nat} {k:Int} (h:is k=true) (m:M l i (a2S (wordS k).1)):named l i=some k:=by
 rw[b1B];rcases is_three h with rfl | rfl | rfl
 ·have m':M l i (a2S c6n):=m
  rw[if_pos ((P6 (by decide)).2 m')]
 ·have m':M l i (a2S b9H):=m
  rw[if_neg (by rw[a4g m' (.inr (by decide))];decide),if_pos ((P6 (by decide)).2 m')]
 ·have m':M l i (a2S c0b):=m
  rw[if_neg (by rw[a4g m' (.inr (by decide))];decide),if_neg (by rw[a4g m' (.inr (by decide))];decide),if_pos ((P6 (by decide)).2 m')]
theorem b0C {l:List Tok} {i:Nat} {y:Tok} (m:M l i y) (h:y.kind≠2\/(y.text≠c6n/\y.text≠b9H/\y.text≠c0b)):named l i=none:=by
 rw[b1B];rw[if_neg (by rw[a4g m (h.imp_right fun h=>h.1)];decide),if_neg (by rw[a4g m (h.imp_right fun h=>h.2.1)];decide),if_neg (by rw[a4g m (h.imp_right fun h=>h.2.2)];decide)]
inductive Shape (t:Ty):Prop where
 | plain (k d:Int) (hk:is k=true) (e:t=⟨k,d,0,[]⟩)
 | timer (e:t=⟨5,0,0,[]⟩)
 | item (k d:Int) (hk:is k=true) (e:t=⟨4,d,k,[]⟩)
 | proto (s:B) (d:Int) (hs:name s=true) (e:t=⟨4,d,0,s⟩)
theorem may_shape {t:Ty} (h:may t=true):Shape t:=by
 obtain⟨k,d,i,s⟩:=t;by_cases hk:is k=true
 ·unfold may at h
  split at h
  ·cases h
  ·simp only[Bool.and_eq_true,beq_iff_eq] at h
   obtain⟨rfl,rfl⟩:=h;exact .plain k d hk rfl
 ·by_cases h4:k=4
  ·subst h4
   rcases b1v h (by simp) with ⟨h0,hn⟩ | ⟨hi,h0⟩
   ·simp only at h0 hn;subst h0;exact .proto s d hn rfl
   ·simp only at h0 hi;subst h0;exact .item i d hi rfl
  ·unfold may at h
   split at h
   ·cases h
   ·rw[if_pos (by simpa using h4),eqT_iff] at h
    exact .timer h
theorem b8r (k d:Int) (hk:is k=true):toks ⟨k,d,0,[]⟩=dimT ⟨k,d,0,[]⟩++[a2S (wordS k).1]:=by
 unfold toks;rw[List.append_assoc];rcases is_three hk with rfl | rfl | rfl <;> rfl
theorem b7W (k d:Int) (hk:is k=true):toks ⟨4,d,k,[]⟩=dimT ⟨4,d,k,[]⟩++[a2S a4s,a2S cOF,a2S (wordS k).1]:=by
 unfold toks;rw[List.append_assoc];rcases is_three hk with rfl | rfl | rfl <;> rfl
theorem c7F {s:B} (h:name s=true):s≠[]:=by rintro rfl;cases h
theorem b8d (s:B) (d:Int) (hs:name s=true):toks ⟨4,d,0,s⟩=dimT ⟨4,d,0,s⟩++[a2S a4s,a2S cOF,⟨1,0,s,0⟩]:=by
 unfold toks;rw[List.append_assoc];unfold lastT;have:(s==[])=false:=by simpa using c7F hs
 simp only[this];rfl
theorem c5q {t:Ty} (h:may t=true):∃ s w,toks t=dimT t++a2S s::w:=by
 cases may_shape h with
 | plain k d hk e=>subst e;exact⟨_,_,b8r k d hk⟩
 | timer e=>subst e;exact⟨_,_,rfl⟩
 | item k d hk e=>subst e;exact⟨_,_,b7W k d hk⟩
 | proto s d hs e=>subst e;exact⟨_,_,b8d s d hs⟩
theorem d0S {t:Ty} (l:List Tok) (h:may t=true) (hb:begAt l 0 (toks t)):pre l=(true,t.dim,(dimT t).length):=by
 have hd:=may_dim h;obtain⟨s,w,e⟩:=c5q h;rw[e,a0F] at hb;by_cases h0:t.dim=0
 ·have ed:dimT t=[]:=by unfold dimT;rw[h0];rfl
  rw[ed] at hb ⊢;rw[c2o (a4g hb.2.1 (.inl (show(2:Int)≠5 by decide))),h0];rfl
 ·have ed:dimT t=[D0 lb,⟨3,0,[],t.dim⟩,D0 rb]:=by unfold dimT;rw[if_pos (by simp;omega)]
  rw[ed] at hb ⊢;obtain⟨⟨m0,m1,m2,_⟩,_⟩:=hb;have en:(L7 l 1).n=t.dim:=by
   obtain⟨_,e1⟩:=a8A.1 m1;exact congrArg Tok.n e1
  rw[b8W ((P6 (by decide)).2 m0) (c6d.2 (by rw[en];exact m1)),en,(P6 (by decide)).2 m2];have:decide (t.dim > 0)=true:=by simp;omega
  rw[this];rfl
theorem b3a {l:List Tok} {d:Int} {n:Nat} {k:Int} (hP:pre l=(true,d,n)) (hn:named l n=some k):mid l=(true,⟨k,d,0,[]⟩,n+1):=by
 unfold mid;rw[hP];simp only[hn]
theorem b0N {l:List Tok} {d:Int} {n:Nat} (hP:pre l=(true,d,n)) (m0:M l n (a2S a4s)) (m1:M l (n+1) (a2S cOF)):mid l=(match named l (n+2) with
 | some k=>(true,⟨4,d,k,[]⟩,n+3)
 | none=>if decide ((n+2:Nat) < (l.length:Int))&&next l (n+2) 1 (L7 l (n+2)).text then (true,⟨4,d,0,(L7 l (n+2)).text⟩,n+3) else (true,⟨4,d,0,[]⟩,n+2)):=by
 unfold mid;rw[hP];simp only[b0C m0 (.inr (by decide)),(P6 (show(2:Int)≠3 by decide)).2 m0,(P6 (show(2:Int)≠3 by decide)).2 m1,if_true];cases named l (n+2) <;> rfl
theorem front_of {t:Ty} {l:List Tok} (h:may t=true) (hb:begAt l 0 (toks t)):front l=(t,(toks t).length,0):=by
 have hP:=d0S l h hb;have hM:mid l=(true,t,(toks t).length):=by
  cases may_shape h with
  | plain k d hk e=>
   subst e;rw[b8r k d hk] at hb ⊢;rw[a0F,Nat.zero_add] at hb;rw[b3a hP (b6o hk hb.2.1),List.length_append];rfl
  | timer e=>
   subst e;have m:M l 0 (a2S a6o):=hb.1;exact b4M hP (b0C m (.inr (by decide))) (a4g m (.inr (by decide))) ((P6 (by decide)).2 m)
  | item k d hk e=>
   subst e;rw[b7W k d hk] at hb ⊢;rw[a0F,Nat.zero_add] at hb;obtain⟨_,m0,m1,m2,_⟩:=hb;rw[b0N hP m0 m1,b6o hk m2,List.length_append];rfl
  | proto s d hs e=>
   subst e;rw[b8d s d hs] at hb ⊢;rw[a0F,Nat.zero_add] at hb;obtain⟨_,m0,m1,m2,_⟩:=hb;have m2':M l ((dimT ⟨4,d,0,s⟩).length+2) ⟨1,0,s,0⟩:=m2;have et:(L7 l ((dimT ⟨4,d,0,s⟩).length+2)).text=s:=congrArg Tok.text (a8A.1 m2').2;have hlt:=m2'.lt;rw[b0N hP m0 m1,b0C m2' (.inl (show(1:Int)≠2 by decide)),et];have c:(decide ((((dimT ⟨4,d,0,s⟩).length+2:Nat):Int) < (l.length:Int))&&next l ((dimT ⟨4,d,0,s⟩).length+2) 1 s)=true:=by
    rw[(P6 (by decide)).2 m2',Bool.and_true];exact decide_eq_true (by omega)
   simp only[c,if_true,List.length_append];rfl
 exact b3L hM (by rw[h];rfl)
theorem b5j {l:List Tok} {d:Int} {n:Nat} (h:pre l=(true,d,n)) (t:Ty) (e:t.dim=d):n=(dimT t).length/\begAt l 0 (dimT t):=by
 by_cases h0:next l 0 5 lb=true
 ·by_cases h1:next l 1 3 []=true
  ·rw[b8W h0 h1] at h
   simp only[Prod.mk.injEq] at h;obtain⟨hc,hd,hn⟩:=h;rw[hc] at hn;simp only[Bool.and_eq_true,decide_eq_true_eq] at hc;have ed:dimT t=[D0 lb,⟨3,0,[],t.dim⟩,D0 rb]:=by unfold dimT;rw[if_pos (by simp;omega)]
   rw[ed];refine⟨hn.symm,(P6 (by decide)).1 h0,?_,(P6 (by decide)).1 hc.2,trivial⟩;rw[e,<- hd];exact c6d.1 h1
  ·rw[c4O h0 (by simpa using h1)] at h
   cases h
 ·rw[c2o (by simpa using h0)] at h
  cases h;have ed:dimT t=[]:=by unfold dimT;rw[e];rfl
  rw[ed];exact⟨rfl,trivial⟩
theorem d10 {l:List Tok} {t:Ty} {n:Nat} (h:mid l=(true,t,n)) (hm:may t=true):begAt l 0 (toks t):=by
 obtain⟨⟨b,d,n0⟩,hP⟩:∃ p,pre l=p:=⟨_,rfl⟩;cases b with
 | false=>unfold mid at h;rw[hP] at h;cases h
 | true=>
  cases hn:named l n0 with
  | some k=>
   rw[b3a hP hn] at h;cases h;obtain⟨hk,m⟩:=b2a hn;obtain⟨e,hb⟩:=b5j hP ⟨k,d,0,[]⟩ rfl;rw[b8r k d hk,a0F];subst e;exact⟨hb,by rw[Nat.zero_add];exact m,trivial⟩
  | none=>
   cases hc:next l n0 2 a4s with
   | true=>
    have m0:M l n0 (a2S a4s):=(P6 (by decide)).1 hc;cases ho:next l (n0+1) 2 cOF with
    | false=>
     unfold mid at h;rw[hP] at h;simp only[hn,hc,ho,if_true,Bool.false_eq_true,if_false] at h;cases h
    | true=>
     have m1:M l (n0+1) (a2S cOF):=(P6 (by decide)).1 ho;rw[b0N hP m0 m1] at h;cases hk:named l (n0+2) with
     | some k=>
      rw[hk] at h;cases h;obtain⟨hk,m2⟩:=b2a hk;obtain⟨e,hb⟩:=b5j hP ⟨4,d,k,[]⟩ rfl;rw[b7W k d hk,a0F];subst e;rw[Nat.zero_add];exact⟨hb,m0,m1,m2,trivial⟩
     | none=>
      rw[hk] at h;simp only at h;split at h
      ·rename_i hx
       simp only[Bool.and_eq_true] at hx;have m2:=(P6 (show(1:Int)≠3 by decide)).1 hx.2;cases h;have hs:name (L7 l (n0+2)).text=true:=by
        rcases b1v hm rfl with ⟨_,hs⟩ | ⟨hi,_⟩
        ·exact hs
        ·cases hi
       obtain⟨e,hb⟩:=b5j hP ⟨4,d,0,(L7 l (n0+2)).text⟩ rfl;rw[b8d _ d hs,a0F];rw[<- e,Nat.zero_add];exact⟨hb,m0,m1,m2,trivial⟩
      ·cases h
       rcases b1v hm rfl with ⟨_,hs⟩ | ⟨hi,_⟩
       ·cases hs
       ·cases hi
   | false=>
    cases ht:next l n0 2 a6o with
    | true=>
     rw[b4M hP hn hc ht] at h;cases h;have e5:(⟨5,d,0,[]⟩:Ty)=timer:=by
      cases may_shape hm with
      | plain k d hk e=>cases e;cases hk
      | timer e=>exact e
      | item k d hk e=>cases e
      | proto s d hs e=>cases e
     rw[e5];cases e5;obtain⟨e,_⟩:=b5j hP timer rfl;subst e;exact⟨(P6 (by decide)).1 ht,trivial⟩
    | false=>
     rw[b9d hP hn hc ht] at h;cases h;cases may_shape hm with
     | plain k d hk e=>cases e;cases hk
     | timer e=>cases e
     | item k d hk e=>cases e
     | proto s d hs e=>cases e
theorem front_to (l:List Tok):front l=(zeroT,0,90)\/∃ t,may t=true/\begAt l 0 (toks t)/\front l=(t,(toks t).length,0):=by
 obtain⟨⟨ok,t,n⟩,hM⟩:∃ p,mid l=p:=⟨_,rfl⟩;by_cases hc:(!ok||!may t)=true
 ·exact .inl (b6q hM hc)
 ·simp at hc
  obtain⟨rfl,hm⟩:=hc;have hb:=d10 hM hm;exact .inr ⟨t,hm,hb,front_of hm hb⟩
end
end Go.Ty
namespace Go.Sx
section
open Go.Eng Go.Pc Go
open Go.Xp hiding B
open Go.Ty (Ty Vr Tok)
def stL (s:Sli Ex):Sli Ex:=sl (s.l.map B2)
def stR (r:Rp):Rp:=⟨r.name,B2 r.base,B2 r.count⟩
def a1f (x:Vr):Vr:=vrM x.tag x.items
mutual
def stP:Pr->Pr
 | .mk k n ch tg ex rep _ _ gl _ _ ll pn sp=>.mk k n (B2 ch) (stL tg) (stL ex) (stR rep) none 0 (c90 gl) none 0 (c1G ll) (sl pn.l) (stS sp)
def c1G:List Pr->List Pr
 | []=>[]
 | x::r=>stP x::c1G r
def stG:Gu->Gu
 | .mk k n cond ch tg vl time _ _ bl=>.mk k n (B2 cond) (B2 ch) (stL tg) (stL vl) (B2 time) none 0 (c1G bl)
def c90:List Gu->List Gu
 | []=>[]
 | x::r=>stG x::c90 r
def stS:Sp->Sp
 | .mk k ty names e cs vs fs _ _ bl=>.mk k ty (sl names.l) (B2 e) cs (sl (vs.l.map a1f)) (sl fs.l) none 0 (c1G bl)
end
theorem a6A:∀ l:List Pr,c1G l=l.map stP
 | []=>rfl
 | x::r=>by rw[c1G,a6A r];rfl
theorem b2h:∀ l:List Gu,c90 l=l.map stG
 | []=>rfl
 | x::r=>by rw[c90,b2h r];rfl
theorem Z1 (e:Ex):D7 (B2 e)=D7 e:=by unfold D7;rw[P8];cases e;rfl
theorem c4G {k:Int} {s:B} {ts:List Tok} (h:isM k s ts=true):∃ t r,ts=t::r/\t.kind=k/\t.text=s:=by
 cases ts with
 | nil=>cases h
 | cons t r=>
  have h':((t.kind==k)&&(t.text==s))=true:=h;simp only[Bool.and_eq_true,beq_iff_eq] at h';exact⟨t,r,rfl,h'.1,h'.2⟩
theorem c8t {k:Int} {s:B} {ts:List Tok} (h:isM k s ts=true):0 < ts.length:=by
 obtain⟨t,r,rfl,_⟩:=c4G h;exact Nat.succ_pos _
theorem b6y (ts:List Tok):U5 ts=if (ts.getD 0 Go.Ty.zeroK).kind=1 then .ok ((ts.getD 0 Go.Ty.zeroK).text,ts.tail) else .error 110:=by
 cases ts with
 | nil=>rfl
 | cons t r=>rfl
theorem b5y (ts:List Tok):H3 ts=if a7N ts=0 then .ok (b0H ts,ts.drop (a2b ts)) else .error 110:=by
 unfold H3 a7N b0H a2b;cases hf:K7 ts with
 | ok x=>obtain⟨x,k⟩:=x;rfl
 | error e=>
  rcases b6n hf with rfl | rfl <;> rfl
theorem a9L (ts:List Tok):F6 ts=if (ts.getD 0 Go.Ty.zeroK).kind=1 then M7 (H3 ts) fun x r=>if D7 x then .ok (x,r) else .error 110 else .error 110:=by
 cases ts <;> rfl
open Go.Ty in
theorem b5G (l:List Tok):∀ (w:List Tok) (i:Nat),begAt l i w->i<=l.length->i+w.length<=l.length
 | [],i,_,hi=>hi
 | y::w,i,h,_=>by
  obtain⟨h1,h2⟩:=(a0F l [y] w i).1 h;have h3:=b5G l w (i+1) h2 (by
   have:=M.lt h1.1;omega)
  simp only[List.length_cons];omega
theorem d0w (ts:List Tok):(Go.Ty.front ts).2.1<=ts.length:=by
 rcases Go.Ty.front_to ts with h | ⟨t,hm,hb,h⟩
 ·rw[h];exact Nat.zero_le _
 ·rw[h]
  have:=b5G ts _ 0 hb (Nat.zero_le _);simpa using this
theorem c0g {t:Ty} (h:Go.Ty.may t=true):TyW t:=by
 have hd:=Go.Ty.may_dim h;cases Go.Ty.may_shape h with
 | plain k d hk e=>
  subst e;have:=Go.Ty.is_three hk;exact⟨by simp only;omega,by simp only;omega,by simp only at hd ⊢;omega,Nat.zero_le _⟩
 | timer e=>
  subst e;exact⟨by decide,by decide,by decide,Nat.zero_le _⟩
 | item k d hk e=>
  subst e;have:=Go.Ty.is_three hk;exact⟨by simp only;omega,by simp only;omega,by simp only at hd ⊢;omega,Nat.zero_le _⟩
 | proto s d hs e=>
  subst e;refine⟨by simp only;omega,by simp only;omega,by simp only at hd ⊢;omega,?_⟩;unfold Go.Lx.name at hs;simp only[Bool.and_eq_true,decide_eq_true_eq] at hs;have:=hs.1.1.1.2;show s.length<=Big;unfold Big;omega
theorem d1I (ts:List Tok):TyW (Go.Ty.front ts).1:=by
 rcases Go.Ty.front_to ts with h | ⟨t,hm,hb,h⟩
 ·rw[h];exact⟨by decide,by decide,by decide,Nat.zero_le _⟩
 ·rw[h];exact c0g hm
end
end Go.Sx
namespace Go.Eng
section
open Go Go.RowKit
section
variable {P:Program} {ops:Array Oper} {Q:Exit->Act->World->Prop} {n:Cx} {F:Fm} {h h':List Res} {m:View} {rest:List Oper}
variable {op:Op} {ty:TypeId} {pos:String} {after:Array Edge} {d:Nat} {v v2:Value}
end
end
section
open Go Go.RowKit
section
variable {P:Program} {m m':View} {h h':List Res} {w w':World}
end
section
variable {P:Program} {ops:Array Oper} {Q:Exit->Act->World->Prop} {n:Cx} {F:Fm} {h h':List Res} {m:View} {rest:List Oper}
variable {ty:TypeId} {pos:String} {after:Array Edge} {dst:Option Tmp} {g:Option (Nat × Bool)} {d:Nat}
theorem d33 (a:Option Addr) (cap sz:Nat) (h:a=none\/∃ b off,a=some ⟨b,off,none⟩):sl1 a 0 cap sz=a:=by
 unfold sl1;split
 ·rfl
 ·rcases h with rfl | ⟨b,off,rfl⟩
  ·rfl
  ·simp[Addr.add_lit]
theorem CT.know {f:FuncId} {args:List Value} {R:Value->View->List Res->Prop} {A:Prop} (he:∀ as w,(callFunc f as).run P w=.ok (.enter f as) w) (ha:∀ w,St m h w->A) (k:A->CT P f args h m R):CT P f args h m R:=
 ⟨he,fun w hs=>(k (ha w hs)).calls w hs⟩
theorem CT.knowRow {f:FuncId} {args:List Value} {R:Value->View->List Res->Prop} {a:Option Addr} {k cap sz:Nat} {e:TypeId} {ys:List Value} (he:∀ as w,(callFunc f as).run P w=.ok (.enter f as) w) (hm:Res.row (.slice a k cap) e sz k ys ∈ h)
 (kk:k<=cap->cap<=9223372036854775807->ys.length=k * sz->CT P f args h m R):CT P f args h m R:=
 CT.know he (fun _ st=>b2w (st.ok _ hm)) fun ⟨h1,h2,h3⟩=>kk h1 h2 h3
end
end
section
open Go Go.RowKit
theorem b2S (a b:ByteArray):(a==b)=(a.data==b.data):=rfl
theorem c7Y {n k:List UInt8} (h:¬ n=k):((⟨n.toArray⟩:ByteArray)==⟨k.toArray⟩)=false:=by
 rw[b2S];exact beq_eq_false_iff_ne.2 fun e=>h (by simpa using e)
theorem b5t (n:List UInt8):((⟨n.toArray⟩:ByteArray)==⟨n.toArray⟩)=true:=by
 rw[b2S];exact beq_self_eq_true _
structure MapS (es:Array MapEntry) (ks:List (List UInt8)):Prop where
 a:∀ e ∈ es.toList,∃ n,e.key=str n/\e.val=.bool true/\n ∈ ks
 b:∀ n ∈ ks,∃ e ∈ es.toList,e.key=str n
section
variable {P:Program} {ops:Array Oper} {Q:Exit->Act->World->Prop} {n:Cx} {F:Fm} {h h':List Res} {m:View} {rest:List Oper}
variable {ty:TypeId} {pos:String} {after:Array Edge} {dst:Option Tmp} {g:Option (Nat × Bool)} {d:Nat}
end
section
variable {P:Program} {ops:Array Oper} {Q:Exit->Act->World->Prop} {n:Cx} {F:Fm} {m:View} {eff:List Nat} {t:Tl} {hs hp:List Res}
variable {ty:TypeId} {pos:String} {after:Array Edge} {d:Nat}
abbrev b6Z (e:TypeId) (sz:Nat):Res:=.row (.slice none 0 0) e sz 0 []
theorem St.insNil (e:TypeId) (sz:Nat) {fr l1 l2 hs:List Res} {w:World} (s:St m (fr++((l1++l2)++hs)) w):St m (fr++((l1++b6Z e sz::l2)++hs)) w:=by
 refine(s.addNil e sz).perm ?_;have h1:(fr++((l1++b6Z e sz::l2)++hs)).Perm (b6Z e sz::(fr++((l1++l2)++hs))):=by
  refine(List.Perm.append_left fr ((List.perm_middle (l₁:=l1) (l₂:=l2)).append_right hs)).trans ?_;exact List.perm_middle
 exact h1.symm
theorem a8j (e:TypeId) (sz:Nat) {l1 l2:List Res}:∀ (r:List Fl) {F:Fm} {fr:List Res},a3V P ops Q n t r F (fr++((l1++b6Z e sz::l2)++hs)) m->a3V P ops Q n t r F (fr++((l1++l2)++hs)) m
 | [],_,_,h=>WL.mk fun a w ha st=>h.e a w ha (st.insNil e sz)
 | (_,_,_)::r,_,fr,h=>fun b=>a8j e sz r (fr:=_::fr) (h b)
theorem a5S.imp {r:Result Next} {R R':Value->World->Prop} {X:List PanicEntry->World->Prop} (h:a5S P r R X) (k:∀ v w,R v w->R' v w):a5S P r R' X:=by
 cases r with
 | ok x w=>
  cases x with
  | value v=>exact k _ _ h
  | skip=>exact k _ _ h
  | enter f args=>
   refine Calls.mono h fun e w' q=>?_
   rcases q with ⟨v,rfl,hv⟩ | q
   ·exact .inl ⟨v,rfl,k v w' hv⟩
   ·exact .inr q
  | _=>exact h
 | halt _ _=>exact h
theorem SRr.insNil (e:TypeId) (sz:Nat) {l1 l2:List Res}:∀ (T:Tr) {F:Fm},SRr P ops Q n eff t hs T F (l1++b6Z e sz::l2) m->SRr P ops Q n eff t hs T F (l1++l2) m
 | .nil,_,h=>a8j e sz t.fl (fr:=[]) h
 | .alt a b,_,h=>⟨SRr.insNil e sz a h.1,SRr.insNil e sz b h.2⟩
 | .op i s,_,h=>by
  obtain⟨o,ho,hd,h⟩:=h;refine⟨o,ho,hd,?_⟩;have hsub:(l1++l2).Sublist (l1++b6Z e sz::l2):=(List.sublist_cons_self _ _).append_left l1;cases he:eff.contains i with
  | false=>
   rw[he] at h;obtain⟨v,pg,hk⟩:=h;exact⟨v,pg,SRr.insNil e sz s hk⟩
  | true=>
   rw[he] at h;dsimp only at h ⊢;cases hr:a7J o with
   | true=>
    rw[hr] at h;obtain⟨v,pg,hk⟩:=h;exact⟨v,⟨fun a w ha st=>pg.e a w ha (St.insNil e sz (fr:=[]) st)⟩,SRr.insNil e sz s hk⟩
   | false=>
    rw[hr] at h;dsimp only at h ⊢;have sat:∀ {G:Fm} {l:List Res},Sat n hs G (l++l2) m->Sat n hs G (l++b6Z e sz::l2) m:=fun ⟨fr,a,w,ha,st⟩=>⟨fr,a,w,ha,st.insNil e sz⟩
    cases hmk:a5w o&&eff.contains 4096 with
    | true=>
     rw[hmk] at h;exact⟨fun s a ha=>h.ex (sat s) a ha,fun a ha k cs el hout b s'=>SRr.insNil e sz (l1:=_::l1) s (h.k a ha k cs el hout b (sat (l:=_::l1) s'))⟩
    | false=>
    rw[hmk] at h;dsimp only at h ⊢;refine⟨fun fr a w ha st=>?_⟩;obtain⟨h1,h2⟩:=h.e fr a w ha (St.insNil e sz st);refine⟨fun hw=>(h1 hw).imp fun v w' q=>?_,fun hw=>?_⟩
    ·obtain⟨m',hp',q1,q2,q3,q4⟩:=q
     exact⟨m',hp',q1,q2,fun ha=>hsub.trans (q3 ha),q4⟩
    ·exact⟨fun _=>List.Sublist.refl _,SRr.insNil e sz s (h2 hw).2⟩
theorem a1T {q:Nat} {s:Tr} {tt e k:Nat} {sz by_:Nat} {ps:List (Nat × Operand)} {vs:List (Nat × Value)} {z:Value} {zs cs:List Value} {gd:Nat × Bool} {c:Bool}
 (ho:ops[q]?=some ⟨some d,.buildSlice tt k ps.toArray,ty,pos,after,some gd⟩) (he:eff.contains q=true) (hg:GU ops n F gd c) (E:EL P tt e sz by_) (hz:(P.info? e).bind (·.zero)=some z) (ev:c=true->EvP n F ps vs)
 (hzs:a9I z k=some zs) (hf:a5J (fun i=>some (i * sz,sz)) zs vs=some cs) (hk:k * sz<=16777216) (h0:Nat.beq (k * sz) 0=false) (hd:d < n.num)
 (kk:∀ b r,(c=true->r=.pt b (.cells cs.toArray e (0,0)))->SR P ops Q n eff t hs s ((d,gv c (.slice (some ⟨b,0,none⟩) k k))::F) (r::hp) m) :
 SR P ops Q n eff t hs (.op q s) F hp m:=⟨_,ho,fun y hy=>by cases hy;exact hd,by
 rw[he];simp only[b2l,b0z,Bool.false_and];refine⟨fun fr f w hf' st=>?_⟩;have hy:=hg.wanted (dst:=some d) (op:=.buildSlice tt k ps.toArray) (ty:=ty) (pos:=pos) (after:=after) hf';cases c with
 | true=>
  refine⟨fun _=>?_,fun h=>by rw[hy] at h;cases h⟩;have hrun:=a0o (P:=P) w (dst:=some d) (ty:=ty) (pos:=pos) (after:=after) (g:=some gd) E hz (ev rfl) hzs hf hk h0 hf';rw[hrun];exact⟨m,.pt w.heap.size (.cells cs.toArray e)::hp,Vl,(st.alloc _).perm List.perm_middle.symm,fun _=>List.sublist_cons_self _ _,(kk w.heap.size _ (fun _=>rfl)).e⟩
 | false=>
  refine⟨fun h=>(by rw[hy] at h;cases h),fun _=>⟨fun _=>List.Sublist.refl _,?_⟩⟩;exact SRr.insNil e sz (l1:=[]) s (kk 0 (b6Z e sz) (fun h=>by cases h)).e⟩
end
section
variable {P:Program} {n:Cx} {F:Fm} {h:List Res} {m:View}
variable {ty:TypeId} {pos:String} {after:Array Edge} {dst:Option Tmp} {g:Option (Nat × Bool)}
def eqP (P:Program) (o:TypeId) (t:TypeId) (xs ys:List Value) (off:Nat):Option Bool:=match P.underlying t with
 | some (.struct gs)=>match Nat.beq t o with
  | true=>match (P.info? t).map (·.size) with
   | some k=>match seg xs off k with
    | some as=>match seg ys off k with
     | some bs=>b8P P as bs gs.toList
     | none=>none
    | none=>none
   | none=>none
  | false=>none
 | some d=>match P9 d with
  | true=>match xs[off]? with
   | some a=>match ys[off]? with
    | some b=>eqC d a b
    | none=>none
   | none=>none
  | false=>none
 | none=>none
def b9i (P:Program) (o:TypeId) (xs ys:List Value):List Field->Option Bool
 | []=>some true
 | f::fs=>match eqP P o f.type xs ys f.offset with
  | some r=>match b9i P o xs ys fs with
   | some q => match (f.name != "_") with
    | true=>some (r&&q)
    | false=>none
   | none=>none
  | none=>none
theorem b70 {xs as:List Value} {off k:Nat} (h:seg xs off k=some as):(xs.drop off).take k=as:=by
 obtain⟨h1,h2⟩:=a8E h;subst h1;refine List.ext_getElem? fun i=>?_
 rcases Nat.lt_or_ge i as.length with hi | hi
 ·have:=h2 i _ (List.getElem?_eq_getElem hi)
  rw[List.getElem?_take_of_lt hi,List.getElem?_drop,this,List.getElem?_eq_getElem hi]
 ·rw[List.getElem?_eq_none hi,List.getElem?_eq_none (by rw[List.length_take];omega)]
theorem c7K (w:World) (d:Nat) {o t:TypeId} (ho:P.stoodInHeld o=false) {xs ys:List Value} {off:Nat} {r:Bool} (he:eqP P o t xs ys off=some r):∃ a b,(part t xs.toArray off).run P w=.ok a w/\(part t ys.toArray off).run P w=.ok b w/\(Op.equalIn (d+2) t a b).run P w=.ok r w:=by
 unfold eqP at he;split at he
 ·rename_i gs ht
  split at he
  ·rename_i hto
   have hto:=Nat.eq_of_beq_eq_true hto;subst hto;have hs:=ho;split at he
   ·rename_i k hk
    split at he
    ·rename_i as ha
     split at he
     ·rename_i bs hb
      cases hi:P.info? t with
      | none=>rw[hi] at hk;cases hk
      | some i0=>
       have hsz:i0.size=k:=by rw[hi] at hk;simpa using hk
       have hf:P.fieldsOf t=gs:=by simp[Program.fieldsOf,ht]
       have hag:=a4D (P:=P) w ht rfl;refine⟨.agg as.toArray,.agg bs.toArray,?_,?_,?_⟩
       ·simp[part,hag,sizeOf,typeInfo,hi,hsz,b70 ha]
       ·simp[part,hag,sizeOf,typeInfo,hi,hsz,b70 hb]
       ·rw[run_equalIn_struct (P:=P) w (d+1) t as.toArray bs.toArray (by rw[hf];exact ht) hs,hf]
        exact a84 w d as bs he
     ·cases he
    ·cases he
   ·cases he
  ·cases he
 ·rename_i ds _ ht
  split at he
  ·rename_i hp
   split at he
   ·rename_i a ha
    split at he
    ·rename_i b hb
     refine⟨a,b,?_,?_,b9B w (d:=d+1) ht he⟩
     ·simp[part,P2 w ht hp,ha]
     ·simp[part,P2 w ht hp,hb]
    ·cases he
   ·cases he
  ·cases he
 ·cases he
theorem b3O (w:World) (d:Nat) {o:TypeId} (ho:P.stoodInHeld o=false) (xs ys:List Value):∀ {fs:List Field} {r:Bool},b9i P o xs ys fs=some r->(Op.eqFields (d+2) xs.toArray ys.toArray fs).run P w=.ok r w
 | [],r,he=>by cases he;simp[Op.eqFields]
 | f::fs,r,he=>by
  unfold b9i at he;split at he
  ·rename_i c hc
   split at he
   ·rename_i q hq
    split at he
    ·rename_i h7
     cases he;have h8 : f.name ≠ "_" := by simpa using h7
     have ih:=b3O w d ho xs ys hq;obtain⟨a,b,ea,eb,e5⟩:=c7K (P:=P) w d ho hc;simp only[Op.eqFields,if_pos h8,Sem.run_bind];rw[ea,Result.andThen_ok,eb,Result.andThen_ok,e5,Result.andThen_ok];cases c
     ·simp
     ·simpa using ih
    ·cases he
   ·cases he
  ·cases he
theorem b7G {o:TypeId} {x y:Operand} {t t':TypeId} {fs:Array Field} {as bs:List Value} {r:Bool} (ht:P.underlying t=some (.struct fs)) (hs:P.stoodInHeld t=false) (hm:P.eqGuardType P.depth t=false) (ex:Ev n F x (.agg as.toArray)) (ey:Ev n F y (.agg bs.toArray))
 (ho:P.stoodInHeld o=false) (hr:b9i P o as bs fs.toList=some r):PO P ⟨dst,.binOp .neq t x y t',ty,pos,after,g⟩ n F h m (.bool (!r)):=.mk fun a w ha _=>by
 have hf:P.fieldsOf t=fs:=by simp[Program.fieldsOf,ht]
 have e1:=run_equalIn_struct (P:=P) w 9999 t as.toArray bs.toArray (by rw[hf];exact ht) hs;rw[hf,b3O w 9997 ho as bs hr] at e1;simp[execOp,ex a ha,ey a ha,run_eqGuard_agg w _ t _ _ _ _ hm,run_neq_struct,e1]
end
end
end Go.Eng
namespace Go.Sx
section
open Go.Eng Go.Pc Go
open Go.Xp hiding B
open Go.Ty (Ty Vr Tok)
open Go.Ly (Rw S1)
open Go.Lx (lexO G3)
theorem b1T (s:B):(lexO s).1.length<=256/\∀ x ∈ (lexO s).1,G3 x=true/\(-2147483648<=x.n/\x.n<=2147483647):=by
 obtain⟨l,z,e,h⟩:∃ l z e,lexO s=(l,z,e):=⟨_,_,_,rfl⟩;rw[h];by_cases he:e=0
 ·subst he
  obtain⟨h1,h2,-⟩:=Go.Lx.lexO_ok h;have h3:=Go.Lx.lx_len s 0 l h2;exact⟨by show l.length<=256;omega,Go.Lx.lx_may s 0 l h2 (by omega)⟩
 ·have h1:=Go.Lx.lexO_no h he
  subst h1;exact⟨Nat.zero_le _,fun x hx=>(List.not_mem_nil hx).elim⟩
theorem c6N (s:B):∀ t ∈ (lexO s).1,t.text.length<=140737488355328:=fun t ht=>by have:=Go.Lx.may_len ((b1T s).2 t ht).1;omega
structure Pz where
 bp:Nat
 ra:Option Addr
 rc:Nat
 R:List Rw
structure Pok (m:View) (z:Pz):Prop where
 rd:Rd m [] z.ra z.R.length z.rc 3 (fl S1 z.R)
 ok:z.R.length<=2048/\∀ x ∈ z.R,0<=x.depth/\x.depth<=32/\x.text.length<=256
 ne:∀ x ∈ z.R,(lexO x.text).2.2=0->(lexO x.text).1≠[]
theorem b3Y (q:UInt8->Bool):∀ (l:B) {c:UInt8} {r:B},l.dropWhile q=c::r->q c=false
 | x::l,c,r,h=>by
  unfold List.dropWhile at h;split at h
  ·exact b3Y q l h
  ·cases h;assumption
theorem d0O {s:B} (h:Go.Ly.validP s=true) (he:(lexO s).2.2=0):(lexO s).1≠[]:=by
 obtain⟨h1,-,h2,-⟩:=Go.Ly.validP_spec h;obtain⟨l,z,e,hl⟩:∃ l z e,lexO s=(l,z,e):=⟨_,_,_,rfl⟩;rw[hl] at he ⊢;obtain rfl:e=0:=he;obtain⟨-,h3,-⟩:=Go.Lx.lexO_ok hl;cases s with
 | nil=>exact absurd rfl h1
 | cons c r=>
  have hc:c≠32:=by
   have h4:=b3Y (·==32) (Lib.trimRightB (c::r) 32) (c:=c) (r:=r) h2;simpa using h4
  rintro rfl;by_cases hn:(Go.Lx.tok (c::r)).2=0
  ·rw[Go.Lx.lx_bad hc hn] at h3;cases h3
  ·rw[Go.Lx.lx_tok hc hn] at h3
   cases hx:Go.Lx.lx ((c::r).drop (Go.Lx.tok (c::r)).2) (0+(Go.Lx.tok (c::r)).2) with
   | ok m=>rw[hx] at h3;cases h3
   | error e=>rw[hx] at h3;cases h3
theorem Pok.of {m:View} {z:Pz} (hr:Rd m [] z.ra z.R.length z.rc 3 (fl S1 z.R)) (h:Go.Ly.mayP z.R=true):Pok m z:=
 ⟨hr,Go.Ly.mayP_all h,fun x hx=>by
  unfold Go.Ly.mayP at h;split at h
  ·cases h
  ·exact d0O (Go.Ly.mayA_all h x hx).2.2⟩
theorem L6 {α β:Type} (x:α) (ts:List Tok) (i:Nat) (f:α->List Tok->PE β):E8 (.ok (x,ts)) i f=f x ts:=rfl
theorem U7 {α β:Type} (x:α) (i:Nat) (f:α->Nat->PE β):M4 (.ok (x,i)) f=f x i:=rfl
theorem Q2 {β:Type} {ts:List Tok} {i:Nat} {f:Nat->PE β} (h:ts=[]):D9 ts i f=f (i+1):=by subst h;rfl
theorem Q4 {β:Type} {ts:List Tok} {i:Nat} {f:Nat->PE β} (h:ts≠[]):D9 ts i f=.error (110,i):=by cases ts with | nil=>exact absurd rfl h | cons=>rfl
theorem a4a {β:Type} {k:Int} {s:B} {ts:List Tok} {i:Nat} {f:List Tok->PE β} (h:isM k s ts=true):U0 k s ts i f=f ts.tail:=by unfold U0;rw[h];rfl
theorem a4l {β:Type} {k:Int} {s:B} {ts:List Tok} {i:Nat} {f:List Tok->PE β} (h:isM k s ts=false):U0 k s ts i f=.error (110,i):=by unfold U0;rw[h];rfl
theorem a5X {β:Type} {R:List Rw} {d:Int} {i:Nat} {ts:List Tok} {f:List Tok->PE β} (h:a1h R d i=.ok ts):a0d R d i f=f ts:=by unfold a0d;rw[h]
theorem M1 {β:Type} {R:List Rw} {d:Int} {i:Nat} {e:Int × Nat} {f:List Tok->PE β} (h:a1h R d i=.error e):a0d R d i f=.error e:=by unfold a0d;rw[h]
theorem a3n {m:View} {z:Pz} {d:Int} {i:Nat} {ts:List Tok} (hz:Pok m z) (h:a1h z.R d i=.ok ts):(i < z.R.length/\0<=d/\d<=32)/\∃ x,z.R[i]?=some x/\x.depth=d/\ts=(lexO x.text).1:=by
 unfold a1h at h;cases hx:z.R[i]? with
 | none=>rw[hx] at h;cases h
 | some x=>
  rw[hx] at h;simp only at h;split at h
  ·cases h
  ·split at h
   ·cases h
   ·rename_i hd
    have hd:x.depth=d:=Decidable.byContradiction hd;cases h;have h1:=hz.ok.2 x (List.mem_of_getElem? hx);exact⟨⟨(List.getElem?_eq_some_iff.1 hx).1,by omega,by omega⟩,x,rfl,hd,rfl⟩
theorem c8p {m:View} {z:Pz} {d:Int} {i:Nat} {ts:List Tok} (hz:Pok m z) (h:a1h z.R d i=.ok ts):0 < ts.length:=by
 unfold a1h at h;cases hx:z.R[i]? with
 | none=>rw[hx] at h;cases h
 | some x=>
  rw[hx] at h;simp only at h;split at h
  ·cases h
  ·rename_i he
   split at h
   ·cases h
   ·cases h
    have h1:=hz.ne x (List.mem_of_getElem? hx) (Decidable.byContradiction he);exact List.length_pos_iff.2 h1
theorem a5b {R:List Rw} {d:Int} {i:Nat} (h:R.length<=i):a1h R d i=.error (110,i):=by
 unfold a1h;rw[List.getElem?_eq_none h]
theorem b0t {R:List Rw} {d:Int} {i:Nat} (h:M8 R d i=true):i < R.length:=by
 unfold M8 at h;cases hx:R[i]? with
 | none=>rw[hx] at h;cases h
 | some x=>exact(List.getElem?_eq_some_iff.1 hx).1
theorem c1i {R:List Rw} {rec:Int->Bool->Nat->PE Pr} {row:List Tok->E Gu} {least most:Nat} {d:Int} {k:Nat} {acc:List Gu} {i:Nat} (hk:R.length<=i+k) (hc:acc.length < least\/(acc.length < most/\M8 R d i=true)) :
 R5 R rec row least most d k acc i=a0d R d i fun ts=>E8 (row ts) i fun g r=>D9 r i fun i=>M4 (rec (d+1) false i) fun x i=>R5 R rec row least most d (k - 1) (acc++[a2i g x]) i:=by
 cases k with
 | zero=>
  have hl:acc.length < least:=hc.elim id fun h=>absurd (b0t h.2) (by omega)
  rw[M1 (a5b (by omega))];unfold R5;rw[if_pos hl]
 | succ k=>
  conv=>lhs;unfold R5
  rw[if_pos hc];rfl
theorem b6u {R:List Rw} {rec:Int->Bool->Nat->PE Pr} {row:List Tok->E Gu} {least most:Nat} {d:Int} {k:Nat} {acc:List Gu} {i:Nat} (hc:¬ (acc.length < least\/(acc.length < most/\M8 R d i=true))) :
 R5 R rec row least most d k acc i=.ok (acc,i):=by
 cases k with
 | zero=>
  unfold R5;rw[if_neg fun h=>hc (.inl h)]
 | succ k=>
  unfold R5;rw[if_neg hc]
theorem c2z {R:List Rw} {rec:Int->Bool->Nat->PE Pr} {d:Int} {k:Nat} {acc:List Pr} {i:Nat} (hk:R.length<=i+k) (hc:M8 R d i=true) :
 a0t R rec d k acc i=M4 (rec d false i) fun x i=>a0t R rec d (k - 1) (acc++[x]) i:=by
 cases k with
 | zero=>exact absurd (b0t hc) (by omega)
 | succ k=>
  conv=>lhs;unfold a0t
  rw[if_pos hc];rfl
theorem b8I {R:List Rw} {rec:Int->Bool->Nat->PE Pr} {d:Int} {k:Nat} {acc:List Pr} {i:Nat} (hc:M8 R d i=false):a0t R rec d k acc i=.ok (acc,i):=by
 cases k with
 | zero=>rfl
 | succ k=>unfold a0t;rw[if_neg (by rw[hc];decide)]
theorem c0P {R:List Rw} {rec:Int->Bool->Nat->PE Pr} {d:Int} {k:Nat} {ns:List Int} {acc:List Pr} {i:Nat} (hk:R.length<=i+k) (hc:acc.length=0\/(acc.length < 8/\M8 R (d+1) i=true)) :
 P5 R rec d k ns acc i=a0d R (d+1) i fun ts=>U0 2 [80,82,79,67,69,83,83,79,82] ts i fun r=>match a5I r with
  | some n=>M4 (rec (d+2) false (i+1)) fun x i=>P5 R rec d (k - 1) (ns++[n]) (acc++[x]) i
  | none=>.error (110,i):=by
 cases k with
 | zero=>
  have hl:acc.length=0:=hc.elim id fun h=>absurd (b0t h.2) (by omega)
  rw[M1 (a5b (by omega))];unfold P5;rw[if_pos hl]
 | succ k=>
  conv=>lhs;unfold P5
  rw[if_pos hc];rfl
theorem b5R {R:List Rw} {rec:Int->Bool->Nat->PE Pr} {d:Int} {k:Nat} {ns:List Int} {acc:List Pr} {i:Nat} (hc:¬ (acc.length=0\/(acc.length < 8/\M8 R (d+1) i=true))) :
 P5 R rec d k ns acc i=.ok ((ns,acc),i):=by
 cases k with
 | zero=>
  unfold P5;rw[if_neg fun h=>hc (.inl h)]
 | succ k=>
  unfold P5;rw[if_neg hc]
theorem c3W {R:List Rw} {d:Int} {k:Nat} {acc:List Vr} {i:Nat} (hk:R.length<=i+k) (hc:acc.length=0\/M8 R (d+2) i=true) :
 U3 R d k acc i=a0d R (d+2) i fun ts=>E8 (Z4 ts) i fun v r=>if Go.Ty.mayPr true (acc++[v]) then D9 r i fun i=>U3 R d (k - 1) (acc++[v]) i else .error (110,i):=by
 cases k with
 | zero=>
  have hl:acc.length=0:=hc.elim id fun h=>absurd (b0t h) (by omega)
  rw[M1 (a5b (by omega))];unfold U3;rw[if_pos hl]
 | succ k=>
  conv=>lhs;unfold U3
  rw[if_pos hc];rfl
theorem b93 {R:List Rw} {d:Int} {k:Nat} {acc:List Vr} {i:Nat} (hc:¬ (acc.length=0\/M8 R (d+2) i=true)):U3 R d k acc i=.ok (acc,i):=by
 cases k with
 | zero=>
  unfold U3;rw[if_neg fun h=>hc (.inl h)]
 | succ k=>
  unfold U3;rw[if_neg hc]
theorem c1j {R:List Rw} {rec:Int->Bool->Nat->PE Pr} {d:Int} {top:Bool} {ts:List Tok} {i:Nat} {t:Tok} {f:Int->List Tok->Nat->PE Pr} (h0:ts[0]?=some t) (hw:a09 R rec t.text=some f) (hc:t.kind=2/\(top=true\/t.text≠[80,76,65,67,69,68])):a1K R rec d top ts i=f d ts.tail i:=by
 cases ts with
 | nil=>cases h0
 | cons u r=>
  cases h0;unfold a1K;simp only[hw];rw[if_pos hc];rfl
theorem b6h {R:List Rw} {rec:Int->Bool->Nat->PE Pr} {d:Int} {top:Bool} {ts:List Tok} {i:Nat} {t:Tok} (h0:ts[0]?=some t) (hc:a09 R rec t.text=none\/¬ (t.kind=2/\(top=true\/t.text≠[80,76,65,67,69,68]))):a1K R rec d top ts i=N1 R rec d ts i:=by
 cases ts with
 | nil=>cases h0
 | cons u r=>
  cases h0;unfold a1K;cases hw:a09 R rec t.text with
  | none=>simp only[hw]
  | some f=>
   simp only[hw];rcases hc with hc | hc
   ·rw[hc] at hw;cases hw
   ·rw[if_neg hc]
structure Gs (m:View) (h:List Res) (a:Option Addr) (c:Nat) (l:List Gu):Prop where
 rd:Rd m h a l.length c 23 (fl guE l)
 ok:∀ g ∈ l,GOk m h g
 sub:∀ g ∈ l,∀ x ∈ g.bl,POk m h x
structure Ls (m:View) (h:List Res) (a:Option Addr) (c:Nat) (l:List Pr):Prop where
 rd:Rd m h a l.length c 42 (fl prE l)
 ok:∀ x ∈ l,POk m h x
structure Ns (m:View) (h:List Res) (s:Sli Int):Prop where
 rd:Rd m h s.a s.l.length s.c 1 (fl a6p s.l)
 ok:∀ x ∈ s.l,-9223372036854775808<=x/\x<=9223372036854775807
structure Ss (m:View) (h:List Res) (s:Sp):Prop where
 ok:SOk m h s
 sub:∀ x ∈ s.bl,POk m h x
structure Rs (m:View) (h:List Res) (r:Rp):Prop where
 n:r.name.length<=Big
 b:EOk m h r.base
 c:EOk m h r.count
variable {m:View} {h h':List Res}
theorem Gs.mono {a:Option Addr} {c:Nat} {l:List Gu} (q:Gs m h a c l) (s:h.Sublist h'):Gs m h' a c l:=⟨q.rd.mono Vl s,fun g hg=>(q.ok g hg).mono s,fun g hg x hx=>(q.sub g hg x hx).mono s⟩
theorem Ss.mono {x:Sp} (q:Ss m h x) (s:h.Sublist h'):Ss m h' x:=⟨q.ok.mono s,fun y hy=>(q.sub y hy).mono s⟩
theorem Rs.mono {r:Rp} (q:Rs m h r) (s:h.Sublist h'):Rs m h' r:=⟨q.n,q.b.mono s,q.c.mono s⟩
theorem a2v (m:View) (h:List Res):Gs m h none 0 []:=⟨Rd.nilF guE 23 m h,fun _ hx=>(List.not_mem_nil hx).elim,fun _ hx=>(List.not_mem_nil hx).elim⟩
theorem a5C (m:View) (h:List Res):Ls m h none 0 []:=⟨Rd.nilF prE 42 m h,fun _ hx=>(List.not_mem_nil hx).elim⟩
theorem a1v (m:View) (h:List Res):Ns m h A7:=⟨Rd.nilF a6p 1 m h,fun _ hx=>(List.not_mem_nil hx).elim⟩
theorem H6 (m:View) (h:List Res):LOk m h A7:=⟨Rd.nilF exE 6 m h,fun _ hx=>(List.not_mem_nil hx).elim⟩
theorem c1U (m:View) (h:List Res):TOk m h A0:=.mk (Rd.nilF exE 6 m h) (fun _ hx=>by cases hx)
theorem a9F (m:View) (h:List Res):EOk m h A0:=⟨c1U m h,.mk (by decide) (by decide) (by decide) (by decide) (Nat.zero_le _) fun _ hx=>(List.not_mem_nil hx).elim⟩
theorem a0J (m:View) (h:List Res):Rs m h B5:=⟨Nat.zero_le _,a9F m h,a9F m h⟩
theorem b1w (m:View) (h:List Res):Go.Ty.PrOk m h none 0 0 []:=⟨Rd.nilF Go.Ty.encV 2 m h,fun _ hx=>(List.not_mem_nil hx).elim,fun _ hx=>(List.not_mem_nil hx).elim⟩
theorem Z0 (m:View) (h:List Res):Ss m h A6:=
 ⟨⟨by decide,⟨by decide,by decide,by decide,Nat.zero_le _⟩,Rd.nilF Go.Lx.encB 1 m h,fun _ hx=>(List.not_mem_nil hx).elim,a9F m h,b1w m h,fun _ hx=>(List.not_mem_nil hx).elim,Rd.nilF foE 6 m h,fun _ hx=>(List.not_mem_nil hx).elim,Rd.nilF prE 42 m h⟩,fun _ hx=>(List.not_mem_nil hx).elim⟩
theorem a7w {k:Int} {nm:B} {ch:Ex} {tg ex:Sli Ex} {rep:Rp} {ga:Option Addr} {gc:Nat} {gl:List Gu} {la:Option Addr} {lc:Nat} {ll:List Pr} {pn:Sli Int} {sp:Sp} (hk:0<=k/\k<=255) (hn:nm.length<=Big) (hch:EOk m h ch) (ht:LOk m h tg) (he:LOk m h ex)
 (hr:Rs m h rep) (hg:Gs m h ga gc gl) (hl:Ls m h la lc ll) (hp:Ns m h pn) (hs:Ss m h sp):POk m h (.mk k nm ch tg ex rep ga gc gl la lc ll pn sp):=
 .mk ⟨hk,hn,hch,ht,he,hr.n,hr.b,hr.c,hg.rd,hg.ok,hl.rd,hp.rd,hp.ok,hs.ok⟩ fun x hx=>by
  cases hx with
  | l hx=>exact hl.ok x hx
  | s hx=>exact hs.sub x hx
  | g hq hx=>exact hg.sub _ hq x hx
end
section
open Go.Eng Go.Pc Go
open Go.Xp hiding B
open Go.Ty (Ty Vr Tok)
theorem b8U (e:Ex):B2 (B2 e)=B2 e:=by
 refine Ex.ind (p:=fun e=>B2 (B2 e)=B2 e) (fun e ih=>?_) e;rw[a1b e,a1b];show Ex.mk _ _ _ _ _ _ _ ((e.l.map B2).map B2)=_;rw[List.map_map];congr 1
 exact List.map_congr_left fun x hx=>ih x hx
theorem a2r (x w:Ex):C7 (B2 x) w=C7 x w:=by rw[Bool.eq_iff_iff,Y4,Y4,b8U]
theorem b8D (x w:Ex):C7 x (B2 w)=C7 x w:=by rw[Bool.eq_iff_iff,Y4,Y4,b8U]
theorem a5o (e:Ex):G8 (B2 e)=G8 e:=a2r e A0
theorem b7l:∀ (l pre:List Vr),Go.Ty.mayIn (pre.map a1f) (l.map a1f)=Go.Ty.mayIn pre l
 | [],_=>rfl
 | v::r,pre=>by
  have h1:Go.Ty.badV (pre.map a1f) (a1f v)=Go.Ty.badV pre v:=by
   unfold Go.Ty.badV Go.Ty.tagIn;rw[List.any_map];rfl
  have h2:=b7l r (pre++[v]);rw[List.map_append] at h2;show(if Go.Ty.badV (pre.map a1f) (a1f v) then false else Go.Ty.mayIn (pre.map a1f++[a1f v]) (r.map a1f))=if Go.Ty.badV pre v then false else Go.Ty.mayIn (pre++[v]) r
  rw[h1,<- h2];rfl
theorem b0K (cs:Bool) (l:List Vr):Go.Ty.mayPr cs (l.map a1f)=Go.Ty.mayPr cs l:=by
 unfold Go.Ty.mayPr;rw[List.length_map];have h0:(Go.Ty.hdV (l.map a1f)).tag=(Go.Ty.hdV l).tag/\(Go.Ty.hdV (l.map a1f)).items=(Go.Ty.hdV l).items:=by cases l <;> exact⟨rfl,rfl⟩
 rw[h0.1,h0.2];have h1:=b7l l [];rw[List.map_nil] at h1;rw[h1]
theorem a6a {α β:Type} (l:List α) (f:α->β) (a b:Int) (q:β->Bool) (r:α->Bool) (h:∀ x,q (f x)=r x):G2 (l.map f) a b q=G2 l a b r:=by
 unfold G2;rw[List.length_map,List.any_map];congr 2
 congr 1
 funext x
 simp[h]
theorem b9l {α:Type} (q:α->α->Bool) (f:α->α) (h:∀ x y,q (f x) (f y)=q x y):∀ (l r:List α),eqL q (l.map f) (r.map f)=eqL q l r
 | [],[]=>rfl
 | [],_::_=>rfl
 | _::_,[]=>rfl
 | x::l,y::r=>by
  show(q (f x) (f y)&&eqL q (l.map f) (r.map f))=_;rw[h,b9l q f h l r];rfl
theorem a04 (s:Sp):stS s=spM s.k s.ty s.names.l (B2 s.e) s.cs (s.vs.l.map a1f) s.fs.l (s.bl.map stP):=by
 cases s;rw[stS,a6A];rfl
theorem b3c (a b:Sp):I8 (stS a) (stS b)=I8 a b:=by
 rw[a04,a04];unfold I8;show((((((((a.k==b.k)&&Go.Ty.eqT a.ty b.ty)&&(a.names.l==b.names.l))&&C7 (B2 a.e) (B2 b.e))&&(a.cs==b.cs))&&eqL L5 (a.vs.l.map a1f) (b.vs.l.map a1f))&&eqL a0z a.fs.l b.fs.l)&&(((a.bl.map stP).length:Int)==(b.bl.map stP).length))=_;rw[a2r,b8D,b9l L5 a1f (fun _ _=>rfl),List.length_map,List.length_map]
theorem c6P (s:Sp):a1a (stS s)=stS (a1a s):=by
 rw[a04 s];unfold a1a;show(if s.k=1 then _ else if s.k=2 then _ else if s.k=3 then _ else if s.k=4 then _ else _)=_;split
 ·rw[a04];rfl
 ·split
  ·rw[a04];rfl
  ·split
   ·rw[a04];rfl
   ·split
    ·rw[a04];rfl
    ·rw[a04];rfl
theorem c7o (s:Sp):a2g (stS s)=a2g s:=by
 rw[a04 s];unfold a2g;show(if s.k=1 then Go.Ty.may s.ty else if s.k=2 then Q0 s.ty&&E9 (B2 s.e) else if s.k=3 then Q0 s.ty&&D7 (B2 s.e) else if s.k=4 then Go.Ty.mayPr s.cs (s.vs.l.map a1f) else (((s.bl.map stP).length:Int)==1)&&G2 s.fs.l 0 8 foP)=_;rw[P8,Z1,b0K,List.length_map]
theorem c9H (s:Sp):spP (stS s)=spP s:=by
 have h1:(stS s).k=s.k:=by rw[a04];rfl
 have h2:(stS s).names.l=s.names.l:=by rw[a04];rfl
 unfold spP;rw[h1,h2,c7o,c6P,b3c]
end
end Go.Sx
namespace Go.Eng
section
open Go Go.RowKit
def b4h (es:Array MapEntry) (kv:List (List UInt8 × Value)):Prop:=es.toList.map (fun x=>(x.key,x.val))=kv.map fun p=>(str p.1,p.2)
def a2Y (n:List UInt8):List (List UInt8 × Value)->Option Value
 | []=>none
 | (k,v)::r=>if n=k then some v else a2Y n r
theorem b7S {n:List UInt8}:∀ (l:List MapEntry) (kv:List (List UInt8 × Value)) (i:Nat),l.map (fun x=>(x.key,x.val))=kv.map (fun p=>(str p.1,p.2)) ->
 (a2Y n kv=none/\Instr.findNow .string (str n) l i=some none)\/∃ j v,a2Y n kv=some v/\Instr.findNow .string (str n) l i=some (some (i+j,v))
 | [],[],_,_=>.inl ⟨rfl,rfl⟩
 | [],_::_,_,h=>by cases h
 | _::_,[],_,h=>by cases h
 | e::l,(k,v)::kv,i,h=>by
  simp only[List.map_cons,List.cons.injEq,Prod.mk.injEq] at h;obtain⟨⟨hk,hv⟩,h⟩:=h;by_cases hn:n=k
  ·subst hn
   refine .inr ⟨0,v,by simp[a2Y],?_⟩;simp[Instr.findNow,hk,Instr.sameNow,b5t,hv]
  ·have hb:((⟨n.toArray⟩:ByteArray)==⟨k.toArray⟩)=false:=c7Y hn
   have e1:Instr.findNow .string (str n) (e::l) i=Instr.findNow .string (str n) l (i+1):=by
    simp[Instr.findNow,hk,Instr.sameNow,hb]
   have e2:a2Y n ((k,v)::kv)=a2Y n kv:=by simp[a2Y,hn]
   rw[e1,e2];rcases b7S l kv (i+1) h with h1 | ⟨j,v,h1,h2⟩
   ·exact .inl h1
   ·exact .inr ⟨j+1,v,h1,by rw[h2];congr 3;omega⟩
section
variable {P:Program} {ops:Array Oper} {Q:Exit->Act->World->Prop} {n:Cx} {F:Fm} {h h':List Res} {m:View} {rest:List Oper}
variable {ty:TypeId} {pos:String} {after:Array Edge} {dst:Option Tmp} {g:Option (Nat × Bool)} {d:Nat}
theorem b7w (w:World) {t kt et:TypeId} {b:Nat} {es:Array MapEntry} {clock:Nat} {kv:List (List UInt8 × Value)} {x:List UInt8} {v:Value} (ht:P.underlying t=some (.map kt et)) (hk:P.underlying kt=some (.string)) (hM:b4h es kv) (hx:a2Y x kv=none)
 (hb:w.heap[b]?=some (.map es clock)):∃ es' clock',b4h es' (kv++[(x,v)])/\(Instr.mapUpdate t (.map (some b)) (str x) v).run P w=.ok () { w with heap:=w.heap.setIfInBounds b (.map es' clock') }:=by
 have hck:(Instr.checkKey false 10000 kt (str x)).run P w=.ok () w:=by
  unfold Instr.checkKey;simp[run_underlying hk]
 have hget:(getObj b).run P w=.ok (.map es clock) w:=by simp[getObj,Sem.run,hb]
 have hset:∀ o,(setObj b o).run P w=.ok () { w with heap:=w.heap.setIfInBounds b o }:=fun o=>by simp[setObj,Sem.run,hb]
 rcases b7S (n:=x) es.toList kv 0 hM with ⟨h1,h2⟩ | ⟨j,v,h1,h2⟩
 ·refine⟨es.push { key:=str x,val:=v,born:=clock },clock+1,?_,?_⟩
  ·unfold b4h at hM ⊢
   simp[hM]
  ·simp[Instr.mapUpdate,run_underlying ht,hget,hck,Instr.findKey,run_underlying hk,h2,hset]
 ·rw[hx] at h1;cases h1
theorem W0 {op:Op} {x y z:Operand} {t kt et:TypeId} {b:Nat} {es:Array MapEntry} {clock:Nat} {kv:List (List UInt8 × Value)} {i:List UInt8} {v:Value} {hq:Array MapEntry->Nat->List Res} (hop:op=.mapUpdate t x y z\/op=.insert t x y z) (ht:P.underlying t=some (.map kt et)) (hk:P.underlying kt=some (.string)) (hM:b4h es kv) (hi:a2Y i kv=none)
 (ex:Ev n F x (.map (some b))) (ey:Ev n F y (str i)) (ez:Ev n F z v) (u:∀ es' c',Upd h (.pt b (.map es clock)) (.pt b (.map es' c')) (hq es' c')) (k:∀ es' c',b4h es' (kv++[(i,v)])->WL P ops Q n rest F (hq es' c') m) :
 WL P ops Q n (⟨none,op,ty,pos,after,none⟩::rest) F h m:=.mk fun a w ha hs=>by
 obtain⟨es',c',h1,h2⟩:=b7w (P:=P) w (x:=i) (v:=v) ht hk hM hi (hs.ok _ (u es clock).mem);have hrun:(execOp a.eval ⟨none,op,ty,pos,after,none⟩).run P w=.ok .skip { w with heap:=w.heap.setIfInBounds b (.map es' c') }:=by
  rcases hop with rfl | rfl <;> simp[execOp,ex a ha,ey a ha,ez a ha,h2]
 exact J9 rfl (b2r hrun (k es' c' h1 _ _ ha (hs.setObj (u es' c'))))
theorem b8o {x y:Operand} {t kt et:TypeId} {b:Nat} {es:Array MapEntry} {clock:Nat} {kv:List (List UInt8 × Value)} {i:List UInt8} {z:Value} (ht:P.underlying t=some (.map kt et)) (hk:P.underlying kt=some (.string)) (hz:(P.info? et).bind (·.zero)=some z) (hM:b4h es kv)
 (ex:Ev n F x (.map (some b))) (ey:Ev n F y (str i)) (hm:Res.pt b (.map es clock) ∈ h):PO P ⟨dst,.lookup t x y true,ty,pos,after,g⟩ n F h m (.tuple #[(a2Y i kv).getD z,.bool (a2Y i kv).isSome]):=.mk fun a w ha hs=>by
 have hb:w.heap[b]?=some (.map es clock):=hs.ok _ hm;have hck:(Instr.checkKey es.isEmpty 10000 kt (str i)).run P w=.ok () w:=by
  unfold Instr.checkKey;simp[run_underlying hk]
 have hget:(getObj b).run P w=.ok (.map es clock) w:=by simp[getObj,Sem.run,hb]
 have hzr:(zeroValue et).run P w=.ok z w:=by
  cases hi:P.info? et with
  | none=>simp[hi] at hz
  | some j=>
   have:j.zero=some z:=by simpa [hi] using hz
   simp[zeroValue,typeInfo,hi,this]
 rcases b7S (n:=i) es.toList kv 0 hM with ⟨h1,h2⟩ | ⟨j,v,h1,h2⟩
 ·simp[execOp,ex a ha,ey a ha,Instr.lookup,run_underlying ht,hget,hck,Instr.findKey,run_underlying hk,h1,h2,hzr]
 ·simp[execOp,ex a ha,ey a ha,Instr.lookup,run_underlying ht,hget,hck,Instr.findKey,run_underlying hk,h1,h2]
theorem d2D {fn:Func} {ex:Exit} {m0:View} {R:Value->View->List Res->Prop} {r r':ResultVar} {v v':Value} {q:FuncId} {cap:List Value} (hex:ex=.ret\/ex=.normal) (hds:n.ds=[b2O q cap]) (he:∀ as w,(callFunc q as).run P w=.ok (.enter q as) w)
 (hd:b2M P q cap .returning m h h) (hfn:fn.results=#[r,r']) (x1:RV P n F h m r v) (x2:RV P n F h m r' v') (hle:m0.le m) (hsub:h'.Sublist h) (hR:R (.tuple #[v,v']) m h') :
 ∀ a w,Fr n F a->St m h w->bodyPostD P fn (RQ m0 R) ex a w:=fun a w ha hs=>by
 have key:Leaves P fn a.tmps (RQ m0 R) a.defers .returning w:=by
  rw[ha.d,hds];refine b4z he (by simp) hd hs fun w' hs'=>⟨.tuple #[v,v'],?_,_,m,h',rfl,hle,hs'.sub hsub,hR⟩
  have h1:=x1.e a w' ha hs';have h2:=x2.e a w' ha hs';simp[a1t,hfn,h1,h2]
 rcases hex with rfl | rfl <;> exact key
theorem d2R {fn:Func} {m0:View} {R:Value->View->List Res->Prop} {r r':ResultVar} {v v' u:Value} {q:FuncId} {cap:List Value} {h2:List Res} (hds:n.ds=[b2O q cap]) (he:∀ as w,(callFunc q as).run P w=.ok (.enter q as) w)
 (hd:b2M P q cap (.panicking [{ v:=u,recovered:=false }]) m h h2) (hfn:fn.results=#[r,r']) (x1:RV P n F h2 m r v) (x2:RV P n F h2 m r' v') (hle:m0.le m) (hsub:h'.Sublist h2) (hR:R (.tuple #[v,v']) m h') :
 ∀ a w,Fr n F a->St m h w->bodyPostD P fn (RQ m0 R) (.panic [{ v:=u,recovered:=false }]) a w:=fun a w ha hs=>by
 show Leaves P fn a.tmps (RQ m0 R) a.defers (.panicking [{ v:=u,recovered:=false }]) w;rw[ha.d,hds];refine b4z he (by simp) hd hs fun w' hs'=>⟨.tuple #[v,v'],?_,_,m,h',rfl,hle,hs'.sub hsub,hR⟩
 have h1:=x1.e a w' ha hs';have h2:=x2.e a w' ha hs';simp[a1t,hfn,h1,h2]
end
end
end Go.Eng
namespace Go.Sx
section
open Go.Eng Go.Pc Go
open Go.Xp hiding B
open Go.Ty (Ty Vr Tok)
open Go.Ly (Rw)
def Er {α:Type} (r:E α):Prop:=∀ e,r=.error e->e=110
theorem a0S {α:Type} {x:α × List Tok}:Er (.ok x):=nofun
theorem a7x {α:Type}:Er (.error 110:E α):=fun e h=>by cases h;rfl
theorem X7 {α β:Type} {r:E α} {f:α->List Tok->E β} (h:Er r) (hf:∀ x ts,Er (f x ts)):Er (M7 r f):=by
 cases r with
 | ok x=>exact hf x.1 x.2
 | error e=>rw[h e rfl];exact a7x
theorem a6J {β:Type} {k:Int} {s:B} {ts:List Tok} {f:List Tok->E β} (h:∀ r,Er (f r)):Er (U9 k s ts f):=by
 unfold U9;split
 ·exact h _
 ·exact a7x
theorem a2F {α:Type} {c:Prop} [Decidable c] {a b:E α} (ha:Er a) (hb:Er b):Er (if c then a else b):=by
 split
 ·exact ha
 ·exact hb
theorem a3j (ts:List Tok):Er (U5 ts):=by rw[b6y];exact a2F a0S a7x
theorem a08 (ts:List Tok):Er (H3 ts):=by rw[b5y];exact a2F a0S a7x
theorem a7c (ts:List Tok):Er (F6 ts):=by rw[a9L];exact a2F (X7 (a08 ts) fun _ _=>a2F a0S a7x) a7x
theorem b4v (ts:List Tok):Er (a4H ts):=a2F a0S a7x
theorem c0a (ts:List Tok):Er (a1D ts):=X7 (b4v ts) fun _ _=>a2F a0S a7x
theorem c0x (ts:List Tok):Er (W8 ts):=X7 (b4v _) fun _ _=>X7 (a3j _) fun _ _=>a2F a0S a7x
theorem c0e {α:Type} {take:List Tok->E α} {sep:B} (h:∀ ts,Er (take ts)):∀ (n:Nat) (acc:List α) (ts:List Tok),Er (a0N take sep n acc ts)
 | 0,_,_=>a2F a7x a0S
 | n+1,_,_=>a2F (X7 (h _) fun _ _=>c0e h n _ _) a0S
theorem a3R {α:Type} {take:List Tok->E α} {sep:B} {most:Nat} {ts:List Tok} (h:∀ ts,Er (take ts)):Er (M0 take sep most ts):=X7 (h _) fun _ _=>c0e h _ _ _
theorem c9q {α:Type} {take:List Tok->E α} {ts:List Tok} (h:∀ ts,Er (take ts)):Er (brM take ts):=a6J fun _=>a2F a0S (X7 (a3R h) fun _ _=>a6J fun _=>a0S)
theorem c3A (ts:List Tok):Er (a8P ts):=a2F a0S (X7 (a3j _) fun _ _=>a6J fun _=>X7 (a08 _) fun _ _=>a6J fun _=>X7 (a08 _) fun _ _=>a0S)
theorem d1n (ts:List Tok):Er (ifM ts):=X7 (a08 _) fun _ _=>a0S
theorem c0d (c:Ex) (ts:List Tok):Er (a3K c ts):=X7 (a7c _) fun _ _=>a6J fun _=>a2F (X7 (a08 _) fun _ _=>a0S) (X7 (a3R a7c) fun _ _=>a0S)
theorem c3h (ts:List Tok):Er (a2l ts):=a2F (X7 (a08 _) fun _ _=>a6J fun _=>a2F a0S (c0d _ _)) (c0d _ _)
theorem d1i (ts:List Tok):Er (a7M ts):=a2F a0S (X7 (a3R a08) fun _ _=>a0S)
theorem d1a (ts:List Tok):Er (a7Q ts):=X7 (a3j _) fun _ _=>a2F (X7 (a3R a7c) fun _ _=>a0S) a0S
theorem b8y (ts:List Tok):Er (Z4 ts):=X7 (a3j _) fun _ _=>a2F (X7 (a3R c0a) fun _ _=>a0S) a0S
def Ep {α:Type} (r:PE α):Prop:=∀ e j,r=.error (e,j)->e≠0
theorem U1 {α:Type} {x:α × Nat}:Ep (.ok x):=nofun
theorem a4f {α:Type} {i:Nat}:Ep (.error (110,i):PE α):=fun e j h=>by cases h;decide
theorem a05 {α β:Type} {r:PE α} {f:α->Nat->PE β} (h:Ep r) (hf:∀ x i,Ep (f x i)):Ep (M4 r f):=by
 cases r with
 | ok x=>exact hf x.1 x.2
 | error e=>exact fun a j q=>h a j (by cases q;rfl)
theorem O6 {α β:Type} {r:E α} {i:Nat} {f:α->List Tok->PE β} (h:Er r) (hf:∀ x ts,Ep (f x ts)):Ep (E8 r i f):=by
 cases r with
 | ok x=>exact hf x.1 x.2
 | error e=>rw[h e rfl];exact a4f
theorem Y2 {α:Type} {c:Prop} [Decidable c] {a b:PE α} (ha:Ep a) (hb:Ep b):Ep (if c then a else b):=by
 split
 ·exact ha
 ·exact hb
theorem N0 {β:Type} {ts:List Tok} {i:Nat} {f:Nat->PE β} (h:∀ i,Ep (f i)):Ep (D9 ts i f):=Y2 (h _) a4f
theorem a4h {β:Type} {k:Int} {s:B} {ts:List Tok} {i:Nat} {f:List Tok->PE β} (h:∀ r,Ep (f r)):Ep (U0 k s ts i f):=Y2 (h _) a4f
variable {R:List Rw}
theorem a8G {β:Type} {d:Int} {i:Nat} {f:List Tok->PE β} (h:∀ r,Ep (f r)):Ep (a0d R d i f):=by
 unfold a0d a1h;cases hx:R[i]? with
 | none=>exact a4f
 | some x=>
  simp only;split
  ·rename_i h1
   split at h1
   ·cases h1
   ·split at h1
    ·cases h1
    ·exact h _
  ·rename_i h1
   split at h1
   ·rename_i he
    cases h1;exact fun a j q=>by cases q;exact he
   ·split at h1
    ·cases h1;exact a4f
    ·cases h1
theorem b4p {β:Type} {d k:Int} {s:B} {i:Nat} {f:Nat->PE β} (h:∀ i,Ep (f i)):Ep (a1N R d k s i f):=a8G fun _=>a4h fun _=>N0 h
variable {rec:Int->Bool->Nat->PE Pr} (hr:∀ d t i,Ep (rec d t i))
include hr
theorem a7q {row:List Tok->E Gu} (hw:∀ ts,Er (row ts)) {least most:Nat} {d:Int}:∀ (k:Nat) (acc:List Gu) (i:Nat),Ep (R5 R rec row least most d k acc i)
 | 0,_,_=>Y2 a4f U1
 | k+1,_,_=>Y2 (a8G fun _=>O6 (hw _) fun _ _=>N0 fun _=>a05 (hr _ _ _) fun _ _=>a7q hw k _ _) U1
theorem b5I {d:Int}:∀ (k:Nat) (acc:List Pr) (i:Nat),Ep (a0t R rec d k acc i)
 | 0,_,_=>U1
 | k+1,_,_=>Y2 (a05 (hr _ _ _) fun _ _=>b5I k _ _) U1
theorem b3I {d:Int}:∀ (k:Nat) (ns:List Int) (acc:List Pr) (i:Nat),Ep (P5 R rec d k ns acc i)
 | 0,_,_,_=>Y2 a4f U1
 | k+1,_,_,_=>Y2 (a8G fun _=>a4h fun r=>by
  cases a5I r with
  | none=>exact a4f
  | some n=>exact a05 (hr _ _ _) fun _ _=>b3I k _ _ _) U1
omit hr in
theorem b3A {d:Int}:∀ (k:Nat) (acc:List Vr) (i:Nat),Ep (U3 R d k acc i)
 | 0,_,_=>Y2 a4f U1
 | k+1,_,_=>Y2 (a8G fun _=>O6 (b8y _) fun _ _=>Y2 (N0 fun _=>b3A k _ _) a4f) U1
omit hr in
theorem c2C {d:Int} {ts:List Tok} {i:Nat}:Ep (a5A R d ts i):=
 Y2 (O6 (a3R c0a) fun _ _=>a4h fun _=>N0 fun _=>U1) (N0 fun _=>b4p fun _=>a05 (b3A _ _ _) fun _ _=>b4p fun _=>U1)
omit hr in
theorem b4Q {s:Sp} {ts:List Tok} {i:Nat}:Ep (a7v s ts i):=a4h fun _=>Y2 (N0 fun _=>U1) a4f
theorem c8P {d:Int} {ts:List Tok} {i:Nat}:Ep (W2 R rec d ts i):=
 Y2 (O6 (a3j _) fun _ _=>a05 c2C fun _ _=>U1)
  (Y2 (O6 (a3j _) fun _ _=>O6 (c9q c0x) fun _ _=>N0 fun _=>a05 (hr _ _ _) fun _ _=>b4p fun _=>U1)
   (Y2 (O6 (b4v _) fun _ _=>O6 (a3j _) fun _ _=>a4h fun _=>O6 (a08 _) fun _ _=>b4Q)
    (Y2 (O6 (b4v _) fun _ _=>O6 (a3R a3j) fun _ _=>Y2 (O6 (a7c _) fun _ _=>b4Q) b4Q) U1)))
theorem b3l {k:Int} {d:Int} {ts:List Tok} {i:Nat}:Ep (a1X R rec k d ts i):=
 O6 (c3A _) fun _ _=>N0 fun _=>Y2 (a05 (hr _ _ _) fun _ _=>U1) (a05 (b5I hr _ _ _) fun _ _=>U1)
theorem a8Y {k:Int} {row:List Tok->E Gu} (hw:∀ ts,Er (row ts)) {d:Int} {ts:List Tok} {i:Nat}:Ep (V6 R rec k row d ts i):=
 O6 (c3A _) fun _ _=>N0 fun _=>a05 (a7q hr hw _ _ _) fun _ _=>U1
theorem b3N {d:Int} {ts:List Tok} {i:Nat}:Ep (N1 R rec d ts i):=
 Y2 (O6 (a3j _) fun _ _=>O6 (c9q a08) fun _ _=>N0 fun _=>U1)
  (O6 (a3R a7c) fun _ _=>Y2 (O6 (a3R a08) fun _ _=>N0 fun _=>U1) (Y2 a4f (Y2 (O6 (a3R a08) fun _ _=>N0 fun _=>U1)
   (a4h fun _=>Y2 (N0 fun _=>a05 (a7q hr d1a _ _ _) fun _ _=>U1) (Y2 (O6 (a08 _) fun _ _=>N0 fun _=>U1) (O6 (a3R a7c) fun _ _=>N0 fun _=>U1))))))
theorem c8e {s:B} {f:Int->List Tok->Nat->PE Pr} (h:a09 R rec s=some f) (d:Int) (ts:List Tok) (i:Nat):Ep (f d ts i):=by
 unfold a09 at h;split at h
 ·cases h;exact N0 fun _=>U1
 split at h
 ·cases h;exact N0 fun _=>U1
 split at h
 ·cases h;exact b3l hr
 split at h
 ·cases h;exact b3l hr
 split at h
 ·cases h;exact Y2 (N0 fun _=>a05 (hr _ _ _) fun _ _=>a05 (hr _ _ _) fun _ _=>U1) (a4h fun _=>a8Y hr c3h)
 split at h
 ·cases h;exact a8Y hr c3h
 split at h
 ·cases h;exact a8Y hr d1n
 split at h
 ·cases h;exact O6 (a08 _) fun _ _=>N0 fun _=>a05 (a7q hr d1i _ _ _) fun _ _=>U1
 split at h
 ·cases h;exact O6 (a08 _) fun _ _=>N0 fun _=>a05 (hr _ _ _) fun _ _=>U1
 split at h
 ·cases h;exact a4h fun _=>N0 fun _=>a05 (b3I hr _ _ _ _) fun _ _=>U1
 ·cases h
theorem c7j {d:Int} {top:Bool} {ts:List Tok} {i:Nat}:Ep (a1K R rec d top ts i):=by
 cases ts with
 | nil=>exact a4f
 | cons t r=>
  unfold a1K;cases hw:a09 R rec t.text with
  | none=>simp only[hw];exact b3N hr
  | some f=>simp only[hw];exact Y2 (c8e hr hw _ _ _) (b3N hr)
theorem c8B {d:Int} {top:Bool} {i:Nat}:Ep (b00 R rec d top i):=a8G fun _=>a05 (c8P hr) fun so _=>by
 cases so with
 | none=>exact c7j hr
 | some s=>exact a05 (hr _ _ _) fun _ _=>U1
omit hr in
theorem b0T:∀ (n:Nat) (d:Int) (t:Bool) (i:Nat),Ep (A4 R n d t i)
 | 0,_,_,_=>a4f
 | n+1,_,_,_=>c8B (b0T n)
omit hr in
theorem d0F:Ep (b0f R):=a05 (b0T _ _ _ _) fun _ i=>by
 cases R[i]? with
 | none=>exact U1
 | some y=>
  show Ep (.error (if (Go.Lx.lexO y.text).2.2≠0 then (Go.Lx.lexO y.text).2.2 else 110,i));intro e j h;cases h;split
  ·assumption
  ·decide
end
section
open Go.Eng Go.Pc Go
open Go.Xp hiding B
open Go.Ty (Ty Vr Tok)
open Go.Ly (Rw)
def A2 (s:B):Tok:=if Go.Lx.key s then ⟨2,0,s,0⟩ else ⟨5,0,s,0⟩
def G5 (s:B):Tok:=⟨1,0,s,0⟩
def G1 (t:Ty):List Tok:=(Go.Ty.tokens t).1
def Y0 (k:Int):List Tok:=G1 ⟨k,0,0,[]⟩
def B7 {α:Type} (sep:B) (f:α->List Tok):List α->List Tok
 | []=>[]
 | [x]=>f x
 | x::y::r=>f x++⟨5,0,sep,0⟩::B7 sep f (y::r)
theorem a3E {α:Type} (sep:B) (f:α->List Tok):∀ (l:List α) (x:α),l≠[]->B7 sep f (l++[x])=B7 sep f l++(⟨5,0,sep,0⟩::f x)
 | [],_,h=>absurd rfl h
 | [y],x,_=>rfl
 | y::z::r,x,_=>by
  show f y++⟨5,0,sep,0⟩::B7 sep f (z::r++[x])=(f y++⟨5,0,sep,0⟩::B7 sep f (z::r))++(⟨5,0,sep,0⟩::f x);rw[a3E sep f (z::r) x (by simp)];simp
def a1R (s:B) (l:List Tok):List Tok:=if l.length=0 then [] else A2 s::l
def a02 (r:Rp):List Tok:=if r.name=[] then [] else ((([G5 r.name]++[A2 [61]])++B8 r.base)++[A2 [70,79,82]])++B8 r.count
def J6 (f:Fo):List Tok:=((if f.val then [A2 [86,65,76]] else [])++G1 f.ty)++[G5 f.name]
abbrev Ln:=Int × List Tok
def A3 (k:Int) (n:B) (ch:Ex) (tg ex:List Ex) (rep:Rp):List Tok:=
 if k=1 then [A2 [83,75,73,80]]
 else if k=2 then [A2 [83,84,79,80]]
 else if k=3 then (B7 [44] B8 tg++[A2 [58,61]])++B7 [44] B8 ex
 else if k=4 then (B8 ch++[A2 [63]])++B7 [59] B8 tg
 else if k=5 then (B8 ch++[A2 [33]])++B7 [59] B8 ex
 else if k=6 then (B8 ch++[A2 [63],A2 [65,70,84,69,82]])++B7 [] B8 ex
 else if k=7 then B8 ch++[A2 [63],A2 [67,65,83,69]]
 else if k=8 then [A2 [83,69,81]]++a02 rep
 else if k=9 then [A2 [80,65,82]]++a02 rep
 else if k=10 then [A2 [80,82,73],A2 [80,65,82]]
 else if k=11 then [A2 [80,76,65,67,69,68],A2 [80,65,82]]
 else if k=12 then [A2 [65,76,84]]++a02 rep
 else if k=13 then [A2 [80,82,73],A2 [65,76,84]]++a02 rep
 else if k=14 then [A2 [73,70]]++a02 rep
 else if k=15 then [A2 [67,65,83,69]]++B7 [] B8 ex
 else if k=16 then [A2 [87,72,73,76,69]]++B7 [] B8 ex
 else (([G5 n]++[A2 [40]])++B7 [44] B8 ex)++[A2 [41]]
def a0b (c:Ex):List Tok:=if G8 c then [] else B8 c++[⟨5,0,[38],0⟩]
def F7 (k:Int) (n:B) (cond ch:Ex) (tg vl:List Ex) (time:Ex):List Tok:=
 if k=1 then B8 cond
 else if k=2 then a0b cond++[A2 [83,75,73,80]]
 else if k=3 then ((a0b cond++B8 ch)++[A2 [63]])++B7 [59] B8 tg
 else if k=4 then ((a0b cond++B8 ch)++[A2 [63],A2 [65,70,84,69,82]])++B8 time
 else if k=5 then B7 [44] B8 vl
 else if k=6 then [A2 [69,76,83,69]]
 else [G5 n]++a1R [59] (B7 [59] B8 tg)
def I9 (l:List B):List Tok:=B7 [44] (fun s=>[G5 s]) l
def G9 (v:Vr):List Tok:=[G5 v.tag]++a1R [59] (B7 [59] Y0 v.items)
mutual
def A8:Pr->Int->List Ln
 | .mk k n ch tg ex rep _ _ gl _ _ ll pn sp,d=>if k=18 then F5 sp d++a0V ll d else (d,A3 k n ch tg.l ex.l rep)::(F4 k pn.l ll d++C9 gl (d+1))
def a0V:List Pr->Int->List Ln
 | [],_=>[]
 | x::_,d=>A8 x d
def F4 (k:Int):List Int->List Pr->Int->List Ln
 | _,[],_=>[]
 | ns,x::r,d=>(if k=11 then (d+1,[A2 [80,82,79,67,69,83,83,79,82],⟨3,0,[],IntKind.i32.wrap (ns.headD 0)⟩])::A8 x (d+2) else A8 x (d+1))++F4 k ns.tail r d
def V1:Gu->Int->List Ln
 | .mk k n cond ch tg vl time _ _ bl,d=>(d,F7 k n cond ch tg.l vl.l time)::a0V bl (d+1)
def C9:List Gu->Int->List Ln
 | [],_=>[]
 | g::r,d=>V1 g d++C9 r d
def F5:Sp->Int->List Ln
 | .mk k ty ns e cs vs fs _ _ bl,d=>
  if k=1 then [(d,(G1 ty++I9 ns.l)++[A2 [58]])]
  else if k=2 then [(d,(((([A2 [86,65,76]]++G1 ty)++I9 ns.l)++[A2 [73,83]])++B8 e)++[A2 [58]])]
  else if k=3 then [(d,(((G1 ty++I9 ns.l)++[A2 [73,83]])++B8 e)++[A2 [58]])]
  else if k=5 then (d,((([A2 [80,82,79,67]]++I9 ns.l)++[A2 [40]])++B7 [44] J6 fs.l)++[A2 [41]])::(a0V bl (d+1)++[(d,[A2 [58]])])
  else if cs=false then [(d,((([A2 [80,82,79,84,79,67,79,76]]++I9 ns.l)++[A2 [73,83]])++B7 [59] Y0 (Go.Ty.hdV vs.l).items)++[A2 [58]])]
  else (d,[A2 [80,82,79,84,79,67,79,76]]++I9 ns.l)::(d+1,[A2 [67,65,83,69]])::(vs.l.map (fun v=>((d+2,G9 v):Ln))++[(d,[A2 [58]])])
end
abbrev Ps:=List Rw × Bool
def D2 (st:Ps) (x:Ln):Ps:=if (Go.Lx.textO x.2).2≠0\/st.1.length > 2048 then (st.1,true) else (st.1++[⟨st.1.length+1,x.1,(Go.Lx.textO x.2).1⟩],st.2)
def C3 (st:Ps) (l:List Ln):Ps:=l.foldl D2 st
theorem a1L (st:Ps) (a b:List Ln):C3 st (a++b)=C3 (C3 st a) b:=List.foldl_append
theorem a1u (st:Ps) (x:Ln) (b:List Ln):C3 st (x::b)=C3 (D2 st x) b:=rfl
def S7 (p:Pr):List Rw × Int:=if mayP p then (if (C3 ([],false) (A8 p 0)).2||!Go.Ly.mayP (C3 ([],false) (A8 p 0)).1 then ([],3) else ((C3 ([],false) (A8 p 0)).1,0)) else ([],2)
end
end Go.Sx
namespace Go.Eng
section
open Go Go.RowKit
section
variable {P:Program} {ops:Array Oper} {Q:Exit->Act->World->Prop} {n:Cx} {F:Fm} {h h':List Res} {m:View} {rest:List Oper}
variable {ty:TypeId} {pos:String} {after:Array Edge} {d:Nat}
theorem c5a {x y:Operand} {t tn e:TypeId} {sz by_ q:Nat} {kn kq:IntKind} {j:Int} (E:EL P t e sz by_) (htn:P.underlying tn=some (.int kn)) (ex:Ev n F x (.slice none 0 0)) (ey:Ev n F y (.int kq j)) (hj:j=(q:Int)) (h0:0 < q) (hb:q * by_<=140737488355328) (h63:q<=4611686018427387904) (hd:d < n.num)
 (kk:∀ b cap,q<=cap->cap<=9223372036854775807->WL P ops Q n rest ((d,.slice (some ⟨b,0,none⟩) q cap)::F) (.row (.slice (some ⟨b,0,none⟩) 0 cap) e sz 0 []::h) m) :
 WL P ops Q n (⟨some d,.call ⟨.builtin .append,#[x,y],#[t,tn]⟩,ty,pos,after,none⟩::rest) F h m:=.mk fun f w hf hs=>by
 subst hj;obtain⟨i,z,ht,hi,hz,hsize,hby,hzs,hsz⟩:=E.ex;subst hsize hby
 have hr:=Lib.run_append_grow_zeros (P:=P) w t tn ty e i z kq kn ht htn hi hz none 0 0 [] (run_firstCells_none w.drew i.size 0 0 0) q h0 hsz (by omega) (by omega) (by omega) (growslice_fits (by omega) (by rw[Nat.zero_add];exact hb));simp only[Nat.zero_add] at hr;have hge:=grownCap_ge w q 0 e;have hcm:grownCap w q 0 e<=maxLen:=grownCap_le_maxLen w q 0 e (by unfold maxLen;omega);refine J9 rfl (S8 (v:=.slice (some ⟨w.heap.size,0,none⟩) q (grownCap w q 0 e)) (w':=w.drew.alloc (.cells (([]:List Value).toArray++Builtin.zeroCells z.cells q++Builtin.zeroCells z.cells (grownCap w q 0 e - q)) e)) ?_ (kk w.heap.size (grownCap w q 0 e) hge (by unfold maxLen at hcm;omega) _ _ (hf.put hd _) ?_))
 ·simp at hr
  simp[execOp,resolve,invoke,builtin,ex f hf,ey f hf,hr]
 ·refine(hs.drew.alloc (.cells (([]:List Value).toArray++Builtin.zeroCells z.cells q++Builtin.zeroCells z.cells (grownCap w q 0 e - q)) e)).conv (r':=.row (.slice (some ⟨w.heap.size,0,none⟩) 0 (grownCap w q 0 e)) e i.size 0 []) Upd.here rfl fun hh=>?_
  have:=a8M (sz:=i.size) (n:=0) (cap:=grownCap w q 0 e) hh (Nat.zero_le _) hcm (by
   simp only[Array.size_append,List.size_toArray,size_zeroCells,hzs,List.length_nil,Nat.zero_add,<- Nat.add_mul];congr 1
   omega)
  rw[Nat.zero_mul,List.take_zero] at this;exact this
theorem b7z {x:Operand} {t:TypeId} {e:TypeId} {a:Option Addr} {l c:Nat} {dst:Option Tmp} {g:Option (Nat × Bool)} (ht:P.underlying t=some (.slice e)) (ex:Ev n F x (.slice a l c)) :
 PO P ⟨dst,.call ⟨.builtin .cap,#[x],#[t]⟩,ty,pos,after,g⟩ n F h m (.int .i64 c):=.mk fun b w ha _=>by
 simp[execOp,resolve,invoke,builtin,ex b ha,Builtin.cap_,run_underlying ht,goInt]
end
end
end Go.Eng
namespace Go.Sx
section
open Go.Eng Go.Pc Go
open Go.Xp hiding B D3
open Go.Ty (Ty Vr Tok)
theorem b1c (p:Pr):(stP p).k=p.k/\(stP p).name=p.name/\(stP p).ch=B2 p.ch/\(stP p).tg.l=p.tg.l.map B2/\(stP p).ex.l=p.ex.l.map B2/\(stP p).rep=stR p.rep/\(stP p).gl=p.gl.map stG/\(stP p).ll=p.ll.map stP/\(stP p).pn.l=p.pn.l/\(stP p).sp=stS p.sp:=by
 cases p;refine⟨rfl,rfl,rfl,rfl,rfl,rfl,?_,?_,rfl,rfl⟩
 ·exact b2h _
 ·exact a6A _
theorem b6w (g:Gu):(stG g).k=g.k/\(stG g).name=g.name/\(stG g).cond=B2 g.cond/\(stG g).ch=B2 g.ch/\(stG g).tg.l=g.tg.l.map B2/\(stG g).vl.l=g.vl.l.map B2/\(stG g).time=B2 g.time/\(stG g).bl=g.bl.map stP:=by
 cases g;exact⟨rfl,rfl,rfl,rfl,rfl,rfl,rfl,a6A _⟩
theorem b9I (s:Sp):(stS s).k=s.k/\(stS s).ty=s.ty/\(stS s).names.l=s.names.l/\(stS s).e=B2 s.e/\(stS s).cs=s.cs/\(stS s).vs.l=s.vs.l.map a1f/\(stS s).fs.l=s.fs.l/\(stS s).bl=s.bl.map stP:=by
 rw[a04];exact⟨rfl,rfl,rfl,rfl,rfl,rfl,rfl,rfl⟩
theorem d35 (g:Gu):guP (stG g)=guP g:=by
 obtain⟨h1,h2,h3,h4,h5,h6,h7,h8⟩:=b6w g;unfold guP a4O;rw[h1,h2,h3,h4,h5,h6,h7,h8,List.length_map,a5o,a5o,a5o,P8,P8,Z1,a6a _ B2 _ _ D7 D7 Z1,a6a _ B2 _ _ E9 E9 P8]
theorem d2O (u:Us) (g:Gu):inG u (stG g)=inG u g:=by
 unfold inG;rw[d35,(b6w g).1]
theorem d2B:stS A6=A6:=by
 rw[a04];have:B2 A0=A0:=by rw[a1b];rfl
 show spM 0 Go.Ty.zeroT [] (B2 A0) false [] [] []=A6;rw[this];rfl
theorem b3d (p:Pr) (u:Us):L8 (stP p) u=L8 p u:=by
 obtain⟨h1,h2,h3,h4,h5,h6,h7,h8,h9,h10⟩:=b1c p;unfold L8;rw[h2,h3,h4,h5,h7,h8,h9,h10,List.length_map,a5o,Z1,a6a _ B2 _ _ D7 D7 Z1,a6a _ B2 _ _ E9 E9 P8,a6a _ stG _ _ (inG u) (inG u) (d2O u),c9H];have:I8 (stS p.sp) A6=I8 p.sp A6:=by
  have:=b3c p.sp A6;rwa [d2B] at this
 rw[this]
theorem c4V (p:Pr):N5 (stP p)=N5 p:=by
 obtain⟨h1,h2,h3,h4,h5,h6,h7,h8,h9,h10⟩:=b1c p;unfold N5;have hr:L3 (stP p).rep=L3 p.rep:=by
  rw[h6];unfold L3 stR;show(if p.rep.name==[] then G8 (B2 p.rep.base)&&G8 (B2 p.rep.count) else Go.Lx.name p.rep.name&&E9 (B2 p.rep.base)&&E9 (B2 p.rep.count))=_;rw[a5o,a5o,P8,P8]
 have hn:(stP p).rep.name=p.rep.name:=by rw[h6];rfl
 rw[h1,hr,hn,b3d,b3d]
theorem c7y (p:Pr) (d:Int) (pl:Bool) (q:Int):a0c (stP p) d pl q=a0c p d pl q:=by
 unfold a0c;rw[c4V,(b1c p).1]
abbrev b6L (p:Pr):Prop:=∀ d pl q,J7 (stP p) d pl q=J7 p d pl q
theorem b9M {d:Int} {pl:Bool}:∀ {l:List Pr} {q:Int},(∀ x ∈ l,b6L x)->X9 (l.map stP) d pl q=X9 l d pl q
 | [],_,_=>rfl
 | x::r,q,h=>by
  have h1:=h x (List.Mem.head _) d pl q;show(if (J7 (stP x) d pl q).1 then X9 (r.map stP) d pl (J7 (stP x) d pl q).2 else J7 (stP x) d pl q)=(if (J7 x d pl q).1 then X9 r d pl (J7 x d pl q).2 else J7 x d pl q);rw[h1,b9M fun y hy=>h y (List.Mem.tail _ hy)]
theorem b9F {d:Int} {l:List Pr} {q:Int} (h:∀ x ∈ l,b6L x):a5s (l.map stP) d q=a5s l d q:=by
 cases l with
 | nil=>rfl
 | cons x r=>exact h x (List.Mem.head _) d false q
theorem c06 {d:Int}:∀ {l:List Gu} {q:Int},(∀ g ∈ l,∀ x ∈ g.bl,b6L x)->a2e (l.map stG) d q=a2e l d q
 | [],_,_=>rfl
 | g::r,q,h=>by
  have h1:a0P (stG g) d q=a0P g d q:=by
   rw[a4K,a4K,(b6w g).2.2.2.2.2.2.2];exact b9F (h g (List.Mem.head _))
  show(if (a0P (stG g) d q).1 then a2e (r.map stG) d (a0P (stG g) d q).2 else a0P (stG g) d q)=(if (a0P g d q).1 then a2e r d (a0P g d q).2 else a0P g d q);rw[h1,c06 fun y hy=>h y (List.Mem.tail _ hy)]
theorem c7N (p:Pr):b6L p:=by
 refine Pr.ind (q:=b6L) (fun p ih d pl q=>?_) p;obtain⟨h1,h2,h3,h4,h5,h6,h7,h8,h9,h10⟩:=b1c p;have hs:∀ a b,a0U (stS p.sp) a b=a0U p.sp a b:=fun a b=>by
  rw[a7k,a7k,(b9I p.sp).2.2.2.2.1,(b9I p.sp).2.2.2.2.2.2.2,b9F fun x hx=>ih x (.s hx)]
 have hl:∀ a b c,X9 (p.ll.map stP) a b c=X9 p.ll a b c:=fun a b c=>b9M fun x hx=>ih x (.l hx)
 have hg:∀ a b,a2e (p.gl.map stG) a b=a2e p.gl a b:=fun a b=>c06 fun g hg x hx=>ih x (.g hg hx)
 rw[a6I (stP p),a6I p,c7y,h1,h7,h8,h10,hs,hl,hl,hg,hg]
theorem b9P (p:Pr):mayP (stP p)=mayP p:=by unfold mayP;rw[c7N]
theorem b48 {α β:Type} (sep:B) (f:β->List Tok) (g:α->β) (e:α->List Tok) (h:∀ x,f (g x)=e x):∀ l:List α,B7 sep f (l.map g)=B7 sep e l
 | []=>rfl
 | [x]=>h x
 | x::y::r=>by
  show f (g x)++⟨5,0,sep,0⟩::B7 sep f ((y::r).map g)=e x++⟨5,0,sep,0⟩::B7 sep e (y::r);rw[h,b48 sep f g e h (y::r)]
theorem a3F (sep:B) (l:List Ex):B7 sep B8 (l.map B2)=B7 sep B8 l:=b48 sep B8 B2 B8 a0K l
theorem d01 (r:Rp):a02 (stR r)=a02 r:=by
 unfold a02 stR;show(if r.name=[] then [] else ((([G5 r.name]++[A2 [61]])++B8 (B2 r.base))++[A2 [70,79,82]])++B8 (B2 r.count))=_;rw[a0K,a0K]
theorem c8X (e:Ex):a0b (B2 e)=a0b e:=by
 unfold a0b;rw[a5o,a0K]
abbrev b1S (p:Pr):Prop:=∀ d,A8 (stP p) d=A8 p d
theorem b3K {k d:Int}:∀ {l:List Pr} {ns:List Int},(∀ x ∈ l,b1S x)->F4 k ns (l.map stP) d=F4 k ns l d
 | [],ns,_=>by cases ns <;> rfl
 | x::r,ns,h=>by
  have h1:=h x (List.Mem.head _);show(if k=11 then _::A8 (stP x) (d+2) else A8 (stP x) (d+1))++F4 k ns.tail (r.map stP) d=_;rw[h1,h1,b3K fun y hy=>h y (List.Mem.tail _ hy)];rfl
theorem a9G {d:Int} {l:List Pr} (h:∀ x ∈ l,b1S x):a0V (l.map stP) d=a0V l d:=by
 cases l with
 | nil=>rfl
 | cons x r=>exact h x (List.Mem.head _) d
theorem a3Q (g:Gu) (d:Int):V1 g d=(d,F7 g.k g.name g.cond g.ch g.tg.l g.vl.l g.time)::a0V g.bl (d+1):=by cases g;rfl
theorem c1g {d:Int} {g:Gu} (h:∀ x ∈ g.bl,b1S x):V1 (stG g) d=V1 g d:=by
 obtain⟨h1,h2,h3,h4,h5,h6,h7,h8⟩:=b6w g;rw[a3Q,a3Q,h1,h2,h3,h4,h5,h6,h7,h8,a9G h];unfold F7;rw[a0K,a0K,a0K,c8X,a3F,a3F]
theorem b1J {d:Int}:∀ {l:List Gu},(∀ g ∈ l,∀ x ∈ g.bl,b1S x)->C9 (l.map stG) d=C9 l d
 | [],_=>rfl
 | g::r,h=>by
  show V1 (stG g) d++C9 (r.map stG) d=V1 g d++C9 r d;rw[c1g (h g (List.Mem.head _)),b1J fun y hy=>h y (List.Mem.tail _ hy)]
theorem T9 (s:Sp) (d:Int):F5 s d=if s.k=1 then [(d,(G1 s.ty++I9 s.names.l)++[A2 [58]])]
 else if s.k=2 then [(d,(((([A2 [86,65,76]]++G1 s.ty)++I9 s.names.l)++[A2 [73,83]])++B8 s.e)++[A2 [58]])]
 else if s.k=3 then [(d,(((G1 s.ty++I9 s.names.l)++[A2 [73,83]])++B8 s.e)++[A2 [58]])]
 else if s.k=5 then (d,((([A2 [80,82,79,67]]++I9 s.names.l)++[A2 [40]])++B7 [44] J6 s.fs.l)++[A2 [41]])::(a0V s.bl (d+1)++[(d,[A2 [58]])])
 else if s.cs=false then [(d,((([A2 [80,82,79,84,79,67,79,76]]++I9 s.names.l)++[A2 [73,83]])++B7 [59] Y0 (Go.Ty.hdV s.vs.l).items)++[A2 [58]])]
 else (d,[A2 [80,82,79,84,79,67,79,76]]++I9 s.names.l)::(d+1,[A2 [67,65,83,69]])::(s.vs.l.map (fun v=>((d+2,G9 v):Ln))++[(d,[A2 [58]])]):=by cases s;rfl
theorem c1o {d:Int} {s:Sp} (h:∀ x ∈ s.bl,b1S x):F5 (stS s) d=F5 s d:=by
 obtain⟨h1,h2,h3,h4,h5,h6,h7,h8⟩:=b9I s;have hv:(Go.Ty.hdV (s.vs.l.map a1f)).items=(Go.Ty.hdV s.vs.l).items:=by cases s.vs.l <;> rfl
 rw[T9,T9,h1,h2,h3,h4,h5,h6,h7,h8,a9G h,a0K,hv,List.map_map];rfl
theorem a3S (p:Pr) (d:Int):A8 p d=if p.k=18 then F5 p.sp d++a0V p.ll d else (d,A3 p.k p.name p.ch p.tg.l p.ex.l p.rep)::(F4 p.k p.pn.l p.ll d++C9 p.gl (d+1)):=by cases p;rfl
theorem c4j (p:Pr):b1S p:=by
 refine Pr.ind (q:=b1S) (fun p ih d=>?_) p;obtain⟨h1,h2,h3,h4,h5,h6,h7,h8,h9,h10⟩:=b1c p;have hf:A3 p.k p.name (B2 p.ch) (p.tg.l.map B2) (p.ex.l.map B2) (stR p.rep)=A3 p.k p.name p.ch p.tg.l p.ex.l p.rep:=by
  unfold A3;rw[a0K,a3F,a3F,a3F,a3F,a3F,d01]
 rw[a3S,a3S,h1,h2,h3,h4,h5,h6,h7,h8,h9,h10,hf,c1o fun x hx=>ih x (.s hx),a9G fun x hx=>ih x (.l hx),b3K fun x hx=>ih x (.l hx),b1J fun g hg x hx=>ih x (.g hg hx)]
theorem c2W (p:Pr):S7 (stP p)=S7 p:=by
 unfold S7;rw[b9P,c4j]
def P3 (s:B):List B:=Lib.splitK [47] 0 (Lib.count s [47]) s
def a8N (i:Nat) (x:B):Go.Ly.Rw:=⟨(i:Int)+1,(x.length:Int) - ((Lib.trimLeftB x 46).length:Int),Lib.trimLeftB x 46⟩
def a8v:Nat->List B->List Go.Ly.Rw
 | _,[]=>[]
 | i,x::l=>a8N i x::a8v (i+1) l
theorem b1V:∀ {i j:Nat} {l:List B} {x:B},l[j]?=some x->a8v i (l.take (j+1))=a8v i (l.take j)++[a8N (i+j) x]
 | _,_,[],_,h=>by cases h
 | i,0,y::l,x,h=>by cases h;rfl
 | i,j+1,y::l,x,h=>by
  have ih:=b1V (i:=i+1) (j:=j) (l:=l) (x:=x) (by simpa using h);show a8N i y::a8v (i+1) (l.take (j+1))=a8N i y::(a8v (i+1) (l.take j)++[a8N (i+(j+1)) x]);rw[ih,show i+1+j=i+(j+1) by omega]
def a1I (s:B):List Go.Ly.Rw:=a8v 0 (P3 s)
def a5f (s:B) (k:Int):Bool:=(((((N4 (a1I s)).1.k==k)&&(((N4 (a1I s)).2.1:Int)==0))&&((N4 (a1I s)).2.2==0))&&((S7 (N4 (a1I s)).1).2==0))&&eqL Go.Ly.eqR (S7 (N4 (a1I s)).1).1 (a1I s)
end
end Go.Sx
namespace Go.Pc
section
open Go.Eng Go.Xp Go
open Go.Ty (Ty Vr)
def a0Y (r s:Rp):Bool:=((r.name==s.name)&&C7 r.base s.base)&&C7 r.count s.count
def a1s (c:Bool) (l:List Vr) (d:Bool) (s:List Vr):Bool:=(c==d)&&eqL L5 l s
mutual
def C8:Pr->Pr->Bool
 | .mk k nm ch tg ex rp _ _ gl _ _ ll pn sp=>fun q=>eqL (fun a b:Int=>a==b) pn.l q.pn.l&&((((((((((k==q.k)&&(nm==q.name))&&a0Y rp q.rep)&&C7 ch q.ch)&&eqL C7 tg.l q.tg.l)&&eqL C7 ex.l q.ex.l)&&b4Z gl q.gl)&&a2G ll q.ll)&&R3 sp q.sp))
def a2G:List Pr->List Pr->Bool
 | []=>fun s=>match s with
  | []=>true
  | _::_=>false
 | x::r=>fun s=>match s with
  | []=>false
  | y::t=>C8 x y&&a2G r t
def K8:Gu->Gu->Bool
 | .mk k nm c ch tg vl tm _ _ bl=>fun g=>(((((((k==g.k)&&(nm==g.name))&&C7 c g.cond)&&C7 ch g.ch)&&C7 tm g.time)&&eqL C7 tg.l g.tg.l)&&eqL C7 vl.l g.vl.l)&&a2G bl g.bl
def b4Z:List Gu->List Gu->Bool
 | []=>fun s=>match s with
  | []=>true
  | _::_=>false
 | x::r=>fun s=>match s with
  | []=>false
  | y::t=>K8 x y&&b4Z r t
def R3:Sp->Sp->Bool
 | .mk k ty nms e cs vs fs _ _ bl=>fun s=>((((k==s.k)&&Go.Ty.eqT ty s.ty)&&eqL a0z fs.l s.fs.l))&&(((eqL (fun a b:B=>a==b) nms.l s.names.l&&C7 e s.e)&&a1s cs vs.l s.cs s.vs.l)&&a2G bl s.bl)
end
theorem a3P:∀ l s:List Pr,a2G l s=eqL C8 l s
 | [],[]=>rfl
 | x::r,y::s=>by show(C8 x y&&a2G r s)=(C8 x y&&eqL C8 r s);rw[a3P r s]
 | [],_::_=>rfl
 | _::_,[]=>rfl
theorem a9v:∀ l s:List Gu,b4Z l s=eqL K8 l s
 | [],[]=>rfl
 | x::r,y::s=>by show(K8 x y&&b4Z r s)=(K8 x y&&eqL K8 r s);rw[a9v r s]
 | [],_::_=>rfl
 | _::_,[]=>rfl
theorem a6r (p q:Pr):C8 p q=(eqL (fun a b:Int=>a==b) p.pn.l q.pn.l&&((((((((((p.k==q.k)&&(p.name==q.name))&&a0Y p.rep q.rep)&&C7 p.ch q.ch)&&eqL C7 p.tg.l q.tg.l)&&eqL C7 p.ex.l q.ex.l)&&eqL K8 p.gl q.gl)&&eqL C8 p.ll q.ll)&&R3 p.sp q.sp))):=by
 rw[<- a9v,<- a3P];cases p;rfl
theorem a6l (p g:Gu):K8 p g=((((((((p.k==g.k)&&(p.name==g.name))&&C7 p.cond g.cond)&&C7 p.ch g.ch)&&C7 p.time g.time)&&eqL C7 p.tg.l g.tg.l)&&eqL C7 p.vl.l g.vl.l)&&eqL C8 p.bl g.bl):=by
 rw[<- a3P];cases p;rfl
theorem a4Y (p s:Sp):R3 p s=(((((p.k==s.k)&&Go.Ty.eqT p.ty s.ty)&&eqL a0z p.fs.l s.fs.l))&&(((eqL (fun a b:B=>a==b) p.names.l s.names.l&&C7 p.e s.e)&&a1s p.cs p.vs.l s.cs s.vs.l)&&eqL C8 p.bl s.bl)):=by
 rw[<- a3P];cases p;rfl
theorem c1y {x y:Sp} (h:(((x.k != y.k)||!(Go.Ty.eqT x.ty y.ty))||((x.fs.l.length:Int) != (y.fs.l.length:Int)))=true):R3 x y=false:=by
 rw[a4Y];simp only[Bool.or_eq_true,bne_iff_ne,Bool.not_eq_true'] at h;rcases h with (h | h) | h
 ·have:(x.k==y.k)=false:=by simpa using h
  simp[this]
 ·simp[h]
 ·rw[W7 a0z x.fs.l y.fs.l (by omega)]
  simp
theorem b8L {x y:Sp} (h:(((x.k != y.k)||!(Go.Ty.eqT x.ty y.ty))||((x.fs.l.length:Int) != (y.fs.l.length:Int)))=false) :
 x.fs.l.length=y.fs.l.length/\R3 x y=(eqL a0z x.fs.l y.fs.l&&(((eqL (fun a b:B=>a==b) x.names.l y.names.l&&C7 x.e y.e)&&a1s x.cs x.vs.l y.cs y.vs.l)&&eqL C8 x.bl y.bl)):=by
 rw[a4Y];simp only[Bool.or_eq_false_iff,bne_eq_false_iff_eq,Bool.not_eq_false'] at h;obtain⟨⟨h1,h2⟩,h3⟩:=h;refine⟨by omega,?_⟩;have h4:(x.k==y.k)=true:=by simpa using h1
 rw[h4,h2,Bool.true_and,Bool.true_and]
end
end Go.Pc
namespace Go.Eng
section
open Go Go.RowKit
section
variable {P:Program} {m m':View} {h h':List Res} {w w':World}
def Vw (m':View) (h':List Res) (m:View) (h:List Res):Prop:=∀ (a:Option Addr) (n cap sz:Nat) (xs:List Value),Rd m' h' a n cap sz xs->Rd m h a n cap sz xs
theorem c6l {m:View} {g:Nat} {cur:Array Value} {e:TypeId} {fz:Nat × Nat} {n cap sz:Nat} {xs:List Value} (hl:xs.length=n * sz) (h1:n<=cap) (h2:cap<=9223372036854775807) (ht:cur.toList.take (n * sz)=xs):Rd (m.add g (.cells cur e fz)) [] (some ⟨g,0,none⟩) n cap sz xs:=
 ⟨hl,h1,h2,fun w s j u hj=>by
  refine⟨g,0,rfl,?_⟩;have hb:=s.blk g _ (View.add_blk m g (.cells cur e fz));rw[<- ht,List.getElem?_take] at hj;split at hj
  ·simp[World.cell?,hb];simpa using hj
  ·simp at hj⟩
theorem c3u {m:View} {g:Nat} {o:Obj} {h2:List Res}:Vw (m.add g o) h2 m (.pt g o::h2):=fun a n cap sz xs r=>
 ⟨r.len,r.le,r.mx,fun w s=>r.at_ w ⟨s.os,s.out,s.tape,fun b o' hb=>by
  unfold View.add at hb;simp only at hb;split at hb
  ·rename_i e
   cases hb;rw[e];exact s.ok _ (List.Mem.head _)
  ·exact s.blk b o' hb,fun r hr=>s.ok r (List.Mem.tail _ hr),(List.pairwise_cons.1 s.nd).2,fun x hx b hb=>by
  unfold View.add;simp only;split
  ·rename_i e
   exact((List.pairwise_cons.1 s.nd).1 x hx b (by rw[e];rfl) hb).elim
  ·exact s.fr x (List.Mem.tail _ hx) b hb⟩⟩
theorem CT.lendRow {f:FuncId} {args:List Value} {a:Option Addr} {n cap sz:Nat} {e:TypeId} {xs:List Value} {R:View->Value->List Res->Prop} (he:∀ as w,(callFunc f as).run P w=.ok (.enter f as) w)
 (c:∀ m',m.le m'->Rd m' [] a n cap sz xs->CT P f args h m' (fun v _ h'=>R m' v h')) :
 CT P f args (.row (.slice a n cap) e sz n xs::h) m (fun v _ h'=>∃ m' hx h2,R m' v h2/\h'=hx++h2/\Vw m' h2 m (hx++h2)/\Rd m hx a n cap sz xs):=
 ⟨he,fun w s=>by
  have hrow:w.ownsRow 0 e sz (.slice a n cap) n xs:=s.ok _ (List.Mem.head _);obtain⟨k1,k2,k3⟩:=b2w hrow;obtain⟨hl,hn | ⟨g,cp,cur,hv,_,hh,hnc,hcm,hsz,ht⟩⟩:=hrow
  ·obtain⟨_,rfl⟩:=hn
   have hx0:xs=[]:=List.eq_nil_of_length_eq_zero (by simpa using k3);subst hx0;have s2:St m h w:=⟨s.os,s.out,s.tape,s.blk,fun r hr=>s.ok r (List.Mem.tail _ hr),(List.pairwise_cons.1 s.nd).2,fun r hr=>s.fr r (List.Mem.tail _ hr)⟩;have r0:∀ {q:View},Rd q [] a 0 cap sz []:=⟨k3,k1,k2,fun _ _ j u hj=>by cases hj⟩;refine Calls.mono ((c m Vl r0).calls w s2) ?_;rintro e' w' ⟨v,m2,h2,rfl,hle,s3,hR⟩;exact⟨v,m2,h2,rfl,hle,s3,m,[],h2,hR,rfl,fun _ _ _ _ _ r=>r,r0⟩
  ·simp only[Value.slice.injEq] at hv
   obtain⟨rfl,_,rfl⟩:=hv;have hfp:(Res.row (.slice (some ⟨g,0,none⟩) n cap) e sz n xs).fp=some g:=rfl;have hmg:m.blk g=none:=s.fr _ (List.Mem.head _) g hfp;have s2:St (m.add g (.cells cur e (0,0))) h w:=⟨s.os,s.out,s.tape,fun b o' hb=>by
    unfold View.add at hb;simp only at hb;split at hb
    ·rename_i e
     cases hb;rw[e];exact hh
    ·exact s.blk b o' hb,fun r hr=>s.ok r (List.Mem.tail _ hr),(List.pairwise_cons.1 s.nd).2,fun r hr b hb=>by
    unfold View.add;simp only;split
    ·rename_i e
     exact((List.pairwise_cons.1 s.nd).1 r hr b (e ▸ hfp) hb).elim
    ·exact s.fr r (List.Mem.tail _ hr) b hb⟩
   refine Calls.mono ((c _ (View.le_add hmg) (c6l k3 k1 k2 ht)).calls w s2) ?_;rintro e' w' ⟨v,m2,h2,rfl,hle,s3,hR⟩;have hml:=(View.le_add (o:=.cells cur e (0,0)) hmg).trans hle;have hg2:m2.blk g=some (.cells cur e (0,0)):=hle.blk _ _ (View.add_blk m g _);refine⟨v,m,.pt g (.cells cur e (0,0))::h2,rfl,Vl,⟨s3.os.trans hml.os,s3.out.trans hml.out,s3.tape.trans hml.tape,fun b o hb=>s3.blk b o (hml.blk b o hb),fun r hr=>?_,?_,fun r hr b hb=>?_⟩,_,[.pt g (.cells cur e (0,0))],h2,hR,rfl,c3u,?_⟩
   ·rcases List.mem_cons.1 hr with rfl | hr
    ·exact s3.blk g _ hg2
    ·exact s3.ok r hr
   ·refine List.pairwise_cons.2 ⟨fun r hr b h1 h3=>?_,s3.nd⟩
    cases h1;have:=s3.fr r hr _ h3;rw[hg2] at this;cases this
   ·rcases List.mem_cons.1 hr with rfl | hr
    ·cases hb
     exact hmg
    ·have h1:=s3.fr r hr b hb
     cases hm:m.blk b with
     | none=>rfl
     | some o=>
      rw[hml.blk b o hm] at h1;cases h1
   ·exact c3u _ _ _ _ _ (c6l k3 k1 k2 ht)⟩
end
end
end Go.Eng
namespace Go.Pc
section
open Go.Eng Go.Xp Go
open Go.Ty (Ty Vr)
set_option linter.unusedSimpArgs false
theorem L0 {α:Type} (l:List α) (q:α->Bool):G2 l 0 0 q=l.isEmpty:=by
 unfold G2 a4y;cases l with
 | nil=>rfl
 | cons x r=>
  have:¬ (((x::r).length:Int)<=0):=by simp only[List.length_cons];omega
  simp only[this,decide_false,Bool.and_false,Bool.false_and,List.isEmpty_cons]
theorem a4Q {α:Type} (l:List α) (q:α->Bool):G2 l 0 8 q=(decide ((l.length:Int)<=8)&&l.all q):=by
 have h1:(l.length:Int) >= 0:=by omega
 have h2:(!(l.any fun x=>!q x))=l.all q:=by
  induction l with
  | nil=>rfl
  | cons x r ih=>
   have:=ih (by omega);simp only[List.any_cons,List.all_cons,<- this];cases q x <;> simp
 unfold G2 a4y;rw[h2];simp[h1]
theorem Z5 (n:Nat):a4y 1 1 (n:Int)=((n:Int)==1):=by
 unfold a4y;rw[Bool.eq_iff_iff];simp;omega
theorem a0h (n:Nat):a4y 2 2 (n:Int)=((n:Int)==2):=by
 unfold a4y;rw[Bool.eq_iff_iff];simp;omega
theorem V3 {α:Type} (l:List α):a4y 0 0 (l.length:Int)=l.isEmpty:=by
 cases l with
 | nil=>rfl
 | cons x r=>
  unfold a4y;have:¬ (((x::r).length:Int)<=0):=by simp only[List.length_cons];omega
  simp only[this,decide_false,Bool.and_false,List.isEmpty_cons]
theorem Y7 {α:Type} (q:α->α->Bool) (l:List α):eqL q l []=l.isEmpty:=by cases l <;> rfl
theorem V7 {α:Type} {q:α->α->Bool} (hq:∀ x,q x x=true):∀ l:List α,eqL q l l=true
 | []=>rfl
 | x::r=>by show(q x x&&eqL q r r)=true;rw[hq,V7 hq r];rfl
theorem I7 {α:Type} (l:List α):((l.length:Int)==0)=l.isEmpty:=by
 cases l with
 | nil=>rfl
 | cons x r=>
  rw[List.isEmpty_cons,beq_eq_false_iff_ne];simp only[List.length_cons];omega
theorem a3X (t:Ty):Go.Ty.eqT t t=true:=(Go.Ty.eqT_iff t t).2 rfl
theorem a3t (f:Fo):a0z f f=true:=by unfold a0z;simp[a3X]
theorem a2Q (v:Vr):L5 v v=true:=by unfold L5;simp
theorem G6:G8 A0=true:=by decide
def a2Z:Gu:=.mk 0 [] A0 A0 A7 A7 A0 none 0 []
def a4B:Rp:=⟨[],A0,A0⟩
def J3:Pr:=.mk 0 [] A0 A7 A7 a4B none 0 [] none 0 [] A7 A6
theorem a1B {nm:B} {c ch tm:Ex} {tg vl:Sli Ex}:K8 (.mk 0 nm c ch tg vl tm none 0 []) a2Z=((((((nm==[])&&G8 c)&&G8 ch)&&G8 tm)&&tg.l.isEmpty)&&vl.l.isEmpty):=by
 rw[a6l];show(((((((((0:Int)==0)&&(nm==[]))&&C7 c A0)&&C7 ch A0)&&C7 tm A0)&&eqL C7 tg.l [])&&eqL C7 vl.l [])&&eqL C8 [] [])=_;rw[Y7,Y7,show((0:Int)==0)=true from rfl,Bool.true_and,show eqL C8 [] []=true from rfl,Bool.and_true];rfl
theorem Y9 (s:Sp):R3 s A6=I8 s A6:=by
 rw[a4Y];unfold I8;show(((((s.k==0)&&Go.Ty.eqT s.ty Go.Ty.zeroT)&&eqL a0z s.fs.l []))&&(((eqL (fun a b:B=>a==b) s.names.l []&&C7 s.e A0)&&((s.cs==false)&&eqL L5 s.vs.l []))&&eqL C8 s.bl []))=((((((((s.k==0)&&Go.Ty.eqT s.ty Go.Ty.zeroT)&&(s.names.l==[]))&&C7 s.e A0)&&(s.cs==false))&&eqL L5 s.vs.l [])&&eqL a0z s.fs.l [])&&((s.bl.length:Int)==0));rw[Y7,Y7,Y7,Y7,I7,show(s.names.l==[])=s.names.l.isEmpty by cases s.names.l <;> rfl];generalize (s.k==0)=a;generalize Go.Ty.eqT s.ty Go.Ty.zeroT=b;generalize s.fs.l.isEmpty=c;generalize s.names.l.isEmpty=d;generalize C7 s.e A0=e;generalize (s.cs==false)=f;generalize s.vs.l.isEmpty=g;generalize s.bl.isEmpty=i;revert a b c d e f g i
 decide
theorem P0 {nm:B} {ch:Ex} {tg ex:Sli Ex} {pn:Sli Int} {sp:Sp}:C8 (.mk 0 nm ch tg ex a4B none 0 [] none 0 [] pn sp) J3=(((((pn.l.isEmpty&&(nm==[]))&&G8 ch)&&tg.l.isEmpty)&&ex.l.isEmpty)&&I8 sp A6):=by
 rw[a6r,<- Y9];show(eqL (fun a b:Int=>a==b) pn.l []&&(((((((((((0:Int)==0)&&(nm==[]))&&a0Y a4B a4B)&&C7 ch A0)&&eqL C7 tg.l [])&&eqL C7 ex.l [])&&eqL K8 [] [])&&eqL C8 [] [])&&R3 sp A6)))=_;rw[Y7,Y7,Y7,show((0:Int)==0)=true from rfl,show a0Y a4B a4B=true by decide,show eqL C8 [] []=true from rfl,show eqL K8 [] []=true from rfl];show _=(((((pn.l.isEmpty&&(nm==[]))&&C7 ch A0)&&tg.l.isEmpty)&&ex.l.isEmpty)&&R3 sp A6);generalize pn.l.isEmpty=a;generalize (nm==[])=b;generalize C7 ch A0=c;generalize tg.l.isEmpty=d;generalize ex.l.isEmpty=e;generalize R3 sp A6=f;revert a b c d e f
 decide
theorem a0i {α:Type}:(A7:Sli α).l.isEmpty=true:=rfl
theorem a2h:(([]:B)==[])=true:=rfl
theorem b9j {g:Gu} (h:g.k=1\/g.k=2):guP g=((E9 g.cond&&((g.bl.length:Int)==1))&&K8 (.mk 0 g.name A0 g.ch g.tg g.vl g.time none 0 []) a2Z):=by
 rw[a1B];try rw[G6]
 unfold guP a4O;rcases h with h | h
 ·rw[h]
  simp only[Int.reduceEq,Int.reduceBEq,Int.reduceBNe,Int.reduceLE,if_true,if_false,reduceIte,decide_true,decide_false,L0,O2,Bool.or_true,Bool.or_false,Bool.true_or,Bool.false_or,Bool.and_true,Bool.and_false,Bool.true_and,Bool.false_and,Bool.false_eq_true,a0i,a2h,G6];generalize E9 g.cond=x0;generalize G8 g.ch=x1;generalize G8 g.time=x2;generalize g.tg.l.isEmpty=x3;generalize g.vl.l.isEmpty=x4;generalize (g.name==[])=x5;generalize ((g.bl.length:Int)==1)=x6;revert x0 x1 x2 x3 x4 x5 x6
  decide
 ·rw[h]
  simp only[Int.reduceEq,Int.reduceBEq,Int.reduceBNe,Int.reduceLE,if_true,if_false,reduceIte,decide_true,decide_false,L0,O2,Bool.or_true,Bool.or_false,Bool.true_or,Bool.false_or,Bool.and_true,Bool.and_false,Bool.true_and,Bool.false_and,Bool.false_eq_true,a0i,a2h,G6];generalize E9 g.cond=x0;generalize G8 g.ch=x1;generalize G8 g.time=x2;generalize g.tg.l.isEmpty=x3;generalize g.vl.l.isEmpty=x4;generalize (g.name==[])=x5;generalize ((g.bl.length:Int)==1)=x6;revert x0 x1 x2 x3 x4 x5 x6
  decide
theorem d1W {g:Gu} (h:g.k=3):guP g=(((((G8 g.cond||E9 g.cond)&&D7 g.ch)&&G2 g.tg.l 1 8 D7)&&((g.bl.length:Int)==1))&&K8 (.mk 0 g.name A0 A0 A7 g.vl g.time none 0 []) a2Z):=by
 rw[a1B];try rw[G6]
 unfold guP a4O;rw[h];simp only[Int.reduceEq,Int.reduceBEq,Int.reduceBNe,Int.reduceLE,if_true,if_false,reduceIte,decide_true,decide_false,L0,O2,Bool.or_true,Bool.or_false,Bool.true_or,Bool.false_or,Bool.and_true,Bool.and_false,Bool.true_and,Bool.false_and,Bool.false_eq_true,a0i,a2h,G6];generalize G2 g.tg.l 1 8 D7=x0;generalize E9 g.cond=x1;generalize G8 g.cond=x2;generalize D7 g.ch=x3;generalize G8 g.time=x4;generalize g.vl.l.isEmpty=x5;generalize (g.name==[])=x6;generalize ((g.bl.length:Int)==1)=x7;revert x0 x1 x2 x3 x4 x5 x6 x7
 decide
theorem d1H {g:Gu} (h:g.k=4):guP g=(((((G8 g.cond||E9 g.cond)&&D7 g.ch)&&E9 g.time)&&((g.bl.length:Int)==1))&&K8 (.mk 0 g.name A0 A0 g.tg g.vl A0 none 0 []) a2Z):=by
 rw[a1B];try rw[G6]
 unfold guP a4O;rw[h];simp only[Int.reduceEq,Int.reduceBEq,Int.reduceBNe,Int.reduceLE,if_true,if_false,reduceIte,decide_true,decide_false,L0,O2,Bool.or_true,Bool.or_false,Bool.true_or,Bool.false_or,Bool.and_true,Bool.and_false,Bool.true_and,Bool.false_and,Bool.false_eq_true,a0i,a2h,G6];generalize E9 g.cond=x0;generalize G8 g.cond=x1;generalize D7 g.ch=x2;generalize E9 g.time=x3;generalize g.tg.l.isEmpty=x4;generalize g.vl.l.isEmpty=x5;generalize (g.name==[])=x6;generalize ((g.bl.length:Int)==1)=x7;revert x0 x1 x2 x3 x4 x5 x6 x7
 decide
theorem d1O {g:Gu} (h:g.k=5):guP g=((G2 g.vl.l 1 8 E9&&((g.bl.length:Int)==1))&&K8 (.mk 0 g.name g.cond g.ch g.tg A7 g.time none 0 []) a2Z):=by
 rw[a1B];try rw[G6]
 unfold guP a4O;rw[h];simp only[Int.reduceEq,Int.reduceBEq,Int.reduceBNe,Int.reduceLE,if_true,if_false,reduceIte,decide_true,decide_false,L0,O2,Bool.or_true,Bool.or_false,Bool.true_or,Bool.false_or,Bool.and_true,Bool.and_false,Bool.true_and,Bool.false_and,Bool.false_eq_true,a0i,a2h,G6];generalize G2 g.vl.l 1 8 E9=x0;generalize G8 g.cond=x1;generalize G8 g.ch=x2;generalize G8 g.time=x3;generalize g.tg.l.isEmpty=x4;generalize (g.name==[])=x5;generalize ((g.bl.length:Int)==1)=x6;revert x0 x1 x2 x3 x4 x5 x6
 decide
theorem d2G {g:Gu} (h:g.k=6):guP g=((true&&((g.bl.length:Int)==1))&&K8 (.mk 0 g.name g.cond g.ch g.tg g.vl g.time none 0 []) a2Z):=by
 rw[a1B];try rw[G6]
 unfold guP a4O;rw[h];simp only[Int.reduceEq,Int.reduceBEq,Int.reduceBNe,Int.reduceLE,if_true,if_false,reduceIte,decide_true,decide_false,L0,O2,Bool.or_true,Bool.or_false,Bool.true_or,Bool.false_or,Bool.and_true,Bool.and_false,Bool.true_and,Bool.false_and,Bool.false_eq_true,a0i,a2h,G6];generalize G8 g.cond=x0;generalize G8 g.ch=x1;generalize G8 g.time=x2;generalize g.tg.l.isEmpty=x3;generalize g.vl.l.isEmpty=x4;generalize (g.name==[])=x5;generalize ((g.bl.length:Int)==1)=x6;revert x0 x1 x2 x3 x4 x5 x6
 decide
theorem d3A {g:Gu} (h:g.k=7):guP g=(((Go.Lx.name g.name&&G2 g.tg.l 0 8 D7)&&((g.bl.length:Int)==1))&&K8 (.mk 0 [] g.cond g.ch A7 g.vl g.time none 0 []) a2Z):=by
 rw[a1B];try rw[G6]
 unfold guP a4O;rw[h];simp only[Int.reduceEq,Int.reduceBEq,Int.reduceBNe,Int.reduceLE,if_true,if_false,reduceIte,decide_true,decide_false,L0,O2,Bool.or_true,Bool.or_false,Bool.true_or,Bool.false_or,Bool.and_true,Bool.and_false,Bool.true_and,Bool.false_and,Bool.false_eq_true,a0i,a2h,G6];generalize G2 g.tg.l 0 8 D7=x0;generalize Go.Lx.name g.name=x1;generalize G8 g.cond=x2;generalize G8 g.ch=x3;generalize G8 g.time=x4;generalize g.vl.l.isEmpty=x5;generalize ((g.bl.length:Int)==1)=x6;revert x0 x1 x2 x3 x4 x5 x6
 decide
theorem b5Q {k:Int} {ty:Ty} {names:Sli B} {e:Ex} {cs:Bool} {vs:Sli Vr} {fs:Sli Fo} {ba:Option Addr} {bc:Nat} {bl:List Pr}:(Sp.mk k ty names e cs vs fs ba bc bl).k=k:=rfl
theorem b1U {k:Int} {ty:Ty} {names:Sli B} {e:Ex} {cs:Bool} {vs:Sli Vr} {fs:Sli Fo} {ba:Option Addr} {bc:Nat} {bl:List Pr}:(Sp.mk k ty names e cs vs fs ba bc bl).ty=ty:=rfl
theorem a4X {k:Int} {ty:Ty} {names:Sli B} {e:Ex} {cs:Bool} {vs:Sli Vr} {fs:Sli Fo} {ba:Option Addr} {bc:Nat} {bl:List Pr}:(Sp.mk k ty names e cs vs fs ba bc bl).names=names:=rfl
theorem b6r {k:Int} {ty:Ty} {names:Sli B} {e:Ex} {cs:Bool} {vs:Sli Vr} {fs:Sli Fo} {ba:Option Addr} {bc:Nat} {bl:List Pr}:(Sp.mk k ty names e cs vs fs ba bc bl).e=e:=rfl
theorem b1F {k:Int} {ty:Ty} {names:Sli B} {e:Ex} {cs:Bool} {vs:Sli Vr} {fs:Sli Fo} {ba:Option Addr} {bc:Nat} {bl:List Pr}:(Sp.mk k ty names e cs vs fs ba bc bl).cs=cs:=rfl
theorem b1P {k:Int} {ty:Ty} {names:Sli B} {e:Ex} {cs:Bool} {vs:Sli Vr} {fs:Sli Fo} {ba:Option Addr} {bc:Nat} {bl:List Pr}:(Sp.mk k ty names e cs vs fs ba bc bl).vs=vs:=rfl
theorem b1M {k:Int} {ty:Ty} {names:Sli B} {e:Ex} {cs:Bool} {vs:Sli Vr} {fs:Sli Fo} {ba:Option Addr} {bc:Nat} {bl:List Pr}:(Sp.mk k ty names e cs vs fs ba bc bl).fs=fs:=rfl
theorem b2v {k:Int} {ty:Ty} {names:Sli B} {e:Ex} {cs:Bool} {vs:Sli Vr} {fs:Sli Fo} {ba:Option Addr} {bc:Nat} {bl:List Pr}:(Sp.mk k ty names e cs vs fs ba bc bl).bl=bl:=rfl
theorem a2X {α:Type}:(A7:Sli α).l=[]:=rfl
theorem a3M (e:Ex):C7 e e=true:=(Y4 e e).2 rfl
theorem a8w {α:Type}:((([]:List α).length:Nat):Int)=0:=rfl
theorem a4I:C7 A0 A0=true:=by decide
theorem d2l {s:Sp} (h:s.k=1):spP s=((Go.Ty.may s.ty&&G2 s.names.l 1 8 Go.Lx.name)&&R3 (.mk 0 Go.Ty.zeroT A7 s.e s.cs s.vs s.fs s.ba s.bc s.bl) A6):=by
 rw[Y9];unfold spP a2g a1a I8;rw[h];show _=(_&&(((((((((0:Int)==0)&&Go.Ty.eqT Go.Ty.zeroT Go.Ty.zeroT)&&(([]:List B)==[]))&&C7 s.e A0)&&(s.cs==false))&&eqL L5 s.vs.l [])&&eqL a0z s.fs.l [])&&(((s.bl:List Pr).length:Int)==0)));simp only[Int.reduceEq,Int.reduceBEq,Int.reduceLE,and_self,and_true,true_and,if_true,if_false,reduceIte,beq_self_eq_true,Bool.and_true,Bool.true_and,b5Q,b1U,a4X,b6r,b1F,b1P,b1M,b2v,a4I,a3M,a8w,a3X,Y7,I7,V7 a3t,V7 a2Q,a0i,a2X,List.isEmpty_nil,a4Q];all_goals
  generalize Go.Ty.may s.ty=x0;generalize G2 s.names.l 1 8 Go.Lx.name=x1;generalize C7 s.e A0=x2;generalize (s.cs==false)=x3;generalize s.vs.l.isEmpty=x4;generalize s.fs.l.isEmpty=x5;generalize s.bl.isEmpty=x6;revert x0 x1 x2 x3 x4 x5 x6
  decide
theorem d2n {s:Sp} (h:s.k=2):spP s=(((Q0 s.ty&&G2 s.names.l 1 1 Go.Lx.name)&&E9 s.e)&&R3 (.mk 0 Go.Ty.zeroT A7 A0 s.cs s.vs s.fs s.ba s.bc s.bl) A6):=by
 rw[Y9];unfold spP a2g a1a I8;rw[h];show _=(_&&(((((((((0:Int)==0)&&Go.Ty.eqT Go.Ty.zeroT Go.Ty.zeroT)&&(([]:List B)==[]))&&C7 A0 A0)&&(s.cs==false))&&eqL L5 s.vs.l [])&&eqL a0z s.fs.l [])&&(((s.bl:List Pr).length:Int)==0)));simp only[Int.reduceEq,Int.reduceBEq,Int.reduceLE,and_self,and_true,true_and,if_true,if_false,reduceIte,beq_self_eq_true,Bool.and_true,Bool.true_and,b5Q,b1U,a4X,b6r,b1F,b1P,b1M,b2v,a4I,a3M,a8w,a3X,Y7,I7,V7 a3t,V7 a2Q,a0i,a2X,List.isEmpty_nil,a4Q];all_goals
  generalize Q0 s.ty=x0;generalize G2 s.names.l 1 1 Go.Lx.name=x1;generalize E9 s.e=x2;generalize (s.cs==false)=x3;generalize s.vs.l.isEmpty=x4;generalize s.fs.l.isEmpty=x5;generalize s.bl.isEmpty=x6;revert x0 x1 x2 x3 x4 x5 x6
  decide
theorem d32 {s:Sp} (h:s.k=3):spP s=(((Q0 s.ty&&G2 s.names.l 1 1 Go.Lx.name)&&D7 s.e)&&R3 (.mk 0 Go.Ty.zeroT A7 A0 s.cs s.vs s.fs s.ba s.bc s.bl) A6):=by
 rw[Y9];unfold spP a2g a1a I8;rw[h];show _=(_&&(((((((((0:Int)==0)&&Go.Ty.eqT Go.Ty.zeroT Go.Ty.zeroT)&&(([]:List B)==[]))&&C7 A0 A0)&&(s.cs==false))&&eqL L5 s.vs.l [])&&eqL a0z s.fs.l [])&&(((s.bl:List Pr).length:Int)==0)));simp only[Int.reduceEq,Int.reduceBEq,Int.reduceLE,and_self,and_true,true_and,if_true,if_false,reduceIte,beq_self_eq_true,Bool.and_true,Bool.true_and,b5Q,b1U,a4X,b6r,b1F,b1P,b1M,b2v,a4I,a3M,a8w,a3X,Y7,I7,V7 a3t,V7 a2Q,a0i,a2X,List.isEmpty_nil,a4Q];all_goals
  generalize Q0 s.ty=x0;generalize G2 s.names.l 1 1 Go.Lx.name=x1;generalize D7 s.e=x2;generalize (s.cs==false)=x3;generalize s.vs.l.isEmpty=x4;generalize s.fs.l.isEmpty=x5;generalize s.bl.isEmpty=x6;revert x0 x1 x2 x3 x4 x5 x6
  decide
theorem d2d {s:Sp} (h:s.k=4):spP s=((G2 s.names.l 1 1 Go.Lx.name&&Go.Ty.mayPr s.cs s.vs.l)&&R3 (.mk 0 s.ty A7 s.e false A7 s.fs s.ba s.bc s.bl) A6):=by
 rw[Y9];unfold spP a2g a1a I8;rw[h];show _=(_&&(((((((((0:Int)==0)&&Go.Ty.eqT s.ty Go.Ty.zeroT)&&(([]:List B)==[]))&&C7 s.e A0)&&(false==false))&&eqL L5 [] [])&&eqL a0z s.fs.l [])&&(((s.bl:List Pr).length:Int)==0)));simp only[Int.reduceEq,Int.reduceBEq,Int.reduceLE,and_self,and_true,true_and,if_true,if_false,reduceIte,beq_self_eq_true,Bool.and_true,Bool.true_and,b5Q,b1U,a4X,b6r,b1F,b1P,b1M,b2v,a4I,a3M,a8w,a3X,Y7,I7,V7 a3t,V7 a2Q,a0i,a2X,List.isEmpty_nil,a4Q];all_goals
  generalize G2 s.names.l 1 1 Go.Lx.name=x0;generalize Go.Ty.mayPr s.cs s.vs.l=x1;generalize Go.Ty.eqT s.ty Go.Ty.zeroT=x2;generalize C7 s.e A0=x3;generalize s.fs.l.isEmpty=x4;generalize s.bl.isEmpty=x5;revert x0 x1 x2 x3 x4 x5
  decide
theorem d2a {s:Sp} (h:s.k=5):spP s=((((G2 s.names.l 1 1 Go.Lx.name&&decide ((s.fs.l.length:Int)<=8))&&((s.bl.length:Int)==1))&&s.fs.l.all foP)&&R3 (.mk 0 s.ty A7 s.e s.cs s.vs A7 none 0 []) A6):=by
 rw[Y9];unfold spP a2g a1a I8;rw[h];show _=(_&&(((((((((0:Int)==0)&&Go.Ty.eqT s.ty Go.Ty.zeroT)&&(([]:List B)==[]))&&C7 s.e A0)&&(s.cs==false))&&eqL L5 s.vs.l [])&&eqL a0z [] [])&&((([]:List Pr).length:Int)==0)));simp only[Int.reduceEq,Int.reduceBEq,Int.reduceLE,and_self,and_true,true_and,if_true,if_false,reduceIte,beq_self_eq_true,Bool.and_true,Bool.true_and,b5Q,b1U,a4X,b6r,b1F,b1P,b1M,b2v,a4I,a3M,a8w,a3X,Y7,I7,V7 a3t,V7 a2Q,a0i,a2X,List.isEmpty_nil,a4Q];all_goals
  generalize G2 s.names.l 1 1 Go.Lx.name=x0;generalize decide ((s.fs.l.length:Int)<=8)=x1;generalize ((s.bl.length:Int)==1)=x2;generalize s.fs.l.all foP=x3;generalize Go.Ty.eqT s.ty Go.Ty.zeroT=x4;generalize C7 s.e A0=x5;generalize (s.cs==false)=x6;generalize s.vs.l.isEmpty=x7;revert x0 x1 x2 x3 x4 x5 x6 x7
  decide
def U8 (nm:B) (ch:Ex) (tg ex:Sli Ex) (pn:Sli Int) (sp:Sp):Pr:=.mk 0 nm ch tg ex a4B none 0 [] none 0 [] pn sp
def gQ (a b:Int):Gu->Bool:=inG { us0 with lo:=a,hi:=b }
def b8j (p:Pr):Bool:=if p.k=8\/p.k=9 then ((((true&&((!(!(p.rep.name==[])))||((p.ll.length:Int)==1)))&&((p.gl.length:Int)==0))&&L3 p.rep)&&C8 (U8 p.name p.ch p.tg p.ex p.pn p.sp) J3) else false
def a43 (p:Pr):Bool:=if p.ll.length<=2048 then N5 p else b8j p
theorem a2V {p:Pr} {pb A:Bool} (hA:pb=false->A=false) (hb:pb=true->p.ll.length<=2048) (hk:¬ (p.k=8\/p.k=9)) (h:N5 p=A):a43 p=A:=by
 unfold a43;by_cases hl:p.ll.length<=2048
 ·rw[if_pos hl,h]
 ·have hf:pb=false:=by
   cases hp:pb with
   | false=>rfl
   | true=>exact absurd (hb hp) hl
  rw[if_neg hl,hA hf];unfold b8j;rw[if_neg hk]
theorem b4x {p:Pr} {u:Us} (hu:B6 p.k=(u,true)):N5 p=(L3 p.rep&&(if (p.rep.name==[])=true then L8 p u else (u.rep&&L8 p (b5d u)))):=by
 unfold N5;rw[hu];cases hr:L3 p.rep with
 | false=>rfl
 | true=>
  cases hn:(p.rep.name==[]) with
  | true=>
   have:(p.rep.name != [])=false:=by rw[bne,hn];rfl
   simp[this]
  | false=>
   have:(p.rep.name != [])=true:=by rw[bne,hn];rfl
   cases hx:u.rep <;> simp[this,hx]
theorem a0H {p:Pr} {u:Us} (hu:B6 p.k=(u,true)) (hr:u.rep=false):N5 p=(L3 p.rep&&((p.rep.name==[])&&L8 p u)):=by
 rw[b4x hu,hr];cases (p.rep.name==[]) <;> simp
theorem a5k {α:Type} {l:List α} (h:l.isEmpty=true):l.length<=2048:=by cases l with
 | nil=>simp
 | cons _ _=>cases h
theorem c4P {n:Nat} (h:((n:Int)==1)=true):n<=2048:=by
 have:(n:Int)=1:=by simpa using h
 omega
theorem d0e {n:Nat} (h:((n:Int)==2)=true):n<=2048:=by
 have:(n:Int)=2:=by simpa using h
 omega
theorem a2R:I8 A6 A6=true:=by decide
theorem b8q {p:Pr} (h:p.k=1\/p.k=2):a43 p=(((((!(!(p.rep.name==[])))&&((p.ll.length:Int)==0))&&((p.gl.length:Int)==0))&&L3 p.rep)&&C8 (U8 p.name p.ch p.tg p.ex p.pn p.sp) J3):=by
 have hu:B6 p.k=(us0,true):=by rcases h with h | h <;> rw[h] <;> rfl
 refine a2V (pb:=((p.ll.length:Int)==0)) (fun hp=>by rw[hp];simp only[Bool.and_false,Bool.false_and]) (fun hp=>by rw[I7] at hp;exact a5k hp) (by omega) ?_;rw[a0H hu rfl];unfold U8;rw[P0];dsimp only [L8,us0];simp only[Bool.false_eq_true,if_true,if_false,reduceIte,L0,V3,Z5,a0h,O2,I7,Bool.and_true,Bool.true_and,Bool.false_and,Bool.false_or,Bool.or_false,Bool.not_false,Bool.not_true,a0i,a2h,G6,a2X,List.isEmpty_nil,a2R];generalize L3 p.rep=x0;generalize (p.rep.name==[])=x1;generalize p.ll.isEmpty=x2;generalize p.gl.isEmpty=x3;generalize (p.name==[])=x4;generalize G8 p.ch=x5;generalize p.tg.l.isEmpty=x6;generalize p.ex.l.isEmpty=x7;generalize p.pn.l.isEmpty=x8;generalize I8 p.sp A6=x9;revert x0 x1 x2 x3 x4 x5 x6 x7 x8 x9
 decide +kernel
theorem c9C {p:Pr} (h:p.k=3):a43 p=(((((((!(!(p.rep.name==[])))&&G2 p.tg.l 1 8 D7)&&G2 p.ex.l 1 8 E9)&&((p.ll.length:Int)==0))&&((p.gl.length:Int)==0))&&L3 p.rep)&&C8 (U8 p.name p.ch A7 A7 p.pn p.sp) J3):=by
 have hu:B6 p.k=({ us0 with t0:=1,t1:=8,e0:=1,e1:=8 },true):=by rw[h];rfl
 refine a2V (pb:=((p.ll.length:Int)==0)) (fun hp=>by rw[hp];simp only[Bool.and_false,Bool.false_and]) (fun hp=>by rw[I7] at hp;exact a5k hp) (by omega) ?_;rw[a0H hu rfl];unfold U8;rw[P0];dsimp only [L8,us0];simp only[Bool.false_eq_true,if_true,if_false,reduceIte,L0,V3,Z5,a0h,O2,I7,Bool.and_true,Bool.true_and,Bool.false_and,Bool.false_or,Bool.or_false,Bool.not_false,Bool.not_true,a0i,a2h,G6,a2X,List.isEmpty_nil,a2R];generalize L3 p.rep=x0;generalize (p.rep.name==[])=x1;generalize p.ll.isEmpty=x2;generalize p.gl.isEmpty=x3;generalize (p.name==[])=x4;generalize G8 p.ch=x5;generalize G2 p.tg.l 1 8 D7=x6;generalize p.pn.l.isEmpty=x7;generalize I8 p.sp A6=x8;generalize G2 p.ex.l 1 8 E9=x9;revert x0 x1 x2 x3 x4 x5 x6 x7 x8 x9
 decide +kernel
theorem c9l {p:Pr} (h:p.k=4):a43 p=(((((((!(!(p.rep.name==[])))&&D7 p.ch)&&G2 p.tg.l 1 8 D7)&&((p.ll.length:Int)==0))&&((p.gl.length:Int)==0))&&L3 p.rep)&&C8 (U8 p.name A0 A7 p.ex p.pn p.sp) J3):=by
 have hu:B6 p.k=({ us0 with chan:=true,t0:=1,t1:=8 },true):=by rw[h];rfl
 refine a2V (pb:=((p.ll.length:Int)==0)) (fun hp=>by rw[hp];simp only[Bool.and_false,Bool.false_and]) (fun hp=>by rw[I7] at hp;exact a5k hp) (by omega) ?_;rw[a0H hu rfl];unfold U8;rw[P0];dsimp only [L8,us0];simp only[Bool.false_eq_true,if_true,if_false,reduceIte,L0,V3,Z5,a0h,O2,I7,Bool.and_true,Bool.true_and,Bool.false_and,Bool.false_or,Bool.or_false,Bool.not_false,Bool.not_true,a0i,a2h,G6,a2X,List.isEmpty_nil,a2R];generalize L3 p.rep=x0;generalize (p.rep.name==[])=x1;generalize p.ll.isEmpty=x2;generalize p.gl.isEmpty=x3;generalize (p.name==[])=x4;generalize D7 p.ch=x5;generalize G2 p.tg.l 1 8 D7=x6;generalize p.ex.l.isEmpty=x7;generalize p.pn.l.isEmpty=x8;generalize I8 p.sp A6=x9;revert x0 x1 x2 x3 x4 x5 x6 x7 x8 x9
 decide +kernel
theorem c9i {p:Pr} (h:p.k=5):a43 p=(((((((!(!(p.rep.name==[])))&&D7 p.ch)&&G2 p.ex.l 1 9 E9)&&((p.ll.length:Int)==0))&&((p.gl.length:Int)==0))&&L3 p.rep)&&C8 (U8 p.name A0 p.tg A7 p.pn p.sp) J3):=by
 have hu:B6 p.k=({ us0 with chan:=true,e0:=1,e1:=9 },true):=by rw[h];rfl
 refine a2V (pb:=((p.ll.length:Int)==0)) (fun hp=>by rw[hp];simp only[Bool.and_false,Bool.false_and]) (fun hp=>by rw[I7] at hp;exact a5k hp) (by omega) ?_;rw[a0H hu rfl];unfold U8;rw[P0];dsimp only [L8,us0];simp only[Bool.false_eq_true,if_true,if_false,reduceIte,L0,V3,Z5,a0h,O2,I7,Bool.and_true,Bool.true_and,Bool.false_and,Bool.false_or,Bool.or_false,Bool.not_false,Bool.not_true,a0i,a2h,G6,a2X,List.isEmpty_nil,a2R];generalize L3 p.rep=x0;generalize (p.rep.name==[])=x1;generalize p.ll.isEmpty=x2;generalize p.gl.isEmpty=x3;generalize (p.name==[])=x4;generalize D7 p.ch=x5;generalize p.tg.l.isEmpty=x6;generalize p.pn.l.isEmpty=x7;generalize I8 p.sp A6=x8;generalize G2 p.ex.l 1 9 E9=x9;revert x0 x1 x2 x3 x4 x5 x6 x7 x8 x9
 decide +kernel
theorem c9y {p:Pr} (h:p.k=6):a43 p=(((((((!(!(p.rep.name==[])))&&D7 p.ch)&&G2 p.ex.l 1 1 E9)&&((p.ll.length:Int)==0))&&((p.gl.length:Int)==0))&&L3 p.rep)&&C8 (U8 p.name A0 p.tg A7 p.pn p.sp) J3):=by
 have hu:B6 p.k=({ us0 with chan:=true,e0:=1,e1:=1 },true):=by rw[h];rfl
 refine a2V (pb:=((p.ll.length:Int)==0)) (fun hp=>by rw[hp];simp only[Bool.and_false,Bool.false_and]) (fun hp=>by rw[I7] at hp;exact a5k hp) (by omega) ?_;rw[a0H hu rfl];unfold U8;rw[P0];dsimp only [L8,us0];simp only[Bool.false_eq_true,if_true,if_false,reduceIte,L0,V3,Z5,a0h,O2,I7,Bool.and_true,Bool.true_and,Bool.false_and,Bool.false_or,Bool.or_false,Bool.not_false,Bool.not_true,a0i,a2h,G6,a2X,List.isEmpty_nil,a2R];generalize L3 p.rep=x0;generalize (p.rep.name==[])=x1;generalize p.ll.isEmpty=x2;generalize p.gl.isEmpty=x3;generalize (p.name==[])=x4;generalize D7 p.ch=x5;generalize p.tg.l.isEmpty=x6;generalize p.pn.l.isEmpty=x7;generalize I8 p.sp A6=x8;generalize G2 p.ex.l 1 1 E9=x9;revert x0 x1 x2 x3 x4 x5 x6 x7 x8 x9
 decide +kernel
theorem c9B {p:Pr} (h:p.k=7):a43 p=((((((!(!(p.rep.name==[])))&&D7 p.ch)&&((p.ll.length:Int)==0))&&G2 p.gl 1 16 (gQ 7 7))&&L3 p.rep)&&C8 (U8 p.name A0 p.tg p.ex p.pn p.sp) J3):=by
 have hu:B6 p.k=({ us0 with chan:=true,g0:=1,g1:=16,lo:=7,hi:=7 },true):=by rw[h];rfl
 refine a2V (pb:=((p.ll.length:Int)==0)) (fun hp=>by rw[hp];simp only[Bool.and_false,Bool.false_and]) (fun hp=>by rw[I7] at hp;exact a5k hp) (by omega) ?_;rw[a0H hu rfl];unfold U8;rw[P0];dsimp only [L8,us0];simp only[Bool.false_eq_true,if_true,if_false,reduceIte,L0,V3,Z5,a0h,O2,I7,Bool.and_true,Bool.true_and,Bool.false_and,Bool.false_or,Bool.or_false,Bool.not_false,Bool.not_true,a0i,a2h,G6,a2X,List.isEmpty_nil,a2R];have e1:G2 p.gl 1 16 (inG { rep:=false,name:=false,chan:=true,spec:=false,procs:=false,t0:=0,t1:=0,e0:=0,e1:=0,p0:=0,p1:=0,g0:=1,g1:=16,lo:=7,hi:=7 })=G2 p.gl 1 16 (gQ 7 7):=rfl;rw[e1];generalize L3 p.rep=x0;generalize (p.rep.name==[])=x1;generalize p.ll.isEmpty=x2;generalize (p.name==[])=x3;generalize D7 p.ch=x4;generalize p.tg.l.isEmpty=x5;generalize p.ex.l.isEmpty=x6;generalize p.pn.l.isEmpty=x7;generalize I8 p.sp A6=x8;generalize G2 p.gl 1 16 (gQ 7 7)=x9
 revert x0 x1 x2 x3 x4 x5 x6 x7 x8 x9
 decide +kernel
theorem c5l {p:Pr} (h:p.k=10):a43 p=(((((!(!(p.rep.name==[])))&&((p.ll.length:Int)==2))&&((p.gl.length:Int)==0))&&L3 p.rep)&&C8 (U8 p.name p.ch p.tg p.ex p.pn p.sp) J3):=by
 have hu:B6 p.k=({ us0 with p0:=2,p1:=2 },true):=by rw[h];rfl
 refine a2V (pb:=((p.ll.length:Int)==2)) (fun hp=>by rw[hp];simp only[Bool.and_false,Bool.false_and]) (fun hp=>d0e hp) (by omega) ?_;rw[a0H hu rfl];unfold U8;rw[P0];dsimp only [L8,us0];simp only[Bool.false_eq_true,if_true,if_false,reduceIte,L0,V3,Z5,a0h,O2,I7,Bool.and_true,Bool.true_and,Bool.false_and,Bool.false_or,Bool.or_false,Bool.not_false,Bool.not_true,a0i,a2h,G6,a2X,List.isEmpty_nil,a2R];generalize L3 p.rep=x0;generalize (p.rep.name==[])=x1;generalize ((p.ll.length:Int)==2)=x2;generalize p.gl.isEmpty=x3;generalize (p.name==[])=x4;generalize G8 p.ch=x5;generalize p.tg.l.isEmpty=x6;generalize p.ex.l.isEmpty=x7;generalize p.pn.l.isEmpty=x8;generalize I8 p.sp A6=x9;revert x0 x1 x2 x3 x4 x5 x6 x7 x8 x9
 decide +kernel
theorem c5Y {p:Pr} (h:p.k=15):a43 p=((((((!(!(p.rep.name==[])))&&G2 p.ex.l 1 1 E9)&&((p.ll.length:Int)==0))&&G2 p.gl 0 16 (gQ 5 6))&&L3 p.rep)&&C8 (U8 p.name p.ch p.tg A7 p.pn p.sp) J3):=by
 have hu:B6 p.k=({ us0 with e0:=1,e1:=1,g0:=0,g1:=16,lo:=5,hi:=6 },true):=by rw[h];rfl
 refine a2V (pb:=((p.ll.length:Int)==0)) (fun hp=>by rw[hp];simp only[Bool.and_false,Bool.false_and]) (fun hp=>by rw[I7] at hp;exact a5k hp) (by omega) ?_;rw[a0H hu rfl];unfold U8;rw[P0];dsimp only [L8,us0];simp only[Bool.false_eq_true,if_true,if_false,reduceIte,L0,V3,Z5,a0h,O2,I7,Bool.and_true,Bool.true_and,Bool.false_and,Bool.false_or,Bool.or_false,Bool.not_false,Bool.not_true,a0i,a2h,G6,a2X,List.isEmpty_nil,a2R];have e1:G2 p.gl 0 16 (inG { rep:=false,name:=false,chan:=false,spec:=false,procs:=false,t0:=0,t1:=0,e0:=1,e1:=1,p0:=0,p1:=0,g0:=0,g1:=16,lo:=5,hi:=6 })=G2 p.gl 0 16 (gQ 5 6):=rfl;rw[e1];generalize L3 p.rep=x0;generalize (p.rep.name==[])=x1;generalize p.ll.isEmpty=x2;generalize (p.name==[])=x3;generalize G8 p.ch=x4;generalize p.tg.l.isEmpty=x5;generalize p.pn.l.isEmpty=x6;generalize I8 p.sp A6=x7;generalize G2 p.ex.l 1 1 E9=x8;generalize G2 p.gl 0 16 (gQ 5 6)=x9
 revert x0 x1 x2 x3 x4 x5 x6 x7 x8 x9
 decide +kernel
theorem c4y {p:Pr} (h:p.k=16):a43 p=((((((!(!(p.rep.name==[])))&&G2 p.ex.l 1 1 E9)&&((p.ll.length:Int)==1))&&((p.gl.length:Int)==0))&&L3 p.rep)&&C8 (U8 p.name p.ch p.tg A7 p.pn p.sp) J3):=by
 have hu:B6 p.k=({ us0 with e0:=1,e1:=1,p0:=1,p1:=1 },true):=by rw[h];rfl
 refine a2V (pb:=((p.ll.length:Int)==1)) (fun hp=>by rw[hp];simp only[Bool.and_false,Bool.false_and]) (fun hp=>c4P hp) (by omega) ?_;rw[a0H hu rfl];unfold U8;rw[P0];dsimp only [L8,us0];simp only[Bool.false_eq_true,if_true,if_false,reduceIte,L0,V3,Z5,a0h,O2,I7,Bool.and_true,Bool.true_and,Bool.false_and,Bool.false_or,Bool.or_false,Bool.not_false,Bool.not_true,a0i,a2h,G6,a2X,List.isEmpty_nil,a2R];generalize L3 p.rep=x0;generalize (p.rep.name==[])=x1;generalize ((p.ll.length:Int)==1)=x2;generalize p.gl.isEmpty=x3;generalize (p.name==[])=x4;generalize G8 p.ch=x5;generalize p.tg.l.isEmpty=x6;generalize p.pn.l.isEmpty=x7;generalize I8 p.sp A6=x8;generalize G2 p.ex.l 1 1 E9=x9;revert x0 x1 x2 x3 x4 x5 x6 x7 x8 x9
 decide +kernel
theorem c2P {p:Pr} (h:p.k=17):a43 p=(((((((!(!(p.rep.name==[])))&&Go.Lx.name p.name)&&G2 p.ex.l 0 8 E9)&&((p.ll.length:Int)==0))&&((p.gl.length:Int)==0))&&L3 p.rep)&&C8 (U8 [] p.ch p.tg A7 p.pn p.sp) J3):=by
 have hu:B6 p.k=({ us0 with name:=true,e0:=0,e1:=8 },true):=by rw[h];rfl
 refine a2V (pb:=((p.ll.length:Int)==0)) (fun hp=>by rw[hp];simp only[Bool.and_false,Bool.false_and]) (fun hp=>by rw[I7] at hp;exact a5k hp) (by omega) ?_;rw[a0H hu rfl];unfold U8;rw[P0];dsimp only [L8,us0];simp only[Bool.false_eq_true,if_true,if_false,reduceIte,L0,V3,Z5,a0h,O2,I7,Bool.and_true,Bool.true_and,Bool.false_and,Bool.false_or,Bool.or_false,Bool.not_false,Bool.not_true,a0i,a2h,G6,a2X,List.isEmpty_nil,a2R];generalize L3 p.rep=x0;generalize (p.rep.name==[])=x1;generalize p.ll.isEmpty=x2;generalize p.gl.isEmpty=x3;generalize Go.Lx.name p.name=x4;generalize G8 p.ch=x5;generalize p.tg.l.isEmpty=x6;generalize p.pn.l.isEmpty=x7;generalize I8 p.sp A6=x8;generalize G2 p.ex.l 0 8 E9=x9;revert x0 x1 x2 x3 x4 x5 x6 x7 x8 x9
 decide +kernel
theorem b8T {p:Pr} (h:p.k=18):a43 p=((((((!(!(p.rep.name==[])))&&spP p.sp)&&((p.ll.length:Int)==1))&&((p.gl.length:Int)==0))&&L3 p.rep)&&C8 (U8 p.name p.ch p.tg p.ex p.pn A6) J3):=by
 have hu:B6 p.k=({ us0 with spec:=true,p0:=1,p1:=1 },true):=by rw[h];rfl
 refine a2V (pb:=((p.ll.length:Int)==1)) (fun hp=>by rw[hp];simp only[Bool.and_false,Bool.false_and]) (fun hp=>c4P hp) (by omega) ?_;rw[a0H hu rfl];unfold U8;rw[P0];dsimp only [L8,us0];simp only[Bool.false_eq_true,if_true,if_false,reduceIte,L0,V3,Z5,a0h,O2,I7,Bool.and_true,Bool.true_and,Bool.false_and,Bool.false_or,Bool.or_false,Bool.not_false,Bool.not_true,a0i,a2h,G6,a2X,List.isEmpty_nil,a2R];generalize L3 p.rep=x0;generalize (p.rep.name==[])=x1;generalize ((p.ll.length:Int)==1)=x2;generalize p.gl.isEmpty=x3;generalize (p.name==[])=x4;generalize G8 p.ch=x5;generalize p.tg.l.isEmpty=x6;generalize p.ex.l.isEmpty=x7;generalize p.pn.l.isEmpty=x8;generalize spP p.sp=x9;revert x0 x1 x2 x3 x4 x5 x6 x7 x8 x9
 decide +kernel
end
end Go.Pc
namespace Go.Sx
section
open Go.Eng Go.Pc Go
open Go.Xp hiding B D3
open Go.Ty (Ty Vr Tok)
theorem a4F {α:Type} (q:α->α->Bool) (f:α->α):∀ (l r:List α),(∀ x ∈ l,∀ y,q (f x) y=q x y)->eqL q (l.map f) r=eqL q l r
 | [],[],_=>rfl
 | [],_::_,_=>rfl
 | _::_,[],_=>rfl
 | x::l,y::r,h=>by
  show(q (f x) y&&eqL q (l.map f) r)=(q x y&&eqL q l r);rw[h x (List.Mem.head _),a4F q f l r fun z hz=>h z (List.Mem.tail _ hz)]
theorem b9C (p q:Pr):C8 p q=(eqL (fun a b:Int=>a==b) p.pn.l q.pn.l&&((((((((((p.k==q.k)&&(p.name==q.name))&&a0Y p.rep q.rep)&&C7 p.ch q.ch)&&eqL C7 p.tg.l q.tg.l)&&eqL C7 p.ex.l q.ex.l)&&eqL K8 p.gl q.gl)&&eqL C8 p.ll q.ll)&&R3 p.sp q.sp))):=by
 rw[<- a9v,<- a3P];cases p;rfl
theorem c05 (p q:Gu):K8 p q=((((((((p.k==q.k)&&(p.name==q.name))&&C7 p.cond q.cond)&&C7 p.ch q.ch)&&C7 p.time q.time)&&eqL C7 p.tg.l q.tg.l)&&eqL C7 p.vl.l q.vl.l)&&eqL C8 p.bl q.bl):=by
 rw[<- a3P];cases p;rfl
theorem b9U (p q:Sp):R3 p q=(((((p.k==q.k)&&Go.Ty.eqT p.ty q.ty)&&eqL a0z p.fs.l q.fs.l))&&(((eqL (fun a b:B=>a==b) p.names.l q.names.l&&C7 p.e q.e)&&a1s p.cs p.vs.l q.cs q.vs.l)&&eqL C8 p.bl q.bl)):=by
 rw[<- a3P];cases p;rfl
theorem c8F (r s:Rp):a0Y (stR r) s=a0Y r s:=by
 unfold a0Y;show(((r.name==s.name)&&C7 (B2 r.base) s.base)&&C7 (B2 r.count) s.count)=_;rw[a2r,a2r]
theorem b4f (p:Pr):∀ q,C8 (stP p) q=C8 p q:=by
 refine Pr.ind (q:=fun p=>∀ q,C8 (stP p) q=C8 p q) (fun p ih q=>?_) p;obtain⟨h1,h2,h3,h4,h5,h6,h7,h8,h9,h10⟩:=b1c p;have hs:R3 (stS p.sp) q.sp=R3 p.sp q.sp:=by
  obtain⟨s1,s2,s3,s4,s5,s6,s7,s8⟩:=b9I p.sp;have hv:a1s p.sp.cs (p.sp.vs.l.map a1f) q.sp.cs q.sp.vs.l=a1s p.sp.cs p.sp.vs.l q.sp.cs q.sp.vs.l:=by
   unfold a1s;rw[a4F L5 a1f _ _ fun _ _ _=>rfl]
  rw[b9U,b9U,s1,s2,s3,s4,s5,s6,s7,s8,a2r,hv,a4F C8 stP _ _ fun x hx y=>ih x (.s hx) y]
 have hg:eqL K8 (p.gl.map stG) q.gl=eqL K8 p.gl q.gl:=by
  refine a4F K8 stG _ _ fun g hgm y=>?_
  obtain⟨g1,g2,g3,g4,g5,g6,g7,g8⟩:=b6w g;rw[c05,c05,g1,g2,g3,g4,g5,g6,g7,g8,a2r,a2r,a2r,a4F C7 B2 _ _ (fun x _ y=>a2r x y),a4F C7 B2 _ _ (fun x _ y=>a2r x y),a4F C8 stP _ _ fun x hx y=>ih x (.g hgm hx) y]
 rw[b9C,b9C,h1,h2,h3,h4,h5,h6,h7,h8,h9,h10,hs,hg,a2r,c8F,a4F C7 B2 _ _ (fun x _ y=>a2r x y),a4F C7 B2 _ _ (fun x _ y=>a2r x y),a4F C8 stP _ _ fun x hx y=>ih x (.l hx) y]
def a4C (s:B) (n e:Int):Bool:=C8 (N4 (a1I s)).1 J3&&((((N4 (a1I s)).2.1:Nat):Int)==n)&&((N4 (a1I s)).2.2==e)
end
end Go.Sx
namespace Go.Pc
section
open Go.Eng Go.Xp Go
open Go.Ty (Ty Vr)
set_option linter.unusedSimpArgs false
theorem c2Q {p:Pr} (h:p.k=8\/p.k=9):a43 p=((((true&&((!(!(p.rep.name==[])))||((p.ll.length:Int)==1)))&&((p.gl.length:Int)==0))&&L3 p.rep)&&C8 (U8 p.name p.ch p.tg p.ex p.pn p.sp) J3):=by
 unfold a43;by_cases hl:p.ll.length<=2048
 ·rw[if_pos hl]
  have hu:B6 p.k=({ us0 with rep:=true,p0:=0,p1:=2048 },true):=by rcases h with h | h <;> rw[h] <;> rfl
  rw[b4x hu];unfold U8;rw[P0];have hs:a4y 0 2048 (p.ll.length:Int)=true:=by
   unfold a4y;simp;omega
  rw[show b5d { us0 with rep:=true,p0:=0,p1:=2048 }={ us0 with rep:=true,p0:=1,p1:=1 } from rfl];dsimp only [L8,us0];simp only[Bool.false_eq_true,if_false,reduceIte,L0,Z5,hs,O2,I7,Bool.and_true,Bool.true_and,Bool.false_and,Bool.false_or,Bool.or_false,Bool.not_false,Bool.not_true];generalize L3 p.rep=x0;generalize (p.rep.name==[])=x1;generalize ((p.ll.length:Int)==1)=x2;generalize p.gl.isEmpty=x3;generalize (p.name==[])=x4;generalize G8 p.ch=x5;generalize p.tg.l.isEmpty=x6;generalize p.ex.l.isEmpty=x7;generalize p.pn.l.isEmpty=x8;generalize I8 p.sp A6=x9;revert x0 x1 x2 x3 x4 x5 x6 x7 x8 x9
  decide +kernel
 ·rw[if_neg hl]
  unfold b8j;rw[if_pos h]
theorem c6h {p:Pr} {lo hi le mo:Int} (h89:¬ (p.k=8\/p.k=9)) (hu:B6 p.k=({ us0 with rep:=true,g0:=0,g1:=16,lo:=lo,hi:=hi },true)) (hml:mo=(if (p.rep.name==[])=true then 16 else 1)/\le=(if (p.rep.name==[])=true then 0 else 1)) :
 a43 p=((((true&&((p.ll.length:Int)==0))&&G2 p.gl le mo (gQ lo hi))&&L3 p.rep)&&C8 (U8 p.name p.ch p.tg p.ex p.pn p.sp) J3):=by
 refine a2V (pb:=((p.ll.length:Int)==0)) (fun hp=>by rw[hp];simp only[Bool.and_false,Bool.false_and]) (fun hp=>by rw[I7] at hp;exact a5k hp) h89 ?_;rw[b4x hu];unfold U8;rw[P0,show b5d { us0 with rep:=true,g0:=0,g1:=16,lo:=lo,hi:=hi }={ us0 with rep:=true,g0:=1,g1:=1,lo:=lo,hi:=hi } from rfl];obtain⟨rfl,rfl⟩:=hml;have e1:∀ a b:Int,G2 p.gl a b (inG { rep:=true,name:=false,chan:=false,spec:=false,procs:=false,t0:=0,t1:=0,e0:=0,e1:=0,p0:=0,p1:=0,g0:=a,g1:=b,lo:=lo,hi:=hi })=G2 p.gl a b (gQ lo hi):=fun _ _=>rfl
 dsimp only [L8,us0];simp only[Bool.false_eq_true,if_false,reduceIte,L0,V3,O2,I7,Bool.and_true,Bool.true_and,Bool.false_and,Bool.false_or,Bool.or_false,Bool.not_false,Bool.not_true,e1];cases hn:(p.rep.name==[]) with
 | true=>
  simp only[if_true];generalize L3 p.rep=x0;generalize p.ll.isEmpty=x2;generalize G2 p.gl 0 16 (gQ lo hi)=x3;generalize (p.name==[])=x4;generalize G8 p.ch=x5;generalize p.tg.l.isEmpty=x6;generalize p.ex.l.isEmpty=x7;generalize p.pn.l.isEmpty=x8;generalize I8 p.sp A6=x9;revert x0 x2 x3 x4 x5 x6 x7 x8 x9
  decide +kernel
 | false=>
  simp only[Bool.false_eq_true,if_false];generalize L3 p.rep=x0;generalize p.ll.isEmpty=x2;generalize G2 p.gl 1 1 (gQ lo hi)=x3;generalize (p.name==[])=x4;generalize G8 p.ch=x5;generalize p.tg.l.isEmpty=x6;generalize p.ex.l.isEmpty=x7;generalize p.pn.l.isEmpty=x8;generalize I8 p.sp A6=x9;revert x0 x2 x3 x4 x5 x6 x7 x8 x9
  decide +kernel
theorem b1p {p:Pr} {le mo:Int} (h:p.k=12\/p.k=13) (hml:mo=(if (p.rep.name==[])=true then 16 else 1)/\le=(if (p.rep.name==[])=true then 0 else 1)) :
 a43 p=((((true&&((p.ll.length:Int)==0))&&G2 p.gl le mo (gQ 2 4))&&L3 p.rep)&&C8 (U8 p.name p.ch p.tg p.ex p.pn p.sp) J3):=
 c6h (by omega) (by rcases h with h | h <;> rw[h] <;> rfl) hml
theorem c5h {p:Pr} {le mo:Int} (h:p.k=14) (hml:mo=(if (p.rep.name==[])=true then 16 else 1)/\le=(if (p.rep.name==[])=true then 0 else 1)) :
 a43 p=((((true&&((p.ll.length:Int)==0))&&G2 p.gl le mo (gQ 1 1))&&L3 p.rep)&&C8 (U8 p.name p.ch p.tg p.ex p.pn p.sp) J3):=
 c6h (by omega) (by rw[h];rfl) hml
end
end Go.Pc
namespace Go.Xp
section
open Go.Eng Go
open Go.Ty (Tok C1)
open Go.Lx (G3)
set_option maxRecDepth 100000
def nx (t:Tok):Tok:=if G3 t then { t with at_:=0 } else zeroT
abbrev nxL (ts:List Tok):List Tok:=ts.map nx
theorem b5B {t:Tok} (h:G3 t=true):G3 { t with at_:=0 }=true:=Go.Lx.may_at h (by decide)
theorem d2v (t:Tok):nx (nx t)=nx t:=by
 unfold nx;cases h:G3 t with
 | true=>rw[if_pos rfl,if_pos (b5B h)]
 | false=>rfl
theorem a5E (ts:List Tok):C6 (nxL ts)=C6 ts:=by
 cases ts with
 | nil=>rfl
 | cons t r=>exact d2v t
def nxR:a0y->a0y
 | .ok (x,r)=>.ok (x,nxL r)
 | .error e=>.error e
abbrev c9T (ins:B->B->List Tok->a0y):Prop:=∀ o s ts,ins o s (nxL ts)=nxR (ins o s ts)
theorem b4U {ins:B->B->List Tok->a0y} (hi:c9T ins) (ts:List Tok):R1 ins (nxL ts)=nxR (R1 ins ts):=by
 have ht:(nxL ts).tail=nxL ts.tail:=by cases ts <;> rfl
 rw[M9 (a5E ts),M9 (rfl:C6 ts=C6 ts),ht,a5E,hi,hi];repeat' split
 all_goals first | rfl | (simp_all [nxR];done)
theorem b7X (mk:Ex->Ex) (p:a0y):unQ mk (nxR p)=nxR (unQ mk p):=by
 cases p with
 | ok q=>rfl
 | error e=>rfl
theorem b9D {ins:B->B->List Tok->a0y} (hi:c9T ins) (ts:List Tok):a1e ins (nxL ts)=nxR (a1e ins ts):=by
 have ht:(nxL ts).tail=nxL ts.tail:=by cases ts <;> rfl
 have ht2:(nxL ts.tail).tail=nxL ts.tail.tail:=by cases ts.tail <;> rfl
 rw[V5 (a5E ts),V5 (rfl:C6 ts=C6 ts),ht,ht2,a5E,b4U hi,b4U hi,b7X,b7X];split
 ·split <;> rfl
 ·split
  ·rfl
  ·split
   ·rfl
   ·cases hq:R1 ins ts with
    | error e=>rfl
    | ok p=>
     obtain⟨a,r⟩:=p;have ht3:(nxL r).tail=nxL r.tail:=by cases r <;> rfl
     show(if opF (C6 (nxL r)) 22 1≠0 then unQ (fun b=>sx 7 (opF (C6 (nxL r)) 22 1) 0 0 [] [a,b]) (R1 ins (nxL r).tail) else .ok (a,nxL r))=nxR (if opF (C6 r) 22 1≠0 then unQ (fun b=>sx 7 (opF (C6 r) 22 1) 0 0 [] [a,b]) (R1 ins r.tail) else .ok (a,r));rw[a5E,ht3,b4U hi,b7X];split <;> rfl
theorem c3j:∀ f,c9T (X3 f)
 | 0=>fun _ _ _=>rfl
 | f+1=>fun o s ts=>by
  have ht:(nxL ts).tail=nxL ts.tail:=by cases ts <;> rfl
  unfold X3;rw[a5E,ht,b9D (c3j f)];split
  ·cases a1e (X3 f) ts.tail with
   | error e=>rfl
   | ok p=>
    obtain⟨x,r⟩:=p;have ht3:(nxL r).tail=nxL r.tail:=by cases r <;> rfl
    show(if C6 (nxL r)=D0 s then .ok (x,(nxL r).tail) else .error 100:a0y)=nxR (if C6 r=D0 s then .ok (x,r.tail) else .error 100);rw[a5E,ht3];split <;> rfl
  ·rfl
theorem b7o (ts:List Tok):K7 (nxL ts)=K7 ts:=by
 unfold K7 a5M;rw[b9D (c3j 32)];cases a1e (X3 32) ts with
 | error e=>rfl
 | ok p=>
  obtain⟨x,r⟩:=p;show(if E9 x then Except.ok (x,(nxL ts).length - (nxL r).length) else .error 3)=if E9 x then Except.ok (x,ts.length - r.length) else .error 3
  rw[List.length_map,List.length_map]
theorem b1d {ts us:List Tok} (h:nxL ts=nxL us):K7 ts=K7 us:=by rw[<- b7o,h,b7o]
end
end Go.Xp
namespace Go.Sx
section
open Go.Eng Go.Pc Go
open Go.Xp hiding B
open Go.Ty (Ty Vr Tok)
open Go.Ly (Rw)
open Go.Lx (G3)
def z0 (t:Tok):Tok:={ t with at_:=0 }
def a1C (ts:List Tok):Prop:=∀ x ∈ ts,G3 x=true
theorem a1C.tail {ts:List Tok} (h:a1C ts):a1C ts.tail:=fun x hx=>h x (List.mem_of_mem_tail hx)
theorem a1C.drop {ts:List Tok} (h:a1C ts) (k:Nat):a1C (ts.drop k):=fun x hx=>h x (List.mem_of_mem_drop hx)
theorem a7A (k:Int) (s:B) (ts:List Tok):isM k s (ts.map z0)=isM k s ts:=by cases ts <;> rfl
theorem d1U {t:Tok} (h:G3 t=true):nx t=z0 t/\nx (z0 t)=z0 t:=by
 refine⟨by unfold nx;rw[if_pos h];rfl,?_⟩;unfold nx;rw[if_pos (show G3 (z0 t)=true from b5B h)];rfl
theorem c9c {ts:List Tok} (h:a1C ts):nxL (ts.map z0)=nxL ts:=by
 unfold nxL;rw[List.map_map];exact List.map_congr_left fun x hx=>by show nx (z0 x)=nx x;rw[(d1U (h x hx)).2,(d1U (h x hx)).1]
theorem b5g:∀ (w:List Tok) (l:List Tok) (i:Nat),Go.Ty.begAt (l.map z0) i w↔Go.Ty.begAt l i w
 | [],_,_=>Iff.rfl
 | y::w,l,i=>by
  show(Go.Ty.M (l.map z0) i y/\Go.Ty.begAt (l.map z0) (i+1) w)↔(Go.Ty.M l i y/\Go.Ty.begAt l (i+1) w);rw[b5g w l (i+1)];refine and_congr_left fun _=>?_
  unfold Go.Ty.M;constructor
  ·rintro ⟨x,hx,e⟩
   rw[List.getElem?_map] at hx;cases hl:l[i]? with
   | none=>rw[hl] at hx;cases hx
   | some u=>rw[hl] at hx;cases hx;exact⟨u,rfl,e⟩
  ·rintro ⟨x,hx,e⟩
   exact⟨z0 x,by rw[List.getElem?_map,hx];rfl,e⟩
theorem c6F (l:List Tok):Go.Ty.front (l.map z0)=Go.Ty.front l:=by
 rcases Go.Ty.front_to l with h | ⟨t,hm,hb,h⟩
 ·rcases Go.Ty.front_to (l.map z0) with h2 | ⟨t,hm,hb,_⟩
  ·rw[h,h2]
  ·have:=Go.Ty.front_of hm ((b5g _ _ _).1 hb)
   rw[h] at this;cases this
 ·rw[h,Go.Ty.front_of hm ((b5g _ _ _).2 hb)]
def a8x {α:Type}:E α->E α->Prop
 | .ok (x,r),.ok (y,s)=>x=y/\a1C r/\s=r.map z0
 | .error a,.error b=>a=b
 | _,_=>False
def a0X {α:Type} (f:List Tok->E α):Prop:=∀ ts,a1C ts->a8x (f ts) (f (ts.map z0))
theorem a4E {α:Type} (x:α) {r:List Tok} (h:a1C r):a8x (.ok (x,r)) (.ok (x,r.map z0)):=⟨rfl,h,rfl⟩
theorem a4z {α:Type} (e:Int):a8x (α:=α) (.error e) (.error e):=rfl
theorem a2A {α β:Type} {r r':E α} {f:α->List Tok->E β} (h:a8x r r') (hf:∀ x,a0X (f x)):a8x (M7 r f) (M7 r' f):=by
 rcases r with a | ⟨x,s⟩ <;> rcases r' with b | ⟨y,t⟩
 ·exact h
 ·exact h.elim
 ·exact h.elim
 ·obtain⟨rfl,hk,rfl⟩:=h
  exact hf x s hk
theorem X6 {α β:Type} {g:List Tok->E α} {f:α->List Tok->E β} (hg:a0X g) (hf:∀ x,a0X (f x)):a0X fun ts=>M7 (g ts) f:=fun ts h=>a2A (hg ts h) hf
theorem a3r {β:Type} {k:Int} {s:B} {f:List Tok->E β} (hf:a0X f):a0X fun ts=>U9 k s ts f:=fun ts h=>by
 show a8x (U9 k s ts f) (U9 k s (ts.map z0) f);unfold U9;rw[a7A];split
 ·rw[<- List.map_tail];exact hf _ h.tail
 ·exact a4z 110
theorem a7l {α:Type} {k:Int} {s:B} {f g:List Tok->E α} (hf:a0X f) (hg:a0X g):a0X fun ts=>if isM k s ts then f ts.tail else g ts:=fun ts h=>by
 show a8x (if isM k s ts then f ts.tail else g ts) (if isM k s (ts.map z0) then f (ts.map z0).tail else g (ts.map z0));rw[a7A];split
 ·rw[<- List.map_tail];exact hf _ h.tail
 ·exact hg _ h
theorem a2w {α:Type} (x:α):a0X fun ts=>(.ok (x,ts):E α):=fun _ h=>a4E x h
theorem a0x:a0X U5:=fun ts h=>by
 cases ts with
 | nil=>exact a4z 110
 | cons t r=>
  show a8x (if t.kind=1 then .ok (t.text,r) else .error 110) (if t.kind=1 then .ok (t.text,r.map z0) else .error 110);split
  ·exact a4E _ (fun x hx=>h x (List.mem_cons_of_mem _ hx))
  ·exact a4z 110
theorem R0:a0X H3:=fun ts h=>by
 unfold H3;rw[b1d (c9c h)];cases K7 ts with
 | error e=>exact a4z 110
 | ok p=>
  show a8x (.ok (p.1,ts.drop p.2)) (.ok (p.1,(ts.map z0).drop p.2));rw[<- List.map_drop];exact a4E _ (h.drop _)
theorem a0D:a0X F6:=fun ts h=>by
 have hk:((ts.map z0).headD Go.Ty.zeroK).kind=(ts.headD Go.Ty.zeroK).kind:=by cases ts <;> rfl
 unfold F6;rw[hk];split
 ·exact a2A (R0 ts h) fun x r hr=>by
   show a8x (if D7 x then .ok (x,r) else .error 110) (if D7 x then .ok (x,r.map z0) else .error 110);split
   ·exact a4E _ hr
   ·exact a4z 110
 ·exact a4z 110
theorem a8R:a0X a4H:=fun ts h=>by
 unfold a4H;rw[c6F];split
 ·rw[<- List.map_drop];exact a4E _ (h.drop _)
 ·exact a4z 110
theorem b3f:a0X a1D:=fun ts h=>a2A (a8R ts h) fun t r hr=>by
 show a8x (if Q0 t then .ok (t.kind,r) else .error 110) (if Q0 t then .ok (t.kind,r.map z0) else .error 110);split
 ·exact a4E _ hr
 ·exact a4z 110
theorem b6F:a0X W8:=fun ts h=>by
 unfold W8;rw[a7A];have hA:a1C (if isM 2 [86,65,76] ts then ts.tail else ts):=by split;exact h.tail;exact h
 have hE:(if isM 2 [86,65,76] ts then (ts.map z0).tail else ts.map z0)=(if isM 2 [86,65,76] ts then ts.tail else ts).map z0:=by split;rw[List.map_tail];rfl
 rw[hE];exact a2A (a8R _ hA) fun t=>X6 a0x fun n r hr=>by
  show a8x (if _ then Except.ok (_,r) else .error 110) (if _ then Except.ok (_,r.map z0) else .error 110);split
  ·exact a4E _ hr
  ·exact a4z 110
theorem b7b {α:Type} {take:List Tok->E α} (ht:a0X take) (sep:B):∀ (n:Nat) (acc:List α),a0X (a0N take sep n acc)
 | 0,acc=>fun ts h=>by
  show a8x (if isM 5 sep ts then .error 110 else .ok (acc,ts)) (if isM 5 sep (ts.map z0) then .error 110 else .ok (acc,ts.map z0));rw[a7A];split
  ·exact a4z 110
  ·exact a4E _ h
 | n+1,acc=>fun ts h=>by
  show a8x (if isM 5 sep ts then M7 (take ts.tail) _ else .ok (acc,ts)) (if isM 5 sep (ts.map z0) then M7 (take (ts.map z0).tail) _ else .ok (acc,ts.map z0));rw[a7A];split
  ·rw[<- List.map_tail];exact a2A (ht _ h.tail) fun x=>b7b ht sep n (acc++[x])
  ·exact a4E _ h
theorem a0r {α:Type} {take:List Tok->E α} (ht:a0X take) (sep:B) (most:Nat):a0X (M0 take sep most):=fun ts h=>a2A (ht ts h) fun x=>b7b ht sep _ [x]
theorem b9L {α:Type} {take:List Tok->E α} (ht:a0X take):a0X (brM take):=a3r (a7l (f:=fun r=>.ok ([],r)) (a2w []) (X6 (a0r ht [44] 8) fun l=>a3r (a2w l)))
theorem b78:a0X a8P:=fun ts h=>by
 unfold a8P;rw[show(ts.map z0).isEmpty=ts.isEmpty by cases ts <;> rfl];split
 ·exact a4E _ h
 ·exact a2A (a0x ts h) fun n=>a3r (X6 R0 fun b=>a3r (X6 R0 fun c=>a2w _))
theorem c8m:a0X ifM:=X6 R0 fun _=>a2w _
theorem c8c {ts:List Tok} (h:a1C ts):a5K (ts.map z0)=a5K ts:=by
 unfold a5K;rw[b1d (c9c h)];cases K7 ts with
 | error e=>rfl
 | ok p=>
  show isM 5 [38] ((ts.map z0).drop p.2)=isM 5 [38] (ts.drop p.2);rw[<- List.map_drop,a7A]
theorem b3S (c:Ex):a0X (a3K c):=X6 a0D fun ch=>a3r (a7l (f:=fun r=>M7 (H3 r) fun t r=>.ok (guM 4 [] c ch [] [] t,r)) (X6 R0 fun _=>a2w _) (X6 (a0r a0D [59] 8) fun _=>a2w _))
theorem b5S:a0X a2l:=fun ts h=>by
 unfold a2l;rw[c8c h];split
 ·exact a2A (R0 ts h) fun c=>a3r (a7l (f:=fun r=>.ok (guM 2 [] c A0 [] [] A0,r)) (a2w _) (b3S c))
 ·exact b3S A0 ts h
theorem c2A:a0X a7M:=a7l (f:=fun r=>.ok (guM 6 [] A0 A0 [] [] A0,r)) (a2w _) (X6 (a0r R0 [44] 8) fun _=>a2w _)
theorem c2Y:a0X a7Q:=X6 a0x fun n=>a7l (f:=fun r=>M7 (M0 F6 [59] 8 r) fun l r=>.ok (guM 7 n A0 A0 l [] A0,r)) (X6 (a0r a0D [59] 8) fun _=>a2w _) (a2w _)
theorem b4J:a0X Z4:=X6 a0x fun n=>a7l (f:=fun r=>M7 (M0 a1D [59] 8 r) fun l r=>.ok (vrM n l,r)) (X6 (a0r b3f [59] 8) fun _=>a2w _) (a2w _)
def a2f {α:Type} (f:List Tok->PE α):Prop:=∀ ts,a1C ts->f (ts.map z0)=f ts
theorem J2 {α β:Type} {g:List Tok->E α} (hg:a0X g) (i:Nat) {f:α->List Tok->PE β} (hf:∀ x,a2f (f x)):a2f fun ts=>E8 (g ts) i f:=fun ts h=>by
 show E8 (g (ts.map z0)) i f=E8 (g ts) i f;have q:=hg ts h;rcases hr:g ts with a | ⟨x,s⟩ <;> rcases hr':g (ts.map z0) with b | ⟨y,t⟩ <;> rw[hr,hr'] at q
 ·cases (show a=b from q);rfl
 ·exact q.elim
 ·exact q.elim
 ·obtain⟨rfl,hk,rfl⟩:=q
  exact hf x s hk
theorem J4 {β:Type} (i:Nat) (f:Nat->PE β):a2f fun ts=>D9 ts i f:=fun ts _=>by cases ts <;> rfl
theorem a1M {β:Type} {k:Int} {s:B} (i:Nat) {f:List Tok->PE β} (hf:a2f f):a2f fun ts=>U0 k s ts i f:=fun ts h=>by
 show U0 k s (ts.map z0) i f=U0 k s ts i f;unfold U0;rw[a7A];split
 ·rw[<- List.map_tail];exact hf _ h.tail
 ·rfl
theorem a1c {α:Type} {k:Int} {s:B} {f g:List Tok->PE α} (hf:a2f f) (hg:a2f g):a2f fun ts=>if isM k s ts then f ts.tail else g ts:=fun ts h=>by
 show(if isM k s (ts.map z0) then f (ts.map z0).tail else g (ts.map z0))=if isM k s ts then f ts.tail else g ts
 rw[a7A];split
 ·rw[<- List.map_tail];exact hf _ h.tail
 ·exact hg _ h
section
variable (R:List Rw) (rec:Int->Bool->Nat->PE Pr)
theorem c4X (k:Int) (i:Nat):a2f fun ts=>b2C k ts i:=J4 i _
theorem b94 (k d:Int) (i:Nat):a2f fun ts=>a1X R rec k d ts i:=J2 b78 i fun _=>J4 i _
theorem a9O (k:Int) (row:List Tok->E Gu) (d:Int) (i:Nat):a2f fun ts=>V6 R rec k row d ts i:=J2 b78 i fun _=>J4 i _
theorem c5c (d:Int) (i:Nat):a2f fun ts=>b5u R rec d ts i:=a1c (f:=fun ts=>D9 ts i _) (J4 i _) (a1M i (a9O R rec 13 a2l d i))
theorem c3y (d:Int) (i:Nat):a2f fun ts=>b5x R rec d ts i:=J2 R0 i fun _=>J4 i _
theorem c0J (d:Int) (i:Nat):a2f fun ts=>b02 rec d ts i:=J2 R0 i fun _=>J4 i _
theorem b6X (d:Int) (i:Nat):a2f fun ts=>a4b R rec d ts i:=a1M i (J4 i _)
theorem c84 (ts:List Tok):a5I (ts.map z0)=a5I ts:=by
 rcases ts with _ | ⟨t,_ | ⟨u,r⟩⟩ <;> rfl
theorem b1n {α:Type} (c:PE α):a2f fun _=>c:=fun _ _=>rfl
theorem c9W (ts:List Tok):((ts.map z0).headD Go.Ty.zeroK).kind=(ts.headD Go.Ty.zeroK).kind:=by cases ts <;> rfl
theorem b6c (d:Int) (i:Nat):a2f fun ts=>N1 R rec d ts i:=fun ts h=>by
 show N1 R rec d (ts.map z0) i=N1 R rec d ts i;unfold N1;rw[c9W,<- List.map_tail,a7A];split
 ·exact J2 a0x i (fun n=>J2 (b9L R0) i fun l=>J4 i _) ts h
 ·refine J2 (a0r a0D [44] 8) i (fun f=>?_) ts h
  refine a1c (f:=fun r=>E8 (M0 H3 [44] 8 r) i _) (J2 (a0r R0 [44] 8) i fun _=>J4 i _) ?_;by_cases hf:f.length > 1
  ·simp only[if_pos hf];exact b1n _
  ·simp only[if_neg hf]
   refine a1c (f:=fun r=>E8 (M0 H3 [59] 9 r) i _) (J2 (a0r R0 [59] 9) i fun _=>J4 i _) ?_;refine a1M i ?_;refine a1c (f:=fun r=>D9 r i _) (J4 i _) ?_;exact a1c (f:=fun r=>E8 (H3 r) i _) (J2 R0 i fun _=>J4 i _) (J2 (a0r a0D [59] 8) i fun _=>J4 i _)
theorem c2g (s:B) (f:Int->List Tok->Nat->PE Pr) (h:a09 R rec s=some f) (d:Int) (i:Nat):a2f fun ts=>f d ts i:=by
 unfold a09 at h;repeat' split at h
 all_goals first | (cases h;first | exact c4X _ i | exact b94 R rec _ d i | exact c5c R rec d i | exact a9O R rec _ _ d i | exact c3y R rec d i | exact c0J rec d i | exact b6X R rec d i) | cases h
theorem c1p (d:Int) (top:Bool) (i:Nat):a2f fun ts=>a1K R rec d top ts i:=fun ts h=>by
 cases ts with
 | nil=>rfl
 | cons t r=>
  have hs:N1 R rec d (z0 t::r.map z0) i=N1 R rec d (t::r) i:=b6c R rec d i (t::r) h;show a1K R rec d top (z0 t::r.map z0) i=a1K R rec d top (t::r) i;unfold a1K;simp only[show(z0 t).text=t.text from rfl,show(z0 t).kind=t.kind from rfl,hs];cases hw:a09 R rec t.text with
  | none=>rfl
  | some f=>
   have hf:f d (r.map z0) i=f d r i:=c2g R rec _ f hw d i r fun x hx=>h x (List.mem_cons_of_mem _ hx)
   simp only[hf]
theorem b1Y (s:Sp) (i:Nat):a2f fun ts=>a7v s ts i:=a1M i (by
 by_cases h:spP s=true
 ·simp only[if_pos h];exact J4 i _
 ·simp only[if_neg h];exact b1n _)
theorem b8w (d:Int) (i:Nat):a2f fun ts=>a5A R d ts i:=a1c (f:=fun ts=>E8 (M0 a1D [59] 8 ts) i _) (J2 (a0r b3f [59] 8) i fun _=>a1M i (J4 i _)) (J4 i _)
theorem c5L {α β:Type} {g:List Tok->PE α} (hg:a2f g) (f:α->Nat->PE β):a2f fun ts=>M4 (g ts) f:=fun ts h=>by
 show M4 (g (ts.map z0)) f=M4 (g ts) f;rw[hg ts h]
theorem c1N (d:Int) (i:Nat):a2f fun ts=>W2 R rec d ts i:=by
 refine a1c (f:=fun ts=>E8 (U5 ts) i _) (J2 a0x i fun n=>c5L (b8w R d i) _) ?_;refine a1c (f:=fun ts=>E8 (U5 ts) i _) (J2 a0x i fun n=>J2 (b9L b6F) i fun fs=>J4 i _) ?_;refine a1c (f:=fun ts=>E8 (a4H ts) i _) (J2 a8R i fun t=>J2 a0x i fun n=>a1M i (J2 R0 i fun e=>b1Y _ i)) ?_;intro ts h;simp only[a7A];split
 ·have q:a2f fun ts=>E8 (a4H ts) i fun t r=>E8 (M0 U5 [44] 8 r) i fun ns r=>if isM 2 [73,83] r then E8 (F6 r.tail) i fun e r=>a7v (spM 3 t ns e false [] [] []) r i else a7v (spM 1 t ns A0 false [] [] []) r i:=
   J2 a8R i fun t=>J2 (a0r a0x [44] 8) i fun ns=>a1c (f:=fun r=>E8 (F6 r) i fun e r=>a7v (spM 3 t ns e false [] [] []) r i) (J2 a0D i fun e=>b1Y _ i) (b1Y _ i)
  exact q ts h
 ·rfl
theorem b6z (d:Int) (top:Bool) (i:Nat) (f:Option Sp->Nat->PE Pr):a2f fun ts=>M4 (W2 R rec d ts i) fun so j=>match so with
 | some s=>f (some s) j
 | none=>a1K R rec d top ts j:=fun ts h=>by
 show M4 (W2 R rec d (ts.map z0) i) _=M4 (W2 R rec d ts i) _;have e:W2 R rec d (ts.map z0) i=W2 R rec d ts i:=c1N R rec d i ts h;rw[e];congr 1
 funext so j
 cases so with
 | some s=>rfl
 | none=>exact c1p R rec d top j ts h
end
end
section
open Go.Eng Go.Pc Go
open Go.Xp hiding B D3
open Go.Ty (Ty Vr Tok)
open Go.Ly (Rw)
open Go.Lx (G3)
def a9z (r:List Tok):Prop:=a7V r/\a8W r
theorem a2L:a9z []:=by unfold a9z a7V a8W;decide +kernel
def endT (t:Tok):Bool:=G3 t&&(t.at_==0)&&!Go.Ty.eqK t (D0 [91])&&(opF t 22 1==0)
theorem b45 {t:Tok} (h:endT t=true) (r:List Tok):a9z (t::r):=by
 unfold endT at h;simp only[Bool.and_eq_true,beq_iff_eq,Bool.not_eq_true'] at h;have hn:C6 (t::r)=t:=I4 h.1.1.1 h.1.1.2;refine⟨?_,?_⟩
 ·unfold a7V
  rw[hn];intro e;have:=(Go.Ty.eqK_iff t (D0 [91])).2 e;rw[this] at h;simp at h
 ·unfold a8W
  rw[hn];exact h.2
def Rd1 {α:Type} (f:List Tok->E α) (ts:List Tok) (x:α) (P:List Tok->Prop):Prop:=∀ r,P r->f (ts++r)=.ok (x,r)
theorem V4 {e:Ex} (hm:E9 e=true) (hW:Wf e):Rd1 H3 (B8 e) (B2 e) a9z:=fun r hr=>by
 unfold H3 B8;rw[if_pos hm,a2D hm hW hr.1 hr.2];show Except.ok (B2 e,(B0 e++r).drop (B0 e).length)=_;rw[List.drop_left]
theorem a9j {e:Ex} (h:D7 e=true):∃ r,B8 e=⟨1,0,e.s,0⟩::r:=by
 have hm:=a8Q h;have hk:=b3j h;unfold B8;rw[if_pos hm];cases e with
 | mk k o t n s a c l=>
  show ∃ r,wr k o t n s (R8 l)=_;rcases hk with q | q
  ·have q:k=4:=q
   subst q;exact⟨_,rfl⟩
  ·have q:k=5:=q
   subst q;exact⟨_,rfl⟩
theorem a6X {e:Ex} (hm:D7 e=true) (hW:Wf e):Rd1 F6 (B8 e) (B2 e) a9z:=fun r hr=>by
 obtain⟨q,hq⟩:=a9j hm;unfold F6;rw[if_pos (by rw[hq];rfl),V4 (a8Q hm) hW r hr];show(if D7 (B2 e) then Except.ok (B2 e,r) else .error 110)=_;rw[Z1,if_pos hm]
theorem b0Y:∀ (w u r:List Tok),(∀ x ∈ w,x.at_=0)->Go.Ty.begAt (u++(w++r)) u.length w
 | [],_,_,_=>trivial
 | y::w,u,r,h=>by
  refine⟨⟨y,by simp,?_⟩,?_⟩
  ·have:=h y (List.mem_cons_self ..)
   cases y;cases this;rfl
  ·have:=b0Y w (u++[y]) r (fun x hx=>h x (List.mem_cons_of_mem _ hx))
   simpa using this
theorem a6g {t:Ty} (h:Go.Ty.may t=true):Rd1 a4H (G1 t) t fun _=>True:=fun r _=>by
 have ht:G1 t=Go.Ty.toks t:=by unfold G1;rw[Go.Ty.tokens_yes h]
 have h0:∀ x ∈ Go.Ty.toks t,x.at_=0:=by
  intro x hx;unfold Go.Ty.toks at hx;simp only[List.mem_append,List.mem_singleton] at hx;rcases hx with (hx | hx) | hx
  ·unfold Go.Ty.dimT at hx
   split at hx
   ·simp at hx;rcases hx with rfl | rfl | rfl <;> rfl
   ·cases hx
  ·unfold Go.Ty.chanT at hx
   split at hx
   ·simp at hx;rcases hx with rfl | rfl <;> rfl
   ·cases hx
  ·rw[hx];unfold Go.Ty.lastT;repeat' split
   all_goals rfl
 have hf:=Go.Ty.front_of (l:=Go.Ty.toks t++r) h (b0Y _ [] r h0);unfold a4H;rw[ht,hf];show(if (0:Int)=0 then Except.ok (t,(Go.Ty.toks t++r).drop (Go.Ty.toks t).length) else .error 110)=_;rw[if_pos rfl,List.drop_left]
theorem c0A (s:B):Rd1 U5 [G5 s] s fun _=>True:=fun _ _=>rfl
theorem c0N {k:Int} (h:Q0 ⟨k,0,0,[]⟩=true):Rd1 a1D (Y0 k) k fun _=>True:=fun r _=>by
 have hm:Go.Ty.may ⟨k,0,0,[]⟩=true:=by
  unfold Q0 at h;simp only[Bool.and_eq_true] at h;exact h.1.1
 unfold a1D;rw[show Y0 k=G1 ⟨k,0,0,[]⟩ from rfl,a6g hm r trivial];show(if Q0 ⟨k,0,0,[]⟩ then Except.ok (k,r) else .error 110)=_;rw[if_pos h]
def a9r (s:B):Tok:=⟨5,0,s,0⟩
theorem d04 (s:B) (r:List Tok):isM 5 s (a9r s::r)=true:=by show(((5:Int)==5)&&(s==s))=true;simp
theorem b3W {α β:Type} {f:List Tok->E α} {tok:β->List Tok} {g:β->α} {P:List Tok->Prop} {sep:B} (hs:∀ r,P (a9r sep::r)) {rest:List Tok} (hr:P rest) (hn:isM 5 sep rest=false) :
 ∀ (l:List β) (n:Nat) (acc:List α),l.length<=n->(∀ x ∈ l,Rd1 f (tok x) (g x) P)->a0N f sep n acc (l.flatMap (fun x=>a9r sep::tok x)++rest)=.ok (acc++l.map g,rest)
 | [],n,acc,_,_=>by
  show a0N f sep n acc rest=.ok (acc++[],rest);rw[List.append_nil];cases n with
  | zero=>unfold a0N;rw[hn];rfl
  | succ n=>unfold a0N;rw[hn];rfl
 | x::l,n+1,acc,hl,hx=>by
  have ih:=b3W hs hr hn l n (acc++[g x]) (by simpa using hl) (fun y hy=>hx y (List.mem_cons_of_mem _ hy));have hP:P (l.flatMap (fun x=>a9r sep::tok x)++rest):=by
   cases l with
   | nil=>exact hr
   | cons y m=>exact hs _
  show a0N f sep (n+1) acc (a9r sep::(tok x++l.flatMap (fun x=>a9r sep::tok x)++rest))=_;unfold a0N;rw[d04,if_pos rfl,List.tail_cons,List.append_assoc,hx x (List.mem_cons_self ..) _ hP];show a0N f sep n (acc++[g x]) (l.flatMap (fun x=>a9r sep::tok x)++rest)=_;rw[ih];simp
theorem Y8 {β:Type} (sep:B) (tok:β->List Tok):∀ (x:β) (l:List β),B7 sep tok (x::l)=tok x++l.flatMap (fun x=>a9r sep::tok x)
 | x,[]=>by show tok x=_;simp
 | x,y::l=>by
  show tok x++⟨5,0,sep,0⟩::B7 sep tok (y::l)=_;rw[Y8 sep tok y l];simp[a9r]
theorem a6f {α β:Type} {f:List Tok->E α} {tok:β->List Tok} {g:β->α} {P:List Tok->Prop} {sep:B} {most:Nat} (hs:∀ r,P (a9r sep::r)) {l:List β} (h1:1<=l.length) (h2:l.length<=most) (hx:∀ x ∈ l,Rd1 f (tok x) (g x) P) :
 Rd1 (M0 f sep most) (B7 sep tok l) (l.map g) fun r=>P r/\isM 5 sep r=false:=fun rest hr=>by
 cases l with
 | nil=>simp at h1
 | cons x l=>
  have hP:P (l.flatMap (fun x=>a9r sep::tok x)++rest):=by
   cases l with
   | nil=>exact hr.1
   | cons y m=>exact hs _
  unfold M0;rw[Y8,List.append_assoc,hx x (List.mem_cons_self ..) _ hP];show a0N f sep (most - 1) [g x] (l.flatMap (fun x=>a9r sep::tok x)++rest)=_;rw[b3W hs hr.1 hr.2 l (most - 1) [g x] (by simp at h2;omega) (fun y hy=>hx y (List.mem_cons_of_mem _ hy))];rfl
end
section
open Go.Eng Go.Pc Go
open Go.Xp hiding B D3
open Go.Ty (Ty Vr Tok)
open Go.Ly (Rw)
open Go.Lx (G3)
def kw (s:B):Tok:=⟨2,0,s,0⟩
def sy (s:B):Tok:=⟨5,0,s,0⟩
def c5n:List Tok:=[sy [91],kw [73,78,84],kw [66,89,84,69],kw [66,79,79,76],kw [67,72,65,78],kw [84,73,77,69,82]]
theorem b1g {t:Ty} (h:Go.Ty.may t=true):∃ u r,G1 t=u::r/\u ∈ c5n:=by
 unfold G1;rw[Go.Ty.tokens_yes h];show ∃ u r,Go.Ty.toks t=u::r/\_;unfold Go.Ty.toks Go.Ty.dimT Go.Ty.chanT;by_cases hd:decide (t.dim > 0)=true
 ·rw[if_pos hd]
  exact⟨_,_,rfl,by decide⟩
 ·rw[if_neg hd]
  by_cases hk:(t.kind==4)=true
  ·rw[if_pos hk]
   exact⟨_,_,rfl,by decide⟩
  ·rw[if_neg hk]
   refine⟨Go.Ty.lastT t,[],rfl,?_⟩;have hb:Go.Ty.baseT t=t.kind:=by unfold Go.Ty.baseT;rw[if_neg hk]
   unfold Go.Ty.may at h;split at h
   ·cases h
   ·split at h
    ·rename_i hi
     rw[Go.Ty.is_eq] at hi;unfold Go.Ty.prim at hi;simp only[Bool.or_eq_true,beq_iff_eq] at hi;unfold Go.Ty.lastT;rw[hb];rcases hi with (hi | hi) | hi <;> rw[hi,if_pos (by decide)] <;> decide
    ·split at h
     ·rw[(Go.Ty.eqT_iff _ _).1 h]
      decide
     ·rename_i hn
      simp at hn hk;exact absurd hn hk
theorem a2N {k:Int} {s:B} (hd:(c5n.all fun u=>!isM k s [u])=true) {t:Ty} (h:Go.Ty.may t=true) (r:List Tok):isM k s (G1 t++r)=false:=by
 obtain⟨u,q,e,hu⟩:=b1g h;have:=List.all_eq_true.1 hd u hu;have h2:isM k s [u]=false:=by simpa using this
 rw[e];exact h2
theorem b9R {t:Ty} (h:Go.Ty.may t=true) (r:List Tok):(isM 5 [91] (G1 t++r)||isM 2 [73,78,84] (G1 t++r)||isM 2 [66,89,84,69] (G1 t++r)||isM 2 [66,79,79,76] (G1 t++r)||isM 2 [67,72,65,78] (G1 t++r)||isM 2 [84,73,77,69,82] (G1 t++r))=true:=by
 obtain⟨u,q,e,hu⟩:=b1g h;rw[e];simp only[c5n,List.mem_cons,List.not_mem_nil,or_false] at hu;rcases hu with rfl | rfl | rfl | rfl | rfl | rfl <;> rfl
theorem b7a {f:Fo} (h:foP f=true):Go.Ty.may f.ty=true:=by
 unfold foP at h;simp only[Bool.and_eq_true] at h;exact h.1.2
theorem b5z {f:Fo} (h:foP f=true):Rd1 W8 (J6 f) f fun _=>True:=fun r _=>by
 have hm:=b7a h;have hv:isM 2 [86,65,76] (J6 f++r)=f.val:=by
  unfold J6;cases hf:f.val with
  | true=>exact(show isM 2 [86,65,76] [A2 [86,65,76]]=true by decide +kernel)
  | false=>
   show isM 2 [86,65,76] ((([]++G1 f.ty)++[G5 f.name])++r)=false;rw[List.nil_append,List.append_assoc];exact a2N (by decide) hm _
 have ht:(if isM 2 [86,65,76] (J6 f++r) then (J6 f++r).tail else J6 f++r)=G1 f.ty++(G5 f.name::r):=by
  rw[hv];unfold J6;cases f.val with
  | true=>
   show(G1 f.ty++[G5 f.name])++r=_;simp
  | false=>
   show(([]++G1 f.ty)++[G5 f.name])++r=_;simp
 unfold W8;rw[hv] at ht ⊢;rw[ht,a6g hm _ trivial];show(if foP ⟨f.val,f.ty,f.name⟩ then Except.ok ((⟨f.val,f.ty,f.name⟩:Fo),r) else .error 110)=_;rw[if_pos h]
theorem a2s {β:Type} {t:Tok} {k:Int} {s:B} (h:isM k s [t]=true) (r:List Tok) (f:List Tok->E β):U9 k s (t::r) f=f r:=by
 have h:isM k s (t::r)=true:=h;unfold U9;rw[if_pos h];rfl
theorem X0 {s:B} (h:endT (sy s)=true) (r:List Tok):a9z (sy s::r):=b45 h r
theorem a2p:endT (sy [44])=true:=by decide +kernel
theorem a7Z:endT (sy [59])=true:=by decide +kernel
theorem b3H:endT (sy [58])=true:=by decide +kernel
theorem c8U:endT (sy [58,61])=true:=by decide +kernel
theorem a8X:endT (sy [63])=true:=by decide +kernel
theorem c8d:endT (sy [33])=true:=by decide +kernel
theorem b0s:endT (sy [38])=true:=by decide +kernel
theorem b9b:endT (sy [41])=true:=by decide +kernel
theorem c8i:endT (kw [70,79,82])=true:=by decide +kernel
theorem a5g {sep:B} (hsep:endT (sy sep)=true) {l:List Ex} {most:Nat} (h1:1<=l.length) (h2:l.length<=most) (hm:∀ x ∈ l,E9 x=true) (hW:∀ x ∈ l,Wf x) :
 Rd1 (M0 H3 sep most) (B7 sep B8 l) (l.map B2) fun r=>a9z r/\isM 5 sep r=false:=
 a6f (fun r=>X0 hsep r) h1 h2 fun x hx=>V4 (hm x hx) (hW x hx)
theorem a3Y {sep:B} (hsep:endT (sy sep)=true) {l:List Ex} {most:Nat} (h1:1<=l.length) (h2:l.length<=most) (hm:∀ x ∈ l,D7 x=true) (hW:∀ x ∈ l,Wf x) :
 Rd1 (M0 F6 sep most) (B7 sep B8 l) (l.map B2) fun r=>a9z r/\isM 5 sep r=false:=
 a6f (fun r=>X0 hsep r) h1 h2 fun x hx=>a6X (hm x hx) (hW x hx)
theorem b0y {l:List Int} (h1:1<=l.length) (h2:l.length<=8) (hm:∀ x ∈ l,Q0 ⟨x,0,0,[]⟩=true):Rd1 (M0 a1D [59] 8) (B7 [59] Y0 l) l fun r=>isM 5 [59] r=false:=fun r hr=>by
 have:=a6f (g:=fun x:Int=>x) (P:=fun _=>True) (sep:=[59]) (most:=8) (fun _=>trivial) h1 h2 (fun x hx=>c0N (hm x hx)) r ⟨trivial,hr⟩;simpa using this
theorem b0U {l:List B} (h1:1<=l.length) (h2:l.length<=8):Rd1 (M0 U5 [44] 8) (I9 l) l fun r=>isM 5 [44] r=false:=fun r hr=>by
 have:=a6f (f:=U5) (tok:=fun s=>[G5 s]) (g:=fun x:B=>x) (P:=fun _=>True) (sep:=[44]) (most:=8) (fun _=>trivial) h1 h2 (fun x _=>c0A x) r ⟨trivial,hr⟩;simpa [I9] using this
theorem a3l {s:B}:a9z []/\isM 5 s []=false:=⟨a2L,rfl⟩
theorem c2w {e:Ex} (h:G8 e=true):E9 e=false:=by
 have hs:B2 e=B2 A0:=(Y4 e A0).1 h;rw[<- P8,hs,P8];decide +kernel
theorem c8b {c:Ex} (hm:E9 c=true) (hW:Wf c):ifM (B8 c)=.ok (guM 1 [] (B2 c) A0 [] [] A0,[]):=by
 have:=V4 hm hW [] a2L;rw[List.append_nil] at this;unfold ifM;rw[this];rfl
theorem c04 {c:Ex} (hm:E9 c=true) (hW:Wf c) (r:List Tok):a5K (B8 c++sy [38]::r)=true:=by
 unfold a5K B8;rw[if_pos hm,a2D hm hW (X0 b0s r).1 (X0 b0s r).2];show isM 5 [38] ((B0 c++sy [38]::r).drop (B0 c).length)=true;rw[List.drop_left];rfl
theorem c8M {c:Ex} (hm:E9 c=true) (hW:Wf c) {r:List Tok} (hr:a9z r) (h:isM 5 [38] r=false):a5K (B8 c++r)=false:=by
 unfold a5K B8;rw[if_pos hm,a2D hm hW hr.1 hr.2];show isM 5 [38] ((B0 c++r).drop (B0 c).length)=false;rw[List.drop_left,h]
theorem c4I {l:List Ex} (h1:1<=l.length) (h2:l.length<=8) (hm:∀ x ∈ l,E9 x=true) (hW:∀ x ∈ l,Wf x) (he:isM 2 [69,76,83,69] (B7 [44] B8 l)=false):a7M (B7 [44] B8 l)=.ok (guM 5 [] A0 A0 [] (l.map B2) A0,[]):=by
 have:=a5g (most:=8) a2p h1 h2 hm hW [] a3l;rw[List.append_nil] at this;unfold a7M;rw[he,if_neg (by decide),this];rfl
theorem c0O:a7M [A2 [69,76,83,69]]=.ok (guM 6 [] A0 A0 [] [] A0,[]):=by
 unfold a7M;rw[if_pos (by decide +kernel)];rfl
end
section
open Go.Eng Go.Pc Go
open Go.Xp hiding B D3
open Go.Ty (Ty Vr Tok)
open Go.Ly (Rw)
open Go.Lx (G3)
theorem b33 (s:B):(D4 s).text=s:=by unfold D4;split <;> rfl
def b3y:B:=[69,76,83,69]
theorem b8z {ts:List Tok} (hk:(C6 ts).kind=2) (ht:(C6 ts).text=b3y):∃ e,K7 ts=.error e:=by
 have ne:∀ s:B,s≠b3y->C6 ts≠D4 s:=fun s hs e=>hs (by rw[<- b33 s,<- e,ht])
 have no:∀ o:Int,(V0 o).1≠b3y->C6 ts≠M3 o:=fun o ho=>ne _ ho
 have hc:a0O (C6 ts)=0:=by
  unfold a0O;rw[if_neg (ne _ (by decide)),if_neg (ne _ (by decide)),if_neg (ne _ (by decide))]
 have ho:opF (C6 ts) 4 23=0:=by
  unfold opF;rw[if_neg (no _ (by decide))]
  unfold opF;rw[if_neg (no _ (by decide))]
  unfold opF;rw[if_neg (no _ (by decide))]
  unfold opF;rw[if_neg (no _ (by decide))]
  rfl
 have hx:R1 (X3 32) ts=.error 100:=by
  rw[M9 rfl,if_neg (by rw[hk];decide),if_neg (by rw[hk];decide),if_neg (ne _ (by decide)),if_neg (ne _ (by decide)),if_neg (by rw[hk];decide),if_neg (fun e=>by rw[e] at hk;cases hk)]
 have:a5M ts=.error 100:=by
  unfold a5M;rw[V5 rfl,if_neg (ne _ (by decide)),if_neg (by rw[hc];decide),if_neg (by rw[ho];decide),hx]
 exact⟨100,by unfold K7;rw[this]⟩
theorem c6m {e:Ex} (hm:E9 e=true) (hW:Wf e) {r:List Tok} (hr:a9z r):isM 2 b3y (B8 e++r)=false:=by
 cases hi:isM 2 b3y (B8 e++r) with
 | false=>rfl
 | true=>
  exfalso;have hF:=(a2C hm).1;have hp:=b2Z e hF;have ht:B8 e=B0 e:=by unfold B8;rw[if_pos hm]
  rw[ht] at hi;have hw:=a2D hm hW hr.1 hr.2;cases hq:B0 e with
  | nil=>rw[hq] at hp;simp at hp
  | cons t q=>
   rw[hq] at hi hw;have hi':((t.kind==2)&&(t.text==b3y))=true:=hi;simp only[Bool.and_eq_true,beq_iff_eq] at hi';have hg:=a5d e hF hW t (by rw[hq];exact List.mem_cons_self ..);have hn:C6 ((t::q)++r)={ t with at_:=0 }:=by
    show C6 (t::(q++r))=_;rw[a3k,if_pos hg.1]
   obtain⟨x,hx⟩:=b8z (ts:=(t::q)++r) (by rw[hn];exact hi'.1) (by rw[hn];exact hi'.2);rw[hx] at hw;cases hw
theorem c3G {e:Ex} (h:D7 e=true) (s:B) (r:List Tok):isM 2 s (B8 e++r)=false:=by
 obtain⟨q,hq⟩:=a9j h;rw[hq];rfl
theorem b59 {l:List Ex} (h1:1<=l.length) (hm:∀ x ∈ l,D7 x=true) (s sep:B) (r:List Tok):isM 2 s (B7 sep B8 l++r)=false:=by
 cases l with
 | nil=>simp at h1
 | cons x l=>
  rw[Y8,List.append_assoc];exact c3G (hm x (List.mem_cons_self ..)) s _
theorem I6 {s:B} (h:Go.Lx.key s=true):A2 s=kw s:=by unfold A2;rw[if_pos h];rfl
theorem Q7 {s:B} (h:Go.Lx.key s=false):A2 s=sy s:=by unfold A2;rw[if_neg (by rw[h];decide)];rfl
theorem I3 {α β:Type} (x:α) (ts:List Tok) (f:α->List Tok->E β):M7 (.ok (x,ts)) f=f x ts:=rfl
theorem b2U {c ch:Ex} {tg:List Ex} (hc:D7 ch=true) (hcW:Wf ch) (h1:1<=tg.length) (h2:tg.length<=8) (hm:∀ x ∈ tg,D7 x=true) (hW:∀ x ∈ tg,Wf x) :
 a3K c (B8 ch++sy [63]::B7 [59] B8 tg)=.ok (guM 3 [] c (B2 ch) (tg.map B2) [] A0,[]):=by
 have hk:isM 2 [65,70,84,69,82] (B7 [59] B8 tg)=false:=by have:=b59 h1 hm [65,70,84,69,82] [59] [];rwa [List.append_nil] at this
 have hl:=a3Y (most:=8) a7Z h1 h2 hm hW [] a3l;rw[List.append_nil] at hl;unfold a3K;rw[a6X hc hcW _ (X0 a8X _)];simp only[I3];rw[a2s (by decide),hk,hl];rfl
theorem b4b {c ch tm:Ex} (hc:D7 ch=true) (hcW:Wf ch) (ht:E9 tm=true) (htW:Wf tm) :
 a3K c (B8 ch++sy [63]::kw [65,70,84,69,82]::B8 tm)=.ok (guM 4 [] c (B2 ch) [] [] (B2 tm),[]):=by
 have hl:=V4 ht htW [] a2L;rw[List.append_nil] at hl;unfold a3K;rw[a6X hc hcW _ (X0 a8X _)];simp only[I3];rw[a2s (by decide),if_pos (show isM 2 [65,70,84,69,82] (kw [65,70,84,69,82]::B8 tm)=true from rfl),List.tail_cons,hl];rfl
theorem b7s {c ch:Ex} (hm:E9 c=true) (hW:Wf c) (hc:D7 ch=true) (r:List Tok):a2l (B8 c++sy [38]::(B8 ch++r))=a3K (B2 c) (B8 ch++r):=by
 unfold a2l;rw[c04 hm hW,if_pos rfl,V4 hm hW _ (X0 b0s _)];simp only[I3];rw[a2s (by decide),c3G hc];rfl
theorem b6I {ch:Ex} (hc:D7 ch=true) (hcW:Wf ch) (r:List Tok):a2l (B8 ch++sy [63]::r)=a3K A0 (B8 ch++sy [63]::r):=by
 unfold a2l;rw[c8M (a8Q hc) hcW (X0 a8X _) rfl];rfl
theorem c1r {c:Ex} (hm:E9 c=true) (hW:Wf c):a2l (B8 c++[sy [38],kw [83,75,73,80]])=.ok (guM 2 [] (B2 c) A0 [] [] A0,[]):=by
 unfold a2l;rw[c04 hm hW,if_pos rfl,V4 hm hW _ (X0 b0s _)];rfl
theorem c4n {n:B} {tg:List Ex} (h2:tg.length<=8) (hm:∀ x ∈ tg,D7 x=true) (hW:∀ x ∈ tg,Wf x):a7Q ([G5 n]++a1R [59] (B7 [59] B8 tg))=.ok (guM 7 n A0 A0 (tg.map B2) [] A0,[]):=by
 cases tg with
 | nil=>rfl
 | cons x l=>
  have hl:=a3Y (l:=x::l) (most:=8) a7Z (by simp) h2 hm hW [] a3l;rw[List.append_nil] at hl;have hp:(B7 [59] B8 (x::l)).length≠0:=by
   obtain⟨q,hq⟩:=a9j (hm x (List.mem_cons_self ..));rw[Y8,hq];simp
  unfold a1R;rw[if_neg hp];show M7 (M0 F6 [59] 8 (B7 [59] B8 (x::l))) _=_;rw[hl];rfl
theorem b6p {r:Rp} (hn:r.name≠[]) (hb:E9 r.base=true) (hbW:Wf r.base) (hc:E9 r.count=true) (hcW:Wf r.count):a8P (a02 r)=.ok (⟨r.name,B2 r.base,B2 r.count⟩,[]):=by
 have hl:=V4 hc hcW [] a2L;rw[List.append_nil] at hl;have h0:a02 r=G5 r.name::sy [61]::(B8 r.base++kw [70,79,82]::B8 r.count):=by
  unfold a02;rw[if_neg hn,Q7 (s:=[61]) (by decide +kernel),I6 (s:=[70,79,82]) (by decide +kernel)];simp
 rw[h0];show M7 (H3 (B8 r.base++kw [70,79,82]::B8 r.count)) _=_;rw[V4 hb hbW _ (b45 c8i _)];show M7 (H3 (B8 r.count)) _=_;rw[hl];rfl
theorem b6Q {r:Rp} (hn:r.name=[]):a8P (a02 r)=.ok (B5,[]):=by unfold a02;rw[if_pos hn];rfl
end
section
open Go.Eng Go.Pc Go
open Go.Xp hiding B D3
open Go.Ty (Ty Vr Tok)
open Go.Ly (Rw)
open Go.Lx (G3)
def GT (t:Tok):Prop:=t.at_=0/\-2147483648<=t.n/\t.n<=2147483647
def GL (l:List Tok):Prop:=∀ t ∈ l,GT t
theorem a5t:GL []:=fun _ h=>by cases h
theorem G0 {a b:List Tok} (ha:GL a) (hb:GL b):GL (a++b):=fun t h=>(List.mem_append.1 h).elim (ha t) (hb t)
theorem a3d {t:Tok} {l:List Tok} (ht:GT t) (hl:GL l):GL (t::l):=fun u h=>by
 rcases List.mem_cons.1 h with rfl | h
 ·exact ht
 ·exact hl u h
theorem a4t (k:Int) (s:B):GT ⟨k,0,s,0⟩:=⟨rfl,by show(-2147483648:Int)<=0;decide,by show(0:Int)<=2147483647;decide⟩
theorem a2x (s:B):GT (A2 s):=by unfold A2;split <;> exact a4t _ _
theorem a0p {t:Tok} (h:GT t):GL [t]:=a3d h a5t
theorem a4w {e:Ex} (hW:Wf e):GL (B8 e):=fun t ht=>by
 have ha:=d1e e t ht;unfold B8 at ht;split at ht
 ·rename_i hm
  exact⟨ha,(a5d e (a2C hm).1 hW t ht).2⟩
 ·cases ht
theorem a8u {α:Type} {sep:B} {f:α->List Tok}:∀ {l:List α},(∀ x ∈ l,GL (f x))->GL (B7 sep f l)
 | [],_=>a5t
 | [x],h=>h x (List.mem_cons_self ..)
 | x::y::r,h=>G0 (h x (List.mem_cons_self ..)) (a3d (a4t _ _) (a8u (l:=y::r) fun z hz=>h z (List.mem_cons_of_mem _ hz)))
theorem b1q (t:Ty):GL (G1 t):=by
 unfold G1 Go.Ty.tokens;split
 ·rename_i h
  have hd:=Go.Ty.may_dim h;show GL (Go.Ty.toks t);unfold Go.Ty.toks;refine G0 (G0 ?_ ?_) (a0p ?_)
  ·unfold Go.Ty.dimT
   split
   ·exact a3d (a4t _ _) (a3d ⟨rfl,by show -2147483648<=t.dim;omega,by show t.dim<=2147483647;omega⟩ (a0p (a4t _ _)))
   ·exact a5t
  ·unfold Go.Ty.chanT
   split
   ·exact a3d (a4t _ _) (a0p (a4t _ _))
   ·exact a5t
  ·unfold Go.Ty.lastT
   repeat' split
   all_goals exact a4t _ _
 ·exact a5t
theorem b9p {s:B} {l:List Tok} (h:GL l):GL (a1R s l):=by
 unfold a1R;split
 ·exact a5t
 ·exact a3d (a2x s) h
theorem c4h {c:Prop} [Decidable c] {a b:List Tok} (ha:GL a) (hb:GL b):GL (if c then a else b):=by
 split
 ·exact ha
 ·exact hb
structure GW (g:Gu):Prop where
 k:0<=g.k
 cond:Wf g.cond
 ch:Wf g.ch
 time:Wf g.time
 tg:∀ x ∈ g.tg.l,Wf x
 vl:∀ x ∈ g.vl.l,Wf x
structure P1W (p:Pr):Prop where
 k:0<=p.k
 ch:Wf p.ch
 tg:∀ x ∈ p.tg.l,Wf x
 ex:∀ x ∈ p.ex.l,Wf x
 rb:Wf p.rep.base
 rc:Wf p.rep.count
 gs:∀ g ∈ p.gl,GW g
 se:Wf p.sp.e
 sk:0<=p.sp.k
 vw:∀ v ∈ p.sp.vs.l,v.items.length=v.n
inductive PW:Pr->Prop
 | mk {p:Pr} (o:P1W p) (s:∀ x,In x p->PW x):PW p
theorem PW.own {p:Pr} (q:PW p):P1W p:=by cases q;assumption
theorem PW.sub {p x:Pr} (q:PW p) (hx:In x p):PW x:=by cases q with | mk o s=>exact s x hx
theorem c9a {m:View} {h:List Res} {p:Pr} (q:POk m h p):PW p:=by
 induction q with
 | mk o _ ih=>exact .mk ⟨o.k.1,o.ch.w,fun x hx=>(o.tg.ok x hx).w,fun x hx=>(o.ex.ok x hx).w,o.rb.w,o.rc.w,fun g hg=>⟨(o.gs g hg).k.1,(o.gs g hg).cond.w,(o.gs g hg).ch.w,(o.gs g hg).time.w,fun x hx=>((o.gs g hg).tg.ok x hx).w,fun x hx=>((o.gs g hg).vl.ok x hx).w⟩,o.sp.e.w,o.sp.k.1,o.sp.vw⟩ ih
theorem d02 {r:Rp} (hb:Wf r.base) (hc:Wf r.count):GL (a02 r):=by
 unfold a02;split
 ·exact a5t
 ·exact G0 (G0 (G0 (G0 (a0p (a4t _ _)) (a0p (a2x _))) (a4w hb)) (a0p (a2x _))) (a4w hc)
theorem b0v {sep:B} {l:List Ex} (h:∀ x ∈ l,Wf x):GL (B7 sep B8 l):=a8u fun x hx=>a4w (h x hx)
theorem c4w {p:Pr} (h:P1W p):GL (A3 p.k p.name p.ch p.tg.l p.ex.l p.rep):=by
 have w:∀ s,GL [A2 s]:=fun s=>a0p (a2x s)
 have w2:∀ s u,GL [A2 s,A2 u]:=fun s u=>a3d (a2x s) (w u)
 have t1:=a4w h.ch;have t2:∀ sep,GL (B7 sep B8 p.tg.l):=fun sep=>b0v h.tg
 have t3:∀ sep,GL (B7 sep B8 p.ex.l):=fun sep=>b0v h.ex
 have t4:=d02 h.rb h.rc;have t5:GL [G5 p.name]:=a0p (a4t _ _);unfold A3;repeat' refine c4h ?_ ?_
 all_goals first | exact w _ | exact w2 _ _ | exact G0 (G0 (t2 _) (w _)) (t3 _) | exact G0 (G0 t1 (w _)) (t2 _) | exact G0 (G0 t1 (w _)) (t3 _) | exact G0 (G0 t1 (w2 _ _)) (t3 _) | exact G0 t1 (w2 _ _) | exact G0 (w _) t4 | exact G0 (w2 _ _) t4 | exact G0 (w _) (t3 _) | exact G0 (G0 (G0 t5 (w _)) (t3 _)) (w _)
theorem c5m {g:Gu} (h:GW g):GL (F7 g.k g.name g.cond g.ch g.tg.l g.vl.l g.time):=by
 have w:∀ s,GL [A2 s]:=fun s=>a0p (a2x s)
 have w2:∀ s u,GL [A2 s,A2 u]:=fun s u=>a3d (a2x s) (w u)
 have c:GL (a0b g.cond):=by
  unfold a0b;split
  ·exact a5t
  ·exact G0 (a4w h.cond) (a0p (a4t _ _))
 have t1:=a4w h.ch;have t2:∀ sep,GL (B7 sep B8 g.tg.l):=fun sep=>b0v h.tg
 have t3:∀ sep,GL (B7 sep B8 g.vl.l):=fun sep=>b0v h.vl
 unfold F7;repeat' split
 all_goals first | exact a4w h.cond | exact G0 c (w _) | exact G0 (G0 (G0 c t1) (w _)) (t2 _) | exact G0 (G0 (G0 c t1) (w2 _ _)) (a4w h.time) | exact t3 _ | exact w _ | exact G0 (a0p (a4t _ _)) (b9p (t2 _))
theorem c3D {l:List Tok} (hg:GL l) (hf:(Go.Lx.textO l).2=0):a1C l/\∃ q,Go.Lx.lexO (Go.Lx.textO l).1=(q,0,0)/\a1C q/\q.map z0=l:=by
 have hk:a1C l:=by
  unfold Go.Lx.textO at hf;split at hf
  ·simp at hf
  ·rename_i hn
   intro x hx;simp only[List.any_eq_true,not_exists,not_and,Bool.not_eq_true',Bool.not_eq_false] at hn;exact hn x hx
 have hn:Go.Lx.TkN l:=fun x hx=>(hg x hx).2
 rcases Go.Lx.textO_or hk (s:=(Go.Lx.textO l).1) (f:=(Go.Lx.textO l).2) rfl with ⟨h,_⟩ | ⟨_,h1,h2⟩
 ·rw[hf] at h;cases h
 ·obtain⟨b1,_,b3⟩:=Go.Lx.text_back hk hn (by rw[<- h1];exact h2)
  refine⟨hk,Go.Lx.place none 0 l,by rw[h1,b1],b3,?_⟩;have key:∀ (l:List Tok) (p:Option Tok) (q:Nat),GL l->(Go.Lx.place p q l).map z0=l:=by
   intro l;induction l with
   | nil=>intros;rfl
   | cons t r ih=>
    intro p q hg;show z0 _::(Go.Lx.place _ _ r).map z0=t::r;rw[ih _ _ fun x hx=>hg x (List.mem_cons_of_mem _ hx)];have:=(hg t (List.mem_cons_self ..)).1;cases t;cases this;rfl
  exact key l none 0 hg
def c2M (R:List Rw) (i:Nat) (x:Ln):Prop:=∃ no,R[i]?=some ⟨no,x.1,(Go.Lx.textO x.2).1⟩
theorem c7b {R:List Rw} {i:Nat} {x:Ln} (hR:c2M R i x) (hg:GL x.2) (hf:(Go.Lx.textO x.2).2=0) {β:Type} {f:List Tok->PE β} (hI:a2f f):a0d R x.1 i f=f x.2:=by
 obtain⟨no,hR⟩:=hR;obtain⟨_,q,h1,h2,h3⟩:=c3D hg hf;unfold a0d a1h;rw[hR];simp only[h1];rw[if_neg (by simp),if_neg (by simp)];show f q=_;rw[<- hI q h2,h3]
theorem c6R {R:List Rw} {i:Nat} {x:Ln} (hR:c2M R i x) (d:Int):M8 R d i=(x.1==d):=by
 obtain⟨no,hR⟩:=hR;unfold M8;rw[hR]
end
section
open Go.Eng Go.Pc Go
open Go.Xp hiding B D3
open Go.Ty (Ty Vr Tok)
open Go.Ly (Rw)
open Go.Lx (G3)
def GLs (l:List Ln):Prop:=∀ x ∈ l,GL x.2
theorem b0n:GLs []:=fun _ h=>by cases h
theorem a6T {a b:List Ln} (ha:GLs a) (hb:GLs b):GLs (a++b):=fun t h=>(List.mem_append.1 h).elim (ha t) (hb t)
theorem a3N {x:Ln} {l:List Ln} (ht:GL x.2) (hl:GLs l):GLs (x::l):=fun u h=>by
 rcases List.mem_cons.1 h with rfl | h
 ·exact ht
 ·exact hl u h
theorem a5B {c:Prop} [Decidable c] {a b:List Ln} (ha:GLs a) (hb:GLs b):GLs (if c then a else b):=by
 split
 ·exact ha
 ·exact hb
theorem c5u {l:List Pr} {d:Int} (h:∀ x ∈ l,GLs (A8 x d)):GLs (a0V l d):=by
 cases l with
 | nil=>exact b0n
 | cons x r=>exact h x (List.mem_cons_self ..)
theorem c9f {k:Int}:∀ {l:List Pr} {ns:List Int} {d:Int},(∀ x ∈ l,∀ d,GLs (A8 x d))->GLs (F4 k ns l d)
 | [],_,_,_=>b0n
 | x::r,ns,d,h=>by
  show GLs ((if k=11 then (d+1,[A2 [80,82,79,67,69,83,83,79,82],⟨3,0,[],IntKind.i32.wrap (ns.headD 0)⟩])::A8 x (d+2) else A8 x (d+1))++F4 k ns.tail r d);refine a6T (a5B (a3N ?_ (h x (List.mem_cons_self ..) _)) (h x (List.mem_cons_self ..) _)) (c9f fun y hy=>h y (List.mem_cons_of_mem _ hy));have:=Go.Lx.wrap_range (ns.headD 0);exact a3d (a2x _) (a0p ⟨rfl,this.1,this.2⟩)
theorem c5D {d:Int}:∀ {l:List Gu},(∀ g ∈ l,GW g)->(∀ g ∈ l,∀ x ∈ g.bl,∀ d,GLs (A8 x d))->GLs (C9 l d)
 | [],_,_=>b0n
 | g::r,hw,h=>by
  show GLs (V1 g d++C9 r d);rw[a3Q];exact a6T (a3N (c5m (hw g (List.mem_cons_self ..))) (c5u fun x hx=>h g (List.mem_cons_self ..) x hx _)) (c5D (fun g hg=>hw g (List.mem_cons_of_mem _ hg)) fun g hg=>h g (List.mem_cons_of_mem _ hg))
theorem c1a (f:Fo):GL (J6 f):=by
 unfold J6;exact G0 (G0 (c4h (a0p (a2x _)) a5t) (b1q _)) (a0p (a4t _ _))
theorem a4U (l:List B):GL (I9 l):=a8u fun _ _=>a0p (a4t _ _)
theorem b6C (l:List Int):GL (B7 [59] Y0 l):=a8u fun _ _=>b1q _
theorem d0Q (v:Vr):GL (G9 v):=G0 (a0p (a4t _ _)) (b9p (b6C _))
theorem d2J {s:Sp} {d:Int} (he:Wf s.e) (h:∀ x ∈ s.bl,∀ d,GLs (A8 x d)):GLs (F5 s d):=by
 have w:∀ s,GL [A2 s]:=fun s=>a0p (a2x s)
 have o:∀ {d:Int} {l:List Tok},GL l->GLs [(d,l)]:=fun h=>a3N h b0n
 rw[T9];refine a5B (o (G0 (G0 (b1q _) (a4U _)) (w _))) (a5B (o (G0 (G0 (G0 (G0 (G0 (w _) (b1q _)) (a4U _)) (w _)) (a4w he)) (w _))) (a5B (o (G0 (G0 (G0 (G0 (b1q _) (a4U _)) (w _)) (a4w he)) (w _))) (a5B ?_ (a5B ?_ ?_))))
 ·exact a3N (G0 (G0 (G0 (G0 (w _) (a4U _)) (w _)) (a8u fun f _=>c1a f)) (w _)) (a6T (c5u fun x hx=>h x hx _) (o (w _)))
 ·exact o (G0 (G0 (G0 (G0 (w _) (a4U _)) (w _)) (b6C _)) (w _))
 ·refine a3N (G0 (w _) (a4U _)) (a3N (w _) (a6T ?_ (o (w _))))
  intro x hx;obtain⟨v,_,rfl⟩:=List.mem_map.1 hx;exact d0Q v
theorem c1b (p:Pr):PW p->∀ d,GLs (A8 p d):=by
 refine Pr.ind (q:=fun p=>PW p->∀ d,GLs (A8 p d)) (fun p ih hw d=>?_) p;have o:=hw.own;rw[a3S];refine a5B (a6T (d2J o.se fun x hx d=>ih x (.s hx) (hw.sub (.s hx)) d) (c5u fun x hx=>ih x (.l hx) (hw.sub (.l hx)) d)) (a3N (c4w o) (a6T (c9f fun x hx d=>ih x (.l hx) (hw.sub (.l hx)) d) (c5D o.gs fun g hg x hx d=>ih x (.g hg hx) (hw.sub (.g hg hx)) d)))
structure OkL (R:List Rw) (i:Nat) (L:List Ln):Prop where
 at_:∀ j x,L[j]?=some x->c2M R (i+j) x
 fit:∀ x ∈ L,(Go.Lx.textO x.2).2=0
 gl:GLs L
theorem OkL.left {R:List Rw} {i:Nat} {a b:List Ln} (h:OkL R i (a++b)):OkL R i a:=⟨fun j x hx=>h.at_ j x (by rw[List.getElem?_append_left (List.getElem?_eq_some_iff.1 hx).1];exact hx),fun x hx=>h.fit x (List.mem_append_left _ hx),fun x hx=>h.gl x (List.mem_append_left _ hx)⟩
theorem OkL.right {R:List Rw} {i:Nat} {a b:List Ln} (h:OkL R i (a++b)):OkL R (i+a.length) b:=⟨fun j x hx=>by
 have:=h.at_ (a.length+j) x (by rw[List.getElem?_append_right (by omega)];rw[show a.length+j - a.length=j by omega];exact hx);rwa [<- Nat.add_assoc] at this,fun x hx=>h.fit x (List.mem_append_right _ hx),fun x hx=>h.gl x (List.mem_append_right _ hx)⟩
theorem OkL.tail {R:List Rw} {i:Nat} {x:Ln} {b:List Ln} (h:OkL R i (x::b)):OkL R (i+1) b:=OkL.right (a:=[x]) h
theorem OkL.open {R:List Rw} {i:Nat} {x:Ln} {b:List Ln} (h:OkL R i (x::b)) {β:Type} {f:List Tok->PE β} (hI:a2f f):a0d R x.1 i f=f x.2:=
 c7b (h.at_ 0 x rfl) (h.gl x (List.mem_cons_self ..)) (h.fit x (List.mem_cons_self ..)) hI
theorem OkL.here {R:List Rw} {i:Nat} {x:Ln} {b:List Ln} (h:OkL R i (x::b)) (d:Int):M8 R d i=(x.1==d):=c6R (h.at_ 0 x rfl) d
def a07 (R:List Rw) (i:Nat) (d:Int):Prop:=∀ y,R[i]?=some y->y.depth<=d
theorem a07.here {R:List Rw} {i:Nat} {d e:Int} (h:a07 R i d) (he:d < e):M8 R e i=false:=by
 unfold M8;cases hr:R[i]? with
 | none=>rfl
 | some y=>have:=h y hr;show(y.depth==e)=false;rw[beq_eq_false_iff_ne];omega
theorem a07.mono {R:List Rw} {i:Nat} {d e:Int} (h:a07 R i d) (he:d<=e):a07 R i e:=fun y hy=>Int.le_trans (h y hy) he
theorem OkL.after {R:List Rw} {i:Nat} {x:Ln} {b:List Ln} (h:OkL R i (x::b)) {d:Int} (hd:x.1<=d):a07 R i d:=fun y hy=>by
 obtain⟨no,hr⟩:=h.at_ 0 x rfl;rw[Nat.add_zero,hy] at hr;cases hr;exact hd
end
end Go.Sx
namespace Go.Pc
section
open Go.Eng Go.Xp Go
open Go.Ty (Ty Vr)
theorem b2R (k:Int):(B6 k).1.p1<=2048/\(b5d (B6 k).1).p1<=2048:=by
 by_cases hk:1<=k/\k<=18
 ·have:k=1\/k=2\/k=3\/k=4\/k=5\/k=6\/k=7\/k=8\/k=9\/k=10\/k=11\/k=12\/k=13\/k=14\/k=15\/k=16\/k=17\/k=18:=by omega
  rcases this with h | h | h | h | h | h | h | h | h | h | h | h | h | h | h | h | h | h <;> rw[h] <;> decide
 ·have:B6 k=(us0,false):=by
   unfold B6;repeat rw[if_neg (by omega)]
  rw[this];decide
theorem c0C {p:Pr} (h:N5 p=true):p.ll.length<=2048:=by
 have hV:=a1A h;by_cases hr:p.rep.name=[]
 ·have h1:=(hV.pn hr).2
  have:=(b2R p.k).1;omega
 ·unfold N5 at h
  have h2:=hV.rp hr;have h3:(p.rep.name != [])=true:=by simpa using hr
  rw[hV.kd,hV.rep,h3,h2] at h;simp only[Bool.not_true,Bool.or_self,Bool.false_eq_true,if_false,if_true] at h;have h4:=a9i (plU h).1.1.1;have:=(b2R p.k).2;omega
theorem N6 {p:Pr} (h:N5 p=true):a43 p=true:=by
 unfold a43;rw[if_pos (c0C h),h]
theorem c6K {s:Sp} (h:s.k≠4):(a1a s).cs=false:=by
 unfold a1a;split
 ·rfl
 split
 ·rfl
 split
 ·rfl
 rfl
theorem c7i {s:Sp} (hk:s.k<=5) (h1:1<=s.k) (h:s.k≠5):(a1a s).bl.length=0:=by
 unfold a1a;split
 ·rfl
 split
 ·rfl
 split
 ·rfl
 split
 ·rfl
 ·omega
theorem d3G {s:Sp} (h:spP s=true) (h4:s.k≠4):s.cs=false:=by
 have hV:=b0q h;unfold spP at h;rw[if_pos hV.kd] at h;simp only[Bool.and_eq_true] at h;have h2:=h.2;unfold I8 at h2;simp only[Bool.and_eq_true,beq_iff_eq] at h2;rw[h2.1.1.1.2,c6K h4]
theorem d2H {s:Sp} (h:spP s=true) (h5:s.k≠5):s.bl=[]:=by
 have hV:=b0q h;unfold spP at h;rw[if_pos hV.kd] at h;simp only[Bool.and_eq_true] at h;have h2:=h.2;unfold I8 at h2;simp only[Bool.and_eq_true,beq_iff_eq] at h2;have h3:=h2.2;rw[c7i hV.kd.2 hV.kd.1 h5] at h3;exact List.eq_nil_of_length_eq_zero (by omega)
end
end Go.Pc
namespace Go.Sx
section
open Go.Eng Go.Pc Go
open Go.Xp hiding B D3
open Go.Ty (Ty Vr Tok)
open Go.Ly (Rw)
open Go.Lx (G3)
theorem a5u (p:Pr) (d:Int):∃ t r,A8 p d=(d,t)::r:=by
 rw[a3S];split
 ·rw[T9]
  repeat' split
  all_goals exact⟨_,_,rfl⟩
 ·exact⟨_,_,rfl⟩
theorem a6Q (p:Pr) (d:Int):1<=(A8 p d).length:=by obtain⟨t,r,h⟩:=a5u p d;rw[h];simp
theorem OkL.len {R:List Rw} {i:Nat} {L:List Ln} (h:OkL R i L) (h0:L≠[]):i+L.length<=R.length:=by
 have hl:0 < L.length:=List.length_pos_iff.2 h0;obtain⟨no,hr⟩:=h.at_ (L.length - 1) (L[L.length - 1]'(by omega)) (List.getElem?_eq_getElem (by omega));have:=(List.getElem?_eq_some_iff.1 hr).1;omega
theorem b1G:∀ {l:List Pr} {d q:Int} {pl:Bool},(X9 l d pl q).1=true->∀ x ∈ l,∃ q',(J7 x d pl q').1=true
 | [],_,_,_,_,x,hx=>by cases hx
 | y::r,d,q,pl,h,x,hx=>by
  have e:X9 (y::r) d pl q=if (J7 y d pl q).1 then X9 r d pl (J7 y d pl q).2 else J7 y d pl q:=rfl
  rw[e] at h;by_cases hy:(J7 y d pl q).1=true
  ·rw[if_pos hy] at h
   rcases List.mem_cons.1 hx with rfl | hx
   ·exact⟨q,hy⟩
   ·exact b1G h x hx
  ·rw[if_neg hy] at h;exact absurd h hy
theorem b0P:∀ {l:List Gu} {d q:Int},(a2e l d q).1=true->∀ g ∈ l,∃ q',(a5s g.bl d q').1=true
 | [],_,_,_,x,hx=>by cases hx
 | y::r,d,q,h,x,hx=>by
  have e:a2e (y::r) d q=if (a0P y d q).1 then a2e r d (a0P y d q).2 else a0P y d q:=rfl
  rw[e] at h;by_cases hy:(a0P y d q).1=true
  ·rw[if_pos hy] at h
   rcases List.mem_cons.1 hx with rfl | hx
   ·rw[a4K] at hy;exact⟨q,hy⟩
   ·exact b0P h x hx
  ·rw[if_neg hy] at h;exact absurd h hy
structure MayV (p:Pr) (d:Int) (pl:Bool):Prop where
 plain:N5 p=true
 deep:d<=32
 top:p.k=11->pl=true
 ll:p.k≠18->∀ x ∈ p.ll,∃ q,(J7 x (if p.k=11 then d+2 else d+1) false q).1=true
 l8:p.k=18->∀ x ∈ p.ll,∃ q,(J7 x d pl q).1=true
 sp:p.k=18->∃ q,(a0U p.sp d q).1=true
 gl:∀ g ∈ p.gl,∃ q,(a5s g.bl (d+2) q).1=true
theorem d2i {p:Pr} {d left:Int} {pl:Bool} (h:(J7 p d pl left).1=true):MayV p d pl:=by
 rw[a6I] at h;by_cases hh:a0c p d pl left=true
 ·rw[if_pos hh] at h;cases h
 rw[if_neg hh] at h;unfold a0c at hh;simp only[Bool.not_eq_true,Bool.or_eq_false_iff,decide_eq_false_iff_not,Bool.not_eq_false',Bool.and_eq_false_iff,beq_eq_false_iff_ne] at hh;obtain⟨⟨⟨_,hd⟩,hp⟩,ht⟩:=hh;have htop:p.k=11->pl=true:=fun hk=>by rcases ht with q | q;exact absurd hk q;simpa using q
 by_cases hk:p.k=18
 ·rw[if_pos hk] at h
  by_cases hs:(a0U p.sp d (left - 1)).1=true
  ·rw[if_pos hs] at h
   by_cases hl:(X9 p.ll d pl (a0U p.sp d (left - 1)).2).1=true
   ·rw[if_pos hl] at h
    exact⟨hp,by omega,htop,fun q=>absurd hk q,fun _=>b1G hl,fun _=>⟨_,hs⟩,b0P h⟩
   ·rw[if_neg hl] at h;exact absurd h hl
  ·rw[if_neg hs] at h;exact absurd h hs
 ·rw[if_neg hk] at h
  by_cases hl:(X9 p.ll (if p.k=11 then d+2 else d+1) false (left - 1)).1=true
  ·rw[if_pos hl] at h
   exact⟨hp,by omega,htop,fun _=>b1G hl,fun q=>absurd q hk,fun q=>absurd q hk,b0P h⟩
  ·rw[if_neg hl] at h;exact absurd h hl
def b4P (R:List Rw) (n:Nat) (p:Pr):Prop:=∀ (d left:Int) (top:Bool) (i:Nat),PW p->(J7 p d top left).1=true->OkL R i (A8 p d)->a07 R (i+(A8 p d).length) d->(A8 p d).length<=n ->
 ∃ q,A4 R n d top i=.ok (q,i+(A8 p d).length)/\C8 p q=true
def K6 (d:Int) (l:List Pr):List Ln:=l.flatMap fun x=>A8 x d
theorem a8s {k:Int} (hk:k≠11):∀ (l:List Pr) (ns:List Int) (d:Int),F4 k ns l d=K6 (d+1) l
 | [],_,_=>rfl
 | x::r,ns,d=>by
  show(if k=11 then _ else A8 x (d+1))++F4 k ns.tail r d=A8 x (d+1)++K6 (d+1) r;rw[if_neg hk,a8s hk r]
theorem b5H {d:Int} {l:List Pr} {R:List Rw} {i:Nat} (hO:OkL R i (K6 d l)) (hA:a07 R (i+(K6 d l).length) (d - 1)):a07 R i d:=by
 cases l with
 | nil=>exact hA.mono (by omega)
 | cons x r=>
  obtain⟨t,s,h⟩:=a5u x d;have e:K6 d (x::r)=(d,t)::(s++K6 d r):=by show A8 x d++K6 d r=_;rw[h];rfl
  rw[e] at hO;exact hO.after (Int.le_refl d)
theorem b1I {R:List Rw} {n:Nat} {d:Int}:∀ (l:List Pr) (k:Nat) (acc:List Pr) (i:Nat),(∀ x ∈ l,b4P R n x)->(∀ x ∈ l,PW x)->(∀ x ∈ l,∃ q,(J7 x d false q).1=true)->OkL R i (K6 d l)->a07 R (i+(K6 d l).length) (d - 1)->(K6 d l).length<=n->l.length<=k ->
 ∃ qs,a0t R (A4 R n) d k acc i=.ok (acc++qs,i+(K6 d l).length)/\eqL C8 l qs=true
 | [],k,acc,i,_,_,_,_,hA,_,_=>by
  refine⟨[],?_,rfl⟩;have hh:M8 R d i=false:=hA.here (by omega);cases k with
  | zero=>show Except.ok (acc,i)=_;simp[K6]
  | succ k=>unfold a0t;rw[hh];simp[K6]
 | x::r,0,_,_,_,_,_,_,_,_,hk=>by simp at hk
 | x::r,k+1,acc,i,hB,hW,hM,hO,hA,hn,hk=>by
  have e:K6 d (x::r)=A8 x d++K6 d r:=rfl;rw[e] at hO hA hn;rw[List.length_append] at hA hn;obtain⟨t,s,hx⟩:=a5u x d;have hh:M8 R d i=true:=by
   have:=hO.left;rw[hx] at this;rw[this.here];simp
  have hA2:a07 R (i+(A8 x d).length) d:=b5H hO.right (by rw[Nat.add_assoc];exact hA);obtain⟨q0,hm⟩:=hM x (List.mem_cons_self ..);obtain⟨q,h1,h2⟩:=hB x (List.mem_cons_self ..) d q0 false i (hW x (List.mem_cons_self ..)) hm hO.left hA2 (by omega);obtain⟨qs,h3,h4⟩:=b1I r k (acc++[q]) (i+(A8 x d).length) (fun y hy=>hB y (List.mem_cons_of_mem _ hy)) (fun y hy=>hW y (List.mem_cons_of_mem _ hy)) (fun y hy=>hM y (List.mem_cons_of_mem _ hy)) hO.right (by rw[Nat.add_assoc];exact hA) (by omega) (by simpa using hk);refine⟨q::qs,?_,?_⟩
  ·unfold a0t
   rw[hh,if_pos rfl,h1];show a0t R (A4 R n) d k (acc++[q]) (i+(A8 x d).length)=_;rw[h3,e,List.length_append];simp[Nat.add_assoc]
  ·show(C8 x q&&eqL C8 r qs)=true
   rw[h2,h4];rfl
end
section
open Go.Eng Go.Pc Go
open Go.Xp hiding B D3
open Go.Ty (Ty Vr Tok)
open Go.Ly (Rw)
open Go.Lx (G3)
theorem Y3 (e:Ex):C7 e (B2 e)=true:=(Y4 e (B2 e)).2 (b8U e).symm
theorem a0C:∀ l:List Ex,eqL C7 l (l.map B2)=true
 | []=>rfl
 | x::r=>by show(C7 x (B2 x)&&eqL C7 r (r.map B2))=true;rw[Y3,a0C r];rfl
theorem E7 {l:List Ex} (h:l=[]):eqL C7 l []=true:=by rw[h];rfl
theorem emp {α:Type} {l:List α} (h:l.isEmpty=true):l=[]:=by cases l with
 | nil=>rfl
 | cons x r=>cases h
theorem a3c {g:Gu} {k:Int} {nm:B} {c ch tm:Ex} {tg vl:List Ex} {x y:Pr} (hk:g.k=k) (hn:g.name=nm) (h1:C7 g.cond c=true) (h2:C7 g.ch ch=true) (h3:C7 g.time tm=true) (h4:eqL C7 g.tg.l tg=true) (h5:eqL C7 g.vl.l vl=true) (hb:g.bl=[x]) (hs:C8 x y=true) :
 K8 g (a2i (guM k nm c ch tg vl tm) y)=true:=by
 rw[a6l];show((((((((g.k==k)&&(g.name==nm))&&C7 g.cond c)&&C7 g.ch ch)&&C7 g.time tm)&&eqL C7 g.tg.l tg)&&eqL C7 g.vl.l vl)&&eqL C8 g.bl [y])=true;rw[h1,h2,h3,h4,h5,hk,hn,hb];show((((((((k==k)&&(nm==nm))&&true)&&true)&&true)&&true)&&true)&&(C8 x y&&true))=true;rw[hs];simp
def a4G (row:List Tok->E Gu) (g:Gu):Prop:=∃ g',row (F7 g.k g.name g.cond g.ch g.tg.l g.vl.l g.time)=.ok (g',[])/\∀ x y,g.bl=[x]->C8 x y=true->K8 g (a2i g' y)=true
theorem a74 {nm:B} {c ch tm:Ex} {tg vl:Sli Ex} (h:K8 (.mk 0 nm c ch tg vl tm none 0 []) a2Z=true):nm=[]/\G8 c=true/\G8 ch=true/\G8 tm=true/\tg.l=[]/\vl.l=[]:=by
 rw[a1B] at h;simp only[Bool.and_eq_true,beq_iff_eq] at h;exact⟨h.1.1.1.1.1,h.1.1.1.1.2,h.1.1.1.2,h.1.1.2,emp h.1.2,emp h.2⟩
theorem c7T {g:Gu} (h:guP g=true) (hW:GW g) (hk:g.k=1):a4G ifM g:=by
 rw[b9j (.inl hk)] at h;simp only[Bool.and_eq_true] at h;obtain⟨⟨h1,_⟩,h2⟩:=h;obtain⟨z1,_,z3,z4,z5,z6⟩:=a74 h2;refine⟨_,by unfold F7;rw[if_pos hk,c8b h1 hW.cond],fun x y hb hs=>a3c hk z1 (Y3 _) z3 z4 (E7 z5) (E7 z6) hb hs⟩
theorem b3x {c:Ex} (h:G8 c=true):a0b c=[]:=by unfold a0b;rw[if_pos h]
theorem b1H {c:Ex} (h:E9 c=true):a0b c=B8 c++[sy [38]]:=by
 unfold a0b;rw[if_neg (fun q=>by rw[c2w q] at h;cases h)];rfl
theorem b5L {g:Gu} (h:guP g=true) (hW:GW g) (hk:g.k=2\/g.k=3\/g.k=4):a4G a2l g:=by
 have w1:A2 [63]=sy [63]:=Q7 (by decide +kernel);have w2:A2 [65,70,84,69,82]=kw [65,70,84,69,82]:=I6 (by decide +kernel);have w3:A2 [83,75,73,80]=kw [83,75,73,80]:=I6 (by decide +kernel);rcases hk with hk | hk | hk
 ·rw[b9j (.inr hk)] at h
  simp only[Bool.and_eq_true] at h;obtain⟨⟨h1,_⟩,h2⟩:=h;obtain⟨z1,_,z3,z4,z5,z6⟩:=a74 h2;refine⟨_,?_,fun x y hb hs=>a3c hk z1 (Y3 _) z3 z4 (E7 z5) (E7 z6) hb hs⟩;unfold F7;rw[if_neg (by omega),if_pos hk,b1H h1,w3,List.append_assoc];exact c1r h1 hW.cond
 ·rw[d1W hk] at h
  simp only[Bool.and_eq_true,Bool.or_eq_true] at h;obtain⟨⟨⟨⟨h1,h2⟩,h3⟩,_⟩,h4⟩:=h;obtain⟨z1,_,_,z4,_,z6⟩:=a74 h4;obtain⟨t1,t2,t3⟩:=F9 h3;have a:=b2U (c:=B2 g.cond) h2 hW.ch (by omega) (by omega) t1 hW.tg;have a0:=b2U (c:=A0) h2 hW.ch (by omega) (by omega) t1 hW.tg;rcases h1 with h1 | h1
  ·refine⟨_,?_,fun x y hb hs=>a3c hk z1 h1 (Y3 _) z4 (a0C _) (E7 z6) hb hs⟩
   unfold F7;rw[if_neg (by omega),if_neg (by omega),if_pos hk,b3x h1,w1,List.nil_append,List.append_assoc];exact(b6I h2 hW.ch _).trans a0
  ·refine⟨_,?_,fun x y hb hs=>a3c hk z1 (Y3 _) (Y3 _) z4 (a0C _) (E7 z6) hb hs⟩
   unfold F7;rw[if_neg (by omega),if_neg (by omega),if_pos hk,b1H h1,w1];have e:(((B8 g.cond++[sy [38]])++B8 g.ch)++[sy [63]])++B7 [59] B8 g.tg.l=B8 g.cond++sy [38]::(B8 g.ch++sy [63]::B7 [59] B8 g.tg.l):=by simp
   rw[e];exact(b7s h1 hW.cond h2 _).trans a
 ·rw[d1H hk] at h
  simp only[Bool.and_eq_true,Bool.or_eq_true] at h;obtain⟨⟨⟨⟨h1,h2⟩,h3⟩,_⟩,h4⟩:=h;obtain⟨z1,_,_,_,z5,z6⟩:=a74 h4;have a:=b4b (c:=B2 g.cond) h2 hW.ch h3 hW.time;have a0:=b4b (c:=A0) h2 hW.ch h3 hW.time;rcases h1 with h1 | h1
  ·refine⟨_,?_,fun x y hb hs=>a3c hk z1 h1 (Y3 _) (Y3 _) (E7 z5) (E7 z6) hb hs⟩
   unfold F7;rw[if_neg (by omega),if_neg (by omega),if_neg (by omega),if_pos hk,b3x h1,w1,w2,List.nil_append,List.append_assoc];exact(b6I h2 hW.ch _).trans a0
  ·refine⟨_,?_,fun x y hb hs=>a3c hk z1 (Y3 _) (Y3 _) (Y3 _) (E7 z5) (E7 z6) hb hs⟩
   unfold F7;rw[if_neg (by omega),if_neg (by omega),if_neg (by omega),if_pos hk,b1H h1,w1,w2];have e:(((B8 g.cond++[sy [38]])++B8 g.ch)++[sy [63],kw [65,70,84,69,82]])++B8 g.time=B8 g.cond++sy [38]::(B8 g.ch++sy [63]::kw [65,70,84,69,82]::B8 g.time):=by simp
   rw[e];exact(b7s h1 hW.cond h2 _).trans a
theorem c6k {g:Gu} (h:guP g=true) (hW:GW g) (hk:g.k=5\/g.k=6):a4G a7M g:=by
 rcases hk with hk | hk
 ·rw[d1O hk] at h
  simp only[Bool.and_eq_true] at h;obtain⟨⟨h1,_⟩,h2⟩:=h;obtain⟨z1,z2,z3,z4,z5,_⟩:=a74 h2;obtain⟨t1,t2,t3⟩:=F9 h1;refine⟨_,?_,fun x y hb hs=>a3c hk z1 z2 z3 z4 (E7 z5) (a0C _) hb hs⟩;unfold F7;rw[if_neg (by omega),if_neg (by omega),if_neg (by omega),if_neg (by omega),if_pos hk];refine c4I (by omega) (by omega) t1 hW.vl ?_;cases hl:g.vl.l with
  | nil=>rw[hl] at t2;simp at t2
  | cons x r=>
   have hx:x ∈ g.vl.l:=by rw[hl];exact List.mem_cons_self ..
   rw[Y8];refine c6m (t1 x hx) (hW.vl x hx) ?_;cases r with
   | nil=>exact a2L
   | cons y s=>exact X0 a2p _
 ·rw[d2G hk] at h
  simp only[Bool.and_eq_true] at h;obtain⟨z1,z2,z3,z4,z5,z6⟩:=a74 h.2;refine⟨_,?_,fun x y hb hs=>a3c hk z1 z2 z3 z4 (E7 z5) (E7 z6) hb hs⟩;unfold F7;rw[if_neg (by omega),if_neg (by omega),if_neg (by omega),if_neg (by omega),if_neg (by omega),if_pos hk];exact c0O
theorem c2p {g:Gu} (h:guP g=true) (hW:GW g) (hk:g.k=7):a4G a7Q g:=by
 have hh:=h;unfold guP at h;rw[hk] at h;simp only[O2,Bool.and_eq_true] at h;obtain⟨⟨⟨⟨⟨⟨⟨⟨h1,h2⟩,h3⟩,h4⟩,h5⟩,h6⟩,h7⟩,h8⟩,h9⟩:=h;simp only[Int.reduceBEq,Int.reduceEq,Bool.or_false,Bool.false_eq_true,if_true,if_false] at h4 h6 h7 h8 h9;obtain⟨t1,t2,t3⟩:=F9 h8;obtain⟨v1,v2,v3⟩:=F9 h9;have hv:g.vl.l=[]:=List.length_eq_zero_iff.1 (by omega);refine⟨_,?_,fun x y hb hs=>a3c hk rfl h4 h6 h7 (a0C _) (E7 hv) hb hs⟩;unfold F7;rw[if_neg (by omega),if_neg (by omega),if_neg (by omega),if_neg (by omega),if_neg (by omega),if_neg (by omega)];exact c4n (by omega) t1 hW.tg
end
section
open Go.Eng Go.Pc Go
open Go.Xp hiding B D3
open Go.Ty (Ty Vr Tok)
open Go.Ly (Rw)
open Go.Lx (G3)
theorem T7 {α β:Type} (x:α) (ts:List Tok) (i:Nat) (f:α->List Tok->PE β):E8 (.ok (x,ts)) i f=f x ts:=rfl
theorem Y6 {β:Type} (i:Nat) (f:Nat->PE β):D9 [] i f=f (i+1):=rfl
theorem a0E {α β:Type} (x:α) (i:Nat) (f:α->Nat->PE β):M4 (.ok (x,i)) f=f x i:=rfl
def c2x (R:List Rw) (n:Nat) (d:Int) (g:Gu):Prop:=∃ x,g.bl=[x]/\b4P R n x/\PW x/\∃ q,(J7 x d false q).1=true
theorem b1Z {g:Gu} {x:Pr} (h:g.bl=[x]) (d:Int):V1 g d=(d,F7 g.k g.name g.cond g.ch g.tg.l g.vl.l g.time)::A8 x (d+1):=by rw[a3Q,h];rfl
theorem b4E {d:Int} {l:List Gu} {R:List Rw} {i:Nat} (hO:OkL R i (C9 l d)) (hA:a07 R (i+(C9 l d).length) (d - 1)):a07 R i d:=by
 cases l with
 | nil=>exact hA.mono (by omega)
 | cons g r=>
  have e:C9 (g::r) d=(d,F7 g.k g.name g.cond g.ch g.tg.l g.vl.l g.time)::(a0V g.bl (d+1)++C9 r d):=by show V1 g d++C9 r d=_;rw[a3Q];rfl
  rw[e] at hO;exact hO.after (Int.le_refl d)
theorem b01 {R:List Rw} {n:Nat} {d:Int} {row:List Tok->E Gu} {least most:Nat} (hI:a0X row):∀ (l:List Gu) (k:Nat) (acc:List Gu) (i:Nat),(∀ g ∈ l,a4G row g)->(∀ g ∈ l,c2x R n (d+1) g)->OkL R i (C9 l d)->a07 R (i+(C9 l d).length) (d - 1)->(C9 l d).length<=n+1->l.length<=k ->
 acc.length+l.length<=most->least<=acc.length+l.length->∃ gs,R5 R (A4 R n) row least most d k acc i=.ok (acc++gs,i+(C9 l d).length)/\eqL K8 l gs=true
 | [],k,acc,i,_,_,_,hA,_,_,_,hle=>by
  refine⟨[],?_,rfl⟩;have hh:M8 R d i=false:=hA.here (by omega);have hl:¬ acc.length < least:=by simp at hle;omega
  cases k with
  | zero=>unfold R5;rw[if_neg hl];simp[C9]
  | succ k=>unfold R5;rw[if_neg (by rw[hh];simp;omega)];simp[C9]
 | g::r,0,_,_,_,_,_,_,_,hk,_,_=>by simp at hk
 | g::r,k+1,acc,i,hH,hB,hO,hA,hn,hk,hm,hle=>by
  obtain⟨x,hb,hBx,hWx,q0,hMx⟩:=hB g (List.mem_cons_self ..);obtain⟨g',hr,hs⟩:=hH g (List.mem_cons_self ..);have e:C9 (g::r) d=(d,F7 g.k g.name g.cond g.ch g.tg.l g.vl.l g.time)::(A8 x (d+1)++C9 r d):=by show V1 g d++C9 r d=_;rw[b1Z hb];rfl
  rw[e] at hO hA hn;have hlen:((d,F7 g.k g.name g.cond g.ch g.tg.l g.vl.l g.time)::(A8 x (d+1)++C9 r d):List Ln).length=1+((A8 x (d+1)).length+(C9 r d).length):=by simp;omega
  rw[hlen] at hA hn;have hh:M8 R d i=true:=by rw[hO.here];simp
  have hT:=hO.tail;have hA1:a07 R (i+1+(A8 x (d+1)).length) d:=b4E hT.right (by rw[show i+1+(A8 x (d+1)).length+(C9 r d).length=i+(1+((A8 x (d+1)).length+(C9 r d).length)) by omega];exact hA);obtain⟨q,h1,h2⟩:=hBx (d+1) q0 false (i+1) hWx hMx hT.left (hA1.mono (by omega)) (by omega);obtain⟨gs,h3,h4⟩:=b01 (least:=least) (most:=most) hI r k (acc++[a2i g' q]) (i+1+(A8 x (d+1)).length) (fun y hy=>hH y (List.mem_cons_of_mem _ hy)) (fun y hy=>hB y (List.mem_cons_of_mem _ hy)) hT.right
   (by rw[show i+1+(A8 x (d+1)).length+(C9 r d).length=i+(1+((A8 x (d+1)).length+(C9 r d).length)) by omega];exact hA) (by omega) (by simpa using hk) (by simp at hm ⊢;omega) (by simp at hle ⊢;omega)
  refine⟨a2i g' q::gs,?_,?_⟩
  ·unfold R5
   rw[if_pos (.inr ⟨by simp at hm;omega,hh⟩)];rw[hO.open (f:=fun ts=>E8 (row ts) i fun g r=>D9 r i fun i=>M4 (A4 R n (d+1) false i) fun x i=>R5 R (A4 R n) row least most d k (acc++[a2i g x]) i) (J2 hI i fun _=>J4 i _)];show E8 (row (F7 g.k g.name g.cond g.ch g.tg.l g.vl.l g.time)) i _=_;rw[hr,T7,Y6,h1,a0E,h3,e,hlen];simp;omega
  ·show(K8 g (a2i g' q)&&eqL K8 r gs)=true
   rw[hs x q hb h2,h4];rfl
theorem c2h {v:Int} (h:0<=v/\v < 8):a5I [⟨3,0,[],IntKind.i32.wrap v⟩]=some v:=by
 have hw:IntKind.i32.wrap v=v:=Go.Lx.wrap_small ⟨h.1,by omega⟩;unfold a5I;rw[hw];simp[h.1,h.2]
def S5 (d:Int):List Int->List Pr->List Ln
 | _,[]=>[]
 | ns,x::r=>(d+1,[A2 [80,82,79,67,69,83,83,79,82],⟨3,0,[],IntKind.i32.wrap (ns.headD 0)⟩])::(A8 x (d+2)++S5 d ns.tail r)
theorem a8f:∀ (l:List Pr) (ns:List Int) (d:Int),F4 11 ns l d=S5 d ns l
 | [],_,_=>rfl
 | x::r,ns,d=>by
  show((d+1,[A2 [80,82,79,67,69,83,83,79,82],⟨3,0,[],IntKind.i32.wrap (ns.headD 0)⟩])::A8 x (d+2))++F4 11 ns.tail r d=_;rw[a8f r];rfl
theorem a9Y {R:List Rw} {n:Nat} {d:Int}:∀ (l:List Pr) (ns:List Int) (k:Nat) (ac:List Int) (acc:List Pr) (i:Nat),l.length=ns.length->(∀ v ∈ ns,0<=v/\v < 8)->(∀ x ∈ l,b4P R n x)->(∀ x ∈ l,PW x)->(∀ x ∈ l,∃ q,(J7 x (d+2) false q).1=true)->OkL R i (S5 d ns l)->a07 R (i+(S5 d ns l).length) d->(S5 d ns l).length<=n+1->l.length<=k ->
 acc.length+l.length<=8->1<=acc.length+l.length->∃ qs,P5 R (A4 R n) d k ac acc i=.ok ((ac++ns,acc++qs),i+(S5 d ns l).length)/\eqL C8 l qs=true
 | [],ns,k,ac,acc,i,hn0,_,_,_,_,_,hA,_,_,_,hle=>by
  have hns:ns=[]:=List.length_eq_zero_iff.1 hn0.symm;subst hns;refine⟨[],?_,rfl⟩;have hh:M8 R (d+1) i=false:=hA.here (by omega);have hl:¬ acc.length=0:=by simp at hle;omega
  cases k with
  | zero=>unfold P5;rw[if_neg hl];simp[S5]
  | succ k=>unfold P5;rw[if_neg (by rw[hh];simp;intro q;rw[q] at hl;exact hl rfl)];simp[S5]
 | x::r,ns,0,_,_,_,_,_,_,_,_,_,_,_,hk,_,_=>by simp at hk
 | x::r,[],k+1,_,_,_,hn0,_,_,_,_,_,_,_,_,_,_=>by simp at hn0
 | x::r,v::ns,k+1,ac,acc,i,hn0,hv,hB,hW,hM,hO,hA,hn,hk,hm,hle=>by
  have w:A2 [80,82,79,67,69,83,83,79,82]=kw [80,82,79,67,69,83,83,79,82]:=I6 (by decide +kernel);have e:S5 d (v::ns) (x::r)=(d+1,[kw [80,82,79,67,69,83,83,79,82],⟨3,0,[],IntKind.i32.wrap v⟩])::(A8 x (d+2)++S5 d ns r):=by rw[<- w];rfl
  rw[e] at hO hA hn;have hlen:((d+1,[kw [80,82,79,67,69,83,83,79,82],⟨3,0,[],IntKind.i32.wrap v⟩])::(A8 x (d+2)++S5 d ns r):List Ln).length=1+((A8 x (d+2)).length+(S5 d ns r).length):=by simp;omega
  rw[hlen] at hA hn;have hh:M8 R (d+1) i=true:=by rw[hO.here];simp
  have hT:=hO.tail;have hA1:a07 R (i+1+(A8 x (d+2)).length) (d+1):=by
   have hr:=hT.right;cases r with
   | nil=>
    have:a07 R (i+1+(A8 x (d+2)).length) d:=by
     have q:i+1+(A8 x (d+2)).length=i+(1+((A8 x (d+2)).length+(S5 d ns []).length)):=by simp[S5];omega
     rw[q];exact hA
    exact this.mono (by omega)
   | cons y s=>exact OkL.after hr (by show d+1<=d+1;omega)
  obtain⟨q0,hm0⟩:=hM x (List.mem_cons_self ..);obtain⟨q,h1,h2⟩:=hB x (List.mem_cons_self ..) (d+2) q0 false (i+1) (hW x (List.mem_cons_self ..)) hm0 hT.left (hA1.mono (by omega)) (by omega);obtain⟨qs,h3,h4⟩:=a9Y r ns k (ac++[v]) (acc++[q]) (i+1+(A8 x (d+2)).length) (by simpa using hn0) (fun u hu=>hv u (List.mem_cons_of_mem _ hu)) (fun y hy=>hB y (List.mem_cons_of_mem _ hy)) (fun y hy=>hW y (List.mem_cons_of_mem _ hy)) (fun y hy=>hM y (List.mem_cons_of_mem _ hy)) hT.right
   (by rw[show i+1+(A8 x (d+2)).length+(S5 d ns r).length=i+(1+((A8 x (d+2)).length+(S5 d ns r).length)) by omega];exact hA) (by omega) (by simpa using hk) (by simp at hm ⊢;omega) (by simp;omega)
  refine⟨q::qs,?_,?_⟩
  ·unfold P5
   rw[if_pos (.inr ⟨by simp at hm;omega,hh⟩)];refine(hO.open (a1M i fun ts _=>by simp only[c84])).trans ?_;show(match a5I [⟨3,0,[],IntKind.i32.wrap v⟩] with
    | some n1=>M4 (A4 R n (d+2) false (i+1)) fun x i=>P5 R (A4 R n) d k (ac++[n1]) (acc++[x]) i
    | none=>.error (110,i))=_
   rw[c2h (hv v (List.mem_cons_self ..))];simp only[h1,a0E];rw[h3,e,hlen];simp;omega
  ·show(C8 x q&&eqL C8 r qs)=true
   rw[h2,h4];rfl
end
section
open Go.Eng Go.Pc Go
open Go.Xp hiding B D3
open Go.Ty (Ty Vr Tok)
open Go.Ly (Rw)
open Go.Lx (G3)
theorem U6 {p:Pr} {k:Int} {nm:B} {ch:Ex} {tg ex:List Ex} {rep:Rp} {gl:List Gu} {ll:List Pr} {pn:List Int} {sp:Sp} (h1:p.k=k) (h2:p.name=nm) (h3:C7 p.ch ch=true) (h4:eqL C7 p.tg.l tg=true) (h5:eqL C7 p.ex.l ex=true) (h6:a0Y p.rep rep=true)
 (h7:eqL K8 p.gl gl=true) (h8:eqL C8 p.ll ll=true) (h9:p.pn.l=pn) (h10:R3 p.sp sp=true):C8 p (prM k nm ch tg ex rep gl ll pn sp)=true:=by
 rw[a6r];show(eqL (fun a b:Int=>a==b) p.pn.l pn&&((((((((((p.k==k)&&(p.name==nm))&&a0Y p.rep rep)&&C7 p.ch ch)&&eqL C7 p.tg.l tg)&&eqL C7 p.ex.l ex)&&eqL K8 p.gl gl)&&eqL C8 p.ll ll)&&R3 p.sp sp)))=true;rw[h3,h4,h5,h6,h7,h8,h10,h1,h2,h9];have e:eqL (fun a b:Int=>a==b) pn pn=true:=V7 (fun x=>by simp) pn;rw[e];simp
theorem W5 {nm:B} {ch:Ex} {tg ex:Sli Ex} {pn:Sli Int} {sp:Sp} (h:C8 (U8 nm ch tg ex pn sp) J3=true):nm=[]/\G8 ch=true/\tg.l=[]/\ex.l=[]/\pn.l=[]/\R3 sp A6=true:=by
 have h:C8 (.mk 0 nm ch tg ex a4B none 0 [] none 0 [] pn sp) J3=true:=h;rw[P0] at h;simp only[Bool.and_eq_true,beq_iff_eq] at h;rw[Y9];exact⟨h.1.1.1.1.2,h.1.1.1.2,emp h.1.1.2,emp h.1.2,emp h.1.1.1.1.1,h.2⟩
theorem T8 {r:Rp} (hr:L3 r=true) (hn:r.name=[]):a0Y r B5=true:=by
 unfold L3 at hr;rw[hn] at hr;simp only[beq_self_eq_true,if_true,Bool.and_eq_true] at hr;unfold a0Y;show(((r.name==[])&&C7 r.base A0)&&C7 r.count A0)=true;rw[hn,show C7 r.base A0=true from hr.1,show C7 r.count A0=true from hr.2];rfl
theorem Z3 {p:Pr} (h:(!(!(p.rep.name==[])))=true):p.rep.name=[]:=by simpa using h
theorem S4 {α:Type} {l:List α} (h:((l.length:Int)==0)=true):l=[]:=List.length_eq_zero_iff.1 (by have:=eq_of_beq h;omega)
theorem a2o {l:List Gu} (h:l=[]):eqL K8 l []=true:=by rw[h];rfl
theorem a0m {l:List Pr} (h:l=[]):eqL C8 l []=true:=by rw[h];rfl
def b6g:List (Int × B):=[(2,[80,82,79,84,79,67,79,76]),(2,[80,82,79,67]),(2,[86,65,76]),(5,[91]),(2,[73,78,84]),(2,[66,89,84,69]),(2,[66,79,79,76]),(2,[67,72,65,78]),(2,[84,73,77,69,82])]
section
variable {R:List Rw} {rec:Int->Bool->Nat->PE Pr} {n:Nat} {d:Int} {top:Bool} {i:Nat}
theorem b2W {t:Tok} {r:List Tok} (h:∀ x ∈ b6g,isM x.1 x.2 [t]=false):W2 R rec d (t::r) i=.ok (none,i):=by
 have g:∀ x ∈ b6g,isM x.1 x.2 (t::r)=false:=h;unfold W2;simp only[g (2,[80,82,79,84,79,67,79,76]) (by decide),g (2,[80,82,79,67]) (by decide),g (2,[86,65,76]) (by decide),g (5,[91]) (by decide),g (2,[73,78,84]) (by decide),g (2,[66,89,84,69]) (by decide),g (2,[66,79,79,76]) (by decide),g (2,[67,72,65,78]) (by decide),g (2,[84,73,77,69,82]) (by decide),Bool.or_false,Bool.false_eq_true,if_false]
theorem c1T {s:B} {r:List Tok}:W2 R rec d (G5 s::r) i=.ok (none,i):=b2W fun x hx=>by
 simp only[b6g,List.mem_cons,List.not_mem_nil,or_false] at hx;rcases hx with rfl | rfl | rfl | rfl | rfl | rfl | rfl | rfl | rfl <;> rfl
theorem b3q {t:Tok} {r:List Tok} {L:List Ln} (hO:OkL R i ((d,t::r)::L)) (hs:W2 R (A4 R n) d (t::r) i=.ok (none,i)):A4 R (n+1) d top i=a1K R (A4 R n) d top (t::r) i:=by
 have h:=hO.open (b6z R (A4 R n) d top i fun so j=>M4 (A4 R n d top j) fun x i=>.ok (prM 18 [] A0 [] [] B5 [] [x] [] (so.getD A6),i));show b00 R (A4 R n) d top i=_;unfold b00;refine h.trans ?_;show M4 (W2 R (A4 R n) d (t::r) i) _=_;rw[hs];rfl
theorem c0H {s:B} {r:List Tok}:a1K R rec d top (G5 s::r) i=N1 R rec d (G5 s::r) i:=by
 show(match a09 R rec s with
  | some f=>if (1:Int)=2/\(top=true\/s≠[80,76,65,67,69,68]) then f d r i else N1 R rec d (G5 s::r) i
  | none=>N1 R rec d (G5 s::r) i)=_
 cases a09 R rec s with
 | none=>rfl
 | some f=>show(if _ then _ else _)=_;rw[if_neg (fun q=>by cases q.1)]
theorem d2u {s:B} {f:Int->List Tok->Nat->PE Pr} (hf:a09 R rec s=some f) (ht:top=true\/s≠[80,76,65,67,69,68]) {r:List Tok}:a1K R rec d top (kw s::r) i=f d r i:=by
 show(match a09 R rec s with
  | some f=>if (2:Int)=2/\(top=true\/s≠[80,76,65,67,69,68]) then f d r i else N1 R rec d (kw s::r) i
  | none=>N1 R rec d (kw s::r) i)=_
 rw[hf];show(if _ then _ else _)=_;rw[if_pos ⟨rfl,ht⟩]
end
structure Ask (R:List Rw) (n:Nat) (p:Pr) (d:Int) (top:Bool) (i:Nat):Prop where
 b:∀ x,In x p->b4P R n x
 w:PW p
 v:MayV p d top
 o:OkL R i (A8 p d)
 a:a07 R (i+(A8 p d).length) d
 l:(A8 p d).length<=n+1
def Ans (R:List Rw) (n:Nat) (p:Pr) (d:Int) (top:Bool) (i:Nat):Prop:=∃ q,A4 R (n+1) d top i=.ok (q,i+(A8 p d).length)/\C8 p q=true
theorem a00 {p:Pr} (h:p.k≠18) (d:Int):A8 p d=(d,A3 p.k p.name p.ch p.tg.l p.ex.l p.rep)::(F4 p.k p.pn.l p.ll d++C9 p.gl (d+1)):=by rw[a3S,if_neg h]
theorem a1H {p:Pr} (h:p.k≠18) (hl:p.ll=[]) (hg:p.gl=[]) (d:Int):A8 p d=[(d,A3 p.k p.name p.ch p.tg.l p.ex.l p.rep)]:=by rw[a00 h,hl,hg];rfl
theorem a2m {R:List Rw} {n:Nat} {p:Pr} {d:Int} {top:Bool} {i:Nat} (A:Ask R n p d top i) (hk:p.k≠18) {s:B} {r:List Tok} (hf:A3 p.k p.name p.ch p.tg.l p.ex.l p.rep=G5 s::r) {q:Pr}
 (h:N1 R (A4 R n) d (G5 s::r) i=.ok (q,i+(A8 p d).length)) (hq:C8 p q=true):Ans R n p d top i:=by
 have hO:=A.o;rw[a00 hk,hf] at hO;exact⟨q,by rw[b3q hO c1T,c0H,h],hq⟩
theorem a0s {R:List Rw} {n:Nat} {p:Pr} {d:Int} {top:Bool} {i:Nat} (A:Ask R n p d top i) (hk:p.k≠18) {s:B} {r:List Tok} (hf:A3 p.k p.name p.ch p.tg.l p.ex.l p.rep=kw s::r) {f:Int->List Tok->Nat->PE Pr} (hw:a09 R (A4 R n) s=some f)
 (hs:∀ x ∈ b6g,isM x.1 x.2 [kw s]=false) (ht:top=true\/s≠[80,76,65,67,69,68]) {q:Pr} (h:f d r i=.ok (q,i+(A8 p d).length)) (hq:C8 p q=true):Ans R n p d top i:=by
 have hO:=A.o;rw[a00 hk,hf] at hO;exact⟨q,by rw[b3q hO (b2W hs),d2u hw ht,h],hq⟩
end
section
open Go.Eng Go.Pc Go
open Go.Xp hiding B D3
open Go.Ty (Ty Vr Tok)
open Go.Ly (Rw)
open Go.Lx (G3)
def b8C:List B:=[[70,65,76,83,69],[84,82,85,69],[83,73,90,69],N3 1,N3 2,N3 3,(V0 23).1,(V0 24).1,(V0 25).1,(V0 26).1,[40]]
theorem c1E {ts:List Tok} {s:B} (h1:(C6 ts).kind≠1) (h3:(C6 ts).kind≠3) (h4:(C6 ts).kind≠4) (ht:(C6 ts).text=s) (hs:∀ x ∈ b8C,x≠s):∃ e,K7 ts=.error e:=by
 have ne:∀ x:B,x ∈ b8C->C6 ts≠D4 x:=fun x hx e=>hs x hx (by rw[<- b33 x,<- e,ht])
 have no:∀ o:Int,(V0 o).1 ∈ b8C->C6 ts≠M3 o:=fun o ho=>ne _ ho
 have hc:a0O (C6 ts)=0:=by
  unfold a0O;rw[if_neg (ne _ (by decide)),if_neg (ne _ (by decide)),if_neg (ne _ (by decide))]
 have ho:opF (C6 ts) 4 23=0:=by
  unfold opF;rw[if_neg (no _ (by decide))]
  unfold opF;rw[if_neg (no _ (by decide))]
  unfold opF;rw[if_neg (no _ (by decide))]
  unfold opF;rw[if_neg (no _ (by decide))]
  rfl
 have hp:C6 ts≠D0 [40]:=fun e=>hs [40] (by decide) (by rw[<- ht,e];rfl)
 have hx:R1 (X3 32) ts=.error 100:=by
  rw[M9 rfl,if_neg h3,if_neg h4,if_neg (ne _ (by decide)),if_neg (ne _ (by decide)),if_neg h1,if_neg hp]
 have:a5M ts=.error 100:=by
  unfold a5M;rw[V5 rfl,if_neg (ne _ (by decide)),if_neg (by rw[hc];decide),if_neg (by rw[ho];decide),hx]
 exact⟨100,by unfold K7;rw[this]⟩
theorem c5x {e:Ex} (hm:E9 e=true) (hW:Wf e) {r:List Tok} (hr:a9z r):isM 5 [41] (B8 e++r)=false:=by
 cases hi:isM 5 [41] (B8 e++r) with
 | false=>rfl
 | true=>
  exfalso;have hF:=(a2C hm).1;have hp:=b2Z e hF;have ht:B8 e=B0 e:=by unfold B8;rw[if_pos hm]
  rw[ht] at hi;have hw:=a2D hm hW hr.1 hr.2;cases hq:B0 e with
  | nil=>rw[hq] at hp;simp at hp
  | cons t q=>
   rw[hq] at hi hw;have hi':((t.kind==5)&&(t.text==[41]))=true:=hi;simp only[Bool.and_eq_true,beq_iff_eq] at hi';have hg:=a5d e hF hW t (by rw[hq];exact List.mem_cons_self ..);have hn:C6 ((t::q)++r)={ t with at_:=0 }:=by
    show C6 (t::(q++r))=_;rw[a3k,if_pos hg.1]
   obtain⟨x,hx⟩:=c1E (ts:=(t::q)++r) (s:=[41]) (by rw[hn,show({ t with at_:=0 }:Tok).kind=5 from hi'.1];decide) (by rw[hn,show({ t with at_:=0 }:Tok).kind=5 from hi'.1];decide) (by rw[hn,show({ t with at_:=0 }:Tok).kind=5 from hi'.1];decide) (by rw[hn];exact hi'.2) (by decide);rw[hx] at hw;cases hw
theorem a5e {e:Ex} (h:D7 e=true) {r:List Tok} (hr:isM 5 [40] r=false):∃ q,B8 e++r=G5 e.s::q/\isM 5 [40] q=false:=by
 have hm:=a8Q h;have hk:=b3j h;unfold B8;rw[if_pos hm];cases e with
 | mk k o t n s a c l=>
  rcases hk with q | q
  ·have q:k=4:=q
   subst q;exact⟨r,rfl,hr⟩
  ·have q:k=5:=q
   subst q;exact⟨_,rfl,rfl⟩
section
variable {R:List Rw} {n:Nat} {p:Pr} {d:Int} {top:Bool} {i:Nat}
theorem d1F (A:Ask R n p d top i) (hk:p.k=1):Ans R n p d top i:=by
 have h:=N6 A.v.plain;rw[b8q (.inl hk)] at h;simp only[Bool.and_eq_true] at h;obtain⟨⟨⟨⟨h1,h2⟩,h3⟩,h4⟩,h5⟩:=h;obtain⟨z1,z2,z3,z4,z5,z6⟩:=W5 h5;have hf:A3 p.k p.name p.ch p.tg.l p.ex.l p.rep=kw [83,75,73,80]::[]:=by unfold A3;rw[if_pos hk,I6 (by decide +kernel)]
 have hl:=a1H (by omega) (S4 h2) (S4 h3) d (p:=p);refine a0s A (by omega) hf (f:=fun _ ts i=>b2C 1 ts i) rfl (by decide) (.inr (by decide)) (q:=prM 1 [] A0 [] [] B5 [] [] [] A6) ?_ (U6 hk z1 z2 (E7 z3) (E7 z4) (T8 h4 (Z3 h1)) (a2o (S4 h3)) (a0m (S4 h2)) z5 z6);rw[hl];rfl
theorem d1C (A:Ask R n p d top i) (hk:p.k=2):Ans R n p d top i:=by
 have h:=N6 A.v.plain;rw[b8q (.inr hk)] at h;simp only[Bool.and_eq_true] at h;obtain⟨⟨⟨⟨h1,h2⟩,h3⟩,h4⟩,h5⟩:=h;obtain⟨z1,z2,z3,z4,z5,z6⟩:=W5 h5;have hf:A3 p.k p.name p.ch p.tg.l p.ex.l p.rep=kw [83,84,79,80]::[]:=by unfold A3;rw[if_neg (by omega),if_pos hk,I6 (by decide +kernel)]
 have hl:=a1H (by omega) (S4 h2) (S4 h3) d (p:=p);refine a0s A (by omega) hf (f:=fun _ ts i=>b2C 2 ts i) rfl (by decide) (.inr (by decide)) (q:=prM 2 [] A0 [] [] B5 [] [] [] A6) ?_ (U6 hk z1 z2 (E7 z3) (E7 z4) (T8 h4 (Z3 h1)) (a2o (S4 h3)) (a0m (S4 h2)) z5 z6);rw[hl];rfl
theorem a2P {d:Int} {s:B} {q:List Tok} (h:isM 5 [40] q=false) {rec:Int->Bool->Nat->PE Pr}:N1 R rec d (G5 s::q) i=E8 (M0 F6 [44] 8 (G5 s::q)) i fun f r=>
 if isM 5 [58,61] r then E8 (M0 H3 [44] 8 r.tail) i fun l r=>D9 r i fun i=>.ok (prM 3 [] A0 f l B5 [] [] [] A6,i)
 else if f.length > 1 then .error (110,i)
 else if isM 5 [33] r then E8 (M0 H3 [59] 9 r.tail) i fun l r=>D9 r i fun i=>.ok (prM 5 [] (f.headD A0) [] l B5 [] [] [] A6,i)
 else U0 5 [63] r i fun r=>
  if isM 2 [67,65,83,69] r then D9 r.tail i fun i=>M4 (a1l R rec a7Q 1 16 (d+1) i) fun l i=>.ok (prM 7 [] (f.headD A0) [] [] B5 l [] [] A6,i)
  else if isM 2 [65,70,84,69,82] r then E8 (H3 r.tail) i fun e r=>D9 r i fun i=>.ok (prM 6 [] (f.headD A0) [] [e] B5 [] [] [] A6,i)
  else E8 (M0 F6 [59] 8 r) i fun l r=>D9 r i fun i=>.ok (prM 4 [] (f.headD A0) l [] B5 [] [] [] A6,i):=by
 unfold N1;rw[if_neg (fun h2=>by rw[List.tail_cons,h] at h2;cases h2.2)]
theorem d2z (A:Ask R n p d top i) (hk:p.k=3):Ans R n p d top i:=by
 have h:=N6 A.v.plain;rw[c9C hk] at h;simp only[Bool.and_eq_true] at h;obtain⟨⟨⟨⟨⟨⟨h1,ht⟩,he⟩,h2⟩,h3⟩,h4⟩,h5⟩:=h;obtain⟨z1,z2,_,_,z5,z6⟩:=W5 h5;obtain⟨t1,t2,t3⟩:=F9 ht;obtain⟨e1,e2,e3⟩:=F9 he;have w:=A.w.own;have hl:=a1H (by omega) (S4 h2) (S4 h3) d (p:=p);have hf:A3 p.k p.name p.ch p.tg.l p.ex.l p.rep=B7 [44] B8 p.tg.l++sy [58,61]::B7 [44] B8 p.ex.l:=by
  unfold A3;rw[if_neg (by omega),if_neg (by omega),if_pos hk,Q7 (by decide +kernel)];simp
 have r1:=a3Y (most:=8) a2p (by omega) (by omega) t1 w.tg (sy [58,61]::B7 [44] B8 p.ex.l) ⟨X0 c8U _,rfl⟩;have r2:=a5g (most:=8) a2p (by omega) (by omega) e1 w.ex [] a3l;rw[List.append_nil] at r2;obtain⟨x,l,hx⟩:∃ x l,p.tg.l=x::l:=by cases hq:p.tg.l with
  | nil=>rw[hq] at t2;simp at t2
  | cons x l=>exact⟨x,l,rfl⟩
 obtain⟨q,hq,hn⟩:=a5e (t1 x (by rw[hx];exact List.mem_cons_self ..)) (r:=(l.flatMap fun x=>a9r [44]::B8 x)++sy [58,61]::B7 [44] B8 p.ex.l) (by cases l <;> rfl);have hfl:B7 [44] B8 p.tg.l++sy [58,61]::B7 [44] B8 p.ex.l=G5 x.s::q:=by rw[hx,Y8,List.append_assoc,hq]
 refine a2m A (by omega) (hf.trans hfl) (q:=prM 3 [] A0 (p.tg.l.map B2) (p.ex.l.map B2) B5 [] [] [] A6) ?_ (U6 hk z1 z2 (a0C _) (a0C _) (T8 h4 (Z3 h1)) (a2o (S4 h3)) (a0m (S4 h2)) z5 z6);rw[a2P hn,<- hfl,r1,hl];show E8 (M0 H3 [44] 8 (B7 [44] B8 p.ex.l)) i _=_;rw[r2];rfl
theorem a8y {e:Ex} (h:D7 e=true) (hW:Wf e) {r:List Tok} (hs:a9z r) (hn:isM 5 [44] r=false):M0 F6 [44] 8 (B8 e++r)=.ok ([B2 e],r):=
 a3Y (l:=[e]) (sep:=[44]) (most:=8) a2p (by simp) (by simp) (fun x hx=>by rw[List.mem_singleton.1 hx];exact h) (fun x hx=>by rw[List.mem_singleton.1 hx];exact hW) r ⟨hs,hn⟩
theorem d2K (A:Ask R n p d top i) (hk:p.k=4):Ans R n p d top i:=by
 have h:=N6 A.v.plain;rw[c9l hk] at h;simp only[Bool.and_eq_true] at h;obtain⟨⟨⟨⟨⟨⟨h1,hc⟩,ht⟩,h2⟩,h3⟩,h4⟩,h5⟩:=h;obtain⟨z1,_,_,z4,z5,z6⟩:=W5 h5;obtain⟨t1,t2,t3⟩:=F9 ht;have w:=A.w.own;have hl:=a1H (by omega) (S4 h2) (S4 h3) d (p:=p);have hf:A3 p.k p.name p.ch p.tg.l p.ex.l p.rep=B8 p.ch++sy [63]::B7 [59] B8 p.tg.l:=by
  unfold A3;rw[if_neg (by omega),if_neg (by omega),if_neg (by omega),if_pos hk,Q7 (by decide +kernel)];simp
 have r1:=a8y hc w.ch (X0 a8X (B7 [59] B8 p.tg.l)) rfl;have r2:=a3Y (most:=8) a7Z (by omega) (by omega) t1 w.tg [] a3l;rw[List.append_nil] at r2;obtain⟨q,hq,hn⟩:=a5e hc (r:=sy [63]::B7 [59] B8 p.tg.l) rfl;have k1:isM 2 [67,65,83,69] (B7 [59] B8 p.tg.l)=false:=by have:=b59 (by omega) t1 [67,65,83,69] [59] [];rwa [List.append_nil] at this
 have k2:isM 2 [65,70,84,69,82] (B7 [59] B8 p.tg.l)=false:=by have:=b59 (by omega) t1 [65,70,84,69,82] [59] [];rwa [List.append_nil] at this
 refine a2m A (by omega) (hf.trans hq) (q:=prM 4 [] (B2 p.ch) (p.tg.l.map B2) [] B5 [] [] [] A6) ?_ (U6 hk z1 (Y3 _) (a0C _) (E7 z4) (T8 h4 (Z3 h1)) (a2o (S4 h3)) (a0m (S4 h2)) z5 z6);rw[a2P hn,<- hq,r1,hl];show(if isM 2 [67,65,83,69] (B7 [59] B8 p.tg.l) then _ else if isM 2 [65,70,84,69,82] (B7 [59] B8 p.tg.l) then _ else E8 (M0 F6 [59] 8 (B7 [59] B8 p.tg.l)) i _)=_;rw[k1,k2,r2];rfl
theorem d2E (A:Ask R n p d top i) (hk:p.k=5):Ans R n p d top i:=by
 have h:=N6 A.v.plain;rw[c9i hk] at h;simp only[Bool.and_eq_true] at h;obtain⟨⟨⟨⟨⟨⟨h1,hc⟩,he⟩,h2⟩,h3⟩,h4⟩,h5⟩:=h;obtain⟨z1,_,z3,_,z5,z6⟩:=W5 h5;obtain⟨e1,e2,e3⟩:=F9 he;have w:=A.w.own;have hl:=a1H (by omega) (S4 h2) (S4 h3) d (p:=p);have hf:A3 p.k p.name p.ch p.tg.l p.ex.l p.rep=B8 p.ch++sy [33]::B7 [59] B8 p.ex.l:=by
  unfold A3;rw[if_neg (by omega),if_neg (by omega),if_neg (by omega),if_neg (by omega),if_pos hk,Q7 (by decide +kernel)];simp
 have r1:=a8y hc w.ch (X0 c8d (B7 [59] B8 p.ex.l)) rfl;have r2:=a5g (most:=9) a7Z (by omega) (by omega) e1 w.ex [] a3l;rw[List.append_nil] at r2;obtain⟨q,hq,hn⟩:=a5e hc (r:=sy [33]::B7 [59] B8 p.ex.l) rfl;refine a2m A (by omega) (hf.trans hq) (q:=prM 5 [] (B2 p.ch) [] (p.ex.l.map B2) B5 [] [] [] A6) ?_ (U6 hk z1 (Y3 _) (E7 z3) (a0C _) (T8 h4 (Z3 h1)) (a2o (S4 h3)) (a0m (S4 h2)) z5 z6);rw[a2P hn,<- hq,r1,hl];show E8 (M0 H3 [59] 9 (B7 [59] B8 p.ex.l)) i _=_;rw[r2];rfl
theorem d1S (A:Ask R n p d top i) (hk:p.k=6):Ans R n p d top i:=by
 have h:=N6 A.v.plain;rw[c9y hk] at h;simp only[Bool.and_eq_true] at h;obtain⟨⟨⟨⟨⟨⟨h1,hc⟩,he⟩,h2⟩,h3⟩,h4⟩,h5⟩:=h;obtain⟨z1,_,z3,_,z5,z6⟩:=W5 h5;obtain⟨e1,e2,e3⟩:=F9 he;obtain⟨x,hx⟩:=List.length_eq_one_iff.1 (show p.ex.l.length=1 by omega);have w:=A.w.own;have hl:=a1H (by omega) (S4 h2) (S4 h3) d (p:=p);have hf:A3 p.k p.name p.ch p.tg.l p.ex.l p.rep=B8 p.ch++sy [63]::kw [65,70,84,69,82]::B8 x:=by
  unfold A3;rw[if_neg (by omega),if_neg (by omega),if_neg (by omega),if_neg (by omega),if_neg (by omega),if_pos hk,Q7 (s:=[63]) (by decide +kernel),I6 (s:=[65,70,84,69,82]) (by decide +kernel),hx];simp[B7]
 have r1:=a8y hc w.ch (X0 a8X (kw [65,70,84,69,82]::B8 x)) rfl;have hxm:x ∈ p.ex.l:=by rw[hx];exact List.mem_cons_self ..
 have r2:=V4 (e1 x hxm) (w.ex x hxm) [] a2L;rw[List.append_nil] at r2;obtain⟨q,hq,hn⟩:=a5e hc (r:=sy [63]::kw [65,70,84,69,82]::B8 x) rfl;refine a2m A (by omega) (hf.trans hq) (q:=prM 6 [] (B2 p.ch) [] [B2 x] B5 [] [] [] A6) ?_ (U6 hk z1 (Y3 _) (E7 z3) (by rw[hx];exact a0C [x]) (T8 h4 (Z3 h1)) (a2o (S4 h3)) (a0m (S4 h2)) z5 z6);rw[a2P hn,<- hq,r1,hl];show E8 (H3 (B8 x)) i _=_;rw[r2];rfl
theorem a9R:∀ (l:List Gu) (d:Int),l.length<=(C9 l d).length
 | [],_=>by simp
 | g::r,d=>by
  show r.length+1<=(V1 g d++C9 r d).length;have:=a9R r d;rw[a3Q,List.length_append,List.length_cons];omega
theorem c6t (A:Ask R n p d top i) {lo hi:Int} (hg:∀ g ∈ p.gl,gQ lo hi g=true):∀ g ∈ p.gl,c2x R n (d+1+1) g:=fun g hgm=>by
 have h1:=(a8C (hg g hgm)).1;obtain⟨x,hx⟩:=List.length_eq_one_iff.1 (a8i h1).body;have hxm:x ∈ g.bl:=by rw[hx];exact List.mem_cons_self ..
 obtain⟨q,hq⟩:=A.v.gl g hgm;refine⟨x,hx,A.b x (.g hgm hxm),A.w.sub (.g hgm hxm),q,?_⟩;rw[hx] at hq;rw[show d+1+1=d+2 by omega];exact hq
theorem a9g (A:Ask R n p d top i) (hk:p.k≠18) (hll:p.ll=[]) {row:List Tok->E Gu} (hI:a0X row) {least most:Nat} {lo hi:Int} (hg:∀ g ∈ p.gl,gQ lo hi g=true) (hH:∀ g ∈ p.gl,a4G row g) (h1:least<=p.gl.length) (h2:p.gl.length<=most) :
 ∃ gs,a1l R (A4 R n) row least most (d+1) (i+1)=.ok (gs,i+(A8 p d).length)/\eqL K8 p.gl gs=true:=by
 have hO:=A.o;have hA:=A.a;have hL:=A.l;rw[a00 hk,hll] at hO hA hL ⊢;have e:F4 p.k p.pn.l [] d++C9 p.gl (d+1)=C9 p.gl (d+1):=rfl;rw[e] at hO hA hL ⊢;have hR:=hO.len (by simp);simp only[List.length_cons] at hA hL hR ⊢;have hgl:=a9R p.gl (d+1);obtain⟨gs,h3,h4⟩:=b01 (least:=least) (most:=most) hI p.gl (R.length - (i+1)) [] (i+1) hH (c6t A hg) hO.tail
  (by rw[show d+1 - 1=d by omega,show i+1+(C9 p.gl (d+1)).length=i+((C9 p.gl (d+1)).length+1) by omega];exact hA) (by omega) (by omega) (by simpa using h2) (by simpa using h1)
 refine⟨gs,?_,h4⟩;unfold a1l;rw[h3,List.nil_append,show i+1+(C9 p.gl (d+1)).length=i+((C9 p.gl (d+1)).length+1) by omega]
theorem d2N (A:Ask R n p d top i) (hk:p.k=7):Ans R n p d top i:=by
 have h:=N6 A.v.plain;rw[c9B hk] at h;simp only[Bool.and_eq_true] at h;obtain⟨⟨⟨⟨⟨h1,hc⟩,h2⟩,h3⟩,h4⟩,h5⟩:=h;obtain⟨z1,_,z3,z4,z5,z6⟩:=W5 h5;obtain⟨g1,g2,g3⟩:=F9 h3;have w:=A.w.own;have hH:∀ g ∈ p.gl,a4G a7Q g:=fun g hg=>by
  have:=a8C (g1 g hg);exact c2p this.1 (w.gs g hg) (by have h:=this.2;simp at h;omega)
 obtain⟨gs,h6,h7⟩:=a9g A (by omega) (S4 h2) c2Y (least:=1) (most:=16) g1 hH (by omega) (by omega);have hf:A3 p.k p.name p.ch p.tg.l p.ex.l p.rep=B8 p.ch++[sy [63],kw [67,65,83,69]]:=by
  unfold A3;rw[if_neg (by omega),if_neg (by omega),if_neg (by omega),if_neg (by omega),if_neg (by omega),if_neg (by omega),if_pos hk,Q7 (s:=[63]) (by decide +kernel),I6 (s:=[67,65,83,69]) (by decide +kernel)]
 have r1:=a8y hc w.ch (X0 a8X [kw [67,65,83,69]]) rfl;obtain⟨q,hq,hn⟩:=a5e hc (r:=[sy [63],kw [67,65,83,69]]) rfl;refine a2m A (by omega) (hf.trans hq) (q:=prM 7 [] (B2 p.ch) [] [] B5 gs [] [] A6) ?_ (U6 hk z1 (Y3 _) (E7 z3) (E7 z4) (T8 h4 (Z3 h1)) h7 (a0m (S4 h2)) z5 z6);rw[a2P hn,<- hq,r1];show M4 (a1l R (A4 R n) a7Q 1 16 (d+1) (i+1)) _=_;rw[h6];rfl
theorem d0U (A:Ask R n p d top i) (hk:p.k=17):Ans R n p d top i:=by
 have h:=N6 A.v.plain;rw[c2P hk] at h;simp only[Bool.and_eq_true] at h;obtain⟨⟨⟨⟨⟨⟨h1,hnm⟩,he⟩,h2⟩,h3⟩,h4⟩,h5⟩:=h;obtain⟨_,z2,z3,_,z5,z6⟩:=W5 h5;obtain⟨e1,e2,e3⟩:=F9 he;have w:=A.w.own;have hl:=a1H (by omega) (S4 h2) (S4 h3) d (p:=p);have hf:A3 p.k p.name p.ch p.tg.l p.ex.l p.rep=G5 p.name::sy [40]::(B7 [44] B8 p.ex.l++[sy [41]]):=by
  unfold A3;repeat rw[if_neg (by omega)]
  rw[Q7 (s:=[40]) (by decide +kernel),Q7 (s:=[41]) (by decide +kernel)];simp
 refine a2m A (by omega) hf (q:=prM 17 p.name A0 [] (p.ex.l.map B2) B5 [] [] [] A6) ?_ (U6 hk rfl z2 (E7 z3) (a0C _) (T8 h4 (Z3 h1)) (a2o (S4 h3)) (a0m (S4 h2)) z5 z6);have hb:brM H3 (sy [40]::(B7 [44] B8 p.ex.l++[sy [41]]))=.ok (p.ex.l.map B2,[]):=by
  unfold brM;rw[a2s (by decide)];cases hq:p.ex.l with
  | nil=>rfl
  | cons x l=>
   have r2:=a5g (l:=x::l) (most:=8) a2p (by simp) (by rw[<- hq];omega) (fun y hy=>e1 y (by rw[hq];exact hy)) (fun y hy=>w.ex y (by rw[hq];exact hy)) [sy [41]] ⟨X0 b9b _,rfl⟩;have hx:x ∈ p.ex.l:=by rw[hq];exact List.mem_cons_self ..
   have hc:isM 5 [41] (B7 [44] B8 (x::l)++[sy [41]])=false:=by
    rw[Y8,List.append_assoc];refine c5x (e1 x hx) (w.ex x hx) ?_;cases l with
    | nil=>exact X0 b9b _
    | cons y s=>exact X0 a2p _
   rw[hc,if_neg (by decide),r2,I3,a2s (by decide)]
 unfold N1;rw[if_pos ⟨rfl,rfl⟩,hl];show E8 (brM H3 (sy [40]::(B7 [44] B8 p.ex.l++[sy [41]]))) i _=_;rw[hb];rfl
end
end
end Go.Sx

import Derived.Test.YtkemgjnejlkkcaaGreatDoorLNumbersZ2
import Derived.Lib.ItoaNum
import Derived.Lib.AppendZerosOnto
section
namespace Go.Sx
open Go.Eng Go.Pc Go
open Go.Xp hiding B
open Go.Ty (Ty Vr Tok)
open Go.Ly (Rw)
abbrev E (α:Type):=Except Int (α × List Tok)
def O9 {α β:Type} (r:E α) (f:α→List Tok→E β):E β:=match r with
 | .ok (x,ts)=>f x ts
 | .error e=>.error e
def isM (k:Int) (s:B):List Tok→Bool
 | []=>false
 | t::_=>(t.kind==k)&&(t.text==s)
def Z4 {β:Type} (k:Int) (s:B) (ts:List Tok) (f:List Tok→E β):E β:=if isM k s ts then f ts.tail else .error 110
def V9:List Tok→E B
 | []=>.error 110
 | t::r=>if t.kind=1 then .ok (t.text,r) else .error 110
def M2 (ts:List Tok):E Ex:=match Q8 ts with
 | .ok (x,k)=>.ok (x,ts.drop k)
 | .error _=>.error 110
def L3 (ts:List Tok):E Ex:=if (ts.headD Go.Ty.zeroK).kind=1 then O9 (M2 ts) fun x r=>if O1 x then .ok (x,r) else .error 110 else .error 110
def a8m (ts:List Tok):E Ty:=if (Go.Ty.front ts).2.2=0 then .ok ((Go.Ty.front ts).1,ts.drop (Go.Ty.front ts).2.1) else .error 110
def a5K (ts:List Tok):E Int:=O9 (a8m ts) fun t r=>if a1M t then .ok (t.kind,r) else .error 110
def a4u (ts:List Tok):E Fo:=O9 (a8m (if isM 2 [86,65,76] ts then ts.tail else ts)) fun t r=>O9 (V9 r) fun n r=>if foP ⟨isM 2 [86,65,76] ts,t,n⟩ then .ok (⟨isM 2 [86,65,76] ts,t,n⟩,r) else .error 110
def a2r {α:Type} (take:List Tok→E α) (sep:B):Nat→List α→List Tok→E (List α)
 | 0,acc,ts=>if isM 5 sep ts then .error 110 else .ok (acc,ts)
 | n+1,acc,ts=>if isM 5 sep ts then O9 (take ts.tail) fun x r=>a2r take sep n (acc++[x]) r else .ok (acc,ts)
def P9 {α:Type} (take:List Tok→E α) (sep:B) (most:Nat) (ts:List Tok):E (List α):=O9 (take ts) fun x r=>a2r take sep (most - 1) [x] r
def brM {α:Type} (take:List Tok→E α) (ts:List Tok):E (List α):=Z4 5 [40] ts fun r=>if isM 5 [41] r then .ok ([],r.tail) else O9 (P9 take [44] 8 r) fun l r=>Z4 5 [41] r fun r=>.ok (l,r)
def D5:Rp:=⟨[],A3,A3⟩
def b3x (ts:List Tok):E Rp:=if ts.isEmpty then .ok (D5,ts) else O9 (V9 ts) fun n r=>Z4 5 [61] r fun r=>O9 (M2 r) fun b r=>Z4 2 [70,79,82] r fun r=>O9 (M2 r) fun c r=>.ok (⟨n,b,c⟩,r)
def sl {α:Type} (l:List α):Sli α:=⟨none,0,l⟩
def guM (k:Int) (nm:B) (cond ch:Ex) (tg vl:List Ex) (time:Ex):Gu:=.mk k nm cond ch (sl tg) (sl vl) time none 0 []
def ifM (ts:List Tok):E Gu:=O9 (M2 ts) fun c r=>.ok (guM 1 [] c A3 [] [] A3,r)
def b1m (ts:List Tok):Bool:=match Q8 ts with
 | .ok (_,n)=>isM 5 [38] (ts.drop n)
 | .error _=>false
def a9C (c:Ex) (ts:List Tok):E Gu:=O9 (L3 ts) fun ch r=>Z4 5 [63] r fun r=>if isM 2 [65,70,84,69,82] r then O9 (M2 r.tail) fun t r=>.ok (guM 4 [] c ch [] [] t,r) else O9 (P9 L3 [59] 8 r) fun l r=>.ok (guM 3 [] c ch l [] A3,r)
def a8R (ts:List Tok):E Gu:=if b1m ts then O9 (M2 ts) fun c r=>Z4 5 [38] r fun r=>if isM 2 [83,75,73,80] r then .ok (guM 2 [] c A3 [] [] A3,r.tail) else a9C c r else a9C A3 ts
def b6L (ts:List Tok):E Gu:=if isM 2 [69,76,83,69] ts then .ok (guM 6 [] A3 A3 [] [] A3,ts.tail) else O9 (P9 M2 [44] 8 ts) fun l r=>.ok (guM 5 [] A3 A3 [] l A3,r)
def b3o (ts:List Tok):E Gu:=O9 (V9 ts) fun n r=>if isM 5 [59] r then O9 (P9 L3 [59] 8 r.tail) fun l r=>.ok (guM 7 n A3 A3 l [] A3,r) else .ok (guM 7 n A3 A3 [] [] A3,r)
abbrev PE (α:Type):=Except (Int × Nat) (α × Nat)
def R0 {α β:Type} (r:PE α) (f:α→Nat→PE β):PE β:=match r with
 | .ok (x,i)=>f x i
 | .error e=>.error e
def I3 {α β:Type} (r:E α) (i:Nat) (f:α→List Tok→PE β):PE β:=match r with
 | .ok (x,ts)=>f x ts
 | .error e=>.error (e,i)
def F9 {β:Type} (ts:List Tok) (i:Nat) (f:Nat→PE β):PE β:=if ts.isEmpty then f (i+1) else .error (110,i)
def V7 {β:Type} (k:Int) (s:B) (ts:List Tok) (i:Nat) (f:List Tok→PE β):PE β:=if isM k s ts then f ts.tail else .error (110,i)
section
variable (R:List Rw)
def N6 (d:Int) (i:Nat):Bool:=match R[i]? with
 | some x=>x.depth==d
 | none=>false
def Y9 (d:Int) (i:Nat):Except (Int × Nat) (List Tok):=match R[i]? with
 | none=>.error (110,i)
 | some x=>if (Go.Lx.lexO x.text).2.2≠0 then .error ((Go.Lx.lexO x.text).2.2,i) else if x.depth≠d then .error (110,i) else .ok (Go.Lx.lexO x.text).1
def a03 {β:Type} (d:Int) (i:Nat) (f:List Tok→PE β):PE β:=match Y9 R d i with
 | .ok ts=>f ts
 | .error e=>.error e
def a0Q {β:Type} (d:Int) (k:Int) (s:B) (i:Nat) (f:Nat→PE β):PE β:=a03 R d i fun ts=>V7 k s ts i fun r=>F9 r i f
def prM (k:Int) (nm:B) (ch:Ex) (tg ex:List Ex) (rep:Rp) (gl:List Gu) (ll:List Pr) (pn:List Int) (sp:Sp):Pr:=.mk k nm ch (sl tg) (sl ex) rep none 0 gl none 0 ll (sl pn) sp
def spM (k:Int) (ty:Ty) (names:List B) (e:Ex) (cs:Bool) (vs:List Vr) (fs:List Fo) (bl:List Pr):Sp:=.mk k ty (sl names) e cs (sl vs) (sl fs) none 0 bl
def b5i (g:Gu) (x:Pr):Gu:=.mk g.k g.name g.cond g.ch g.tg g.vl g.time none 0 [x]
variable (rec:Int→Bool→Nat→PE Pr)
def T7 (row:List Tok→E Gu) (least most:Nat) (d:Int):Nat→List Gu→Nat→PE (List Gu)
 | 0,acc,i=>if acc.length < least then .error (110,i) else .ok (acc,i)
 | k+1,acc,i=>if acc.length < least∨(acc.length < most∧N6 R d i=true) then a03 R d i fun ts=>I3 (row ts) i fun g r=>F9 r i fun i=>R0 (rec (d+1) false i) fun x i=>T7 row least most d k (acc++[b5i g x]) i
   else .ok (acc,i)
def a07 (row:List Tok→E Gu) (least most:Nat) (d:Int) (i:Nat):PE (List Gu):=T7 R rec row least most d (R.length - i) [] i
def a0s (d:Int):Nat→List Pr→Nat→PE (List Pr)
 | 0,acc,i=>.ok (acc,i)
 | k+1,acc,i=>if N6 R d i then R0 (rec d false i) fun x i=>a0s d k (acc++[x]) i else .ok (acc,i)
def b5L (k:Int) (ts:List Tok) (i:Nat):PE Pr:=F9 ts i fun i=>.ok (prM k [] A3 [] [] D5 [] [] [] D2,i)
def a1n (k:Int) (d:Int) (ts:List Tok) (i:Nat):PE Pr:=I3 (b3x ts) i fun r ts=>F9 ts i fun i=>
 if r.name≠[] then R0 (rec (d+1) false i) fun x i=>.ok (prM k [] A3 [] [] r [] [x] [] D2,i)
 else R0 (a0s R rec (d+1) (R.length - i) [] i) fun l i=>.ok (prM k [] A3 [] [] r [] l [] D2,i)
def X5 (k:Int) (row:List Tok→E Gu) (d:Int) (ts:List Tok) (i:Nat):PE Pr:=I3 (b3x ts) i fun r ts=>F9 ts i fun i=>
 R0 (a07 R rec row (if r.name≠[] then 1 else 0) (if r.name≠[] then 1 else 16) (d+1) i) fun l i=>.ok (prM k [] A3 [] [] r l [] [] D2,i)
def b6G (d:Int) (ts:List Tok) (i:Nat):PE Pr:=if isM 2 [80,65,82] ts then F9 ts.tail i fun i=>R0 (rec (d+1) false i) fun x i=>R0 (rec (d+1) false i) fun y i=>.ok (prM 10 [] A3 [] [] D5 [] [x,y] [] D2,i)
 else V7 2 [65,76,84] ts i fun r=>X5 R rec 13 a8R d r i
def b7k (d:Int) (ts:List Tok) (i:Nat):PE Pr:=I3 (M2 ts) i fun e r=>F9 r i fun i=>R0 (a07 R rec b6L 0 16 (d+1) i) fun l i=>.ok (prM 15 [] A3 [] [e] D5 l [] [] D2,i)
def b9v (d:Int) (ts:List Tok) (i:Nat):PE Pr:=I3 (M2 ts) i fun e r=>F9 r i fun i=>R0 (rec (d+1) false i) fun x i=>.ok (prM 16 [] A3 [] [e] D5 [] [x] [] D2,i)
def b5k (ts:List Tok):Option Int:=match ts with
 | [t]=>if t.kind=3∧0≤t.n∧t.n < 8 then some t.n else none
 | _=>none
def R5 (d:Int):Nat→List Int→List Pr→Nat→PE (List Int × List Pr)
 | 0,ns,acc,i=>if acc.length=0 then .error (110,i) else .ok ((ns,acc),i)
 | k+1,ns,acc,i=>if acc.length=0∨(acc.length < 8∧N6 R (d+1) i=true) then a03 R (d+1) i fun ts=>V7 2 [80,82,79,67,69,83,83,79,82] ts i fun r=>match b5k r with
     | some n=>R0 (rec (d+2) false (i+1)) fun x i=>R5 d k (ns++[n]) (acc++[x]) i
     | none=>.error (110,i)
   else .ok ((ns,acc),i)
def a2K (d:Int) (ts:List Tok) (i:Nat):PE Pr:=V7 2 [80,65,82] ts i fun r=>F9 r i fun i=>R0 (R5 R rec d (R.length - i) [] [] i) fun x i=>.ok (prM 11 [] A3 [] [] D5 [] x.2 x.1 D2,i)
def a1a (d:Int) (ts:List Tok) (i:Nat):PE Pr:=
 if (ts.headD Go.Ty.zeroK).kind=1∧isM 5 [40] ts.tail=true then I3 (V9 ts) i fun n r=>I3 (brM M2 r) i fun l r=>F9 r i fun i=>.ok (prM 17 n A3 [] l D5 [] [] [] D2,i)
 else I3 (P9 L3 [44] 8 ts) i fun f r=>
   if isM 5 [58,61] r then I3 (P9 M2 [44] 8 r.tail) i fun l r=>F9 r i fun i=>.ok (prM 3 [] A3 f l D5 [] [] [] D2,i)
   else if f.length > 1 then .error (110,i)
   else if isM 5 [33] r then I3 (P9 M2 [59] 9 r.tail) i fun l r=>F9 r i fun i=>.ok (prM 5 [] (f.headD A3) [] l D5 [] [] [] D2,i)
   else V7 5 [63] r i fun r=>
     if isM 2 [67,65,83,69] r then F9 r.tail i fun i=>R0 (a07 R rec b3o 1 16 (d+1) i) fun l i=>.ok (prM 7 [] (f.headD A3) [] [] D5 l [] [] D2,i)
     else if isM 2 [65,70,84,69,82] r then I3 (M2 r.tail) i fun e r=>F9 r i fun i=>.ok (prM 6 [] (f.headD A3) [] [e] D5 [] [] [] D2,i)
     else I3 (P9 L3 [59] 8 r) i fun l r=>F9 r i fun i=>.ok (prM 4 [] (f.headD A3) l [] D5 [] [] [] D2,i)
def vrM (tag:B) (l:List Int):Vr:=⟨tag,none,l.length,0,l⟩
def a1H (ts:List Tok):E Vr:=O9 (V9 ts) fun n r=>if isM 5 [59] r then O9 (P9 a5K [59] 8 r.tail) fun l r=>.ok (vrM n l,r) else .ok (vrM n [],r)
def Y5 (d:Int):Nat→List Vr→Nat→PE (List Vr)
 | 0,acc,i=>if acc.length=0 then .error (110,i) else .ok (acc,i)
 | k+1,acc,i=>if acc.length=0∨N6 R (d+2) i=true then a03 R (d+2) i fun ts=>I3 (a1H ts) i fun v r=>if Go.Ty.mayPr true (acc++[v]) then F9 r i fun i=>Y5 d k (acc++[v]) i else .error (110,i)
   else .ok (acc,i)
def a2N (d:Int) (ts:List Tok) (i:Nat):PE (Bool × List Vr):=
 if isM 2 [73,83] ts then I3 (P9 a5K [59] 8 ts.tail) i fun l r=>V7 5 [58] r i fun r=>F9 r i fun i=>.ok ((false,[vrM [] l]),i)
 else F9 ts i fun i=>a0Q R (d+1) 2 [67,65,83,69] i fun i=>R0 (Y5 R d (R.length - i) [] i) fun l i=>a0Q R d 5 [58] i fun i=>.ok ((true,l),i)
def b2S (s:Sp) (ts:List Tok) (i:Nat):PE (Option Sp):=V7 5 [58] ts i fun r=>if spP s then F9 r i fun i=>.ok (some s,i) else .error (110,i)
def a3n (d:Int) (ts:List Tok) (i:Nat):PE (Option Sp):=
 if isM 2 [80,82,79,84,79,67,79,76] ts then I3 (V9 ts.tail) i fun n r=>R0 (a2N R d r i) fun p i=>.ok (some (spM 4 Go.Ty.zeroT [n] A3 p.1 p.2 [] []),i)
 else if isM 2 [80,82,79,67] ts then I3 (V9 ts.tail) i fun n r=>I3 (brM a4u r) i fun fs r=>F9 r i fun i=>R0 (rec (d+1) false i) fun x i=>a0Q R d 5 [58] i fun i=>.ok (some (spM 5 Go.Ty.zeroT [n] A3 false [] fs [x]),i)
 else if isM 2 [86,65,76] ts then I3 (a8m ts.tail) i fun t r=>I3 (V9 r) i fun n r=>V7 2 [73,83] r i fun r=>I3 (M2 r) i fun e r=>b2S (spM 2 t [n] e false [] [] []) r i
 else if isM 5 [91] ts||isM 2 [73,78,84] ts||isM 2 [66,89,84,69] ts||isM 2 [66,79,79,76] ts||isM 2 [67,72,65,78] ts||isM 2 [84,73,77,69,82] ts then I3 (a8m ts) i fun t r=>I3 (P9 V9 [44] 8 r) i fun ns r=>
   if isM 2 [73,83] r then I3 (L3 r.tail) i fun e r=>b2S (spM 3 t ns e false [] [] []) r i else b2S (spM 1 t ns A3 false [] [] []) r i
 else .ok (none,i)
def a1S (s:B):Option (Int→List Tok→Nat→PE Pr):=
 if s=[83,75,73,80] then some fun _ ts i=>b5L 1 ts i else if s=[83,84,79,80] then some fun _ ts i=>b5L 2 ts i
 else if s=[83,69,81] then some (a1n R rec 8) else if s=[80,65,82] then some (a1n R rec 9)
 else if s=[80,82,73] then some (b6G R rec) else if s=[65,76,84] then some (X5 R rec 12 a8R) else if s=[73,70] then some (X5 R rec 14 ifM)
 else if s=[67,65,83,69] then some (b7k R rec) else if s=[87,72,73,76,69] then some (b9v rec) else if s=[80,76,65,67,69,68] then some (a2K R rec) else none
def a3G (d:Int) (top:Bool) (ts:List Tok) (i:Nat):PE Pr:=match ts with
 | []=>.error (110,i)
 | t::r=>match a1S R rec t.text with
   | some f=>if t.kind=2∧(top=true∨t.text≠[80,76,65,67,69,68]) then f d r i else a1a R rec d ts i
   | none=>a1a R rec d ts i
def b2W (d:Int) (top:Bool) (i:Nat):PE Pr:=a03 R d i fun ts=>R0 (a3n R rec d ts i) fun so i=>match so with
   | some s=>R0 (rec d top i) fun x i=>.ok (prM 18 [] A3 [] [] D5 [] [x] [] s,i)
   | none=>a3G R rec d top ts i
end
def C0 (R:List Rw):Nat→Int→Bool→Nat→PE Pr
 | 0=>fun _ _ i=>.error (110,i)
 | n+1=>b2W R (C0 R n)
def a6V (R:List Rw):PE Pr:=R0 (C0 R R.length 0 true 0) fun x i=>match R[i]? with
 | none=>.ok (x,i)
 | some y=>.error (if (Go.Lx.lexO y.text).2.2≠0 then (Go.Lx.lexO y.text).2.2 else 110,i)
def K6 (R:List Rw):Pr × Nat × Int:=if Go.Ly.mayP R then (match a6V R with
   | .ok (x,_)=>(x,0,0)
   | .error (e,i)=>(prM 0 [] A3 [] [] D5 [] [] [] D2,i,e)) else (prM 0 [] A3 [] [] D5 [] [] [] D2,0,2)
end Go.Sx
end
section
namespace Go.Lx
open Go.Ty
theorem b1C (s:B):(L0 s).2≤s.length:=by
 unfold L0
 split
 · exact Nat.zero_le _
 · rename_i h
   have h1:1≤s.length:=by
     cases s with
     | nil=>exact absurd rfl h
     | cons a t=>simp
   split
   · exact h1
   · split
     · exact Nat.zero_le _
     · rename_i h2
       have h2:2≤s.length:=by simp at h2;omega
       split
       · exact h2
       · split
         · exact Nat.zero_le _
         · rename_i h4
           have h4:4≤s.length:=by simp at h4;omega
           split
           · exact Nat.zero_le _
           · exact h4
theorem b4k (r:B):(tok r).2≤r.length:=by
 have h0:=a4M r
 have h1:=a4M (r.drop 1)
 have h2:=b1C (r.drop 1)
 have h3:(r.drop 1).length=r.length - 1:=List.length_drop
 cases r with
 | nil=>decide
 | cons c r=>
   simp only[List.length_cons] at h0 h1 h2 h3 ⊢
   unfold tok
   split
   · unfold a2M
     split
     · exact h0
     · split
       · exact Nat.zero_le _
       · exact h0
   · split
     · unfold a98
       split
       · exact Nat.zero_le _
       · split
         · exact Nat.zero_le _
         · split
           · exact Nat.zero_le _
           · exact h0
     · split
       · unfold b0I
         split
         · exact Nat.zero_le _
         · split
           · exact Nat.zero_le _
           · show 1+run (List.drop 1 (c::r))≤_
             omega
       · split
         · unfold a06
           split
           · exact Nat.zero_le _
           · rename_i h
             unfold noQ at h
             simp only[Bool.not_eq_true,Bool.or_eq_false_iff] at h
             have:(L0 (List.drop 1 (c::r))).2≠(List.drop 1 (c::r)).length:=fun e=>by
               have:=h.1.2
               rw[e] at this
               simp at this
             show(L0 (List.drop 1 (c::r))).2+2≤_
             omega
         · unfold a6E
           split
           · rename_i h
             simp only[Bool.and_eq_true,decide_eq_true_eq] at h
             exact h.1
           · split
             · show 1≤_
               omega
             · exact Nat.zero_le _
def a7X (r:B):Nat→Tok × Nat
 | 0=>(zeroK,0)
 | k+1=>if sym (r.take (k+1)) then (⟨5,0,r.take (k+1),0⟩,k+1) else a7X r k
theorem b7J (r:B):a6E r=a7X r (min 2 r.length):=by
 match r with
 | []=>rfl
 | [a]=>rfl
 | a::b::s=>
   rw[show min 2 (a::b::s).length=2 by simp]
   unfold a6E a7X a7X a7X
   simp
theorem P8:∀ (n k1 k2:Nat) (r:B) (p:Nat),r.length≤n→n≤k1→n≤k2→a6O k1 r p=a6O k2 r p
 | _,k1,k2,[],p,_,_,_=>by cases k1 <;> cases k2 <;> rfl
 | 0,_,_,c::r,p,h,_,_=>by simp at h
 | n+1,k1,k2,c::r,p,h,h1,h2=>by
   obtain⟨j1,rfl⟩:∃ j,k1=j+1:=⟨k1 - 1,by omega⟩
   obtain⟨j2,rfl⟩:∃ j,k2=j+1:=⟨k2 - 1,by omega⟩
   have hr:r.length≤n:=by simpa using h
   unfold a6O
   rw[P8 n j1 j2 r (p+1) hr (by omega) (by omega)]
   by_cases hn:(tok (c::r)).2==0
   · simp only[hn,if_true]
   · have hn':(tok (c::r)).2≠0:=by simpa using hn
     rw[P8 n j1 j2 ((c::r).drop (tok (c::r)).2) (p+(tok (c::r)).2) (by rw[List.length_drop,List.length_cons];omega) (by omega) (by omega)]
def lx (r:B) (p:Nat):Except Nat (List Tok):=a6O r.length r p
def a5Q (l:List Tok):Except Nat (List Tok)→Except Nat (List Tok)
 | .ok m=>.ok (l++m)
 | .error e=>.error e
theorem b7I (x:Except Nat (List Tok)):a5Q [] x=x:=by cases x <;> rfl
theorem b9I (l m:List Tok) (x:Except Nat (List Tok)):a5Q l (a5Q m x)=a5Q (l++m) x:=by
 cases x with
 | error e=>rfl
 | ok k=>simp[a5Q]
theorem c3G (p:Nat):lx [] p=.ok []:=rfl
theorem a7Q (r:B) (p:Nat):lx (32::r) p=lx r (p+1):=by
 show a6O (r.length+1) (32::r) p=_
 unfold a6O
 rw[if_pos (by decide)]
 rfl
theorem lx_bad {c:UInt8} {r:B} {p:Nat} (hc:c≠32) (hn:(tok (c::r)).2=0):lx (c::r) p=.error p:=by
 have e:((c.toNat:Int)==32)=false:=by
   cases h:(c.toNat:Int)==32 with
   | false=>rfl
   | true => exact absurd (UInt8.toNat.inj (by have := eq_of_beq h; have e : c.toNat = 32 := by exact_mod_cast this
                                               rw[e];rfl)) hc
 show(if (c.toNat:Int)==32 then _ else if (tok (c::r)).2==0 then Except.error p else _)=_
 rw[e,hn]
 rfl
theorem lx_tok {c:UInt8} {r:B} {p:Nat} (hc:c≠32) (hn:(tok (c::r)).2≠0):lx (c::r) p=a5Q [{ (tok (c::r)).1 with at_:=p }] (lx ((c::r).drop (tok (c::r)).2) (p+(tok (c::r)).2)):=by
 have e:((c.toNat:Int)==32)=false:=by
   cases h:(c.toNat:Int)==32 with
   | false=>rfl
   | true => exact absurd (UInt8.toNat.inj (by have := eq_of_beq h; have e : c.toNat = 32 := by exact_mod_cast this
                                               rw[e];rfl)) hc
 have e2:((tok (c::r)).2==0)=false:=by simpa using hn
 show(if (c.toNat:Int)==32 then _ else if (tok (c::r)).2==0 then Except.error p else match a6O r.length ((c::r).drop (tok (c::r)).2) (p+(tok (c::r)).2) with
     | .ok l=>.ok ({ (tok (c::r)).1 with at_:=p }::l)
     | .error e=>.error e)=_
 rw[e,e2]
 simp only[Bool.false_eq_true,if_false]
 rw[P8 ((c::r).drop (tok (c::r)).2).length r.length ((c::r).drop (tok (c::r)).2).length _ _ (Nat.le_refl _) (by rw[List.length_drop,List.length_cons];omega) (Nat.le_refl _)]
 unfold lx
 cases a6O ((c::r).drop (tok (c::r)).2).length ((c::r).drop (tok (c::r)).2) (p+(tok (c::r)).2) <;> rfl
def c6x:Except Nat (List Tok)→List Tok × Int × Int
 | .ok l=>(l,0,0)
 | .error a=>([],a,80)
theorem a46 {s:B} (h:decide ((s.length:Int) > 256)=true):lexO s=([],0,3):=by unfold lexO;rw[h];rfl
theorem a4W {s:B} (h:decide ((s.length:Int) > 256)=false):lexO s=c6x (lx s 0):=by
 unfold lexO lx
 rw[h]
 cases a6O s.length s 0 <;> rfl
theorem R8 {s:B} {p:Nat} {c:UInt8} (h:s[p]?=some c):s.drop p=c::s.drop (p+1):=by
 have h1:p < s.length:=(List.getElem?_eq_some_iff.1 h).1
 rw[List.drop_eq_getElem_cons h1,(List.getElem?_eq_some_iff.1 h).2]
theorem b3K {s:B} {p:Nat} {l:List Tok} (h:s[p]?=some 32) (hJ:lx s 0=a5Q l (lx (s.drop p) p)):lx s 0=a5Q l (lx (s.drop (p+1)) (p+1)):=by
 rw[R8 h,a7Q] at hJ
 exact hJ
theorem b8k {s:B} {p:Nat} {c:UInt8} {l:List Tok} (h:s[p]?=some c) (hc:c≠32) (hn:(tok (s.drop p)).2=0) (hJ:lx s 0=a5Q l (lx (s.drop p) p)):lx s 0=.error p:=by
 rw[R8 h] at hn hJ
 rw[lx_bad hc hn] at hJ
 exact hJ
theorem b9H {s:B} {p:Nat} {c:UInt8} {l:List Tok} (h:s[p]?=some c) (hc:c≠32) (hn:(tok (s.drop p)).2≠0) (hJ:lx s 0=a5Q l (lx (s.drop p) p)) :
   lx s 0=a5Q (l++[{ (tok (s.drop p)).1 with at_:=p }]) (lx (s.drop (p+(tok (s.drop p)).2)) (p+(tok (s.drop p)).2)):=by
 have e:=R8 h
 rw[e] at hn hJ ⊢
 rw[lx_tok hc hn,b9I,← e,List.drop_drop] at hJ
 rw[e] at hJ
 exact hJ
theorem b5j (c:UInt8):((c.toNat:Int)==32)=(c==32):=by simpa using Z5 (p:=fun c=>((c.toNat:Int)==32)==(c==32)) (by decide +kernel) c
end Go.Lx
end
section
namespace Go.Lx
open Go.Ty
def a0p (u:Nat):Nat→B
 | 0=>[]
 | i+1=>O4.getD (u / 16 ^ i % 16) 0::a0p u i
theorem a4R (u:Nat):∀ i,(a0p u i).length=i
 | 0=>rfl
 | i+1=>by show(a0p u i).length+1=_;rw[a4R u i]
def a1q (v:Int) (hex:Bool):B:=if hex then 35::a0p (IntKind.u32.wrap v).toNat 8 else Lib.itoa v
def c3X:B:=[13,10,9,39,42]
def b2r:B:=[99,110,116,39,42]
def shI (v:Nat):Int:=Lib.indexByte c3X (UInt8.ofNat v)
def a4K (v:Nat):B:=
 if decide (shI v ≥ 0) then [42,b2r.getD (shI v).toNat 0]
 else if decide ((v:Int) < 32)||decide ((v:Int) > 126) then [42,35,O4.getD (v / 16) 0,O4.getD (v % 16) 0]
 else [UInt8.ofNat v]
def a0R (t:Tok):B:=if t.kind==3 then a1q t.n (decide (t.n < 0)) else if t.kind==4 then [39]++a4K t.n.toNat++[39] else t.text
def b0D (t:Tok) (s:B):Bool:=(t.kind==5)&&Lib.contains s t.text
def b86:B:=[44,59,58,41,93]
def b56:B:=[40,91]
def gap (p t:Tok):Bool:=!b0D t b86&&!b0D p b56&&((p.kind != 1)||!b0D t b56)
def a9k:Option Tok→Tok→Bool
 | none,_=>false
 | some p,t=>gap p t
def sep (b:Bool):B:=if b then [32] else []
def textL:Option Tok→List Tok→B
 | _,[]=>[]
 | p,t::l=>sep (a9k p t)++a0R t++textL (some t) l
def a3l (p:Option Tok):List Tok→Option Tok
 | []=>p
 | t::l=>a3l (some t) l
theorem a6n:∀ (l m:List Tok) (p:Option Tok),textL p (l++m)=textL p l++textL (a3l p l) m
 | [],m,p=>rfl
 | t::l,m,p=>by
   show sep (a9k p t)++a0R t++textL (some t) (l++m)=sep (a9k p t)++a0R t++textL (some t) l++textL (a3l (some t) l) m
   rw[a6n l m (some t)]
   simp
theorem a8S:∀ (l:List Tok) (i:Nat) (p:Option Tok) (t:Tok),l[i]?=some t→a3l p (l.take (i+1))=some t
 | [],i,p,t,h=>by cases i <;> cases h
 | x::l,0,p,t,h=>by cases h;cases l <;> rfl
 | x::l,i+1,p,t,h=>by
   show a3l (some x) (l.take (i+1))=some t
   exact a8S l i (some x) t (by simpa using h)
theorem b3l {l:List Tok} {i:Nat} {t:Tok} (p:Option Tok) (h:l[i]?=some t):textL p (l.take (i+1))=textL p (l.take i)++(sep (a9k (a3l p (l.take i)) t)++a0R t):=by
 have h1:i < l.length:=(List.getElem?_eq_some_iff.1 h).1
 have e:l.take (i+1)=l.take i++[t]:=by
   rw[List.take_add_one,h]
   rfl
 rw[e,a6n]
 show textL p (l.take i)++(sep _++a0R t++[])=_
 simp
def textO (l:List Tok):B × Int:=
 if l.any fun t=>!K1 t then ([],2) else if decide (((textL none l).length:Int) > 256) then ([],3) else (textL none l,0)
theorem b6f {l:List Tok} (h:l.any (fun t=>!K1 t)=true):textO l=([],2):=by unfold textO;rw[h];rfl
theorem b3h {l:List Tok} (h:l.any (fun t=>!K1 t)=false) {i:Nat} (hi:256 < (textL none (l.take i)).length):textO l=([],3):=by
 unfold textO
 rw[h]
 have:decide (((textL none l).length:Int) > 256)=true:=by
   have e:textL none l=textL none (l.take i)++textL (a3l none (l.take i)) (l.drop i):=by rw[← a6n,List.take_append_drop]
   rw[e,List.length_append]
   simp
   omega
 rw[this]
 rfl
theorem b7Q {l:List Tok} (h:l.any (fun t=>!K1 t)=false) (hl:(textL none l).length≤256):textO l=(textL none l,0):=by
 unfold textO
 rw[h]
 have:decide (((textL none l).length:Int) > 256)=false:=by simp;omega
 rw[this]
 rfl
theorem b00 (v:Nat):(a4K v).length≤4:=by
 unfold a4K
 split
 · simp
 · split <;> simp
theorem b0N:∀ (n u:Nat),u≤n→(Lib.decDigits u).length≤u+1
 | n,u,h=>by
   unfold Lib.decDigits
   split
   · simp
   · rename_i h10
     cases n with
     | zero=>omega
     | succ n=>
       have:=b0N n (u / 10) (by omega)
       rw[List.length_append,List.length_singleton]
       omega
theorem b6s {v:Int} (b:Bool) (h:-2147483648≤v∧v≤2147483647):(a1q v b).length≤3000000000:=by
 unfold a1q
 split
 · rw[List.length_cons,a4R];omega
 · unfold Lib.itoa
   split
   · have:=b0N _ v.natAbs (Nat.le_refl _);rw[List.length_cons];omega
   · have:=b0N _ v.toNat (Nat.le_refl _);omega
theorem b6o {t:Tok} (h:-2147483648≤t.n∧t.n≤2147483647) (hs:t.text.length≤140737488355328):(a0R t).length≤140737488355328:=by
 unfold a0R
 split
 · have:=b6s (decide (t.n < 0)) h;omega
 · split
   · have:=b00 t.n.toNat
     simp only[List.length_append,List.length_singleton]
     omega
   · exact hs
theorem b3q (u:Nat) (i:Nat):a0p u (i+1)=O4.getD (u / 16 ^ i % 16) 0::a0p u i:=rfl
end Go.Lx
end
section
namespace Go.Lx
open Go.Ty
set_option maxRecDepth 100000
def c5t (t:Tok) (n:Nat) (c:UInt8):Bool:=
 if t.kind==4 then true else if t.kind==5 then (n==2)||!sym (t.text++[c]) else !wch c
def stop (t:Tok) (n:Nat) (y:B):Prop:=∀ c,y[n]?=some c→c5t t n c=true
theorem b4f {x:B} {t:Tok} {n:Nat} (h:a2M x=(t,n)) (hn:n≠0):run x=n∧(t.kind=1∨t.kind=2)∧t.text=x.take n∧t.n=0∧t.at_=0:=by
 unfold a2M at h
 split at h
 · cases h;exact⟨rfl,.inr rfl,rfl,rfl,rfl⟩
 · split at h
   · cases h;exact absurd rfl hn
   · cases h;exact⟨rfl,.inl rfl,rfl,rfl,rfl⟩
theorem b9g {x:B} {t:Tok} {n:Nat} (h:a98 x=(t,n)) (hn:n≠0):run x=n∧t.kind=3∧t.text=[]∧t.at_=0:=by
 unfold a98 at h
 split at h
 · cases h;exact absurd rfl hn
 · split at h
   · cases h;exact absurd rfl hn
   · split at h
     · cases h;exact absurd rfl hn
     · cases h;exact⟨rfl,rfl,rfl,rfl⟩
theorem b8d {x:B} {t:Tok} {n:Nat} (h:b0I x=(t,n)) (hn:n≠0):1+run (x.drop 1)=n∧t.kind=3∧t.text=[]∧t.at_=0:=by
 unfold b0I at h
 split at h
 · cases h;exact absurd rfl hn
 · split at h
   · cases h;exact absurd rfl hn
   · cases h;exact⟨rfl,rfl,rfl,rfl⟩
theorem b6a {x:B} {t:Tok} {n:Nat} (h:a06 x=(t,n)) (hn:n≠0):noQ (x.drop 1) (L0 (x.drop 1)).2=false∧t=⟨4,0,[],(L0 (x.drop 1)).1⟩∧n=(L0 (x.drop 1)).2+2:=by
 unfold a06 at h
 split at h
 · cases h;exact absurd rfl hn
 · rename_i hq;cases h;exact⟨by simpa using hq,rfl,rfl⟩
theorem b6A {x:B} {t:Tok} {n:Nat} (h:a6E x=(t,n)) (hn:n≠0):t=⟨5,0,x.take n,0⟩∧sym (x.take n)=true∧n≤x.length∧(n=2∨n=1∧(2≤x.length→sym (x.take 2)=false)):=by
 unfold a6E at h
 split at h
 · rename_i hc
   simp only[Bool.and_eq_true,decide_eq_true_eq] at hc
   cases h
   exact⟨rfl,hc.2,hc.1,.inl rfl⟩
 · rename_i h2
   split at h
   · rename_i hc
     simp only[Bool.and_eq_true,decide_eq_true_eq] at hc
     cases h
     refine⟨rfl,hc.2,hc.1,.inr ⟨rfl,fun hl=>?_⟩⟩
     cases hb:sym (x.take 2) with
     | false=>rfl
     | true=>exact absurd (by rw[hb];simpa using hl) h2
   · cases h;exact absurd rfl hn
end Go.Lx

namespace Go.Lx
open Go.Ty
set_option maxRecDepth 100000
theorem b2V {P:B→Prop} (h0:P []) (h1:∀ r,P r→P (32::r)) (h2:∀ c r,c≠32→(tok (c::r)).2=0→P (c::r))
   (h3:∀ c r,c≠32→(tok (c::r)).2≠0→P ((c::r).drop (tok (c::r)).2)→P (c::r)):∀ r,P r:=by
 have key:∀ n,∀ r:B,r.length≤n→P r:=by
   intro n
   induction n with
   | zero=>intro r hr;cases r with
     | nil=>exact h0
     | cons c r=>simp at hr
   | succ n ih=>
     intro r hr
     cases r with
     | nil=>exact h0
     | cons c r=>
       by_cases hc:c=32
       · subst hc;exact h1 r (ih r (by simpa using hr))
       · by_cases hn:(tok (c::r)).2=0
         · exact h2 c r hc hn
         · exact h3 c r hc hn (ih _ (by rw[List.length_drop];simp only[List.length_cons] at hr ⊢;omega))
 exact fun r=>key r.length r (Nat.le_refl _)
theorem b4Y {l:List Tok} {x:Except Nat (List Tok)} {m:List Tok} (h:a5Q l x=.ok m):∃ k,x=.ok k∧m=l++k:=by
 cases x with
 | error e=>cases h
 | ok k=>cases h;exact⟨k,rfl,rfl⟩
end Go.Lx

namespace Go.Lx
open Go.Ty
set_option maxRecDepth 100000
theorem b6Z {t:Tok} (h:K1 t=true):(t.kind=1∧t.n=0∧name t.text=true)∨(t.kind=2∧t.n=0∧key t.text=true)∨(t.kind=5∧t.n=0∧sym t.text=true)∨(t.kind=4∧t.text=[]∧0≤t.n∧t.n < 256)∨(t.kind=3∧t.text=[]):=by
 unfold K1 at h
 split at h
 · cases h
 · split at h
   · rename_i hk;simp at h hk;exact .inl ⟨hk,h.1,h.2⟩
   · split at h
     · rename_i hk;simp at h hk;exact .inr (.inl ⟨hk,h.1,h.2⟩)
     · split at h
       · rename_i hk;simp at h hk;exact .inr (.inr (.inl ⟨hk,h.1,h.2⟩))
       · split at h
         · rename_i hk;simp at h hk;exact .inr (.inr (.inr (.inl ⟨hk,h.1.1,h.1.2,h.2⟩)))
         · simp at h;exact .inr (.inr (.inr (.inr h)))
end Go.Lx

namespace Go.Lx
open Go.Ty
set_option maxRecDepth 100000
def c5c:Option Tok→Nat→List Tok→List Tok
 | _,_,[]=>[]
 | p,q,t::l=>{ t with at_:=(q+(sep (a9k p t)).length:Nat) }::c5c (some t) (q+(sep (a9k p t)).length+(a0R t).length) l
theorem a7y (v:Int):-2147483648≤IntKind.i32.wrap v∧IntKind.i32.wrap v≤2147483647:=by
 unfold IntKind.wrap
 simp[IntKind.bits,IntKind.signed]
 omega
theorem c4v (c:UInt8):chB a1A (esc c).toNat < 256∧0≤chB a1A (esc c).toNat:=by
 unfold chB
 have:=(a1A.getD (esc c).toNat 0).toNat_lt
 omega
theorem b7c (s:B):0≤(L0 s).1∧(L0 s).1 < 256:=by
 unfold L0
 split
 · exact⟨Int.le_refl 0,show(0:Int) < 256 by decide⟩
 · split
   · have:=(s.getD 0 0).toNat_lt
     show 0≤chB s 0∧chB s 0 < 256
     unfold chB
     omega
   · split
     · exact⟨Int.le_refl 0,show(0:Int) < 256 by decide⟩
     · split
       · have:=c4v (s.getD 1 0)
         exact⟨this.2,this.1⟩
       · split
         · exact⟨Int.le_refl 0,show(0:Int) < 256 by decide⟩
         · split
           · exact⟨Int.le_refl 0,show(0:Int) < 256 by decide⟩
           · show 0≤(a0m _).1∧(a0m _).1 < 256
             unfold a0m
             rw[a3p]
             cases hv:a6P 16 ((s.drop 2).take 2) 0 with
             | none=>exact⟨Int.le_refl 0,show(0:Int) < 256 by decide⟩
             | some v=>
               have hb:=a1v (by decide) a4l _ 0 v (by decide) hv
               have hl:((s.drop 2).take 2).length≤2:=by rw[List.length_take];omega
               have hp:(16:Int) ^ ((s.drop 2).take 2).length≤16 ^ 2:=by exact_mod_cast Nat.pow_le_pow_right (by decide) hl
               simp only
               omega
theorem c2b {c:UInt8} {r:B} {t:Tok} {n:Nat} (h:tok (c::r)=(t,n)) (hn:n≠0) {z:Int} (hz:0≤z∧z < 256):K1 { t with at_:=z }=true∧(-2147483648≤t.n∧t.n≤2147483647):=by
 have h0:(decide (z < 0)||decide (z ≥ 256))=false:=by simp;omega
 unfold tok at h
 rw[a2z] at h
 split at h
 · rename_i hl
   obtain⟨hr,_⟩:=b4f h hn
   unfold a2M at h
   split at h
   · rename_i hk
     cases h
     refine⟨?_,by show(-2147483648:Int)≤0∧(0:Int)≤2147483647;omega⟩
     unfold K1
     simp only[h0,hk]
     rfl
   · rename_i hk
     split at h
     · cases h;exact absurd rfl hn
     · rename_i h32
       cases h
       refine⟨?_,by show(-2147483648:Int)≤0∧(0:Int)≤2147483647;omega⟩
       unfold K1
       simp only[h0,b6m hl (by simpa using hk)]
       simpa using h32
 · split at h
   · obtain⟨_,hk,htx,_⟩:=b9g h hn
     refine⟨?_,?_⟩
     · unfold K1
       simp only[h0,hk,htx]
       rfl
     · unfold a98 at h
       split at h
       · cases h;exact absurd rfl hn
       · split at h
         · cases h;exact absurd rfl hn
         · split at h
           · cases h;exact absurd rfl hn
           · cases h;exact a7y _
   · split at h
     · obtain⟨_,hk,htx,_⟩:=b8d h hn
       refine⟨?_,?_⟩
       · unfold K1
         simp only[h0,hk,htx]
         rfl
       · unfold b0I at h
         split at h
         · cases h;exact absurd rfl hn
         · split at h
           · cases h;exact absurd rfl hn
           · cases h;exact a7y _
     · split at h
       · obtain⟨_,htk,_⟩:=b6a h hn
         have hv:=b7c r
         subst htk
         refine⟨?_,by show -2147483648≤(L0 r).1∧(L0 r).1≤2147483647;omega⟩
         unfold K1
         simp only[h0]
         simp
         omega
       · obtain⟨htk,hsy,_,_⟩:=b6A h hn
         subst htk
         refine⟨?_,by show(-2147483648:Int)≤0∧(0:Int)≤2147483647;omega⟩
         unfold K1
         simp only[h0,hsy]
         rfl
theorem c0h:∀ s ∈ b4V,s.length≤32:=by decide +kernel
theorem c1Y:∀ s ∈ b2Y,s.length≤32:=by decide +kernel
theorem may_len {t:Tok} (h:K1 t=true):t.text.length≤32:=by
 rcases b6Z h with ⟨_,_,h3⟩ | ⟨_,_,h3⟩ | ⟨_,_,h3⟩ | ⟨_,h3,_⟩ | ⟨_,h3⟩
 · unfold name at h3
   simp only[Bool.and_eq_true,decide_eq_true_eq] at h3
   have:=h3.1.1.1.2
   omega
 · exact c0h _ ((a1k _ _).1 (by rw[c3Z] at h3;exact h3))
 · exact c1Y _ ((a1k _ _).1 (by rw[c3P] at h3;exact h3))
 · rw[h3];exact Nat.zero_le _
 · rw[h3];exact Nat.zero_le _
theorem lx_may:∀ (r:B) (p:Nat) (l:List Tok),lx r p=.ok l→p+r.length≤256→∀ x,x ∈ l→K1 x=true∧(-2147483648≤x.n∧x.n≤2147483647):=by
 refine b2V ?_ ?_ ?_ ?_
 · intro p l h _ x hx;cases h;cases hx
 · intro r ih p l h hp x hx
   rw[a7Q] at h
   exact ih _ _ h (by simp only[List.length_cons] at hp;omega) x hx
 · intro c r hc hn p l h
   rw[lx_bad hc hn] at h
   cases h
 · intro c r hc hn ih p l h hp x hx
   rw[lx_tok hc hn] at h
   obtain⟨k,hk,rfl⟩:=b4Y h
   have hle:=b4k (c::r)
   rcases List.mem_append.1 hx with hx | hx
   · cases List.mem_singleton.1 hx
     exact c2b (show tok (c::r)=((tok (c::r)).1,(tok (c::r)).2) from rfl) hn (z:=(p:Int)) (by simp only[List.length_cons] at hp;omega)
   · exact ih _ _ hk (by rw[List.length_drop];omega) x hx
end Go.Lx

namespace Go.Lx
open Go.Ty
set_option maxRecDepth 100000
theorem lx_len:∀ (r:B) (p:Nat) (l:List Tok),lx r p=.ok l→l.length≤r.length:=by
 refine b2V ?_ ?_ ?_ ?_
 · intro p l h;cases h;exact Nat.le_refl _
 · intro r ih p l h
   rw[a7Q] at h
   have:=ih _ _ h
   simp only[List.length_cons]
   omega
 · intro c r hc hn p l h
   rw[lx_bad hc hn] at h
   cases h
 · intro c r hc hn ih p l h
   rw[lx_tok hc hn] at h
   obtain⟨k,hk,rfl⟩:=b4Y h
   have:=ih _ _ hk
   have hle:=b4k (c::r)
   rw[List.length_drop] at this
   simp only[List.length_append,List.length_singleton]
   omega
theorem lexO_ok {s:B} {l:List Tok} {z:Int} (h:lexO s=(l,z,0)):s.length≤256∧lx s 0=.ok l∧z=0:=by
 cases hd:decide ((s.length:Int) > 256) with
 | true=>rw[a46 hd] at h;cases h
 | false=>
   rw[a4W hd] at h
   cases hx:lx s 0 with
   | error e=>rw[hx] at h;cases h
   | ok m=>
     rw[hx] at h
     cases h
     have:=of_decide_eq_false hd
     exact⟨by omega,rfl,rfl⟩
theorem lexO_no {s:B} {l:List Tok} {z e:Int} (h:lexO s=(l,z,e)) (he:e≠0):l=[]:=by
 cases hd:decide ((s.length:Int) > 256) with
 | true=>rw[a46 hd] at h;cases h;rfl
 | false=>
   rw[a4W hd] at h
   cases hx:lx s 0 with
   | error e=>rw[hx] at h;cases h;rfl
   | ok m=>rw[hx] at h;cases h;exact absurd rfl he
end Go.Lx
end
section
namespace Go.Xp
open Go.Eng Go
open Go.Ty (Tok B4)
open Go.Lx (K1)
set_option maxRecDepth 100000
def a7n (ts:List Tok):Prop:=C9 ts≠C3 [91]
def b0v (ts:List Tok):Prop:=opF (C9 ts) 22 1=0
theorem G7 {t:Tok} {r:List Tok} (h:K1 t=true) (ha:t.at_=0):C9 (t::r)=t:=by
 rw[a4o,if_pos h]
 cases t
 cases ha
 rfl
theorem N0 {ins:B→B→List Tok→a0o} {ts:List Tok} {t:Tok} (h:C9 ts=t):R1 ins ts=if t.kind=3 then .ok (sx 1 0 0 t.n [] [],ts.tail) else if t.kind=4 then .ok (sx 2 0 0 t.n [] [],ts.tail)
 else if t=C8 [70,65,76,83,69] then .ok (sx 3 0 0 0 [] [],ts.tail) else if t=C8 [84,82,85,69] then .ok (sx 3 0 0 1 [] [],ts.tail)
 else if t.kind=1 then (if C9 ts.tail=C3 [91] then (match ins [91] [93] ts.tail with
     | .ok (x,r)=>.ok (sx 5 0 0 0 t.text [x],r)
     | .error e=>.error e) else .ok (sx 4 0 0 0 t.text [],ts.tail))
 else if t=C3 [40] then ins [40] [41] ts else .error 100:=by subst h;rfl
theorem W6 {ins:B→B→List Tok→a0o} {ts:List Tok} {t:Tok} (h:C9 ts=t):a0y ins ts=if t=C8 [83,73,90,69] then (if (C9 ts.tail).kind=1 then .ok (sx 9 0 0 0 (C9 ts.tail).text [],ts.tail.tail) else .error 100)
 else if a0j t≠0 then unQ (fun x=>sx 8 0 (a0j t) 0 [] [x]) (R1 ins ts.tail)
 else if opF t 4 23≠0 then unQ (fun x=>sx 6 (opF t 4 23) 0 0 [] [x]) (R1 ins ts.tail)
 else match R1 ins ts with
   | .error e=>.error e
   | .ok (a,r)=>if opF (C9 r) 22 1≠0 then unQ (fun b=>sx 7 (opF (C9 r) 22 1) 0 0 [] [a,b]) (R1 ins r.tail) else .ok (a,r):=by subst h;rfl
inductive Dp:Nat→Ex→Prop
 | mk {n:Nat} {e:Ex} (h:∀ x ∈ e.l,Dp n x):Dp (n+1) e
theorem Dp.part {n:Nat} {e x:Ex} (d:Dp (n+1) e) (hx:x ∈ e.l):Dp n x:=by cases d with | mk h=>exact h x hx
theorem Dp.pos {n:Nat} {e:Ex} (d:Dp n e):∃ k,n=k+1:=by cases d;exact⟨_,rfl⟩
theorem Dp.up {e:Ex}:∀ {n:Nat},Dp n e→Dp (n+1) e:=by
 refine Ex.ind (p:=fun e=>∀ {n:Nat},Dp n e→Dp (n+1) e) (fun e ih n d=>?_) e
 obtain⟨k,rfl⟩:=d.pos
 exact .mk fun x hx=>ih x hx (d.part hx)
def b89 (t:Tok):Prop:=t.kind=1∨t.kind=3∨t.kind=4∨t=C8 [70,65,76,83,69]∨t=C8 [84,82,85,69]∨t=C3 [40]
theorem b9N {t:Tok} (h:b89 t):t≠C8 [83,73,90,69]∧a0j t=0∧opF t 4 23=0:=by
 have key:t.kind=1∨t.kind=3∨t.kind=4→t≠C8 [83,73,90,69]∧a0j t=0∧opF t 4 23=0:=by
   intro hk
   have hm:∀ s,t≠C8 s:=by
     rintro s rfl
     have:=V3 s
     omega
   have ho:∀ o,t≠J5 o:=fun o=>hm _
   refine⟨hm _,?_,?_⟩
   · unfold a0j
     rw[if_neg (hm _),if_neg (hm _),if_neg (hm _)]
   · simp only[opF,if_neg (ho _)]
 rcases h with h | h | h | rfl | rfl | rfl
 · exact key (.inl h)
 · exact key (.inr (.inl h))
 · exact key (.inr (.inr h))
 · decide +kernel
 · decide +kernel
 · decide +kernel
theorem b1c (n:Int):K1 (a6U n)=true:=rfl
theorem a7Y {n:Int} (h:0≤n∧n≤255):K1 (a2t n)=true:=by
 unfold K1 a2t
 simp
 omega
theorem a2s {s:B} (h:Go.Lx.name s=true):K1 (D9 s)=true:=by
 unfold K1 D9
 simp[h]
theorem b8h:∀ o,o < 27→1≤o→K1 (J5 (o:Nat))=true:=by decide +kernel
theorem a4a {o:Int} (h:1≤o∧o≤26):K1 (J5 o)=true:=by
 have:=b8h o.toNat (by omega) (by omega)
 rwa [show((o.toNat:Nat):Int)=o by omega] at this
theorem b5B (o:Int):(J5 o).at_=0:=a2Y _
theorem c4m:∀ o,o < 27→23≤o→(J5 (o:Nat)≠C8 [83,73,90,69])∧a0j (J5 (o:Nat))=0∧opF (J5 (o:Nat)) 4 23=o:=by decide +kernel
theorem c4e:∀ o,o < 23→1≤o→opF (J5 (o:Nat)) 22 1=o∧J5 (o:Nat)≠C3 [91]:=by decide +kernel
theorem b4T:∀ k,k < 4→1≤k→K1 (C8 (L2 (k:Nat)))=true∧C8 (L2 (k:Nat))≠C8 [83,73,90,69]∧a0j (C8 (L2 (k:Nat)))=k:=by decide +kernel
theorem b1w {s:B} {r:List Tok} (h:K1 (C3 s)=true) (hs:s≠[91]):a7n (C3 s::r):=by
 unfold a7n
 rw[G7 h rfl]
 intro q
 exact hs (congrArg Tok.text q)
theorem c1b (r:List Tok):b0v (C3 [93]::r):=by
 unfold b0v
 rw[G7 (by decide +kernel) rfl]
 decide +kernel
theorem c0E (r:List Tok):b0v (C3 [41]::r):=by
 unfold b0v
 rw[G7 (by decide +kernel) rfl]
 decide +kernel
theorem b9b {f:Nat} {o s:B} {ts r:List Tok} {x:Ex} (ho:K1 (C3 o)=true) (hs:K1 (C3 s)=true) (h:a0y (U1 f) ts=.ok (x,C3 s::r)):U1 (f+1) o s (C3 o::ts)=.ok (x,r):=by
 unfold U1
 rw[G7 ho rfl,if_pos rfl]
 show(match a0y (U1 f) ts with | .error e=>.error e | .ok (x,r)=>if C9 r=C3 s then .ok (x,r.tail) else .error 100:a0o)=_
 rw[h]
 show(if C9 (C3 s::r)=C3 s then .ok (x,(C3 s::r).tail) else .error 100:a0o)=_
 rw[G7 hs rfl,if_pos rfl]
 rfl
section
variable {e:Ex} (hF:Fine e)
include hF
theorem a6u (hn:-2147483648≤e.n∧e.n≤2147483647) (h:e.k=2):0≤e.n∧e.n≤255:=by
 have h1:=hF.ok
 unfold D7 at h1
 simp only[h] at h1
 by_cases hb:a5R .i32 e.n 8=0
 · exact(c6t hn).1 hb
 · simp[hb] at h1
theorem a1e (h:e.k=4∨e.k=5∨e.k=9):Go.Lx.name e.s=true:=by
 have h1:=hF.ok
 unfold D7 at h1
 cases hb:Go.Lx.name e.s with
 | true=>rfl
 | false=>rcases h with h | h | h <;> simp[h,hb] at h1
theorem b2D (ho:0≤e.o∧e.o≤255) (h:e.k=6):23≤e.o∧e.o≤26:=by
 have h1:=hF.ok
 unfold D7 at h1
 simp only[h] at h1
 by_cases h2:e.o < 23
 · simp[h2] at h1
 · have h3:=b9O (o:=e.o) (by omega)
   rw[h3] at h1
   by_cases h4:e.o - 23 ≥ 4
   · simp[h2,h4] at h1
   · omega
theorem b1v (h:e.k=7):1≤e.o∧e.o≤22:=by
 have h1:=hF.ok
 unfold D7 at h1
 simp only[h] at h1
 by_cases h2:e.o < 1
 · simp[h2] at h1
 · by_cases h4:e.o > 22
   · simp[h2,h4] at h1
   · omega
theorem a9l (h:e.k=8):1≤e.t∧e.t≤3:=by
 have h1:=hF.ok
 unfold D7 at h1
 simp only[h] at h1
 by_cases h2:e.t=1
 · omega
 by_cases h3:e.t=2
 · omega
 by_cases h4:e.t=3
 · omega
 simp[L2,h2,h3,h4] at h1
theorem b6V (h:e.k=1∨e.k=2∨e.k=3∨e.k=4∨e.k=9):e.l=[]:=by
 have h1:=hF.ok
 have h2:=hF.num
 have:(D7 e).1=0:=by
   unfold D7 at h1 ⊢
   rcases h with h | h | h | h | h <;> simp only[h] at h1 ⊢ <;> (revert h1;simp) <;> split <;> simp
 rw[this] at h2
 match hl:e.l with
 | []=>rfl
 | _::_=>rw[hl] at h2;simp at h2;omega
end
theorem b3z {e:Ex} (hF:Fine e):C1 e=(if e.k=1 then sx 1 0 0 e.n [] [] else if e.k=2 then sx 2 0 0 e.n [] [] else if e.k=3 then sx 3 0 0 e.n [] [] else if e.k=4 then sx 4 0 0 0 e.s []
   else if e.k=9 then sx 9 0 0 0 e.s [] else if e.k=5 then sx 5 0 0 0 e.s (e.l.map C1) else if e.k=6 then sx 6 e.o 0 0 [] (e.l.map C1) else if e.k=7 then sx 7 e.o 0 0 [] (e.l.map C1) else sx 8 0 e.t 0 [] (e.l.map C1)):=by
 have h1:=hF.ok
 have hl:=b6V hF
 rw[W9]
 unfold D7 at h1
 rcases a1i hF with h | h | h | h | h | h | h | h | h
 · simp only[h] at h1 ⊢
   rw[hl (by omega)]
   simp[fin] at h1
   simp[sx,h1]
 · simp only[h] at h1 ⊢
   rw[hl (by omega)]
   revert h1
   simp only[show ¬ ((2:Int)=1) by decide,if_false,if_true]
   split
   · intro h1;cases h1
   · intro h1
     simp[fin] at h1
     simp[sx,h1]
 · simp only[h] at h1 ⊢
   rw[hl (by omega)]
   revert h1
   simp only[show ¬ ((3:Int)=1) by decide,show ¬ ((3:Int)=2) by decide,if_false,if_true]
   split
   · intro h1;cases h1
   · intro h1
     simp[fin] at h1
     simp[sx,h1]
 · simp only[h] at h1 ⊢
   rw[hl (by omega)]
   revert h1
   cases Go.Lx.name e.s
   · simp
   · intro h1
     simp[fin] at h1
     simp[sx,h1]
 · simp only[h] at h1 ⊢
   rw[hl (by omega)]
   revert h1
   cases Go.Lx.name e.s
   · simp
   · intro h1
     simp[fin] at h1
     simp[sx,h1]
 · simp only[h] at h1 ⊢
   revert h1
   cases Go.Lx.name e.s
   · simp
   · intro h1
     simp[fin] at h1
     simp[sx,h1]
 · simp only[h] at h1 ⊢
   revert h1
   simp only[show ¬ ((6:Int)=1) by decide,show ¬ ((6:Int)=2) by decide,show ¬ ((6:Int)=3) by decide,show ¬ ((6:Int)=4) by decide,show ¬ ((6:Int)=9) by decide,show ¬ ((6:Int)=5) by decide,if_false,if_true]
   split
   · intro h1;cases h1
   · intro h1
     simp[fin] at h1
     simp[sx,h1]
 · simp only[h] at h1 ⊢
   revert h1
   simp only[show ¬ ((7:Int)=1) by decide,show ¬ ((7:Int)=2) by decide,show ¬ ((7:Int)=3) by decide,show ¬ ((7:Int)=4) by decide,show ¬ ((7:Int)=9) by decide,show ¬ ((7:Int)=5) by decide,show ¬ ((7:Int)=6) by decide,if_false,if_true]
   split
   · intro h1;cases h1
   · intro h1
     simp[fin] at h1
     simp[sx,h1]
 · simp only[h] at h1 ⊢
   revert h1
   simp only[show ¬ ((8:Int)=1) by decide,show ¬ ((8:Int)=2) by decide,show ¬ ((8:Int)=3) by decide,show ¬ ((8:Int)=4) by decide,show ¬ ((8:Int)=9) by decide,show ¬ ((8:Int)=5) by decide,show ¬ ((8:Int)=6) by decide,show ¬ ((8:Int)=7) by decide,if_false,if_true]
   split
   · intro h1;cases h1
   · intro h1
     simp[fin] at h1
     simp[sx,h1]
theorem a7w {e:Ex} (hF:Fine e) (hn:-2147483648≤e.n∧e.n≤2147483647) (rest:List Tok):b89 (C9 (C6 e++rest)):=by
 rcases a1i hF with h | h | h | h | h | h | h | h | h
 · rw[show C6 e++rest=a6U e.n::rest by unfold C6 L5 par;rw[E9];simp[wr,h],G7 (b1c _) rfl]
   exact .inr (.inl rfl)
 · rw[show C6 e++rest=a2t e.n::rest by unfold C6 L5 par;rw[E9];simp[wr,h],G7 (a7Y (a6u hF hn h)) rfl]
   exact .inr (.inr (.inl rfl))
 · rcases a6o hn hF h with h0 | h0
   · rw[show C6 e++rest=C8 [70,65,76,83,69]::rest by unfold C6 L5 par;rw[E9];simp[wr,h,h0],G7 (by decide +kernel) (a2Y _)]
     exact .inr (.inr (.inr (.inl rfl)))
   · rw[show C6 e++rest=C8 [84,82,85,69]::rest by unfold C6 L5 par;rw[E9];simp[wr,h,h0],G7 (by decide +kernel) (a2Y _)]
     exact .inr (.inr (.inr (.inr (.inl rfl))))
 · rw[show C6 e++rest=D9 e.s::rest by unfold C6 L5 par;rw[E9];simp[wr,h],G7 (a2s (a1e hF (.inl h))) rfl]
   exact .inl rfl
 · rw[show C6 e++rest=C3 [40]::((B2 e++[C3 [41]])++rest) by unfold C6 L5 par;simp[h],G7 (by decide +kernel) rfl]
   exact .inr (.inr (.inr (.inr (.inr rfl))))
 · obtain⟨x,hx⟩:=Q6 hF (.inl h)
   rw[show C6 e++rest=D9 e.s::(C3 [91]::(B2 x++[C3 [93]])++rest) by unfold C6 L5 par;rw[E9];simp[wr,h,hx,O7],G7 (a2s (a1e hF (.inr (.inl h)))) rfl]
   exact .inl rfl
 · rw[show C6 e++rest=C3 [40]::((B2 e++[C3 [41]])++rest) by unfold C6 L5 par;simp[h],G7 (by decide +kernel) rfl]
   exact .inr (.inr (.inr (.inr (.inr rfl))))
 · rw[show C6 e++rest=C3 [40]::((B2 e++[C3 [41]])++rest) by unfold C6 L5 par;simp[h],G7 (by decide +kernel) rfl]
   exact .inr (.inr (.inr (.inr (.inr rfl))))
 · rw[show C6 e++rest=C3 [40]::((B2 e++[C3 [41]])++rest) by unfold C6 L5 par;simp[h],G7 (by decide +kernel) rfl]
   exact .inr (.inr (.inr (.inr (.inr rfl))))
abbrev RdE (e:Ex):Prop:=∀ f,Dp (f+1) e→∀ rest,a7n rest→b0v rest→a0y (U1 f) (B2 e++rest)=.ok (C1 e,rest)
abbrev RdO (e:Ex):Prop:=∀ f,Dp (f+1) e→(par e.k=true→Dp f e)→∀ rest,a7n rest→R1 (U1 f) (C6 e++rest)=.ok (C1 e,rest)
theorem a7r {f:Nat} {ts r:List Tok} {x:Ex} (hs:b89 (C9 ts)) (ho:R1 (U1 f) ts=.ok (x,r)):a0y (U1 f) ts=if opF (C9 r) 22 1≠0 then unQ (fun b=>sx 7 (opF (C9 r) 22 1) 0 0 [] [x,b]) (R1 (U1 f) r.tail) else .ok (x,r):=by
 obtain⟨h1,h2,h3⟩:=b9N hs
 unfold a0y
 simp only[if_neg h1,h2,h3,ho,ne_eq,not_true,if_false]
theorem c3J {f:Nat} {ts r:List Tok} {x:Ex} (h:U1 f [40] [41] (C3 [40]::ts)=.ok (x,r)):R1 (U1 f) (C3 [40]::ts)=.ok (x,r):=by
 rw[N0 (G7 (by decide +kernel) rfl),if_neg (by decide),if_neg (by decide),if_neg (by decide +kernel),if_neg (by decide +kernel),if_neg (by decide),if_pos rfl]
 exact h
theorem b9C {e:Ex} (h:par e.k=true) (hE:RdE e):RdO e:=by
 intro f hd hp rest hb
 obtain⟨k,rfl⟩:=(hp h).pos
 have he:=hE k (hp h) (C3 [41]::rest) (b1w (by decide +kernel) (by decide)) (c0E rest)
 rw[show C6 e++rest=C3 [40]::(B2 e++C3 [41]::rest) by unfold C6 L5;rw[h];simp]
 exact c3J (b9b (by decide +kernel) (by decide +kernel) he)
theorem b7B {e:Ex} (hp:par e.k=false) (hF:Fine e) (hn:-2147483648≤e.n∧e.n≤2147483647) (hO:RdO e):RdE e:=by
 intro f hd rest hb ho
 have h1:=hO f hd (fun q=>by rw[hp] at q;cases q) rest hb
 have hs:=a7w hF hn rest
 rw[show B2 e=C6 e by unfold C6 L5;rw[hp];rfl,a7r hs h1,if_neg (fun q=>q ho)]
theorem c5s (e:Ex):Fine e→Wf e→RdE e∧RdO e:=by
 refine Ex.ind (p:=fun e=>Fine e→Wf e→RdE e∧RdO e) (fun e ih hF hW=>?_) e
 obtain⟨⟨hk,hor,ht⟩,hn,hs⟩:=hW.spec
 have fs:=b3z hF
 have lit (hp:par e.k=false) (hO:RdO e):RdE e∧RdO e:=⟨b7B hp hF hn hO,hO⟩
 have brk (hp:par e.k=true) (hE:RdE e):RdE e∧RdO e:=⟨hE,b9C hp hE⟩
 rcases a1i hF with h | h | h | h | h | h | h | h | h
 · refine lit (by simp[par,h]) fun f _ _ rest hb=>?_
   rw[show C6 e++rest=a6U e.n::rest by unfold C6 L5 par;rw[E9];simp[wr,h]]
   rw[N0 (G7 (b1c _) rfl),if_pos (show(a6U e.n).kind=3 from rfl),fs]
   simp[h]
   rfl
 · refine lit (by simp[par,h]) fun f _ _ rest hb=>?_
   rw[show C6 e++rest=a2t e.n::rest by unfold C6 L5 par;rw[E9];simp[wr,h]]
   rw[N0 (G7 (a7Y (a6u hF hn h)) rfl),if_neg (by show ¬ (4:Int)=3;decide),if_pos (show(a2t e.n).kind=4 from rfl),fs]
   simp[h]
   rfl
 · refine lit (by simp[par,h]) fun f _ _ rest hb=>?_
   rcases a6o hn hF h with h0 | h0
   · rw[show C6 e++rest=C8 [70,65,76,83,69]::rest by unfold C6 L5 par;rw[E9];simp[wr,h,h0]]
     rw[N0 (G7 (by decide +kernel) (a2Y _)),if_neg (by decide +kernel),if_neg (by decide +kernel),if_pos rfl,fs]
     simp[h,h0]
   · rw[show C6 e++rest=C8 [84,82,85,69]::rest by unfold C6 L5 par;rw[E9];simp[wr,h,h0]]
     rw[N0 (G7 (by decide +kernel) (a2Y _)),if_neg (by decide +kernel),if_neg (by decide +kernel),if_neg (by decide +kernel),if_pos rfl,fs]
     simp[h,h0]
 · refine lit (by simp[par,h]) fun f _ _ rest hb=>?_
   have hnm:∀ s,D9 e.s≠C8 s:=fun s q=>by
     have:=V3 s
     rw[← q] at this
     rcases this with h | h <;> cases h
   rw[show C6 e++rest=D9 e.s::rest by unfold C6 L5 par;rw[E9];simp[wr,h]]
   rw[N0 (G7 (a2s (a1e hF (.inl h))) rfl),if_neg (by show ¬ (1:Int)=3;decide),if_neg (by show ¬ (1:Int)=4;decide),if_neg (hnm _),if_neg (hnm _),if_pos (show(D9 e.s).kind=1 from rfl),List.tail_cons,if_neg hb,fs]
   simp[h]
   rfl
 · refine brk (by simp[par,h]) fun f _ rest hb ho=>?_
   rw[show B2 e++rest=C8 [83,73,90,69]::D9 e.s::rest by rw[E9];simp[wr,h]]
   rw[W6 (G7 (by decide +kernel) (a2Y _)),if_pos rfl,List.tail_cons,G7 (a2s (a1e hF (.inr (.inr h)))) rfl,if_pos (show(D9 e.s).kind=1 from rfl),fs]
   simp[h]
   rfl
 · obtain⟨x,hx⟩:=Q6 hF (.inl h)
   have hxm:x ∈ e.l:=by rw[hx];exact List.Mem.head _
   obtain⟨iE,_⟩:=ih x hxm (hF.part hxm) (hW.part hxm)
   have hnm:∀ s,D9 e.s≠C8 s:=fun s q=>by
     have:=V3 s
     rw[← q] at this
     rcases this with h | h <;> cases h
   refine lit (by simp[par,h]) fun f hd _ rest hb=>?_
   obtain⟨k,rfl⟩:=(hd.part hxm).pos
   have he:=iE k (hd.part hxm) (C3 [93]::rest) (b1w (by decide +kernel) (by decide)) (c1b rest)
   have hi:U1 (k+1) [91] [93] (C3 [91]::(B2 x++C3 [93]::rest))=.ok (C1 x,rest):=b9b (by decide +kernel) (by decide +kernel) he
   rw[show C6 e++rest=D9 e.s::C3 [91]::(B2 x++C3 [93]::rest) by unfold C6 L5 par;rw[E9];simp[wr,h,hx,O7]]
   rw[N0 (G7 (a2s (a1e hF (.inr (.inl h)))) rfl),if_neg (by show ¬ (1:Int)=3;decide),if_neg (by show ¬ (1:Int)=4;decide),if_neg (hnm _),if_neg (hnm _),if_pos (show(D9 e.s).kind=1 from rfl),List.tail_cons,G7 (by decide +kernel) rfl,if_pos rfl,hi,fs]
   simp[h,hx]
   rfl
 · obtain⟨x,hx⟩:=Q6 hF (.inr (.inl h))
   have hxm:x ∈ e.l:=by rw[hx];exact List.Mem.head _
   obtain⟨_,iO⟩:=ih x hxm (hF.part hxm) (hW.part hxm)
   have hm:=b2D hF hor h
   obtain⟨o,ho⟩:∃ o:Nat,e.o=o:=⟨e.o.toNat,by omega⟩
   obtain⟨q1,q2,q3⟩:=c4m o (by omega) (by omega)
   refine brk (by simp[par,h]) fun f hd rest hb _=>?_
   have he:=iO f (hd.part hxm).up (fun _=>hd.part hxm) rest hb
   rw[show B2 e++rest=J5 e.o::(C6 x++rest) by rw[E9];simp[wr,h,hx,O7,C6]]
   rw[W6 (G7 (a4a (by omega)) (b5B _)),ho]
   simp only[if_neg q1,q2,q3,List.tail_cons,he,ne_eq,not_true,if_false]
   rw[if_pos (by omega),fs]
   simp[h,hx,ho,unQ]
 · obtain⟨x,y,hx⟩:=a3V hF h
   have hxm:x ∈ e.l:=by rw[hx];exact List.Mem.head _
   have hym:y ∈ e.l:=by rw[hx];exact List.Mem.tail _ (List.Mem.head _)
   obtain⟨_,iO⟩:=ih x hxm (hF.part hxm) (hW.part hxm)
   obtain⟨_,jO⟩:=ih y hym (hF.part hym) (hW.part hym)
   have hm:=b1v hF h
   obtain⟨o,ho⟩:∃ o:Nat,e.o=o:=⟨e.o.toNat,by omega⟩
   obtain⟨q1,q2⟩:=c4e o (by omega) (by omega)
   refine brk (by simp[par,h]) fun f hd rest hb _=>?_
   have hnx:∀ r,C9 (J5 e.o::r)=J5 e.o:=fun r=>G7 (a4a (by omega)) (b5B _)
   have he:=iO f (hd.part hxm).up (fun _=>hd.part hxm) (J5 e.o::(C6 y++rest)) (by unfold a7n;rw[hnx,ho];exact q2)
   have hf:=jO f (hd.part hym).up (fun _=>hd.part hym) rest hb
   have hst:=a7w (hF.part hxm) (hW.part hxm).spec.2.1 (J5 e.o::(C6 y++rest))
   rw[show B2 e++rest=C6 x++(J5 e.o::(C6 y++rest)) by rw[E9];simp[wr,h,hx,O7,C6],a7r hst he,hnx,ho,q1,if_pos (by omega),List.tail_cons,hf,fs]
   simp[h,hx,ho,unQ]
 · obtain⟨x,hx⟩:=Q6 hF (.inr (.inr h))
   have hxm:x ∈ e.l:=by rw[hx];exact List.Mem.head _
   obtain⟨_,iO⟩:=ih x hxm (hF.part hxm) (hW.part hxm)
   have hm:=a9l hF h
   obtain⟨o,ho⟩:∃ o:Nat,e.t=o:=⟨e.t.toNat,by omega⟩
   obtain⟨q0,q1,q2⟩:=b4T o (by omega) (by omega)
   refine brk (by simp[par,h]) fun f hd rest hb _=>?_
   have he:=iO f (hd.part hxm).up (fun _=>hd.part hxm) rest hb
   rw[show B2 e++rest=C8 (L2 e.t)::(C6 x++rest) by rw[E9];simp[wr,h,hx,O7,C6]]
   rw[ho,W6 (G7 q0 (a2Y _))]
   simp only[if_neg q1,q2,List.tail_cons,he,ne_eq]
   rw[if_pos (by omega),fs]
   simp[h,hx,ho,unQ]
abbrev a1Q (u:Tok):Prop:=K1 u=true∧(-2147483648≤u.n∧u.n≤2147483647)
theorem z0:(-2147483648:Int)≤0∧(0:Int)≤2147483647:=by decide
theorem a1j {s:B} (h:K1 (C8 s)=true):a1Q (C8 s):=⟨h,by unfold C8;split <;> exact z0⟩
theorem a5c {s:B} (h:K1 (C3 s)=true):a1Q (C3 s):=⟨h,z0⟩
theorem a4k {p:Bool × List Tok} (h:∀ u ∈ p.2,a1Q u):∀ u ∈ L5 p,a1Q u:=by
 unfold L5
 split
 · intro u hu
   rcases List.mem_cons.1 hu with rfl | hu
   · exact a5c (by decide +kernel)
   · rcases List.mem_append.1 hu with hu | hu
     · exact h u hu
     · rw[List.mem_singleton] at hu
       subst hu
       exact a5c (by decide +kernel)
 · exact h
theorem O0 {t:Tok} {l:List Tok} (h:a1Q t) (hl:∀ u ∈ l,a1Q u):∀ u ∈ t::l,a1Q u:=fun u hu=>by
 rcases List.mem_cons.1 hu with rfl | hu
 · exact h
 · exact hl u hu
theorem b3g {k l:List Tok} (h:∀ u ∈ k,a1Q u) (hl:∀ u ∈ l,a1Q u):∀ u ∈ k++l,a1Q u:=fun u hu=>by
 rcases List.mem_append.1 hu with hu | hu
 · exact h u hu
 · exact hl u hu
theorem a1G:∀ u ∈ ([]:List Tok),a1Q u:=fun _ hu=>(List.not_mem_nil hu).elim
theorem a9H (e:Ex):Fine e→Wf e→∀ u ∈ B2 e,a1Q u:=by
 refine Ex.ind (p:=fun e=>Fine e→Wf e→∀ u ∈ B2 e,a1Q u) (fun e ih hF hW=>?_) e
 obtain⟨⟨hk,hor,ht⟩,hn,hs⟩:=hW.spec
 have nm (h:e.k=4∨e.k=5∨e.k=9):a1Q (D9 e.s):=⟨a2s (a1e hF h),z0⟩
 rcases a1i hF with h | h | h | h | h | h | h | h | h
 · rw[show B2 e=[a6U e.n] by rw[E9];simp[wr,h]]
   exact O0 ⟨b1c _,hn⟩ a1G
 · rw[show B2 e=[a2t e.n] by rw[E9];simp[wr,h]]
   exact O0 ⟨a7Y (a6u hF hn h),hn⟩ a1G
 · rcases a6o hn hF h with h0 | h0
   · rw[show B2 e=[C8 [70,65,76,83,69]] by rw[E9];simp[wr,h,h0]]
     exact O0 (a1j (by decide +kernel)) a1G
   · rw[show B2 e=[C8 [84,82,85,69]] by rw[E9];simp[wr,h,h0]]
     exact O0 (a1j (by decide +kernel)) a1G
 · rw[show B2 e=[D9 e.s] by rw[E9];simp[wr,h]]
   exact O0 (nm (.inl h)) a1G
 · rw[show B2 e=[C8 [83,73,90,69],D9 e.s] by rw[E9];simp[wr,h]]
   exact O0 (a1j (by decide +kernel)) (O0 (nm (.inr (.inr h))) a1G)
 · obtain⟨x,hx⟩:=Q6 hF (.inl h)
   have hxm:x ∈ e.l:=by rw[hx];exact List.Mem.head _
   rw[show B2 e=D9 e.s::C3 [91]::(B2 x++[C3 [93]]) by rw[E9];simp[wr,h,hx,O7]]
   exact O0 (nm (.inr (.inl h))) (O0 (a5c (by decide +kernel)) (b3g (ih x hxm (hF.part hxm) (hW.part hxm)) (O0 (a5c (by decide +kernel)) a1G)))
 · obtain⟨x,hx⟩:=Q6 hF (.inr (.inl h))
   have hxm:x ∈ e.l:=by rw[hx];exact List.Mem.head _
   have hm:=b2D hF hor h
   rw[show B2 e=J5 e.o::L5 (par x.k,B2 x) by rw[E9];simp[wr,h,hx,O7]]
   exact O0 (a1j (a4a (by omega))) (a4k (ih x hxm (hF.part hxm) (hW.part hxm)))
 · obtain⟨x,y,hx⟩:=a3V hF h
   have hxm:x ∈ e.l:=by rw[hx];exact List.Mem.head _
   have hym:y ∈ e.l:=by rw[hx];exact List.Mem.tail _ (List.Mem.head _)
   have hm:=b1v hF h
   rw[show B2 e=L5 (par x.k,B2 x)++J5 e.o::L5 (par y.k,B2 y) by rw[E9];simp[wr,h,hx,O7]]
   exact b3g (a4k (ih x hxm (hF.part hxm) (hW.part hxm))) (O0 (a1j (a4a (by omega))) (a4k (ih y hym (hF.part hym) (hW.part hym))))
 · obtain⟨x,hx⟩:=Q6 hF (.inr (.inr h))
   have hxm:x ∈ e.l:=by rw[hx];exact List.Mem.head _
   have hm:=a9l hF h
   obtain⟨o,ho⟩:∃ o:Nat,e.t=o:=⟨e.t.toNat,by omega⟩
   rw[show B2 e=C8 (L2 e.t)::L5 (par x.k,B2 x) by rw[E9];simp[wr,h,hx,O7],ho]
   exact O0 (a1j (b4T o (by omega) (by omega)).1) (a4k (ih x hxm (hF.part hxm) (hW.part hxm)))
end Go.Xp
end
section
namespace Go.Xp
open Go.Eng Go
open Go.Ty (Tok B4)
open Go.Lx (K1)
set_option maxRecDepth 100000
def c3m (rd:List Tok→a0o) (ok:List Tok→Prop) (sz:Ex→Nat):Prop:=
 ∀ ts x r,rd ts=.ok (x,r)→∃ p,(ts=p++r∧1≤p.length)∧sz x≤p.length∧∀ r',ok r'→rd (p++r')=.ok (x,r')
abbrev wl (x:Ex):Nat:=(B2 x).length
abbrev ol (x:Ex):Nat:=(C6 x).length
abbrev c4B (ins:B→B→List Tok→a0o):Prop:=∀ o s,s=[93]∨s=[41]→c3m (ins o s) (fun _=>True) (fun x=>wl x+2)
theorem c4J (x:Ex):ol x≤wl x+2:=a2E (par x.k,B2 x)
theorem b8W {x:Ex} (h:par x.k=false):ol x=wl x:=by
 unfold ol wl C6 L5
 rw[h]
 rfl
theorem c5K (x:Ex):wl x≤ol x:=by
 unfold wl ol C6 L5
 split
 · simp only[List.length_cons,List.length_append]
   omega
 · exact Nat.le_refl _
theorem b2q:C9 []=zeroT:=rfl
theorem a0k (s:B):zeroT≠C8 s:=fun e=>by
 have hk:(0:Int)=(C8 s).kind:=congrArg Tok.kind e
 rcases V3 s with h | h
 · have:=hk.trans h;omega
 · have:=hk.trans h;omega
theorem b2E {ins:B→B→List Tok→a0o}:R1 ins []=.error 100:=by
 rw[N0 b2q,if_neg (by decide),if_neg (by decide),if_neg (a0k _),if_neg (a0k _),if_neg (by decide),if_neg (by decide)]
theorem b5X {ins:B→B→List Tok→a0o} (hi:c4B ins):c3m (R1 ins) a7n ol:=by
 intro ts x r h
 cases ts with
 | nil=>rw[b2E] at h;cases h
 | cons t q=>
   obtain⟨u,hu⟩:∃ u,∀ q',C9 (t::q')=u:=⟨_,fun _=>rfl⟩
   rw[N0 (hu q),List.tail_cons] at h
   have one:∀ {x:Ex},wl x=1→par x.k=false→ol x≤[t].length:=fun h1 h2=>by rw[b8W h2,h1];exact Nat.le_refl 1
   by_cases k3:u.kind=3
   · rw[if_pos k3] at h
     cases h
     exact⟨[t],⟨rfl,Nat.le_refl 1⟩,one rfl rfl,fun r' _=>by rw[List.singleton_append,N0 (hu r'),if_pos k3];rfl⟩
   rw[if_neg k3] at h
   by_cases k4:u.kind=4
   · rw[if_pos k4] at h
     cases h
     exact⟨[t],⟨rfl,Nat.le_refl 1⟩,one rfl rfl,fun r' _=>by rw[List.singleton_append,N0 (hu r'),if_neg k3,if_pos k4];rfl⟩
   rw[if_neg k4] at h
   by_cases f:u=C8 [70,65,76,83,69]
   · rw[if_pos f] at h
     cases h
     exact⟨[t],⟨rfl,Nat.le_refl 1⟩,one rfl rfl,fun r' _=>by rw[List.singleton_append,N0 (hu r'),if_neg k3,if_neg k4,if_pos f];rfl⟩
   rw[if_neg f] at h
   by_cases g:u=C8 [84,82,85,69]
   · rw[if_pos g] at h
     cases h
     exact⟨[t],⟨rfl,Nat.le_refl 1⟩,one rfl rfl,fun r' _=>by rw[List.singleton_append,N0 (hu r'),if_neg k3,if_neg k4,if_neg f,if_pos g];rfl⟩
   rw[if_neg g] at h
   by_cases k1:u.kind=1
   · rw[if_pos k1] at h
     by_cases b:C9 q=C3 [91]
     · rw[if_pos b] at h
       cases hq:ins [91] [93] q with
       | error e=>rw[hq] at h;cases h
       | ok w=>
         obtain⟨y,r1⟩:=w
         rw[hq] at h
         cases h
         obtain⟨p,⟨hp,hp1⟩,hs,hf⟩:=hi [91] [93] (.inl rfl) q y _ hq
         refine⟨t::p,⟨by rw[hp];rfl,Nat.succ_le_succ (Nat.zero_le _)⟩,?_,fun r' _=>?_⟩
         · rw[b8W rfl]
           show(D9 u.text::C3 [91]::(B2 y++[C3 [93]])).length≤(t::p).length
           simp only[List.length_cons,List.length_append,List.length_nil]
           simp only[wl] at hs
           omega
         · have hb:C9 (p++r')=C3 [91]:=by
             rw[hp] at b
             cases p with
             | nil=>exact absurd hp1 (by decide)
             | cons v w=>exact b
           rw[List.cons_append,N0 (hu _),if_neg k3,if_neg k4,if_neg f,if_neg g,if_pos k1,List.tail_cons,if_pos hb,hf r' trivial]
     · rw[if_neg b] at h
       cases h
       exact⟨[t],⟨rfl,Nat.le_refl 1⟩,one rfl rfl,fun r' hr=>by rw[List.singleton_append,N0 (hu r'),if_neg k3,if_neg k4,if_neg f,if_neg g,if_pos k1,List.tail_cons,if_neg hr]⟩
   rw[if_neg k1] at h
   by_cases o:u=C3 [40]
   · rw[if_pos o] at h
     obtain⟨p,⟨hp,hp1⟩,hs,hf⟩:=hi [40] [41] (.inr rfl) _ x r h
     refine⟨p,⟨hp,hp1⟩,Nat.le_trans (c4J x) hs,fun r' _=>?_⟩
     cases p with
     | nil=>exact absurd hp1 (by decide)
     | cons v w=>
       have hv:v=t:=(List.cons.inj hp).1.symm
       subst hv
       rw[List.cons_append,N0 (hu _),if_neg k3,if_neg k4,if_neg f,if_neg g,if_neg k1,if_pos o]
       exact hf r' trivial
   · rw[if_neg o] at h
     cases h
theorem b4i {mk:Ex→Ex} {p:a0o} {x:Ex} {r:List Tok} (h:unQ mk p=.ok (x,r)):∃ y,p=.ok (y,r)∧x=mk y:=by
 cases p with
 | error e=>cases h
 | ok q=>
   obtain⟨y,z⟩:=q
   cases h
   exact⟨y,rfl,rfl⟩
theorem a6j:∀ n o:Nat,opF zeroT n o=0
 | 0,_=>rfl
 | n+1,o=>by
   unfold opF
   rw[if_neg (show zeroT≠J5 o from a0k _)]
   exact a6j n (o+1)
theorem b8n {ins:B→B→List Tok→a0o}:a0y ins []=.error 100:=by
 rw[W6 b2q,if_neg (a0k _),if_neg (by unfold a0j;rw[if_neg (a0k _),if_neg (a0k _),if_neg (a0k _)];decide),if_neg (by rw[a6j];decide),b2E]
theorem b7z {p:List Tok} (hp:1≤p.length) (r r':List Tok):C9 (p++r)=C9 (p++r'):=by
 cases p with
 | nil=>exact absurd hp (by decide)
 | cons t q=>rfl
theorem a9G {ins:B→B→List Tok→a0o} (hi:c4B ins):c3m (a0y ins) (fun r=>a7n r∧b0v r) wl:=by
 have hO:=b5X hi
 intro ts x r h
 cases ts with
 | nil=>rw[b8n] at h;cases h
 | cons t q=>
   obtain⟨u,hu⟩:∃ u,∀ q',C9 (t::q')=u:=⟨_,fun _=>rfl⟩
   rw[W6 (hu q),List.tail_cons] at h
   by_cases k1:u=C8 [83,73,90,69]
   · rw[if_pos k1] at h
     by_cases k2:(C9 q).kind=1
     · rw[if_pos k2] at h
       cases q with
       | nil=>cases k2
       | cons v w=>
         cases h
         refine⟨[t,v],⟨rfl,Nat.succ_le_succ (Nat.zero_le _)⟩,Nat.le_refl 2,fun r' _=>?_⟩
         rw[show[t,v]++r'=t::v::r' from rfl,W6 (hu _),List.tail_cons,if_pos k1,if_pos (show(C9 (v::r')).kind=1 from k2)]
         rfl
     · rw[if_neg k2] at h
       cases h
   rw[if_neg k1] at h
   by_cases k2:a0j u≠0
   · rw[if_pos k2] at h
     obtain⟨y,hy,rfl⟩:=b4i h
     obtain⟨p,⟨hp,hp1⟩,hs,hf⟩:=hO q y r hy
     refine⟨t::p,⟨by rw[hp];rfl,Nat.succ_le_succ (Nat.zero_le _)⟩,?_,fun r' hr=>?_⟩
     · show(C8 (L2 (a0j u))::C6 y).length≤(t::p).length
       exact Nat.succ_le_succ hs
     · rw[List.cons_append,W6 (hu _),List.tail_cons,if_neg k1,if_pos k2,hf r' hr.1]
       rfl
   rw[if_neg k2] at h
   by_cases k3:opF u 4 23≠0
   · rw[if_pos k3] at h
     obtain⟨y,hy,rfl⟩:=b4i h
     obtain⟨p,⟨hp,hp1⟩,hs,hf⟩:=hO q y r hy
     refine⟨t::p,⟨by rw[hp];rfl,Nat.succ_le_succ (Nat.zero_le _)⟩,?_,fun r' hr=>?_⟩
     · show(J5 (opF u 4 23)::C6 y).length≤(t::p).length
       exact Nat.succ_le_succ hs
     · rw[List.cons_append,W6 (hu _),List.tail_cons,if_neg k1,if_neg k2,if_pos k3,hf r' hr.1]
       rfl
   rw[if_neg k3] at h
   cases hq:R1 ins (t::q) with
   | error e=>rw[hq] at h;cases h
   | ok w=>
     obtain⟨a,r1⟩:=w
     rw[hq] at h
     obtain⟨p,⟨hp,hp1⟩,hs,hf⟩:=hO _ a r1 hq
     have hd:∀ r',a0y ins (p++r')=match R1 ins (p++r') with
         | .error e=>.error e
         | .ok (a,r)=>if opF (C9 r) 22 1≠0 then unQ (fun b=>sx 7 (opF (C9 r) 22 1) 0 0 [] [a,b]) (R1 ins r.tail) else .ok (a,r):=fun r'=>by
       have hn:C9 (p++r')=u:=by rw[b7z hp1 r' r1,← hp];exact hu q
       rw[W6 hn,if_neg k1,if_neg k2,if_neg k3] <;> rfl
     by_cases k4:opF (C9 r1) 22 1≠0
     · replace h:=(if_pos k4).symm.trans h
       obtain⟨y,hy,rfl⟩:=b4i h
       cases r1 with
       | nil=>exact absurd (a6j 22 1) k4
       | cons v w=>
         obtain⟨p2,⟨hp2,hp21⟩,hs2,hf2⟩:=hO w y r hy
         have hv:∀ w',C9 (v::w')=C9 (v::w):=fun _=>rfl
         have hb:∀ w',a7n (v::w'):=fun w' e=>by
           rw[hv,] at e
           rw[e] at k4
           exact k4 (by decide +kernel)
         refine⟨p++v::p2,⟨by rw[hp,hp2];simp,by rw[List.length_append];omega⟩,?_,fun r' hr=>?_⟩
         · show(C6 a++J5 (opF (C9 (v::w)) 22 1)::C6 y).length≤_
           simp only[List.length_append,List.length_cons]
           simp only[ol] at hs hs2
           omega
         · rw[List.append_assoc,List.cons_append,hd,hf _ (hb _)]
           show(if opF (C9 (v::(p2++r'))) 22 1≠0 then unQ (fun b=>sx 7 (opF (C9 (v::(p2++r'))) 22 1) 0 0 [] [a,b]) (R1 ins (v::(p2++r')).tail) else .ok (a,v::(p2++r')))=_
           rw[hv,if_pos k4,List.tail_cons,hf2 r' hr.1]
           rfl
     · replace h:=(if_neg k4).symm.trans h
       cases h
       refine⟨p,⟨hp,hp1⟩,?_,fun r' hr=>?_⟩
       · exact Nat.le_trans (c5K _) hs
       · rw[hd,hf r' hr.1]
         exact if_neg (fun k=>k hr.2)
theorem b2o:∀ f,c4B (U1 f)
 | 0=>fun _ _ _ _ _ _ h=>by cases h
 | f+1=>fun o s ho ts x r h=>by
   unfold U1 at h
   by_cases k1:C9 ts=C3 o
   · rw[if_pos k1] at h
     cases ts with
     | nil=>cases congrArg Tok.kind k1
     | cons t q=>
       rw[List.tail_cons] at h
       cases hq:a0y (U1 f) q with
       | error e=>rw[hq] at h;cases h
       | ok w=>
         obtain⟨y,r1⟩:=w
         rw[hq] at h
         by_cases k2:C9 r1=C3 s
         · replace h:=(if_pos k2).symm.trans h
           cases r1 with
           | nil=>cases congrArg Tok.kind k2
           | cons v w=>
             cases h
             obtain⟨p,⟨hp,hp1⟩,hs,hf⟩:=a9G (b2o f) q _ _ hq
             have hv:∀ w',C9 (v::w')=C3 s:=fun _=>k2
             refine⟨t::(p++[v]),⟨by rw[hp];simp,Nat.succ_le_succ (Nat.zero_le _)⟩,?_,fun r' _=>?_⟩
             · simp only[List.length_cons,List.length_append,List.length_nil]
               simp only[wl] at hs ⊢
               omega
             · have hno:a7n (v::r')∧b0v (v::r'):=by
                 unfold a7n b0v
                 rw[hv]
                 rcases ho with rfl | rfl <;> exact⟨by decide +kernel,by decide +kernel⟩
               rw[show t::(p++[v])++r'=t::(p++v::r') by simp]
               unfold U1
               rw[if_pos (show C9 (t::(p++v::r'))=C3 o from k1),List.tail_cons,hf _ hno]
               exact if_pos k2
         · replace h:=(if_neg k2).symm.trans h
           cases h
   · rw[if_neg k1] at h
     cases h
abbrev Er (rd:List Tok→a0o):Prop:=∀ ts e,rd ts=.error e→e=100∨e=3
abbrev c3C (ins:B→B→List Tok→a0o):Prop:=∀ o s,Er (ins o s)
theorem c0R {ins:B→B→List Tok→a0o} (hi:c3C ins):Er (R1 ins):=by
 intro ts e h
 rw[N0 rfl] at h
 repeat' split at h
 all_goals first | (cases h;done) | (cases h;rename_i h2;exact hi _ _ _ _ h2) | exact hi _ _ _ _ h | (cases h;exact .inl rfl)
theorem c3h {mk:Ex→Ex} {p:a0o} {e:Int} (h:unQ mk p=.error e):p=.error e:=by
 cases p with
 | error f=>cases h;rfl
 | ok q=>cases h
theorem b4M {ins:B→B→List Tok→a0o} (hi:c3C ins):Er (a0y ins):=by
 intro ts e h
 have hO:=c0R hi
 rw[W6 rfl] at h
 repeat' split at h
 all_goals first | (cases h;done) | exact hO _ _ (c3h h) | (cases h;rename_i h2;exact hO _ _ h2) | (cases h;exact .inl rfl)
theorem b7v:∀ f,c3C (U1 f)
 | 0=>fun _ _ _ _ h=>by cases h;exact .inr rfl
 | f+1=>fun o s ts e h=>by
   unfold U1 at h
   repeat' split at h
   all_goals first | (cases h;done) | (cases h;rename_i h2;exact b4M (b7v f) _ _ h2) | (cases h;exact .inl rfl)
theorem c0b {ts:List Tok} {x:Ex} {k:Nat} (h:Q8 ts=.ok (x,k)):((1≤k∧k≤ts.length)∧M4 x=true)∧(B2 x).length≤k∧Q8 (ts.take k)=.ok (x,k):=by
 unfold Q8 at h
 cases hq:b0b ts with
 | error e=>rw[hq] at h;cases h
 | ok w=>
   obtain⟨y,r⟩:=w
   rw[hq] at h
   by_cases hm:M4 y=true
   · replace h:=(if_pos hm).symm.trans h
     cases h
     obtain⟨p,⟨hp,hp1⟩,hs,hf⟩:=a9G (b2o 32) ts _ _ hq
     have hl:ts.length - r.length=p.length:=by rw[hp,List.length_append];omega
     have ht:ts.take (ts.length - r.length)=p:=by rw[hl,hp,List.take_left]
     have he:=hf [] ⟨by unfold a7n;decide +kernel,by unfold b0v;decide +kernel⟩
     rw[List.append_nil] at he
     refine⟨⟨⟨by omega,by omega⟩,hm⟩,by rw[hl];exact hs,?_⟩
     rw[ht]
     unfold Q8 b0b
     rw[he]
     show(if M4 _ then Except.ok (_,p.length - 0) else .error 3)=_
     rw[if_pos hm,hl,Nat.sub_zero]
   · replace h:=(if_neg hm).symm.trans h
     cases h
theorem b1s {ts:List Tok} {e:Int} (h:Q8 ts=.error e):e=100∨e=3:=by
 unfold Q8 at h
 cases hq:b0b ts with
 | error f=>
   rw[hq] at h
   cases h
   exact b4M (b7v 32) ts _ hq
 | ok w=>
   obtain⟨y,r⟩:=w
   rw[hq] at h
   by_cases hm:M4 y=true
   · replace h:=(if_pos hm).symm.trans h
     cases h
   · replace h:=(if_neg hm).symm.trans h
     cases h
     exact .inr rfl
theorem b2n {ts:List Tok}:a04 ts≤ts.length:=by
 unfold a04
 cases h:Q8 ts with
 | error e=>exact Nat.zero_le _
 | ok w=>exact(c0b h).1.1.2
end Go.Xp
end
section
namespace Go.Ty
open Go.Lx
theorem a8i {t:Ty} (h:may t=true) (h4:(t.kind != 4)=false):(t.item=0∧name t.proto=true)∨(is t.item=true∧t.proto=[]):=by
 have h4':t.kind=4:=by simpa using h4
 unfold may at h
 split at h
 · cases h
 · rw[h4'] at h
   rw[if_neg (by decide),if_neg (by decide)] at h
   split at h
   · rename_i h0;exact .inl ⟨by simpa using h0,h⟩
   · simp at h;exact .inr h
end Go.Ty
end
section
namespace Go.Ty
open Go.Lx
def C1 (x:Tok):Tok:={ x with at_:=0 }
def M (l:List Tok) (i:Nat) (y:Tok):Prop:=∃ x,l[i]?=some x∧C1 x=y
def a1R (l:List Tok):Nat→List Tok→Prop
 | _,[]=>True
 | i,y::w=>M l i y∧a1R l (i+1) w
theorem M.lt {l:List Tok} {i:Nat} {y:Tok} (a:M l i y):i < l.length:=by
 obtain⟨x,hx,_⟩:=a
 exact(List.getElem?_eq_some_iff.1 hx).1
theorem V1 (l:List Tok):∀ (u w:List Tok) (i:Nat),a1R l i (u++w)↔a1R l i u∧a1R l (i+u.length) w
 | [],w,i=>by simp[a1R]
 | y::u,w,i=>by
   show(M l i y∧a1R l (i+1) (u++w))↔(M l i y∧a1R l (i+1) u)∧a1R l (i+(u.length+1)) w
   rw[V1 l u w (i+1),and_assoc,show i+1+u.length=i+(u.length+1) by omega]
theorem a5N {l:List Tok} {i:Nat} {y:Tok}:M l i y↔i < l.length∧C1 (I8 l i)=y:=by
 constructor
 · intro m
   have h:=m.lt
   obtain⟨x,hx,e⟩:=m
   rw[a1d h] at hx
   cases hx
   exact⟨h,e⟩
 · rintro ⟨h,e⟩;exact⟨_,a1d h,e⟩
theorem L9 {l:List Tok} {i:Nat} {kd:Int} {s:B} (h3:kd≠3):next l i kd s=true↔M l i ⟨kd,0,s,0⟩:=by
 rw[a5N]
 unfold next a2G C1
 generalize I8 l i=x
 cases x
 simp[h3]
 constructor
 · rintro ⟨⟨⟨a,b⟩,c⟩,d⟩;exact⟨a,b,c,d⟩
 · rintro ⟨a,b,c,d⟩;exact⟨⟨⟨a,b⟩,c⟩,d⟩
theorem c08 {l:List Tok} {i:Nat} {s:B}:next l i 3 s=true↔M l i ⟨3,0,s,(I8 l i).n⟩:=by
 rw[a5N]
 unfold next a2G C1
 generalize I8 l i=x
 cases x
 simp
 constructor
 · rintro ⟨⟨a,b⟩,c⟩;exact⟨a,b,c⟩
 · rintro ⟨a,b,c⟩;exact⟨⟨a,b⟩,c⟩
theorem a2c {l:List Tok} {i:Nat} {kd:Int} {s:B} {y:Tok} (m:M l i y) (h:y.kind≠kd∨y.text≠s):next l i kd s=false:=by
 cases hn:next l i kd s with
 | false=>rfl
 | true=>
   exfalso
   obtain⟨_,e⟩:=a5N.1 m
   subst e
   unfold next a2G at hn
   simp at hn
   rcases h with h | h
   · exact h hn.1.1.2
   · exact h hn.1.2
theorem a7s (l:List Tok) (i:Nat):named l i=if next l i 2 c1C then some 1 else if next l i 2 b4A then some 2 else if next l i 2 b5x then some 3 else none:=rfl
theorem is_three {k:Int} (h:is k=true):k=1∨k=2∨k=3:=by
 rw[c5b] at h
 unfold prim at h
 simp at h
 omega
theorem a7h {l:List Tok} {i:Nat} {k:Int} (h:named l i=some k):is k=true∧M l i (a0O (wordS k).1):=by
 rw[a7s] at h
 split at h
 · cases h;rename_i hn;exact⟨by decide,(L9 (by decide)).1 hn⟩
 · split at h
   · cases h;rename_i hn;exact⟨by decide,(L9 (by decide)).1 hn⟩
   · split at h
     · cases h;rename_i hn;exact⟨by decide,(L9 (by decide)).1 hn⟩
     · cases h
theorem b2Q {l:List Tok} {i:Nat} {k:Int} (h:is k=true) (m:M l i (a0O (wordS k).1)):named l i=some k:=by
 rw[a7s]
 rcases is_three h with rfl | rfl | rfl
 · have m':M l i (a0O c1C):=m
   rw[if_pos ((L9 (by decide)).2 m')]
 · have m':M l i (a0O b4A):=m
   rw[if_neg (by rw[a2c m' (.inr (by decide))];decide),if_pos ((L9 (by decide)).2 m')]
 · have m':M l i (a0O b5x):=m
   rw[if_neg (by rw[a2c m' (.inr (by decide))];decide),if_neg (by rw[a2c m' (.inr (by decide))];decide),if_pos ((L9 (by decide)).2 m')]
theorem a7D {l:List Tok} {i:Nat} {y:Tok} (m:M l i y) (h:y.kind≠2∨(y.text≠c1C∧y.text≠b4A∧y.text≠b5x)):named l i=none:=by
 rw[a7s]
 rw[if_neg (by rw[a2c m (h.imp_right fun h=>h.1)];decide),if_neg (by rw[a2c m (h.imp_right fun h=>h.2.1)];decide),if_neg (by rw[a2c m (h.imp_right fun h=>h.2.2)];decide)]
inductive Shape (t:Ty):Prop where
 | plain (k d:Int) (hk:is k=true) (e:t=⟨k,d,0,[]⟩)
 | timer (e:t=⟨5,0,0,[]⟩)
 | item (k d:Int) (hk:is k=true) (e:t=⟨4,d,k,[]⟩)
 | proto (s:B) (d:Int) (hs:name s=true) (e:t=⟨4,d,0,s⟩)
theorem may_shape {t:Ty} (h:may t=true):Shape t:=by
 obtain⟨k,d,i,s⟩:=t
 by_cases hk:is k=true
 · unfold may at h
   split at h
   · cases h
   · simp only[Bool.and_eq_true,beq_iff_eq] at h
     obtain⟨rfl,rfl⟩:=h
     exact .plain k d hk rfl
 · by_cases h4:k=4
   · subst h4
     rcases a8i h (by simp) with ⟨h0,hn⟩ | ⟨hi,h0⟩
     · simp only at h0 hn;subst h0;exact .proto s d hn rfl
     · simp only at h0 hi;subst h0;exact .item i d hi rfl
   · unfold may at h
     split at h
     · cases h
     · rw[if_pos (by simpa using h4),eqT_iff] at h
       exact .timer h
theorem b4w (k d:Int) (hk:is k=true):toks ⟨k,d,0,[]⟩=dimT ⟨k,d,0,[]⟩++[a0O (wordS k).1]:=by
 unfold toks
 rw[List.append_assoc]
 rcases is_three hk with rfl | rfl | rfl <;> rfl
theorem b4l (k d:Int) (hk:is k=true):toks ⟨4,d,k,[]⟩=dimT ⟨4,d,k,[]⟩++[a0O a1Y,a0O cOF,a0O (wordS k).1]:=by
 unfold toks
 rw[List.append_assoc]
 rcases is_three hk with rfl | rfl | rfl <;> rfl
theorem c0W {s:B} (h:name s=true):s≠[]:=by rintro rfl;cases h
theorem b3I (s:B) (d:Int) (hs:name s=true):toks ⟨4,d,0,s⟩=dimT ⟨4,d,0,s⟩++[a0O a1Y,a0O cOF,⟨1,0,s,0⟩]:=by
 unfold toks
 rw[List.append_assoc]
 unfold lastT
 have:(s==[])=false:=by simpa using c0W hs
 simp only[this]
 rfl
theorem b9Z {t:Ty} (h:may t=true):∃ s w,toks t=dimT t++a0O s::w:=by
 cases may_shape h with
 | plain k d hk e=>subst e;exact⟨_,_,b4w k d hk⟩
 | timer e=>subst e;exact⟨_,_,rfl⟩
 | item k d hk e=>subst e;exact⟨_,_,b4l k d hk⟩
 | proto s d hs e=>subst e;exact⟨_,_,b3I s d hs⟩
theorem c3o {t:Ty} (l:List Tok) (h:may t=true) (hb:a1R l 0 (toks t)):pre l=(true,t.dim,(dimT t).length):=by
 have hd:=may_dim h
 obtain⟨s,w,e⟩:=b9Z h
 rw[e,V1] at hb
 by_cases h0:t.dim=0
 · have ed:dimT t=[]:=by unfold dimT;rw[h0];rfl
   rw[ed] at hb ⊢
   rw[b8j (a2c hb.2.1 (.inl (show(2:Int)≠5 by decide))),h0]
   rfl
 · have ed:dimT t=[C3 lb,⟨3,0,[],t.dim⟩,C3 rb]:=by unfold dimT;rw[if_pos (by simp;omega)]
   rw[ed] at hb ⊢
   obtain⟨⟨m0,m1,m2,_⟩,_⟩:=hb
   have en:(I8 l 1).n=t.dim:=by
     obtain⟨_,e1⟩:=a5N.1 m1
     exact congrArg Tok.n e1
   rw[b3Z ((L9 (by decide)).2 m0) (c08.2 (by rw[en];exact m1)),en,(L9 (by decide)).2 m2]
   have:decide (t.dim > 0)=true:=by simp;omega
   rw[this]
   rfl
theorem a9M {l:List Tok} {d:Int} {n:Nat} {k:Int} (hP:pre l=(true,d,n)) (hn:named l n=some k):mid l=(true,⟨k,d,0,[]⟩,n+1):=by
 unfold mid;rw[hP];simp only[hn]
theorem a7W {l : List Tok} {d : Int} {n : Nat} (hP : pre l = (true, d, n)) (m0 : M l n (a0O a1Y)) (m1 : M l (n + 1) (a0O cOF)) : mid l = (match named l (n + 2) with
          | some k=>(true,⟨4,d,k,[]⟩,n+3)
          | none=>if decide ((n+2:Nat) < (l.length:Int))&&next l (n+2) 1 (I8 l (n+2)).text then (true,⟨4,d,0,(I8 l (n+2)).text⟩,n+3) else (true,⟨4,d,0,[]⟩,n+2)):=by
 unfold mid
 rw[hP]
 simp only[a7D m0 (.inr (by decide)),(L9 (show(2:Int)≠3 by decide)).2 m0,(L9 (show(2:Int)≠3 by decide)).2 m1,if_true]
 cases named l (n+2) <;> rfl
theorem a8l {t:Ty} {l:List Tok} (h:may t=true) (hb:a1R l 0 (toks t)):front l=(t,(toks t).length,0):=by
 have hP:=c3o l h hb
 have hM:mid l=(true,t,(toks t).length):=by
   cases may_shape h with
   | plain k d hk e=>
     subst e
     rw[b4w k d hk] at hb ⊢
     rw[V1,Nat.zero_add] at hb
     rw[a9M hP (b2Q hk hb.2.1),List.length_append]
     rfl
   | timer e=>
     subst e
     have m:M l 0 (a0O a3j):=hb.1
     exact b0j hP (a7D m (.inr (by decide))) (a2c m (.inr (by decide))) ((L9 (by decide)).2 m)
   | item k d hk e=>
     subst e
     rw[b4l k d hk] at hb ⊢
     rw[V1,Nat.zero_add] at hb
     obtain⟨_,m0,m1,m2,_⟩:=hb
     rw[a7W hP m0 m1,b2Q hk m2,List.length_append]
     rfl
   | proto s d hs e=>
     subst e
     rw[b3I s d hs] at hb ⊢
     rw[V1,Nat.zero_add] at hb
     obtain⟨_,m0,m1,m2,_⟩:=hb
     have m2':M l ((dimT ⟨4,d,0,s⟩).length+2) ⟨1,0,s,0⟩:=m2
     have et:(I8 l ((dimT ⟨4,d,0,s⟩).length+2)).text=s:=congrArg Tok.text (a5N.1 m2').2
     have hlt:=m2'.lt
     rw[a7W hP m0 m1,a7D m2' (.inl (show(1:Int)≠2 by decide)),et]
     have c:(decide ((((dimT ⟨4,d,0,s⟩).length+2:Nat):Int) < (l.length:Int))&&next l ((dimT ⟨4,d,0,s⟩).length+2) 1 s)=true:=by
       rw[(L9 (by decide)).2 m2',Bool.and_true]
       exact decide_eq_true (by omega)
     simp only[c,if_true,List.length_append]
     rfl
 exact b07 hM (by rw[h];rfl)
theorem b0S {l:List Tok} {d:Int} {n:Nat} (h:pre l=(true,d,n)) (t:Ty) (e:t.dim=d):n=(dimT t).length∧a1R l 0 (dimT t):=by
 by_cases h0:next l 0 5 lb=true
 · by_cases h1:next l 1 3 []=true
   · rw[b3Z h0 h1] at h
     simp only[Prod.mk.injEq] at h
     obtain⟨hc,hd,hn⟩:=h
     rw[hc] at hn
     simp only[Bool.and_eq_true,decide_eq_true_eq] at hc
     have ed:dimT t=[C3 lb,⟨3,0,[],t.dim⟩,C3 rb]:=by unfold dimT;rw[if_pos (by simp;omega)]
     rw[ed]
     refine⟨hn.symm,(L9 (by decide)).1 h0,?_,(L9 (by decide)).1 hc.2,trivial⟩
     rw[e,← hd]
     exact c08.1 h1
   · rw[b8b h0 (by simpa using h1)] at h
     cases h
 · rw[b8j (by simpa using h0)] at h
   cases h
   have ed:dimT t=[]:=by unfold dimT;rw[e];rfl
   rw[ed]
   exact⟨rfl,trivial⟩
theorem c3N {l:List Tok} {t:Ty} {n:Nat} (h:mid l=(true,t,n)) (hm:may t=true):a1R l 0 (toks t):=by
 obtain⟨⟨b,d,n0⟩,hP⟩:∃ p,pre l=p:=⟨_,rfl⟩
 cases b with
 | false=>unfold mid at h;rw[hP] at h;cases h
 | true=>
   cases hn:named l n0 with
   | some k=>
     rw[a9M hP hn] at h
     cases h
     obtain⟨hk,m⟩:=a7h hn
     obtain⟨e,hb⟩:=b0S hP ⟨k,d,0,[]⟩ rfl
     rw[b4w k d hk,V1]
     subst e
     exact⟨hb,by rw[Nat.zero_add];exact m,trivial⟩
   | none=>
     cases hc:next l n0 2 a1Y with
     | true=>
       have m0:M l n0 (a0O a1Y):=(L9 (by decide)).1 hc
       cases ho:next l (n0+1) 2 cOF with
       | false=>
         unfold mid at h
         rw[hP] at h
         simp only[hn,hc,ho,if_true,Bool.false_eq_true,if_false] at h
         cases h
       | true=>
         have m1:M l (n0+1) (a0O cOF):=(L9 (by decide)).1 ho
         rw[a7W hP m0 m1] at h
         cases hk:named l (n0+2) with
         | some k=>
           rw[hk] at h
           cases h
           obtain⟨hk,m2⟩:=a7h hk
           obtain⟨e,hb⟩:=b0S hP ⟨4,d,k,[]⟩ rfl
           rw[b4l k d hk,V1]
           subst e
           rw[Nat.zero_add]
           exact⟨hb,m0,m1,m2,trivial⟩
         | none=>
           rw[hk] at h
           simp only at h
           split at h
           · rename_i hx
             simp only[Bool.and_eq_true] at hx
             have m2:=(L9 (show(1:Int)≠3 by decide)).1 hx.2
             cases h
             have hs:name (I8 l (n0+2)).text=true:=by
               rcases a8i hm rfl with ⟨_,hs⟩ | ⟨hi,_⟩
               · exact hs
               · cases hi
             obtain⟨e,hb⟩:=b0S hP ⟨4,d,0,(I8 l (n0+2)).text⟩ rfl
             rw[b3I _ d hs,V1]
             rw[← e,Nat.zero_add]
             exact⟨hb,m0,m1,m2,trivial⟩
           · cases h
             rcases a8i hm rfl with ⟨_,hs⟩ | ⟨hi,_⟩
             · cases hs
             · cases hi
     | false=>
       cases ht:next l n0 2 a3j with
       | true=>
         rw[b0j hP hn hc ht] at h
         cases h
         have e5:(⟨5,d,0,[]⟩:Ty)=timer:=by
           cases may_shape hm with
           | plain k d hk e=>cases e;cases hk
           | timer e=>exact e
           | item k d hk e=>cases e
           | proto s d hs e=>cases e
         rw[e5]
         cases e5
         obtain⟨e,_⟩:=b0S hP timer rfl
         subst e
         exact⟨(L9 (by decide)).1 ht,trivial⟩
       | false=>
         rw[b4C hP hn hc ht] at h
         cases h
         cases may_shape hm with
         | plain k d hk e=>cases e;cases hk
         | timer e=>cases e
         | item k d hk e=>cases e
         | proto s d hs e=>cases e
theorem front_to (l:List Tok):front l=(zeroT,0,90)∨∃ t,may t=true∧a1R l 0 (toks t)∧front l=(t,(toks t).length,0):=by
 obtain⟨⟨ok,t,n⟩,hM⟩:∃ p,mid l=p:=⟨_,rfl⟩
 by_cases hc:(!ok||!may t)=true
 · exact .inl (b1N hM hc)
 · simp at hc
   obtain⟨rfl,hm⟩:=hc
   have hb:=c3N hM hm
   exact .inr ⟨t,hm,hb,a8l hm hb⟩
end Go.Ty
end
section
namespace Go.Sx
open Go.Eng Go.Pc Go
open Go.Xp hiding B
open Go.Ty (Ty Vr Tok)
def stL (s:Sli Ex):Sli Ex:=sl (s.l.map C1)
def stR (r:Rp):Rp:=⟨r.name,C1 r.base,C1 r.count⟩
def W4 (x:Vr):Vr:=vrM x.tag x.items
mutual
def stP:Pr→Pr
 | .mk k n ch tg ex rep _ _ gl _ _ ll pn sp=>.mk k n (C1 ch) (stL tg) (stL ex) (stR rep) none 0 (c1Q gl) none 0 (b5Z ll) (sl pn.l) (stS sp)
def b5Z:List Pr→List Pr
 | []=>[]
 | x::r=>stP x::b5Z r
def stG:Gu→Gu
 | .mk k n cond ch tg vl time _ _ bl=>.mk k n (C1 cond) (C1 ch) (stL tg) (stL vl) (C1 time) none 0 (b5Z bl)
def c1Q:List Gu→List Gu
 | []=>[]
 | x::r=>stG x::c1Q r
def stS:Sp→Sp
 | .mk k ty names e cs vs fs _ _ bl=>.mk k ty (sl names.l) (C1 e) cs (sl (vs.l.map W4)) (sl fs.l) none 0 (b5Z bl)
end
theorem a3k:∀ l:List Pr,b5Z l=l.map stP
 | []=>rfl
 | x::r=>by rw[b5Z,a3k r];rfl
theorem a8a:∀ l:List Gu,c1Q l=l.map stG
 | []=>rfl
 | x::r=>by rw[c1Q,a8a r];rfl
theorem Y8 (e:Ex):O1 (C1 e)=O1 e:=by unfold O1;rw[Q9];cases e;rfl
theorem b7Z {k:Int} {s:B} {ts:List Tok} (h:isM k s ts=true):∃ t r,ts=t::r∧t.kind=k∧t.text=s:=by
 cases ts with
 | nil=>cases h
 | cons t r=>
   have h':((t.kind==k)&&(t.text==s))=true:=h
   simp only[Bool.and_eq_true,beq_iff_eq] at h'
   exact⟨t,r,rfl,h'.1,h'.2⟩
theorem c1f {k:Int} {s:B} {ts:List Tok} (h:isM k s ts=true):0 < ts.length:=by
 obtain⟨t,r,rfl,_⟩:=b7Z h
 exact Nat.succ_pos _
theorem b2H (ts:List Tok):V9 ts=if (ts.getD 0 Go.Ty.zeroK).kind=1 then .ok ((ts.getD 0 Go.Ty.zeroK).text,ts.tail) else .error 110:=by
 cases ts with
 | nil=>rfl
 | cons t r=>rfl
theorem b2b (ts:List Tok):M2 ts=if a4I ts=0 then .ok (a8H ts,ts.drop (a04 ts)) else .error 110:=by
 unfold M2 a4I a8H a04
 cases hf:Q8 ts with
 | ok x=>obtain⟨x,k⟩:=x;rfl
 | error e=>
   rcases b1s hf with rfl | rfl <;> rfl
theorem a6B (ts:List Tok):L3 ts=if (ts.getD 0 Go.Ty.zeroK).kind=1 then O9 (M2 ts) fun x r=>if O1 x then .ok (x,r) else .error 110 else .error 110:=by
 cases ts <;> rfl
open Go.Ty in
theorem b3b (l:List Tok):∀ (w:List Tok) (i:Nat),a1R l i w→i≤l.length→i+w.length≤l.length
 | [],i,_,hi=>hi
 | y::w,i,h,_=>by
   obtain⟨h1,h2⟩:=(V1 l [y] w i).1 h
   have h3:=b3b l w (i+1) h2 (by
     have:=M.lt h1.1
     omega)
   simp only[List.length_cons]
   omega
theorem c4q (ts:List Tok):(Go.Ty.front ts).2.1≤ts.length:=by
 rcases Go.Ty.front_to ts with h | ⟨t,hm,hb,h⟩
 · rw[h];exact Nat.zero_le _
 · rw[h]
   have:=b3b ts _ 0 hb (Nat.zero_le _)
   simpa using this
theorem b4L {t:Ty} (h:Go.Ty.may t=true):TyW t:=by
 have hd:=Go.Ty.may_dim h
 cases Go.Ty.may_shape h with
 | plain k d hk e=>
   subst e
   have:=Go.Ty.is_three hk
   exact⟨by simp only;omega,by simp only;omega,by simp only at hd ⊢;omega,Nat.zero_le _⟩
 | timer e=>
   subst e
   exact⟨by decide,by decide,by decide,Nat.zero_le _⟩
 | item k d hk e=>
   subst e
   have:=Go.Ty.is_three hk
   exact⟨by simp only;omega,by simp only;omega,by simp only at hd ⊢;omega,Nat.zero_le _⟩
 | proto s d hs e=>
   subst e
   refine⟨by simp only;omega,by simp only;omega,by simp only at hd ⊢;omega,?_⟩
   unfold Go.Lx.name at hs
   simp only[Bool.and_eq_true,decide_eq_true_eq] at hs
   have:=hs.1.1.1.2
   show s.length≤Big
   unfold Big
   omega
theorem c5x (ts:List Tok):TyW (Go.Ty.front ts).1:=by
 rcases Go.Ty.front_to ts with h | ⟨t,hm,hb,h⟩
 · rw[h];exact⟨by decide,by decide,by decide,Nat.zero_le _⟩
 · rw[h];exact b4L hm
end Go.Sx
end
section
namespace Go.Eng
open Go Go.RowKit

def b0W (P:Program) (l:Nat) (v v2:Value) (w:World) (R:Bool→World→Prop):Prop:=
 ∃ fn tmps assign body,(Instr.yield l #[v,v2]).run P w=.ok (.round l fn tmps assign body) w ∧
   RoundIn (fen none) 0 P l fn tmps assign body w fun e w'=>∃ b,e=.returned (.bool b)∧R b w'
section
variable {P:Program} {ops:Array Oper} {Q:Exit→Act→World→Prop} {n:Cx} {F:Fm} {h h':List Res} {m:View} {rest:List Oper}
variable {op:Op} {ty:TypeId} {pos:String} {after:Array Edge} {d:Nat} {v v2:Value}

theorem b0W.mono {l:Nat} {w:World} {R R':Bool→World→Prop} (h:b0W P l v v2 w R) (hr:∀ b w',R b w'→R' b w'):b0W P l v v2 w R':=by
 obtain⟨fn,tmps,assign,body,h1,h2⟩:=h
 exact⟨fn,tmps,assign,body,h1,h2.mono fun e w' ⟨b,e1,e2⟩=>⟨b,e1,hr b w' e2⟩⟩
end
end Go.Eng
end
section
namespace Go.Eng
open Go Go.RowKit
section
variable {P:Program} {m m':View} {h h':List Res} {w w':World}
theorem c0r (s:St m h w):m.le (W0 w):=⟨s.os,s.out,s.tape,fun b o hb=>s.blk b o hb⟩
theorem St.grow {m2:View} {h2:List Res} (s:St m h w) (hle:(W0 w).le m2) (s2:St m2 h2 w'):St m h w'∧∀ r ∈ h,∀ b,r.fp=some b→∃ o,m2.blk b=some o:=by
 have same:∀ b,b < w.heap.size→w'.heap[b]?=w.heap[b]?:=fun b hb=>by
   have e:w.heap[b]?=some w.heap[b]:=Array.getElem?_eq_getElem hb
   rw[e]
   exact s2.blk b _ (hle.blk b _ e)
 have hm:=c0r s
 refine⟨⟨s2.os.trans (hle.os.trans s.os),s2.out.trans (hle.out.trans s.out),s2.tape.trans (hle.tape.trans s.tape),fun b o hb=>s2.blk b o (hle.blk b o (hm.blk b o hb)),
   fun r hr=>Res.ok_of_block (s.ok r hr) fun b hb=>same b (Res.lt (s.ok r hr) b hb),s.nd,s.fr⟩,fun r hr b hb=>?_⟩
 have hlt:=Res.lt (s.ok r hr) b hb
 exact⟨_,hle.blk b _ (show w.heap[b]?=some w.heap[b] from Array.getElem?_eq_getElem hlt)⟩
theorem CT.swap {f:FuncId} {args:List Value} {R:List Res→Value→Prop} (c:CT P f args h m (fun v _ h'=>∃ hs,h'=hs++h∧R hs v)):CT P f args h m (fun v _ h'=>∃ hs,h'=h++hs∧R hs v):=
 c.conv fun v m2 h2 w2 _ st hR=>by
   obtain⟨hs,rfl,hR⟩:=hR
   exact⟨m2,h++hs,View.le.refl _,st.perm List.perm_append_comm,hs,rfl,hR⟩
end
section
variable {P:Program} {ops:Array Oper} {Q:Exit→Act→World→Prop} {n:Cx} {F:Fm} {h h':List Res} {m:View} {rest:List Oper}
variable {ty:TypeId} {pos:String} {after:Array Edge} {dst:Option Tmp} {g:Option (Nat × Bool)} {d:Nat}
theorem c5u (a:Option Addr) (cap sz:Nat) (h:a=none∨∃ b off,a=some ⟨b,off,none⟩):sl1 a 0 cap sz=a:=by
 unfold sl1
 split
 · rfl
 · rcases h with rfl | ⟨b,off,rfl⟩
   · rfl
   · simp[Addr.add_lit]
theorem Rd.sub0 {a:Option Addr} {k c sz:Nat} {xs:List Value} (s:Rd m h a k c sz xs) (q:Nat) (h1:k≤q) (h2:q≤c):Rd m h (sl1 a 0 q sz) k q sz xs:=
 ⟨s.len,h1,Nat.le_trans h2 s.mx,fun w st j u hj=>by
   obtain⟨b,off,rfl,hc⟩:=s.at_ w st j u hj
   refine⟨b,off,?_,hc⟩
   unfold sl1
   split
   · rfl
   · simp[Addr.add_lit]⟩
theorem CT.know {f:FuncId} {args:List Value} {R:Value→View→List Res→Prop} {A:Prop} (he:∀ as w,(callFunc f as).run P w=.ok (.enter f as) w) (ha:∀ w,St m h w→A) (k:A→CT P f args h m R):CT P f args h m R:=
 ⟨he,fun w hs=>(k (ha w hs)).calls w hs⟩
theorem CT.knowRow {f:FuncId} {args:List Value} {R:Value→View→List Res→Prop} {a:Option Addr} {k cap sz:Nat} {e:TypeId} {ys:List Value} (he:∀ as w,(callFunc f as).run P w=.ok (.enter f as) w) (hm:Res.row (.slice a k cap) e sz k ys ∈ h)
   (kk:k≤cap→cap≤9223372036854775807→ys.length=k * sz→CT P f args h m R):CT P f args h m R:=
 CT.know he (fun _ st=>a8f (st.ok _ hm)) fun ⟨h1,h2,h3⟩=>kk h1 h2 h3
end
end Go.Eng
end
section
namespace Go.Eng
open Go Go.RowKit
theorem a9Z (a b:ByteArray):(a==b)=(a.data==b.data):=rfl
theorem c0U {n k:List UInt8} (h:¬ n=k):((⟨n.toArray⟩:ByteArray)==⟨k.toArray⟩)=false:=by
 rw[a9Z]
 exact beq_eq_false_iff_ne.2 fun e=>h (by simpa using e)
theorem b1e (n:List UInt8):((⟨n.toArray⟩:ByteArray)==⟨n.toArray⟩)=true:=by
 rw[a9Z]
 exact beq_self_eq_true _

structure MapS (es:Array MapEntry) (ks:List (List UInt8)):Prop where
 a:∀ e ∈ es.toList,∃ n,e.key=str n∧e.val=.bool true∧n ∈ ks
 b:∀ n ∈ ks,∃ e ∈ es.toList,e.key=str n
theorem MapS.nil:MapS #[] []:=⟨fun e h=>by simp at h,fun n h=>by cases h⟩

section
variable {P:Program} {ops:Array Oper} {Q:Exit→Act→World→Prop} {n:Cx} {F:Fm} {h h':List Res} {m:View} {rest:List Oper}
variable {ty:TypeId} {pos:String} {after:Array Edge} {dst:Option Tmp} {g:Option (Nat × Bool)} {d:Nat}

end

section
variable {P:Program} {ops:Array Oper} {Q:Exit→Act→World→Prop} {n:Cx} {F:Fm} {m:View} {eff:List Nat} {t:Tl} {hs hp:List Res}
variable {ty:TypeId} {pos:String} {after:Array Edge} {d:Nat}
abbrev b1Z (e:TypeId) (sz:Nat):Res:=.row (.slice none 0 0) e sz 0 []
theorem St.insNil (e:TypeId) (sz:Nat) {fr l1 l2 hs:List Res} {w:World} (s:St m (fr++((l1++l2)++hs)) w):St m (fr++((l1++b1Z e sz::l2)++hs)) w:=by
 refine(s.addNil e sz).perm ?_
 have h1:(fr++((l1++b1Z e sz::l2)++hs)).Perm (b1Z e sz::(fr++((l1++l2)++hs))):=by
   refine(List.Perm.append_left fr ((List.perm_middle (l₁:=l1) (l₂:=l2)).append_right hs)).trans ?_
   exact List.perm_middle
 exact h1.symm
theorem a5I (e:TypeId) (sz:Nat) {l1 l2:List Res}:∀ (r:List Fl) {F:Fm} {fr:List Res},a1m P ops Q n t r F (fr++((l1++b1Z e sz::l2)++hs)) m→a1m P ops Q n t r F (fr++((l1++l2)++hs)) m
 | [],_,_,h=>WL.mk fun a w ha st=>h.e a w ha (st.insNil e sz)
 | (_,_,_)::r,_,fr,h=>fun b=>a5I e sz r (fr:=_::fr) (h b)
theorem a3C.imp {r:Result Next} {R R':Value→World→Prop} {X:List PanicEntry→World→Prop} (h:a3C P r R X) (k:∀ v w,R v w→R' v w):a3C P r R' X:=by
 cases r with
 | ok x w=>
   cases x with
   | value v=>exact k _ _ h
   | skip=>exact k _ _ h
   | enter f args=>
     refine Calls.mono h fun e w' q=>?_
     rcases q with ⟨v,rfl,hv⟩ | q
     · exact .inl ⟨v,rfl,k v w' hv⟩
     · exact .inr q
   | _=>exact h
 | halt _ _=>exact h
theorem SRr.insNil (e:TypeId) (sz:Nat) {l1 l2:List Res}:∀ (T:Tr) {F:Fm},SRr P ops Q n eff t hs T F (l1++b1Z e sz::l2) m→SRr P ops Q n eff t hs T F (l1++l2) m
 | .nil,_,h=>a5I e sz t.fl (fr:=[]) h
 | .alt a b,_,h=>⟨SRr.insNil e sz a h.1,SRr.insNil e sz b h.2⟩
 | .op i s,_,h=>by
   obtain⟨o,ho,hd,h⟩:=h
   refine⟨o,ho,hd,?_⟩
   have hsub:(l1++l2).Sublist (l1++b1Z e sz::l2):=(List.sublist_cons_self _ _).append_left l1
   cases he:eff.contains i with
   | false=>
     rw[he] at h
     obtain⟨v,pg,hk⟩:=h
     exact⟨v,pg,SRr.insNil e sz s hk⟩
   | true=>
     rw[he] at h
     dsimp only at h ⊢
     cases hr:a4S o with
     | true=>
       rw[hr] at h
       obtain⟨v,pg,hk⟩:=h
       exact⟨v,⟨fun a w ha st=>pg.e a w ha (St.insNil e sz (fr:=[]) st)⟩,SRr.insNil e sz s hk⟩
     | false=>
       rw[hr] at h
       dsimp only at h ⊢
       have sat:∀ {G:Fm} {l:List Res},Sat n hs G (l++l2) m→Sat n hs G (l++b1Z e sz::l2) m:=fun ⟨fr,a,w,ha,st⟩=>⟨fr,a,w,ha,st.insNil e sz⟩
       cases hmk:a2H o&&eff.contains 4096 with
       | true=>
         rw[hmk] at h
         exact⟨fun s a ha=>h.ex (sat s) a ha,fun a ha k cs el hout b s'=>SRr.insNil e sz (l1:=_::l1) s (h.k a ha k cs el hout b (sat (l:=_::l1) s'))⟩
       | false=>
       rw[hmk] at h
       dsimp only at h ⊢
       refine⟨fun fr a w ha st=>?_⟩
       obtain⟨h1,h2⟩:=h.e fr a w ha (St.insNil e sz st)
       refine⟨fun hw=>(h1 hw).imp fun v w' q=>?_,fun hw=>?_⟩
       · obtain⟨m',hp',q1,q2,q3,q4⟩:=q
         exact⟨m',hp',q1,q2,fun ha=>hsub.trans (q3 ha),q4⟩
       · exact⟨fun _=>List.Sublist.refl _,SRr.insNil e sz s (h2 hw).2⟩
theorem a01 {q:Nat} {s:Tr} {tt e k:Nat} {sz by_:Nat} {ps:List (Nat × Operand)} {vs:List (Nat × Value)} {z:Value} {zs cs:List Value} {gd:Nat × Bool} {c:Bool}
   (ho:ops[q]?=some ⟨some d,.buildSlice tt k ps.toArray,ty,pos,after,some gd⟩) (he:eff.contains q=true) (hg:GU ops n F gd c) (E:EL P tt e sz by_) (hz:(P.info? e).bind (·.zero)=some z) (ev:c=true→EvP n F ps vs)
   (hzs:a8G z k=some zs) (hf:a3r (fun i=>some (i * sz,sz)) zs vs=some cs) (hk:k * sz≤16777216) (h0:Nat.beq (k * sz) 0=false) (hd:d < n.num)
   (kk:∀ b r,(c=true→r=.pt b (.cells cs.toArray e (0,0)))→SR P ops Q n eff t hs s ((d,gv c (.slice (some ⟨b,0,none⟩) k k))::F) (r::hp) m) :
   SR P ops Q n eff t hs (.op q s) F hp m:=⟨_,ho,fun y hy=>by cases hy;exact hd,by
 rw[he]
 simp only[a7H,a7A,Bool.false_and]
 refine⟨fun fr f w hf' st=>?_⟩
 have hy:=hg.wanted (dst:=some d) (op:=.buildSlice tt k ps.toArray) (ty:=ty) (pos:=pos) (after:=after) hf'
 cases c with
 | true=>
   refine⟨fun _=>?_,fun h=>by rw[hy] at h;cases h⟩
   have hrun:=U6 (P:=P) w (dst:=some d) (ty:=ty) (pos:=pos) (after:=after) (g:=some gd) E hz (ev rfl) hzs hf hk h0 hf'
   rw[hrun]
   exact⟨m,.pt w.heap.size (.cells cs.toArray e)::hp,View.le.refl m,(st.alloc _).perm List.perm_middle.symm,fun _=>List.sublist_cons_self _ _,(kk w.heap.size _ (fun _=>rfl)).e⟩
 | false=>
   refine⟨fun h=>(by rw[hy] at h;cases h),fun _=>⟨fun _=>List.Sublist.refl _,?_⟩⟩
   exact SRr.insNil e sz (l1:=[]) s (kk 0 (b1Z e sz) (fun h=>by cases h)).e⟩
end

section
variable {P:Program} {n:Cx} {F:Fm} {h:List Res} {m:View}
variable {ty:TypeId} {pos:String} {after:Array Edge} {dst:Option Tmp} {g:Option (Nat × Bool)}
def eqP (P:Program) (o:TypeId) (t:TypeId) (xs ys:List Value) (off:Nat):Option Bool:=match P.underlying t with
 | some (.struct gs)=>match Nat.beq t o with
   | true=>match (P.info? t).map (·.size) with
     | some k=>match seg xs off k with
       | some as=>match seg ys off k with
         | some bs=>b3R P as bs gs.toList
         | none=>none
       | none=>none
     | none=>none
   | false=>none
 | some d=>match M9 d with
   | true=>match xs[off]? with
     | some a=>match ys[off]? with
       | some b=>eqC d a b
       | none=>none
     | none=>none
   | false=>none
 | none=>none
def b5D (P:Program) (o:TypeId) (xs ys:List Value):List Field→Option Bool
 | []=>some true
 | f::fs=>match eqP P o f.type xs ys f.offset with
   | some r=>match b5D P o xs ys fs with
     | some q => match (f.name != "_") with
       | true=>some (r&&q)
       | false=>none
     | none=>none
   | none=>none
theorem b2P {xs as:List Value} {off k:Nat} (h:seg xs off k=some as):(xs.drop off).take k=as:=by
 obtain⟨h1,h2⟩:=a4Z h
 subst h1
 refine List.ext_getElem? fun i=>?_
 rcases Nat.lt_or_ge i as.length with hi | hi
 · have:=h2 i _ (List.getElem?_eq_getElem hi)
   rw[List.getElem?_take_of_lt hi,List.getElem?_drop,this,List.getElem?_eq_getElem hi]
 · rw[List.getElem?_eq_none hi,List.getElem?_eq_none (by rw[List.length_take];omega)]
theorem c1L (w:World) (d:Nat) {o t:TypeId} (ho:P.stoodInHeld o=false) {xs ys:List Value} {off:Nat} {r:Bool} (he:eqP P o t xs ys off=some r):∃ a b,(part t xs.toArray off).run P w=.ok a w∧(part t ys.toArray off).run P w=.ok b w∧(Op.equalIn (d+2) t a b).run P w=.ok r w:=by
 unfold eqP at he
 split at he
 · rename_i gs ht
   split at he
   · rename_i hto
     have hto:=Nat.eq_of_beq_eq_true hto
     subst hto
     have hs:=ho
     split at he
     · rename_i k hk
       split at he
       · rename_i as ha
         split at he
         · rename_i bs hb
           cases hi:P.info? t with
           | none=>rw[hi] at hk;cases hk
           | some i0=>
             have hsz:i0.size=k:=by rw[hi] at hk;simpa using hk
             have hf:P.fieldsOf t=gs:=by simp[Program.fieldsOf,ht]
             have hag:=a2o (P:=P) w ht rfl
             refine⟨.agg as.toArray,.agg bs.toArray,?_,?_,?_⟩
             · simp[part,hag,sizeOf,typeInfo,hi,hsz,b2P ha]
             · simp[part,hag,sizeOf,typeInfo,hi,hsz,b2P hb]
             · rw[run_equalIn_struct (P:=P) w (d+1) t as.toArray bs.toArray (by rw[hf];exact ht) hs,hf]
               exact a5b w d as bs he
         · cases he
       · cases he
     · cases he
   · cases he
 · rename_i ds _ ht
   split at he
   · rename_i hp
     split at he
     · rename_i a ha
       split at he
       · rename_i b hb
         refine⟨a,b,?_,?_,b4P w (d:=d+1) ht he⟩
         · simp[part,L7 w ht hp,ha]
         · simp[part,L7 w ht hp,hb]
       · cases he
     · cases he
   · cases he
 · cases he
theorem b06 (w:World) (d:Nat) {o:TypeId} (ho:P.stoodInHeld o=false) (xs ys:List Value):∀ {fs:List Field} {r:Bool},b5D P o xs ys fs=some r→(Op.eqFields (d+2) xs.toArray ys.toArray fs).run P w=.ok r w
 | [],r,he=>by cases he;simp[Op.eqFields]
 | f::fs,r,he=>by
   unfold b5D at he
   split at he
   · rename_i c hc
     split at he
     · rename_i q hq
       split at he
       · rename_i h7
         cases he
         have h8 : f.name ≠ "_" := by simpa using h7
         have ih:=b06 w d ho xs ys hq
         obtain⟨a,b,ea,eb,e5⟩:=c1L (P:=P) w d ho hc
         simp only[Op.eqFields,if_pos h8,Sem.run_bind]
         rw[ea,Result.andThen_ok,eb,Result.andThen_ok,e5,Result.andThen_ok]
         cases c
         · simp
         · simpa using ih
       · cases he
     · cases he
   · cases he
theorem b1n {o:TypeId} {x y:Operand} {t t':TypeId} {fs:Array Field} {as bs:List Value} {r:Bool} (ht:P.underlying t=some (.struct fs)) (hs:P.stoodInHeld t=false) (hm:P.eqGuardType P.depth t=false) (ex:Ev n F x (.agg as.toArray)) (ey:Ev n F y (.agg bs.toArray))
   (ho:P.stoodInHeld o=false) (hr:b5D P o as bs fs.toList=some r):PO P ⟨dst,.binOp .neq t x y t',ty,pos,after,g⟩ n F h m (.bool (!r)):=.mk fun a w ha _=>by
 have hf:P.fieldsOf t=fs:=by simp[Program.fieldsOf,ht]
 have e1:=run_equalIn_struct (P:=P) w 9999 t as.toArray bs.toArray (by rw[hf];exact ht) hs
 rw[hf,b06 w 9997 ho as bs hr] at e1
 simp[execOp,ex a ha,ey a ha,run_eqGuard_agg w _ t _ _ _ _ hm,run_neq_struct,e1]
end
end Go.Eng
end
section
namespace Go.Sx
open Go.Eng Go.Pc Go
open Go.Xp hiding B
open Go.Ty (Ty Vr Tok)
open Go.Ly (Rw I6)
open Go.Lx (lexO K1)
theorem a8z (s:B):(lexO s).1.length≤256∧∀ x ∈ (lexO s).1,K1 x=true∧(-2147483648≤x.n∧x.n≤2147483647):=by
 obtain⟨l,z,e,h⟩:∃ l z e,lexO s=(l,z,e):=⟨_,_,_,rfl⟩
 rw[h]
 by_cases he:e=0
 · subst he
   obtain⟨h1,h2,-⟩:=Go.Lx.lexO_ok h
   have h3:=Go.Lx.lx_len s 0 l h2
   exact⟨by show l.length≤256;omega,Go.Lx.lx_may s 0 l h2 (by omega)⟩
 · have h1:=Go.Lx.lexO_no h he
   subst h1
   exact⟨Nat.zero_le _,fun x hx=>(List.not_mem_nil hx).elim⟩
theorem c0H (s:B):∀ t ∈ (lexO s).1,t.text.length≤140737488355328:=fun t ht=>by have:=Go.Lx.may_len ((a8z s).2 t ht).1;omega
structure Pz where
 bp:Nat
 ra:Option Addr
 rc:Nat
 R:List Rw
structure Pok (m:View) (z:Pz):Prop where
 rd:Rd m [] z.ra z.R.length z.rc 3 (fl I6 z.R)
 ok:z.R.length≤2048∧∀ x ∈ z.R,0≤x.depth∧x.depth≤32∧x.text.length≤256
 ne:∀ x ∈ z.R,(lexO x.text).2.2=0→(lexO x.text).1≠[]
theorem a9L (q:UInt8→Bool):∀ (l:B) {c:UInt8} {r:B},l.dropWhile q=c::r→q c=false
 | x::l,c,r,h=>by
   unfold List.dropWhile at h
   split at h
   · exact a9L q l h
   · cases h;assumption
theorem c3V {s:B} (h:Go.Ly.validP s=true) (he:(lexO s).2.2=0):(lexO s).1≠[]:=by
 obtain⟨h1,-,h2,-⟩:=Go.Ly.validP_spec h
 obtain⟨l,z,e,hl⟩:∃ l z e,lexO s=(l,z,e):=⟨_,_,_,rfl⟩
 rw[hl] at he ⊢
 obtain rfl:e=0:=he
 obtain⟨-,h3,-⟩:=Go.Lx.lexO_ok hl
 cases s with
 | nil=>exact absurd rfl h1
 | cons c r=>
   have hc:c≠32:=by
     have h4:=a9L (·==32) (Lib.trimRightB (c::r) 32) (c:=c) (r:=r) h2
     simpa using h4
   rintro rfl
   by_cases hn:(Go.Lx.tok (c::r)).2=0
   · rw[Go.Lx.lx_bad hc hn] at h3;cases h3
   · rw[Go.Lx.lx_tok hc hn] at h3
     cases hx:Go.Lx.lx ((c::r).drop (Go.Lx.tok (c::r)).2) (0+(Go.Lx.tok (c::r)).2) with
     | ok m=>rw[hx] at h3;cases h3
     | error e=>rw[hx] at h3;cases h3
theorem Pok.of {m:View} {z:Pz} (hr:Rd m [] z.ra z.R.length z.rc 3 (fl I6 z.R)) (h:Go.Ly.mayP z.R=true):Pok m z:=
 ⟨hr,Go.Ly.mayP_all h,fun x hx=>by
   unfold Go.Ly.mayP at h
   split at h
   · cases h
   · exact c3V (Go.Ly.mayA_all h x hx).2.2⟩
theorem I9 {α β:Type} (x:α) (ts:List Tok) (i:Nat) (f:α→List Tok→PE β):I3 (.ok (x,ts)) i f=f x ts:=rfl
theorem O8 {α β:Type} (x:α) (i:Nat) (f:α→Nat→PE β):R0 (.ok (x,i)) f=f x i:=rfl
theorem M3 {β:Type} {ts:List Tok} {i:Nat} {f:Nat→PE β} (h:ts=[]):F9 ts i f=f (i+1):=by subst h;rfl
theorem M6 {β:Type} {ts:List Tok} {i:Nat} {f:Nat→PE β} (h:ts≠[]):F9 ts i f=.error (110,i):=by cases ts with | nil=>exact absurd rfl h | cons=>rfl
theorem a1P {β:Type} {k:Int} {s:B} {ts:List Tok} {i:Nat} {f:List Tok→PE β} (h:isM k s ts=true):V7 k s ts i f=f ts.tail:=by unfold V7;rw[h];rfl
theorem a2e {β:Type} {k:Int} {s:B} {ts:List Tok} {i:Nat} {f:List Tok→PE β} (h:isM k s ts=false):V7 k s ts i f=.error (110,i):=by unfold V7;rw[h];rfl
theorem a3t {β:Type} {R:List Rw} {d:Int} {i:Nat} {ts:List Tok} {f:List Tok→PE β} (h:Y9 R d i=.ok ts):a03 R d i f=f ts:=by unfold a03;rw[h]
theorem J1 {β:Type} {R:List Rw} {d:Int} {i:Nat} {e:Int × Nat} {f:List Tok→PE β} (h:Y9 R d i=.error e):a03 R d i f=.error e:=by unfold a03;rw[h]
theorem a1c {m:View} {z:Pz} {d:Int} {i:Nat} {ts:List Tok} (hz:Pok m z) (h:Y9 z.R d i=.ok ts):(i < z.R.length∧0≤d∧d≤32)∧∃ x,z.R[i]?=some x∧x.depth=d∧ts=(lexO x.text).1:=by
 unfold Y9 at h
 cases hx:z.R[i]? with
 | none=>rw[hx] at h;cases h
 | some x=>
   rw[hx] at h
   simp only at h
   split at h
   · cases h
   · split at h
     · cases h
     · rename_i hd
       have hd:x.depth=d:=Decidable.byContradiction hd
       cases h
       have h1:=hz.ok.2 x (List.mem_of_getElem? hx)
       exact⟨⟨(List.getElem?_eq_some_iff.1 hx).1,by omega,by omega⟩,x,rfl,hd,rfl⟩
theorem c0Y {m:View} {z:Pz} {d:Int} {i:Nat} {ts:List Tok} (hz:Pok m z) (h:Y9 z.R d i=.ok ts):0 < ts.length:=by
 unfold Y9 at h
 cases hx:z.R[i]? with
 | none=>rw[hx] at h;cases h
 | some x=>
   rw[hx] at h
   simp only at h
   split at h
   · cases h
   · rename_i he
     split at h
     · cases h
     · cases h
       have h1:=hz.ne x (List.mem_of_getElem? hx) (Decidable.byContradiction he)
       exact List.length_pos_iff.2 h1
theorem a2F {R:List Rw} {d:Int} {i:Nat} (h:R.length≤i):Y9 R d i=.error (110,i):=by
 unfold Y9;rw[List.getElem?_eq_none h]
theorem a6W {R:List Rw} {d:Int} {i:Nat} (h:N6 R d i=true):i < R.length:=by
 unfold N6 at h
 cases hx:R[i]? with
 | none=>rw[hx] at h;cases h
 | some x=>exact(List.getElem?_eq_some_iff.1 hx).1
theorem b6v {R:List Rw} {rec:Int→Bool→Nat→PE Pr} {row:List Tok→E Gu} {least most:Nat} {d:Int} {k:Nat} {acc:List Gu} {i:Nat} (hk:R.length≤i+k) (hc:acc.length < least∨(acc.length < most∧N6 R d i=true)) :
   T7 R rec row least most d k acc i=a03 R d i fun ts=>I3 (row ts) i fun g r=>F9 r i fun i=>R0 (rec (d+1) false i) fun x i=>T7 R rec row least most d (k - 1) (acc++[b5i g x]) i:=by
 cases k with
 | zero=>
   have hl:acc.length < least:=hc.elim id fun h=>absurd (a6W h.2) (by omega)
   rw[J1 (a2F (by omega))]
   unfold T7
   rw[if_pos hl]
 | succ k=>
   conv=>lhs;unfold T7
   rw[if_pos hc]
   rfl
theorem b2i {R:List Rw} {rec:Int→Bool→Nat→PE Pr} {row:List Tok→E Gu} {least most:Nat} {d:Int} {k:Nat} {acc:List Gu} {i:Nat} (hc:¬ (acc.length < least∨(acc.length < most∧N6 R d i=true))) :
   T7 R rec row least most d k acc i=.ok (acc,i):=by
 cases k with
 | zero=>
   unfold T7
   rw[if_neg fun h=>hc (.inl h)]
 | succ k=>
   unfold T7
   rw[if_neg hc]
theorem b8q {R:List Rw} {rec:Int→Bool→Nat→PE Pr} {d:Int} {k:Nat} {acc:List Pr} {i:Nat} (hk:R.length≤i+k) (hc:N6 R d i=true) :
   a0s R rec d k acc i=R0 (rec d false i) fun x i=>a0s R rec d (k - 1) (acc++[x]) i:=by
 cases k with
 | zero=>exact absurd (a6W hc) (by omega)
 | succ k=>
   conv=>lhs;unfold a0s
   rw[if_pos hc]
   rfl
theorem b3S {R:List Rw} {rec:Int→Bool→Nat→PE Pr} {d:Int} {k:Nat} {acc:List Pr} {i:Nat} (hc:N6 R d i=false):a0s R rec d k acc i=.ok (acc,i):=by
 cases k with
 | zero=>rfl
 | succ k=>unfold a0s;rw[if_neg (by rw[hc];decide)]
theorem b6W {R:List Rw} {rec:Int→Bool→Nat→PE Pr} {d:Int} {k:Nat} {ns:List Int} {acc:List Pr} {i:Nat} (hk:R.length≤i+k) (hc:acc.length=0∨(acc.length < 8∧N6 R (d+1) i=true)) :
   R5 R rec d k ns acc i=a03 R (d+1) i fun ts=>V7 2 [80,82,79,67,69,83,83,79,82] ts i fun r=>match b5k r with
     | some n=>R0 (rec (d+2) false (i+1)) fun x i=>R5 R rec d (k - 1) (ns++[n]) (acc++[x]) i
     | none=>.error (110,i):=by
 cases k with
 | zero=>
   have hl:acc.length=0:=hc.elim id fun h=>absurd (a6W h.2) (by omega)
   rw[J1 (a2F (by omega))]
   unfold R5
   rw[if_pos hl]
 | succ k=>
   conv=>lhs;unfold R5
   rw[if_pos hc]
   rfl
theorem b2Z {R:List Rw} {rec:Int→Bool→Nat→PE Pr} {d:Int} {k:Nat} {ns:List Int} {acc:List Pr} {i:Nat} (hc:¬ (acc.length=0∨(acc.length < 8∧N6 R (d+1) i=true))) :
   R5 R rec d k ns acc i=.ok ((ns,acc),i):=by
 cases k with
 | zero=>
   unfold R5
   rw[if_neg fun h=>hc (.inl h)]
 | succ k=>
   unfold R5
   rw[if_neg hc]
theorem b7n {R:List Rw} {d:Int} {k:Nat} {acc:List Vr} {i:Nat} (hk:R.length≤i+k) (hc:acc.length=0∨N6 R (d+2) i=true) :
   Y5 R d k acc i=a03 R (d+2) i fun ts=>I3 (a1H ts) i fun v r=>if Go.Ty.mayPr true (acc++[v]) then F9 r i fun i=>Y5 R d (k - 1) (acc++[v]) i else .error (110,i):=by
 cases k with
 | zero=>
   have hl:acc.length=0:=hc.elim id fun h=>absurd (a6W h) (by omega)
   rw[J1 (a2F (by omega))]
   unfold Y5
   rw[if_pos hl]
 | succ k=>
   conv=>lhs;unfold Y5
   rw[if_pos hc]
   rfl
theorem b3C {R:List Rw} {d:Int} {k:Nat} {acc:List Vr} {i:Nat} (hc:¬ (acc.length=0∨N6 R (d+2) i=true)):Y5 R d k acc i=.ok (acc,i):=by
 cases k with
 | zero=>
   unfold Y5
   rw[if_neg fun h=>hc (.inl h)]
 | succ k=>
   unfold Y5
   rw[if_neg hc]
theorem b6t {R:List Rw} {rec:Int→Bool→Nat→PE Pr} {d:Int} {top:Bool} {ts:List Tok} {i:Nat} {t:Tok} {f:Int→List Tok→Nat→PE Pr} (h0:ts[0]?=some t) (hw:a1S R rec t.text=some f) (hc:t.kind=2∧(top=true∨t.text≠[80,76,65,67,69,68])):a3G R rec d top ts i=f d ts.tail i:=by
 cases ts with
 | nil=>cases h0
 | cons u r=>
   cases h0
   unfold a3G
   simp only[hw]
   rw[if_pos hc]
   rfl
theorem b3d {R:List Rw} {rec:Int→Bool→Nat→PE Pr} {d:Int} {top:Bool} {ts:List Tok} {i:Nat} {t:Tok} (h0:ts[0]?=some t) (hc:a1S R rec t.text=none∨¬ (t.kind=2∧(top=true∨t.text≠[80,76,65,67,69,68]))):a3G R rec d top ts i=a1a R rec d ts i:=by
 cases ts with
 | nil=>cases h0
 | cons u r=>
   cases h0
   unfold a3G
   cases hw:a1S R rec t.text with
   | none=>simp only[hw]
   | some f=>
     simp only[hw]
     rcases hc with hc | hc
     · rw[hc] at hw;cases hw
     · rw[if_neg hc]
structure Gs (m:View) (h:List Res) (a:Option Addr) (c:Nat) (l:List Gu):Prop where
 rd:Rd m h a l.length c 23 (fl guE l)
 ok:∀ g ∈ l,GOk m h g
 sub:∀ g ∈ l,∀ x ∈ g.bl,POk m h x
structure Ls (m:View) (h:List Res) (a:Option Addr) (c:Nat) (l:List Pr):Prop where
 rd:Rd m h a l.length c 42 (fl prE l)
 ok:∀ x ∈ l,POk m h x
structure Ns (m:View) (h:List Res) (s:Sli Int):Prop where
 rd:Rd m h s.a s.l.length s.c 1 (fl a3H s.l)
 ok:∀ x ∈ s.l,-9223372036854775808≤x∧x≤9223372036854775807
structure Ss (m:View) (h:List Res) (s:Sp):Prop where
 ok:SOk m h s
 sub:∀ x ∈ s.bl,POk m h x
structure Rs (m:View) (h:List Res) (r:Rp):Prop where
 n:r.name.length≤Big
 b:EOk m h r.base
 c:EOk m h r.count
variable {m:View} {h h':List Res}
theorem Gs.mono {a:Option Addr} {c:Nat} {l:List Gu} (q:Gs m h a c l) (s:h.Sublist h'):Gs m h' a c l:=⟨q.rd.mono (View.le.refl m) s,fun g hg=>(q.ok g hg).mono s,fun g hg x hx=>(q.sub g hg x hx).mono s⟩
theorem Ls.mono {a:Option Addr} {c:Nat} {l:List Pr} (q:Ls m h a c l) (s:h.Sublist h'):Ls m h' a c l:=⟨q.rd.mono (View.le.refl m) s,fun g hg=>(q.ok g hg).mono s⟩
theorem Ns.mono {l:Sli Int} (q:Ns m h l) (s:h.Sublist h'):Ns m h' l:=⟨q.rd.mono (View.le.refl m) s,q.ok⟩
theorem Ss.mono {x:Sp} (q:Ss m h x) (s:h.Sublist h'):Ss m h' x:=⟨q.ok.mono s,fun y hy=>(q.sub y hy).mono s⟩
theorem Rs.mono {r:Rp} (q:Rs m h r) (s:h.Sublist h'):Rs m h' r:=⟨q.n,q.b.mono s,q.c.mono s⟩
theorem X9 (m:View) (h:List Res):Gs m h none 0 []:=⟨Rd.nilF guE 23 m h,fun _ hx=>(List.not_mem_nil hx).elim,fun _ hx=>(List.not_mem_nil hx).elim⟩
theorem a2P (m:View) (h:List Res):Ls m h none 0 []:=⟨Rd.nilF prE 42 m h,fun _ hx=>(List.not_mem_nil hx).elim⟩
theorem U9 (m:View) (h:List Res):Ns m h B5:=⟨Rd.nilF a3H 1 m h,fun _ hx=>(List.not_mem_nil hx).elim⟩
theorem F3 (m:View) (h:List Res):LOk m h B5:=⟨Rd.nilF exE 6 m h,fun _ hx=>(List.not_mem_nil hx).elim⟩
theorem b7j (m:View) (h:List Res):TOk m h A3:=.mk (Rd.nilF exE 6 m h) (fun _ hx=>by cases hx)
theorem a6k (m:View) (h:List Res):EOk m h A3:=⟨b7j m h,.mk (by decide) (by decide) (by decide) (by decide) (Nat.zero_le _) fun _ hx=>(List.not_mem_nil hx).elim⟩
theorem R4 (m:View) (h:List Res):Rs m h D5:=⟨Nat.zero_le _,a6k m h,a6k m h⟩
theorem a7P (m:View) (h:List Res):Go.Ty.PrOk m h none 0 0 []:=⟨Rd.nilF Go.Ty.encV 2 m h,fun _ hx=>(List.not_mem_nil hx).elim,fun _ hx=>(List.not_mem_nil hx).elim⟩
theorem Q3 (m:View) (h:List Res):Ss m h D2:=
 ⟨⟨by decide,⟨by decide,by decide,by decide,Nat.zero_le _⟩,Rd.nilF Go.Lx.encB 1 m h,fun _ hx=>(List.not_mem_nil hx).elim,a6k m h,a7P m h,fun _ hx=>(List.not_mem_nil hx).elim,Rd.nilF foE 6 m h,fun _ hx=>(List.not_mem_nil hx).elim,Rd.nilF prE 42 m h⟩,fun _ hx=>(List.not_mem_nil hx).elim⟩
theorem a3f {k:Int} {nm:B} {ch:Ex} {tg ex:Sli Ex} {rep:Rp} {ga:Option Addr} {gc:Nat} {gl:List Gu} {la:Option Addr} {lc:Nat} {ll:List Pr} {pn:Sli Int} {sp:Sp} (hk:0≤k∧k≤255) (hn:nm.length≤Big) (hch:EOk m h ch) (ht:LOk m h tg) (he:LOk m h ex)
   (hr:Rs m h rep) (hg:Gs m h ga gc gl) (hl:Ls m h la lc ll) (hp:Ns m h pn) (hs:Ss m h sp):POk m h (.mk k nm ch tg ex rep ga gc gl la lc ll pn sp):=
 .mk ⟨hk,hn,hch,ht,he,hr.n,hr.b,hr.c,hg.rd,hg.ok,hl.rd,hp.rd,hp.ok,hs.ok⟩ fun x hx=>by
   cases hx with
   | l hx=>exact hl.ok x hx
   | s hx=>exact hs.sub x hx
   | g hq hx=>exact hg.sub _ hq x hx
end Go.Sx
end
section
namespace Go.Sx
open Go.Eng Go.Pc Go
open Go.Xp hiding B
open Go.Ty (Ty Vr Tok)
theorem c03 (e:Ex):C1 (C1 e)=C1 e:=by
 refine Ex.ind (p:=fun e=>C1 (C1 e)=C1 e) (fun e ih=>?_) e
 rw[W9 e,W9]
 show Ex.mk _ _ _ _ _ _ _ ((e.l.map C1).map C1)=_
 rw[List.map_map]
 congr 1
 exact List.map_congr_left fun x hx=>ih x hx
theorem a0u (x w:Ex):F2 (C1 x) w=F2 x w:=by rw[Bool.eq_iff_iff,Y4,Y4,c03]
theorem b9l (x w:Ex):F2 x (C1 w)=F2 x w:=by rw[Bool.eq_iff_iff,Y4,Y4,c03]
theorem a2S (e:Ex):Z7 (C1 e)=Z7 e:=a0u e A3
theorem b1k:∀ (l pre:List Vr),Go.Ty.mayIn (pre.map W4) (l.map W4)=Go.Ty.mayIn pre l
 | [],_=>rfl
 | v::r,pre=>by
   have h1:Go.Ty.badV (pre.map W4) (W4 v)=Go.Ty.badV pre v:=by
     unfold Go.Ty.badV Go.Ty.tagIn
     rw[List.any_map]
     rfl
   have h2:=b1k r (pre++[v])
   rw[List.map_append] at h2
   show(if Go.Ty.badV (pre.map W4) (W4 v) then false else Go.Ty.mayIn (pre.map W4++[W4 v]) (r.map W4))=if Go.Ty.badV pre v then false else Go.Ty.mayIn (pre++[v]) r
   rw[h1,← h2]
   rfl
theorem a8C (cs:Bool) (l:List Vr):Go.Ty.mayPr cs (l.map W4)=Go.Ty.mayPr cs l:=by
 unfold Go.Ty.mayPr
 rw[List.length_map]
 have h0:(Go.Ty.hdV (l.map W4)).tag=(Go.Ty.hdV l).tag∧(Go.Ty.hdV (l.map W4)).items=(Go.Ty.hdV l).items:=by cases l <;> exact⟨rfl,rfl⟩
 rw[h0.1,h0.2]
 have h1:=b1k l []
 rw[List.map_nil] at h1
 rw[h1]
theorem a3i {α β:Type} (l:List α) (f:α→β) (a b:Int) (q:β→Bool) (r:α→Bool) (h:∀ x,q (f x)=r x):a0W (l.map f) a b q=a0W l a b r:=by
 unfold a0W
 rw[List.length_map,List.any_map]
 congr 2
 congr 1
 funext x
 simp[h]
theorem b5C {α:Type} (q:α→α→Bool) (f:α→α) (h:∀ x y,q (f x) (f y)=q x y):∀ (l r:List α),eqL q (l.map f) (r.map f)=eqL q l r
 | [],[]=>rfl
 | [],_::_=>rfl
 | _::_,[]=>rfl
 | x::l,y::r=>by
   show(q (f x) (f y)&&eqL q (l.map f) (r.map f))=_
   rw[h,b5C q f h l r]
   rfl
theorem S7 (s:Sp):stS s=spM s.k s.ty s.names.l (C1 s.e) s.cs (s.vs.l.map W4) s.fs.l (s.bl.map stP):=by
 cases s
 rw[stS,a3k]
 rfl
theorem b09 (a b:Sp):a0g (stS a) (stS b)=a0g a b:=by
 rw[S7,S7]
 unfold a0g
 show((((((((a.k==b.k)&&Go.Ty.eqT a.ty b.ty)&&(a.names.l==b.names.l))&&F2 (C1 a.e) (C1 b.e))&&(a.cs==b.cs))&&eqL R6 (a.vs.l.map W4) (b.vs.l.map W4))&&eqL a0U a.fs.l b.fs.l)&&(((a.bl.map stP).length:Int)==(b.bl.map stP).length))=_
 rw[a0u,b9l,b5C R6 W4 (fun _ _=>rfl),List.length_map,List.length_map]
theorem c0w (s:Sp):a3d (stS s)=stS (a3d s):=by
 rw[S7 s]
 unfold a3d
 show(if s.k=1 then _ else if s.k=2 then _ else if s.k=3 then _ else if s.k=4 then _ else _)=_
 split
 · rw[S7];rfl
 · split
   · rw[S7];rfl
   · split
     · rw[S7];rfl
     · split
       · rw[S7];rfl
       · rw[S7];rfl
theorem c1N (s:Sp):a2D (stS s)=a2D s:=by
 rw[S7 s]
 unfold a2D
 show(if s.k=1 then Go.Ty.may s.ty else if s.k=2 then a1M s.ty&&M4 (C1 s.e) else if s.k=3 then a1M s.ty&&O1 (C1 s.e) else if s.k=4 then Go.Ty.mayPr s.cs (s.vs.l.map W4) else (((s.bl.map stP).length:Int)==1)&&a0W s.fs.l 0 8 foP)=_
 rw[Q9,Y8,a8C,List.length_map]
theorem c2L (s:Sp):spP (stS s)=spP s:=by
 have h1:(stS s).k=s.k:=by rw[S7];rfl
 have h2:(stS s).names.l=s.names.l:=by rw[S7];rfl
 unfold spP
 rw[h1,h2,c1N,c0w,b09]
end Go.Sx
end
section
namespace Go.Eng
open Go Go.RowKit
def a8r (es:Array MapEntry) (kv:List (List UInt8 × Value)):Prop:=es.toList.map (fun x=>(x.key,x.val))=kv.map fun p=>(str p.1,p.2)
theorem a8r.nil:a8r #[] []:=rfl
def a0P (n:List UInt8):List (List UInt8 × Value)→Option Value
 | []=>none
 | (k,v)::r=>if n=k then some v else a0P n r
theorem b3n {n:List UInt8}:∀ (l:List MapEntry) (kv:List (List UInt8 × Value)) (i:Nat),l.map (fun x=>(x.key,x.val))=kv.map (fun p=>(str p.1,p.2)) →
   (a0P n kv=none∧Instr.findNow .string (str n) l i=some none)∨∃ j v,a0P n kv=some v∧Instr.findNow .string (str n) l i=some (some (i+j,v))
 | [],[],_,_=>.inl ⟨rfl,rfl⟩
 | [],_::_,_,h=>by cases h
 | _::_,[],_,h=>by cases h
 | e::l,(k,v)::kv,i,h=>by
   simp only[List.map_cons,List.cons.injEq,Prod.mk.injEq] at h
   obtain⟨⟨hk,hv⟩,h⟩:=h
   by_cases hn:n=k
   · subst hn
     refine .inr ⟨0,v,by simp[a0P],?_⟩
     simp[Instr.findNow,hk,Instr.sameNow,b1e,hv]
   · have hb:((⟨n.toArray⟩:ByteArray)==⟨k.toArray⟩)=false:=c0U hn
     have e1:Instr.findNow .string (str n) (e::l) i=Instr.findNow .string (str n) l (i+1):=by
       simp[Instr.findNow,hk,Instr.sameNow,hb]
     have e2:a0P n ((k,v)::kv)=a0P n kv:=by simp[a0P,hn]
     rw[e1,e2]
     rcases b3n l kv (i+1) h with h1 | ⟨j,v,h1,h2⟩
     · exact .inl h1
     · exact .inr ⟨j+1,v,h1,by rw[h2];congr 3;omega⟩
section
variable {P:Program} {ops:Array Oper} {Q:Exit→Act→World→Prop} {n:Cx} {F:Fm} {h h':List Res} {m:View} {rest:List Oper}
variable {ty:TypeId} {pos:String} {after:Array Edge} {dst:Option Tmp} {g:Option (Nat × Bool)} {d:Nat}
theorem b1j (w:World) {t kt et:TypeId} {b:Nat} {es:Array MapEntry} {clock:Nat} {kv:List (List UInt8 × Value)} {x:List UInt8} {v:Value} (ht:P.underlying t=some (.map kt et)) (hk:P.underlying kt=some (.string)) (hM:a8r es kv) (hx:a0P x kv=none)
   (hb:w.heap[b]?=some (.map es clock)):∃ es' clock',a8r es' (kv++[(x,v)])∧(Instr.mapUpdate t (.map (some b)) (str x) v).run P w=.ok () { w with heap:=w.heap.setIfInBounds b (.map es' clock') }:=by
 have hck:(Instr.checkKey false 10000 kt (str x)).run P w=.ok () w:=by
   unfold Instr.checkKey
   simp[run_underlying hk]
 have hget:(getObj b).run P w=.ok (.map es clock) w:=by simp[getObj,Sem.run,hb]
 have hset:∀ o,(setObj b o).run P w=.ok () { w with heap:=w.heap.setIfInBounds b o }:=fun o=>by simp[setObj,Sem.run,hb]
 rcases b3n (n:=x) es.toList kv 0 hM with ⟨h1,h2⟩ | ⟨j,v,h1,h2⟩
 · refine⟨es.push { key:=str x,val:=v,born:=clock },clock+1,?_,?_⟩
   · unfold a8r at hM ⊢
     simp[hM]
   · simp[Instr.mapUpdate,run_underlying ht,hget,hck,Instr.findKey,run_underlying hk,h2,hset]
 · rw[hx] at h1;cases h1
theorem P5 {op:Op} {x y z:Operand} {t kt et:TypeId} {b:Nat} {es:Array MapEntry} {clock:Nat} {kv:List (List UInt8 × Value)} {i:List UInt8} {v:Value} {hq:Array MapEntry→Nat→List Res} (hop:op=.mapUpdate t x y z∨op=.insert t x y z) (ht:P.underlying t=some (.map kt et)) (hk:P.underlying kt=some (.string)) (hM:a8r es kv) (hi:a0P i kv=none)
   (ex:Ev n F x (.map (some b))) (ey:Ev n F y (str i)) (ez:Ev n F z v) (u:∀ es' c',Upd h (.pt b (.map es clock)) (.pt b (.map es' c')) (hq es' c')) (k:∀ es' c',a8r es' (kv++[(i,v)])→WL P ops Q n rest F (hq es' c') m) :
   WL P ops Q n (⟨none,op,ty,pos,after,none⟩::rest) F h m:=.mk fun a w ha hs=>by
 obtain⟨es',c',h1,h2⟩:=b1j (P:=P) w (x:=i) (v:=v) ht hk hM hi (hs.ok _ (u es clock).mem)
 have hrun:(execOp a.eval ⟨none,op,ty,pos,after,none⟩).run P w=.ok .skip { w with heap:=w.heap.setIfInBounds b (.map es' c') }:=by
   rcases hop with rfl | rfl <;> simp[execOp,ex a ha,ey a ha,ez a ha,h2]
 exact E6 rfl (a4N hrun (k es' c' h1 _ _ ha (hs.setObj (u es' c'))))
theorem b3y {x y:Operand} {t kt et:TypeId} {b:Nat} {es:Array MapEntry} {clock:Nat} {kv:List (List UInt8 × Value)} {i:List UInt8} {z:Value} (ht:P.underlying t=some (.map kt et)) (hk:P.underlying kt=some (.string)) (hz:(P.info? et).bind (·.zero)=some z) (hM:a8r es kv)
   (ex:Ev n F x (.map (some b))) (ey:Ev n F y (str i)) (hm:Res.pt b (.map es clock) ∈ h):PO P ⟨dst,.lookup t x y true,ty,pos,after,g⟩ n F h m (.tuple #[(a0P i kv).getD z,.bool (a0P i kv).isSome]):=.mk fun a w ha hs=>by
 have hb:w.heap[b]?=some (.map es clock):=hs.ok _ hm
 have hck:(Instr.checkKey es.isEmpty 10000 kt (str i)).run P w=.ok () w:=by
   unfold Instr.checkKey
   simp[run_underlying hk]
 have hget:(getObj b).run P w=.ok (.map es clock) w:=by simp[getObj,Sem.run,hb]
 have hzr:(zeroValue et).run P w=.ok z w:=by
   cases hi:P.info? et with
   | none=>simp[hi] at hz
   | some j=>
     have:j.zero=some z:=by simpa [hi] using hz
     simp[zeroValue,typeInfo,hi,this]
 rcases b3n (n:=i) es.toList kv 0 hM with ⟨h1,h2⟩ | ⟨j,v,h1,h2⟩
 · simp[execOp,ex a ha,ey a ha,Instr.lookup,run_underlying ht,hget,hck,Instr.findKey,run_underlying hk,h1,h2,hzr]
 · simp[execOp,ex a ha,ey a ha,Instr.lookup,run_underlying ht,hget,hck,Instr.findKey,run_underlying hk,h1,h2]
theorem c5k {fn:Func} {ex:Exit} {m0:View} {R:Value→View→List Res→Prop} {r r':ResultVar} {v v':Value} {q:FuncId} {cap:List Value} (hex:ex=.ret∨ex=.normal) (hds:n.ds=[a9e q cap]) (he:∀ as w,(callFunc q as).run P w=.ok (.enter q as) w)
   (hd:a8V P q cap .returning m h h) (hfn:fn.results=#[r,r']) (x1:RV P n F h m r v) (x2:RV P n F h m r' v') (hle:m0.le m) (hsub:h'.Sublist h) (hR:R (.tuple #[v,v']) m h') :
   ∀ a w,Fr n F a→St m h w→bodyPostD P fn (RQ m0 R) ex a w:=fun a w ha hs=>by
 have key:Leaves P fn a.tmps (RQ m0 R) a.defers .returning w:=by
   rw[ha.d,hds]
   refine b1g he (by simp) hd hs fun w' hs'=>⟨.tuple #[v,v'],?_,_,m,h',rfl,hle,hs'.sub hsub,hR⟩
   have h1:=x1.e a w' ha hs'
   have h2:=x2.e a w' ha hs'
   simp[Y0,hfn,h1,h2]
 rcases hex with rfl | rfl <;> exact key
theorem c5O {fn:Func} {m0:View} {R:Value→View→List Res→Prop} {r r':ResultVar} {v v' u:Value} {q:FuncId} {cap:List Value} {h2:List Res} (hds:n.ds=[a9e q cap]) (he:∀ as w,(callFunc q as).run P w=.ok (.enter q as) w)
   (hd:a8V P q cap (.panicking [{ v:=u,recovered:=false }]) m h h2) (hfn:fn.results=#[r,r']) (x1:RV P n F h2 m r v) (x2:RV P n F h2 m r' v') (hle:m0.le m) (hsub:h'.Sublist h2) (hR:R (.tuple #[v,v']) m h') :
   ∀ a w,Fr n F a→St m h w→bodyPostD P fn (RQ m0 R) (.panic [{ v:=u,recovered:=false }]) a w:=fun a w ha hs=>by
 show Leaves P fn a.tmps (RQ m0 R) a.defers (.panicking [{ v:=u,recovered:=false }]) w
 rw[ha.d,hds]
 refine b1g he (by simp) hd hs fun w' hs'=>⟨.tuple #[v,v'],?_,_,m,h',rfl,hle,hs'.sub hsub,hR⟩
 have h1:=x1.e a w' ha hs'
 have h2:=x2.e a w' ha hs'
 simp[Y0,hfn,h1,h2]
end
end Go.Eng
end
section
namespace Go.Sx
open Go.Eng Go.Pc Go
open Go.Xp hiding B
open Go.Ty (Ty Vr Tok)
open Go.Ly (Rw)
def Er {α:Type} (r:E α):Prop:=∀ e,r=.error e→e=110
theorem V8 {α:Type} {x:α × List Tok}:Er (.ok x):=nofun
theorem a4C {α:Type}:Er (.error 110:E α):=fun e h=>by cases h;rfl
theorem Q7 {α β:Type} {r:E α} {f:α→List Tok→E β} (h:Er r) (hf:∀ x ts,Er (f x ts)):Er (O9 r f):=by
 cases r with
 | ok x=>exact hf x.1 x.2
 | error e=>rw[h e rfl];exact a4C
theorem a4v {β:Type} {k:Int} {s:B} {ts:List Tok} {f:List Tok→E β} (h:∀ r,Er (f r)):Er (Z4 k s ts f):=by
 unfold Z4
 split
 · exact h _
 · exact a4C
theorem a0I {α:Type} {c:Prop} [Decidable c] {a b:E α} (ha:Er a) (hb:Er b):Er (if c then a else b):=by
 split
 · exact ha
 · exact hb
theorem a0X (ts:List Tok):Er (V9 ts):=by rw[b2H];exact a0I V8 a4C
theorem T0 (ts:List Tok):Er (M2 ts):=by rw[b2b];exact a0I V8 a4C
theorem a4f (ts:List Tok):Er (L3 ts):=by rw[a6B];exact a0I (Q7 (T0 ts) fun _ _=>a0I V8 a4C) a4C
theorem b0m (ts:List Tok):Er (a8m ts):=a0I V8 a4C
theorem b4H (ts:List Tok):Er (a5K ts):=Q7 (b0m ts) fun _ _=>a0I V8 a4C
theorem b6D (ts:List Tok):Er (a4u ts):=Q7 (b0m _) fun _ _=>Q7 (a0X _) fun _ _=>a0I V8 a4C
theorem b4N {α:Type} {take:List Tok→E α} {sep:B} (h:∀ ts,Er (take ts)):∀ (n:Nat) (acc:List α) (ts:List Tok),Er (a2r take sep n acc ts)
 | 0,_,_=>a0I a4C V8
 | n+1,_,_=>a0I (Q7 (h _) fun _ _=>b4N h n _ _) V8
theorem a1s {α:Type} {take:List Tok→E α} {sep:B} {most:Nat} {ts:List Tok} (h:∀ ts,Er (take ts)):Er (P9 take sep most ts):=Q7 (h _) fun _ _=>b4N h _ _ _
theorem c2J {α:Type} {take:List Tok→E α} {ts:List Tok} (h:∀ ts,Er (take ts)):Er (brM take ts):=a4v fun _=>a0I V8 (Q7 (a1s h) fun _ _=>a4v fun _=>V8)
theorem b8m (ts:List Tok):Er (b3x ts):=a0I V8 (Q7 (a0X _) fun _ _=>a4v fun _=>Q7 (T0 _) fun _ _=>a4v fun _=>Q7 (T0 _) fun _ _=>V8)
theorem c4i (ts:List Tok):Er (ifM ts):=Q7 (T0 _) fun _ _=>V8
theorem b5s (c:Ex) (ts:List Tok):Er (a9C c ts):=Q7 (a4f _) fun _ _=>a4v fun _=>a0I (Q7 (T0 _) fun _ _=>V8) (Q7 (a1s a4f) fun _ _=>V8)
theorem b8X (ts:List Tok):Er (a8R ts):=a0I (Q7 (T0 _) fun _ _=>a4v fun _=>a0I V8 (b5s _ _)) (b5s _ _)
theorem c3Y (ts:List Tok):Er (b6L ts):=a0I V8 (Q7 (a1s T0) fun _ _=>V8)
theorem c3v (ts:List Tok):Er (b3o ts):=Q7 (a0X _) fun _ _=>a0I (Q7 (a1s a4f) fun _ _=>V8) V8
theorem b3Y (ts:List Tok):Er (a1H ts):=Q7 (a0X _) fun _ _=>a0I (Q7 (a1s b4H) fun _ _=>V8) V8
def Ep {α:Type} (r:PE α):Prop:=∀ e j,r=.error (e,j)→e≠0
theorem O5 {α:Type} {x:α × Nat}:Ep (.ok x):=nofun
theorem a1U {α:Type} {i:Nat}:Ep (.error (110,i):PE α):=fun e j h=>by cases h;decide
theorem S6 {α β:Type} {r:PE α} {f:α→Nat→PE β} (h:Ep r) (hf:∀ x i,Ep (f x i)):Ep (R0 r f):=by
 cases r with
 | ok x=>exact hf x.1 x.2
 | error e=>exact fun a j q=>h a j (by cases q;rfl)
theorem K8 {α β:Type} {r:E α} {i:Nat} {f:α→List Tok→PE β} (h:Er r) (hf:∀ x ts,Ep (f x ts)):Ep (I3 r i f):=by
 cases r with
 | ok x=>exact hf x.1 x.2
 | error e=>rw[h e rfl];exact a1U
theorem R3 {α:Type} {c:Prop} [Decidable c] {a b:PE α} (ha:Ep a) (hb:Ep b):Ep (if c then a else b):=by
 split
 · exact ha
 · exact hb
theorem J8 {β:Type} {ts:List Tok} {i:Nat} {f:Nat→PE β} (h:∀ i,Ep (f i)):Ep (F9 ts i f):=R3 (h _) a1U
theorem a1V {β:Type} {k:Int} {s:B} {ts:List Tok} {i:Nat} {f:List Tok→PE β} (h:∀ r,Ep (f r)):Ep (V7 k s ts i f):=R3 (h _) a1U
variable {R:List Rw}
theorem a5e {β:Type} {d:Int} {i:Nat} {f:List Tok→PE β} (h:∀ r,Ep (f r)):Ep (a03 R d i f):=by
 unfold a03 Y9
 cases hx:R[i]? with
 | none=>exact a1U
 | some x=>
   simp only
   split
   · rename_i h1
     split at h1
     · cases h1
     · split at h1
       · cases h1
       · exact h _
   · rename_i h1
     split at h1
     · rename_i he
       cases h1
       exact fun a j q=>by cases q;exact he
     · split at h1
       · cases h1;exact a1U
       · cases h1
theorem b0s {β:Type} {d k:Int} {s:B} {i:Nat} {f:Nat→PE β} (h:∀ i,Ep (f i)):Ep (a0Q R d k s i f):=a5e fun _=>a1V fun _=>J8 h
variable {rec:Int→Bool→Nat→PE Pr} (hr:∀ d t i,Ep (rec d t i))
include hr
theorem a3Z {row:List Tok→E Gu} (hw:∀ ts,Er (row ts)) {least most:Nat} {d:Int}:∀ (k:Nat) (acc:List Gu) (i:Nat),Ep (T7 R rec row least most d k acc i)
 | 0,_,_=>R3 a1U O5
 | k+1,_,_=>R3 (a5e fun _=>K8 (hw _) fun _ _=>J8 fun _=>S6 (hr _ _ _) fun _ _=>a3Z hw k _ _) O5
theorem b1l {d:Int}:∀ (k:Nat) (acc:List Pr) (i:Nat),Ep (a0s R rec d k acc i)
 | 0,_,_=>O5
 | k+1,_,_=>R3 (S6 (hr _ _ _) fun _ _=>b1l k _ _) O5
theorem a9t {d:Int}:∀ (k:Nat) (ns:List Int) (acc:List Pr) (i:Nat),Ep (R5 R rec d k ns acc i)
 | 0,_,_,_=>R3 a1U O5
 | k+1,_,_,_=>R3 (a5e fun _=>a1V fun r=>by
     cases b5k r with
     | none=>exact a1U
     | some n=>exact S6 (hr _ _ _) fun _ _=>a9t k _ _ _) O5
omit hr in
theorem a9w {d:Int}:∀ (k:Nat) (acc:List Vr) (i:Nat),Ep (Y5 R d k acc i)
 | 0,_,_=>R3 a1U O5
 | k+1,_,_=>R3 (a5e fun _=>K8 (b3Y _) fun _ _=>R3 (J8 fun _=>a9w k _ _) a1U) O5
omit hr in
theorem b7H {d:Int} {ts:List Tok} {i:Nat}:Ep (a2N R d ts i):=
 R3 (K8 (a1s b4H) fun _ _=>a1V fun _=>J8 fun _=>O5) (J8 fun _=>b0s fun _=>S6 (a9w _ _ _) fun _ _=>b0s fun _=>O5)
omit hr in
theorem b0n {s:Sp} {ts:List Tok} {i:Nat}:Ep (b2S s ts i):=a1V fun _=>R3 (J8 fun _=>O5) a1U
theorem c2l {d:Int} {ts:List Tok} {i:Nat}:Ep (a3n R rec d ts i):=
 R3 (K8 (a0X _) fun _ _=>S6 b7H fun _ _=>O5)
   (R3 (K8 (a0X _) fun _ _=>K8 (c2J b6D) fun _ _=>J8 fun _=>S6 (hr _ _ _) fun _ _=>b0s fun _=>O5)
     (R3 (K8 (b0m _) fun _ _=>K8 (a0X _) fun _ _=>a1V fun _=>K8 (T0 _) fun _ _=>b0n)
       (R3 (K8 (b0m _) fun _ _=>K8 (a1s a0X) fun _ _=>R3 (K8 (a4f _) fun _ _=>b0n) b0n) O5)))
theorem b02 {k:Int} {d:Int} {ts:List Tok} {i:Nat}:Ep (a1n R rec k d ts i):=
 K8 (b8m _) fun _ _=>J8 fun _=>R3 (S6 (hr _ _ _) fun _ _=>O5) (S6 (b1l hr _ _ _) fun _ _=>O5)
theorem a60 {k:Int} {row:List Tok→E Gu} (hw:∀ ts,Er (row ts)) {d:Int} {ts:List Tok} {i:Nat}:Ep (X5 R rec k row d ts i):=
 K8 (b8m _) fun _ _=>J8 fun _=>S6 (a3Z hr hw _ _ _) fun _ _=>O5
theorem b04 {d:Int} {ts:List Tok} {i:Nat}:Ep (a1a R rec d ts i):=
 R3 (K8 (a0X _) fun _ _=>K8 (c2J T0) fun _ _=>J8 fun _=>O5)
   (K8 (a1s a4f) fun _ _=>R3 (K8 (a1s T0) fun _ _=>J8 fun _=>O5) (R3 a1U (R3 (K8 (a1s T0) fun _ _=>J8 fun _=>O5)
     (a1V fun _=>R3 (J8 fun _=>S6 (a3Z hr c3v _ _ _) fun _ _=>O5) (R3 (K8 (T0 _) fun _ _=>J8 fun _=>O5) (K8 (a1s a4f) fun _ _=>J8 fun _=>O5))))))
theorem c1T {s:B} {f:Int→List Tok→Nat→PE Pr} (h:a1S R rec s=some f) (d:Int) (ts:List Tok) (i:Nat):Ep (f d ts i):=by
 unfold a1S at h
 split at h
 · cases h;exact J8 fun _=>O5
 split at h
 · cases h;exact J8 fun _=>O5
 split at h
 · cases h;exact b02 hr
 split at h
 · cases h;exact b02 hr
 split at h
 · cases h;exact R3 (J8 fun _=>S6 (hr _ _ _) fun _ _=>S6 (hr _ _ _) fun _ _=>O5) (a1V fun _=>a60 hr b8X)
 split at h
 · cases h;exact a60 hr b8X
 split at h
 · cases h;exact a60 hr c4i
 split at h
 · cases h;exact K8 (T0 _) fun _ _=>J8 fun _=>S6 (a3Z hr c3Y _ _ _) fun _ _=>O5
 split at h
 · cases h;exact K8 (T0 _) fun _ _=>J8 fun _=>S6 (hr _ _ _) fun _ _=>O5
 split at h
 · cases h;exact a1V fun _=>J8 fun _=>S6 (a9t hr _ _ _ _) fun _ _=>O5
 · cases h
theorem c1t {d:Int} {top:Bool} {ts:List Tok} {i:Nat}:Ep (a3G R rec d top ts i):=by
 cases ts with
 | nil=>exact a1U
 | cons t r=>
   unfold a3G
   cases hw:a1S R rec t.text with
   | none=>simp only[hw];exact b04 hr
   | some f=>simp only[hw];exact R3 (c1T hr hw _ _ _) (b04 hr)
theorem c0K {d:Int} {top:Bool} {i:Nat}:Ep (b2W R rec d top i):=a5e fun _=>S6 (c2l hr) fun so _=>by
 cases so with
 | none=>exact c1t hr
 | some s=>exact S6 (hr _ _ _) fun _ _=>O5
omit hr in
theorem a7v:∀ (n:Nat) (d:Int) (t:Bool) (i:Nat),Ep (C0 R n d t i)
 | 0,_,_,_=>a1U
 | n+1,_,_,_=>c0K (a7v n)
omit hr in
theorem c4c:Ep (a6V R):=S6 (a7v _ _ _ _) fun _ i=>by
 cases R[i]? with
 | none=>exact O5
 | some y=>
   show Ep (.error (if (Go.Lx.lexO y.text).2.2≠0 then (Go.Lx.lexO y.text).2.2 else 110,i))
   intro e j h
   cases h
   split
   · assumption
   · decide
end Go.Sx
end
section
namespace Go.Sx
open Go.Eng Go.Pc Go
open Go.Xp hiding B
open Go.Ty (Ty Vr Tok)
open Go.Ly (Rw)
def A2 (s:B):Tok:=if Go.Lx.key s then ⟨2,0,s,0⟩ else ⟨5,0,s,0⟩
def O3 (s:B):Tok:=⟨1,0,s,0⟩
def K4 (t:Ty):List Tok:=(Go.Ty.tokens t).1
def a0G (k:Int):List Tok:=K4 ⟨k,0,0,[]⟩
def D3 {α:Type} (sep:B) (f:α→List Tok):List α→List Tok
 | []=>[]
 | [x]=>f x
 | x::y::r=>f x++⟨5,0,sep,0⟩::D3 sep f (y::r)
theorem a1u {α:Type} (sep:B) (f:α→List Tok):∀ (l:List α) (x:α),l≠[]→D3 sep f (l++[x])=D3 sep f l++(⟨5,0,sep,0⟩::f x)
 | [],_,h=>absurd rfl h
 | [y],x,_=>rfl
 | y::z::r,x,_=>by
   show f y++⟨5,0,sep,0⟩::D3 sep f (z::r++[x])=(f y++⟨5,0,sep,0⟩::D3 sep f (z::r))++(⟨5,0,sep,0⟩::f x)
   rw[a1u sep f (z::r) x (by simp)]
   simp
def a2d (s:B) (l:List Tok):List Tok:=if l.length=0 then [] else A2 s::l
def a0V (r:Rp):List Tok:=if r.name=[] then [] else ((([O3 r.name]++[A2 [61]])++E7 r.base)++[A2 [70,79,82]])++E7 r.count
def Q0 (f:Fo):List Tok:=((if f.val then [A2 [86,65,76]] else [])++K4 f.ty)++[O3 f.name]
abbrev Ln:=Int × List Tok
def B0 (k:Int) (n:B) (ch:Ex) (tg ex:List Ex) (rep:Rp):List Tok:=
 if k=1 then [A2 [83,75,73,80]]
 else if k=2 then [A2 [83,84,79,80]]
 else if k=3 then (D3 [44] E7 tg++[A2 [58,61]])++D3 [44] E7 ex
 else if k=4 then (E7 ch++[A2 [63]])++D3 [59] E7 tg
 else if k=5 then (E7 ch++[A2 [33]])++D3 [59] E7 ex
 else if k=6 then (E7 ch++[A2 [63],A2 [65,70,84,69,82]])++D3 [] E7 ex
 else if k=7 then E7 ch++[A2 [63],A2 [67,65,83,69]]
 else if k=8 then [A2 [83,69,81]]++a0V rep
 else if k=9 then [A2 [80,65,82]]++a0V rep
 else if k=10 then [A2 [80,82,73],A2 [80,65,82]]
 else if k=11 then [A2 [80,76,65,67,69,68],A2 [80,65,82]]
 else if k=12 then [A2 [65,76,84]]++a0V rep
 else if k=13 then [A2 [80,82,73],A2 [65,76,84]]++a0V rep
 else if k=14 then [A2 [73,70]]++a0V rep
 else if k=15 then [A2 [67,65,83,69]]++D3 [] E7 ex
 else if k=16 then [A2 [87,72,73,76,69]]++D3 [] E7 ex
 else (([O3 n]++[A2 [40]])++D3 [44] E7 ex)++[A2 [41]]
def a0i (c:Ex):List Tok:=if Z7 c then [] else E7 c++[⟨5,0,[38],0⟩]
def H6 (k:Int) (n:B) (cond ch:Ex) (tg vl:List Ex) (time:Ex):List Tok:=
 if k=1 then E7 cond
 else if k=2 then a0i cond++[A2 [83,75,73,80]]
 else if k=3 then ((a0i cond++E7 ch)++[A2 [63]])++D3 [59] E7 tg
 else if k=4 then ((a0i cond++E7 ch)++[A2 [63],A2 [65,70,84,69,82]])++E7 time
 else if k=5 then D3 [44] E7 vl
 else if k=6 then [A2 [69,76,83,69]]
 else [O3 n]++a2d [59] (D3 [59] E7 tg)
def J0 (l:List B):List Tok:=D3 [44] (fun s=>[O3 s]) l
def J7 (v:Vr):List Tok:=[O3 v.tag]++a2d [59] (D3 [59] a0G v.items)
mutual
def H5:Pr→Int→List Ln
 | .mk k n ch tg ex rep _ _ gl _ _ ll pn sp,d=>if k=18 then K3 sp d++a1K ll d else (d,B0 k n ch tg.l ex.l rep)::(F6 k pn.l ll d++J9 gl (d+1))
def a1K:List Pr→Int→List Ln
 | [],_=>[]
 | x::_,d=>H5 x d
def F6 (k:Int):List Int→List Pr→Int→List Ln
 | _,[],_=>[]
 | ns,x::r,d=>(if k=11 then (d+1,[A2 [80,82,79,67,69,83,83,79,82],⟨3,0,[],IntKind.i32.wrap (ns.headD 0)⟩])::H5 x (d+2) else H5 x (d+1))++F6 k ns.tail r d
def Y1:Gu→Int→List Ln
 | .mk k n cond ch tg vl time _ _ bl,d=>(d,H6 k n cond ch tg.l vl.l time)::a1K bl (d+1)
def J9:List Gu→Int→List Ln
 | [],_=>[]
 | g::r,d=>Y1 g d++J9 r d
def K3:Sp→Int→List Ln
 | .mk k ty ns e cs vs fs _ _ bl,d=>
   if k=1 then [(d,(K4 ty++J0 ns.l)++[A2 [58]])]
   else if k=2 then [(d,(((([A2 [86,65,76]]++K4 ty)++J0 ns.l)++[A2 [73,83]])++E7 e)++[A2 [58]])]
   else if k=3 then [(d,(((K4 ty++J0 ns.l)++[A2 [73,83]])++E7 e)++[A2 [58]])]
   else if k=5 then (d,((([A2 [80,82,79,67]]++J0 ns.l)++[A2 [40]])++D3 [44] Q0 fs.l)++[A2 [41]])::(a1K bl (d+1)++[(d,[A2 [58]])])
   else if cs=false then [(d,((([A2 [80,82,79,84,79,67,79,76]]++J0 ns.l)++[A2 [73,83]])++D3 [59] a0G (Go.Ty.hdV vs.l).items)++[A2 [58]])]
   else (d,[A2 [80,82,79,84,79,67,79,76]]++J0 ns.l)::(d+1,[A2 [67,65,83,69]])::(vs.l.map (fun v=>((d+2,J7 v):Ln))++[(d,[A2 [58]])])
end
abbrev Ps:=List Rw × Bool
def C5 (st:Ps) (x:Ln):Ps:=if (Go.Lx.textO x.2).2≠0∨st.1.length > 2048 then (st.1,true) else (st.1++[⟨st.1.length+1,x.1,(Go.Lx.textO x.2).1⟩],st.2)
def B8 (st:Ps) (l:List Ln):Ps:=l.foldl C5 st
theorem Z0 (st:Ps) (a b:List Ln):B8 st (a++b)=B8 (B8 st a) b:=List.foldl_append
theorem X7 (st:Ps) (x:Ln) (b:List Ln):B8 st (x::b)=B8 (C5 st x) b:=rfl
def M8 (p:Pr):List Rw × Int:=if mayP p then (if (B8 ([],false) (H5 p 0)).2||!Go.Ly.mayP (B8 ([],false) (H5 p 0)).1 then ([],3) else ((B8 ([],false) (H5 p 0)).1,0)) else ([],2)
end Go.Sx
end
section
namespace Go.Eng
open Go Go.RowKit
section
variable {P:Program} {ops:Array Oper} {Q:Exit→Act→World→Prop} {n:Cx} {F:Fm} {h h':List Res} {m:View} {rest:List Oper}
variable {ty:TypeId} {pos:String} {after:Array Edge} {d:Nat}
theorem b7D {x y:Operand} {t tn e:TypeId} {sz by_ q:Nat} {kn kq:IntKind} {j:Int} (E:EL P t e sz by_) (htn:P.underlying tn=some (.int kn)) (ex:Ev n F x (.slice none 0 0)) (ey:Ev n F y (.int kq j)) (hj:j=(q:Int)) (h0:0 < q) (hb:q * by_≤140737488355328) (h63:q≤4611686018427387904) (hd:d < n.num)
   (kk:∀ b cap,q≤cap→cap≤9223372036854775807→WL P ops Q n rest ((d,.slice (some ⟨b,0,none⟩) q cap)::F) (.row (.slice (some ⟨b,0,none⟩) 0 cap) e sz 0 []::h) m) :
   WL P ops Q n (⟨some d,.call ⟨.builtin .append,#[x,y],#[t,tn]⟩,ty,pos,after,none⟩::rest) F h m:=.mk fun f w hf hs=>by
 subst hj
 obtain⟨i,z,ht,hi,hz,hsize,hby,hzs,hsz⟩:=E.ex
 subst hsize hby
 have hr:=Lib.run_append_grow_zeros (P:=P) w t tn ty e i z kq kn ht htn hi hz none 0 0 [] (run_firstCells_none w.drew i.size 0 0 0) q h0 hsz (by omega) (by omega) (by omega) (growslice_fits (by omega) (by rw[Nat.zero_add];exact hb))
 simp only[Nat.zero_add] at hr
 have hge:=grownCap_ge w q 0 e
 have hcm:grownCap w q 0 e≤maxLen:=grownCap_le_maxLen w q 0 e (by unfold maxLen;omega)
 refine E6 rfl (L4 (v:=.slice (some ⟨w.heap.size,0,none⟩) q (grownCap w q 0 e)) (w':=w.drew.alloc (.cells (([]:List Value).toArray++Builtin.zeroCells z.cells q++Builtin.zeroCells z.cells (grownCap w q 0 e - q)) e)) ?_ (kk w.heap.size (grownCap w q 0 e) hge (by unfold maxLen at hcm;omega) _ _ (hf.put hd _) ?_))
 · simp at hr
   simp[execOp,resolve,invoke,builtin,ex f hf,ey f hf,hr]
 · refine(hs.drew.alloc (.cells (([]:List Value).toArray++Builtin.zeroCells z.cells q++Builtin.zeroCells z.cells (grownCap w q 0 e - q)) e)).conv (r':=.row (.slice (some ⟨w.heap.size,0,none⟩) 0 (grownCap w q 0 e)) e i.size 0 []) Upd.here rfl fun hh=>?_
   have:=a02 (sz:=i.size) (n:=0) (cap:=grownCap w q 0 e) hh (Nat.zero_le _) hcm (by
     simp only[Array.size_append,List.size_toArray,size_zeroCells,hzs,List.length_nil,Nat.zero_add,← Nat.add_mul]
     congr 1
     omega)
   rw[Nat.zero_mul,List.take_zero] at this
   exact this
theorem b2h {x:Operand} {t:TypeId} {e:TypeId} {a:Option Addr} {l c:Nat} {dst:Option Tmp} {g:Option (Nat × Bool)} (ht:P.underlying t=some (.slice e)) (ex:Ev n F x (.slice a l c)) :
   PO P ⟨dst,.call ⟨.builtin .cap,#[x],#[t]⟩,ty,pos,after,g⟩ n F h m (.int .i64 c):=.mk fun b w ha _=>by
 simp[execOp,resolve,invoke,builtin,ex b ha,Builtin.cap_,run_underlying ht,goInt]
end
end Go.Eng
end
section
namespace Go.Sx
open Go.Eng Go.Pc Go
open Go.Xp hiding B D9
open Go.Ty (Ty Vr Tok)
theorem a7z (p:Pr):(stP p).k=p.k∧(stP p).name=p.name∧(stP p).ch=C1 p.ch∧(stP p).tg.l=p.tg.l.map C1∧(stP p).ex.l=p.ex.l.map C1∧(stP p).rep=stR p.rep∧(stP p).gl=p.gl.map stG∧(stP p).ll=p.ll.map stP∧(stP p).pn.l=p.pn.l∧(stP p).sp=stS p.sp:=by
 cases p
 refine⟨rfl,rfl,rfl,rfl,rfl,rfl,?_,?_,rfl,rfl⟩
 · exact a8a _
 · exact a3k _
theorem b1R (g:Gu):(stG g).k=g.k∧(stG g).name=g.name∧(stG g).cond=C1 g.cond∧(stG g).ch=C1 g.ch∧(stG g).tg.l=g.tg.l.map C1∧(stG g).vl.l=g.vl.l.map C1∧(stG g).time=C1 g.time∧(stG g).bl=g.bl.map stP:=by
 cases g
 exact⟨rfl,rfl,rfl,rfl,rfl,rfl,rfl,a3k _⟩
theorem b5e (s:Sp):(stS s).k=s.k∧(stS s).ty=s.ty∧(stS s).names.l=s.names.l∧(stS s).e=C1 s.e∧(stS s).cs=s.cs∧(stS s).vs.l=s.vs.l.map W4∧(stS s).fs.l=s.fs.l∧(stS s).bl=s.bl.map stP:=by
 rw[S7]
 exact⟨rfl,rfl,rfl,rfl,rfl,rfl,rfl,rfl⟩
theorem c5H (g:Gu):guP (stG g)=guP g:=by
 obtain⟨h1,h2,h3,h4,h5,h6,h7,h8⟩:=b1R g
 unfold guP a7J
 rw[h1,h2,h3,h4,h5,h6,h7,h8,List.length_map,a2S,a2S,a2S,Q9,Q9,Y8,a3i _ C1 _ _ O1 O1 Y8,a3i _ C1 _ _ M4 M4 Q9]
theorem c5w (u:Us) (g:Gu):inG u (stG g)=inG u g:=by
 unfold inG
 rw[c5H,(b1R g).1]
theorem c5M:stS D2=D2:=by
 rw[S7]
 have:C1 A3=A3:=by rw[W9];rfl
 show spM 0 Go.Ty.zeroT [] (C1 A3) false [] [] []=D2
 rw[this]
 rfl
theorem a9s (p:Pr) (u:Us):W2 (stP p) u=W2 p u:=by
 obtain⟨h1,h2,h3,h4,h5,h6,h7,h8,h9,h10⟩:=a7z p
 unfold W2
 rw[h2,h3,h4,h5,h7,h8,h9,h10,List.length_map,a2S,Y8,a3i _ C1 _ _ O1 O1 Y8,a3i _ C1 _ _ M4 M4 Q9,a3i _ stG _ _ (inG u) (inG u) (c5w u),c2L]
 have:a0g (stS p.sp) D2=a0g p.sp D2:=by
   have:=b09 p.sp D2
   rwa [c5M] at this
 rw[this]
theorem b9t (p:Pr):M1 (stP p)=M1 p:=by
 obtain⟨h1,h2,h3,h4,h5,h6,h7,h8,h9,h10⟩:=a7z p
 unfold M1
 have hr:a5A (stP p).rep=a5A p.rep:=by
   rw[h6]
   unfold a5A stR
   show(if p.rep.name==[] then Z7 (C1 p.rep.base)&&Z7 (C1 p.rep.count) else Go.Lx.name p.rep.name&&M4 (C1 p.rep.base)&&M4 (C1 p.rep.count))=_
   rw[a2S,a2S,Q9,Q9]
 have hn:(stP p).rep.name=p.rep.name:=by rw[h6];rfl
 rw[h1,hr,hn,a9s,a9s]
theorem c0y (p:Pr) (d:Int) (pl:Bool) (q:Int):X6 (stP p) d pl q=X6 p d pl q:=by
 unfold X6
 rw[b9t,(a7z p).1]
abbrev b2N (p:Pr):Prop:=∀ d pl q,H1 (stP p) d pl q=H1 p d pl q
theorem b5y {d:Int} {pl:Bool}:∀ {l:List Pr} {q:Int},(∀ x ∈ l,b2N x)→R7 (l.map stP) d pl q=R7 l d pl q
 | [],_,_=>rfl
 | x::r,q,h=>by
   have h1:=h x (List.Mem.head _) d pl q
   show(if (H1 (stP x) d pl q).1 then R7 (r.map stP) d pl (H1 (stP x) d pl q).2 else H1 (stP x) d pl q)=(if (H1 x d pl q).1 then R7 r d pl (H1 x d pl q).2 else H1 x d pl q)
   rw[h1,b5y fun y hy=>h y (List.Mem.tail _ hy)]
theorem b5r {d:Int} {l:List Pr} {q:Int} (h:∀ x ∈ l,b2N x):a4x (l.map stP) d q=a4x l d q:=by
 cases l with
 | nil=>rfl
 | cons x r=>exact h x (List.Mem.head _) d false q
theorem b5t {d:Int}:∀ {l:List Gu} {q:Int},(∀ g ∈ l,∀ x ∈ g.bl,b2N x)→a2j (l.map stG) d q=a2j l d q
 | [],_,_=>rfl
 | g::r,q,h=>by
   have h1:a1w (stG g) d q=a1w g d q:=by
     rw[a5G,a5G,(b1R g).2.2.2.2.2.2.2]
     exact b5r (h g (List.Mem.head _))
   show(if (a1w (stG g) d q).1 then a2j (r.map stG) d (a1w (stG g) d q).2 else a1w (stG g) d q)=(if (a1w g d q).1 then a2j r d (a1w g d q).2 else a1w g d q)
   rw[h1,b5t fun y hy=>h y (List.Mem.tail _ hy)]
theorem c2e (p:Pr):b2N p:=by
 refine Pr.ind (q:=b2N) (fun p ih d pl q=>?_) p
 obtain⟨h1,h2,h3,h4,h5,h6,h7,h8,h9,h10⟩:=a7z p
 have hs:∀ a b,a0h (stS p.sp) a b=a0h p.sp a b:=fun a b=>by
   rw[a7c,a7c,(b5e p.sp).2.2.2.2.1,(b5e p.sp).2.2.2.2.2.2.2,b5r fun x hx=>ih x (.s hx)]
 have hl:∀ a b c,R7 (p.ll.map stP) a b c=R7 p.ll a b c:=fun a b c=>b5y fun x hx=>ih x (.l hx)
 have hg:∀ a b,a2j (p.gl.map stG) a b=a2j p.gl a b:=fun a b=>b5t fun g hg x hx=>ih x (.g hg hx)
 rw[a2J (stP p),a2J p,c0y,h1,h7,h8,h10,hs,hl,hl,hg,hg]
theorem b4D (p:Pr):mayP (stP p)=mayP p:=by unfold mayP;rw[c2e]
theorem a9I {α β:Type} (sep:B) (f:β→List Tok) (g:α→β) (e:α→List Tok) (h:∀ x,f (g x)=e x):∀ l:List α,D3 sep f (l.map g)=D3 sep e l
 | []=>rfl
 | [x]=>h x
 | x::y::r=>by
   show f (g x)++⟨5,0,sep,0⟩::D3 sep f ((y::r).map g)=e x++⟨5,0,sep,0⟩::D3 sep e (y::r)
   rw[h,a9I sep f g e h (y::r)]
theorem a1F (sep:B) (l:List Ex):D3 sep E7 (l.map C1)=D3 sep E7 l:=a9I sep E7 C1 E7 V0 l
theorem c3k (r:Rp):a0V (stR r)=a0V r:=by
 unfold a0V stR
 show(if r.name=[] then [] else ((([O3 r.name]++[A2 [61]])++E7 (C1 r.base))++[A2 [70,79,82]])++E7 (C1 r.count))=_
 rw[V0,V0]
theorem c1a (e:Ex):a0i (C1 e)=a0i e:=by
 unfold a0i
 rw[a2S,V0]
abbrev a8D (p:Pr):Prop:=∀ d,H5 (stP p) d=H5 p d
theorem a9q {k d:Int}:∀ {l:List Pr} {ns:List Int},(∀ x ∈ l,a8D x)→F6 k ns (l.map stP) d=F6 k ns l d
 | [],ns,_=>by cases ns <;> rfl
 | x::r,ns,h=>by
   have h1:=h x (List.Mem.head _)
   show(if k=11 then _::H5 (stP x) (d+2) else H5 (stP x) (d+1))++F6 k ns.tail (r.map stP) d=_
   rw[h1,h1,a9q fun y hy=>h y (List.Mem.tail _ hy)]
   rfl
theorem a5W {d:Int} {l:List Pr} (h:∀ x ∈ l,a8D x):a1K (l.map stP) d=a1K l d:=by
 cases l with
 | nil=>rfl
 | cons x r=>exact h x (List.Mem.head _) d
theorem b1q (g:Gu) (d:Int):Y1 g d=(d,H6 g.k g.name g.cond g.ch g.tg.l g.vl.l g.time)::a1K g.bl (d+1):=by cases g;rfl
theorem b6P {d:Int} {g:Gu} (h:∀ x ∈ g.bl,a8D x):Y1 (stG g) d=Y1 g d:=by
 obtain⟨h1,h2,h3,h4,h5,h6,h7,h8⟩:=b1R g
 rw[b1q,b1q,h1,h2,h3,h4,h5,h6,h7,h8,a5W h]
 unfold H6
 rw[V0,V0,V0,c1a,a1F,a1F]
theorem a8q {d:Int}:∀ {l:List Gu},(∀ g ∈ l,∀ x ∈ g.bl,a8D x)→J9 (l.map stG) d=J9 l d
 | [],_=>rfl
 | g::r,h=>by
   show Y1 (stG g) d++J9 (r.map stG) d=Y1 g d++J9 r d
   rw[b6P (h g (List.Mem.head _)),a8q fun y hy=>h y (List.Mem.tail _ hy)]
theorem b2j (s:Sp) (d:Int):K3 s d=if s.k=1 then [(d,(K4 s.ty++J0 s.names.l)++[A2 [58]])]
   else if s.k=2 then [(d,(((([A2 [86,65,76]]++K4 s.ty)++J0 s.names.l)++[A2 [73,83]])++E7 s.e)++[A2 [58]])]
   else if s.k=3 then [(d,(((K4 s.ty++J0 s.names.l)++[A2 [73,83]])++E7 s.e)++[A2 [58]])]
   else if s.k=5 then (d,((([A2 [80,82,79,67]]++J0 s.names.l)++[A2 [40]])++D3 [44] Q0 s.fs.l)++[A2 [41]])::(a1K s.bl (d+1)++[(d,[A2 [58]])])
   else if s.cs=false then [(d,((([A2 [80,82,79,84,79,67,79,76]]++J0 s.names.l)++[A2 [73,83]])++D3 [59] a0G (Go.Ty.hdV s.vs.l).items)++[A2 [58]])]
   else (d,[A2 [80,82,79,84,79,67,79,76]]++J0 s.names.l)::(d+1,[A2 [67,65,83,69]])::(s.vs.l.map (fun v=>((d+2,J7 v):Ln))++[(d,[A2 [58]])]):=by cases s;rfl
theorem b5Y {d:Int} {s:Sp} (h:∀ x ∈ s.bl,a8D x):K3 (stS s) d=K3 s d:=by
 obtain⟨h1,h2,h3,h4,h5,h6,h7,h8⟩:=b5e s
 have hv:(Go.Ty.hdV (s.vs.l.map W4)).items=(Go.Ty.hdV s.vs.l).items:=by cases s.vs.l <;> rfl
 rw[b2j,b2j,h1,h2,h3,h4,h5,h6,h7,h8,a5W h,V0,hv,List.map_map]
 rfl
theorem b2K (p:Pr) (d:Int):H5 p d=if p.k=18 then K3 p.sp d++a1K p.ll d else (d,B0 p.k p.name p.ch p.tg.l p.ex.l p.rep)::(F6 p.k p.pn.l p.ll d++J9 p.gl (d+1)):=by cases p;rfl
theorem b8G (p:Pr):a8D p:=by
 refine Pr.ind (q:=a8D) (fun p ih d=>?_) p
 obtain⟨h1,h2,h3,h4,h5,h6,h7,h8,h9,h10⟩:=a7z p
 have hf:B0 p.k p.name (C1 p.ch) (p.tg.l.map C1) (p.ex.l.map C1) (stR p.rep)=B0 p.k p.name p.ch p.tg.l p.ex.l p.rep:=by
   unfold B0
   rw[V0,a1F,a1F,a1F,a1F,a1F,c3k]
 rw[b2K,b2K,h1,h2,h3,h4,h5,h6,h7,h8,h9,h10,hf,b5Y fun x hx=>ih x (.s hx),a5W fun x hx=>ih x (.l hx),a9q fun x hx=>ih x (.l hx),a8q fun g hg x hx=>ih x (.g hg hx)]
theorem b1U (p:Pr):M8 (stP p)=M8 p:=by
 unfold M8
 rw[b4D,b8G]
def L8 (s:B):List B:=Lib.splitK [47] 0 (Lib.count s [47]) s
def a5v (i:Nat) (x:B):Go.Ly.Rw:=⟨(i:Int)+1,(x.length:Int) - ((Lib.trimLeftB x 46).length:Int),Lib.trimLeftB x 46⟩
def a5P:Nat→List B→List Go.Ly.Rw
 | _,[]=>[]
 | i,x::l=>a5v i x::a5P (i+1) l
theorem a8e:∀ {i j:Nat} {l:List B} {x:B},l[j]?=some x→a5P i (l.take (j+1))=a5P i (l.take j)++[a5v (i+j) x]
 | _,_,[],_,h=>by cases h
 | i,0,y::l,x,h=>by cases h;rfl
 | i,j+1,y::l,x,h=>by
   have ih:=a8e (i:=i+1) (j:=j) (l:=l) (x:=x) (by simpa using h)
   show a5v i y::a5P (i+1) (l.take (j+1))=a5v i y::(a5P (i+1) (l.take j)++[a5v (i+(j+1)) x])
   rw[ih,show i+1+j=i+(j+1) by omega]
def Z2 (s:B):List Go.Ly.Rw:=a5P 0 (L8 s)
def a2Q (s:B) (k:Int):Bool:=(((((K6 (Z2 s)).1.k==k)&&(((K6 (Z2 s)).2.1:Int)==0))&&((K6 (Z2 s)).2.2==0))&&((M8 (K6 (Z2 s)).1).2==0))&&eqL Go.Ly.eqR (M8 (K6 (Z2 s)).1).1 (Z2 s)
end Go.Sx
end
section
namespace Go.Pc
open Go.Eng Go.Xp Go
open Go.Ty (Ty Vr)
def a3O (r s:Rp):Bool:=((r.name==s.name)&&F2 r.base s.base)&&F2 r.count s.count
def a0v (c:Bool) (l:List Vr) (d:Bool) (s:List Vr):Bool:=(c==d)&&eqL R6 l s
mutual
def J6:Pr→Pr→Bool
 | .mk k nm ch tg ex rp _ _ gl _ _ ll pn sp=>fun q=>eqL (fun a b:Int=>a==b) pn.l q.pn.l&&((((((((((k==q.k)&&(nm==q.name))&&a3O rp q.rep)&&F2 ch q.ch)&&eqL F2 tg.l q.tg.l)&&eqL F2 ex.l q.ex.l)&&b0c gl q.gl)&&a0z ll q.ll)&&a2i sp q.sp))
def a0z:List Pr→List Pr→Bool
 | []=>fun s=>match s with
   | []=>true
   | _::_=>false
 | x::r=>fun s=>match s with
   | []=>false
   | y::t=>J6 x y&&a0z r t
def W5:Gu→Gu→Bool
 | .mk k nm c ch tg vl tm _ _ bl=>fun g=>(((((((k==g.k)&&(nm==g.name))&&F2 c g.cond)&&F2 ch g.ch)&&F2 tm g.time)&&eqL F2 tg.l g.tg.l)&&eqL F2 vl.l g.vl.l)&&a0z bl g.bl
def b0c:List Gu→List Gu→Bool
 | []=>fun s=>match s with
   | []=>true
   | _::_=>false
 | x::r=>fun s=>match s with
   | []=>false
   | y::t=>W5 x y&&b0c r t
def a2i:Sp→Sp→Bool
 | .mk k ty nms e cs vs fs _ _ bl=>fun s=>((((k==s.k)&&Go.Ty.eqT ty s.ty)&&eqL a0U fs.l s.fs.l))&&(((eqL (fun a b:B=>a==b) nms.l s.names.l&&F2 e s.e)&&a0v cs vs.l s.cs s.vs.l)&&a0z bl s.bl)
end
theorem a1I:∀ l s:List Pr,a0z l s=eqL J6 l s
 | [],[]=>rfl
 | x::r,y::s=>by show(J6 x y&&a0z r s)=(J6 x y&&eqL J6 r s);rw[a1I r s]
 | [],_::_=>rfl
 | _::_,[]=>rfl
theorem a5T:∀ l s:List Gu,b0c l s=eqL W5 l s
 | [],[]=>rfl
 | x::r,y::s=>by show(W5 x y&&b0c r s)=(W5 x y&&eqL W5 r s);rw[a5T r s]
 | [],_::_=>rfl
 | _::_,[]=>rfl
theorem a5r (p q:Pr):J6 p q=(eqL (fun a b:Int=>a==b) p.pn.l q.pn.l&&((((((((((p.k==q.k)&&(p.name==q.name))&&a3O p.rep q.rep)&&F2 p.ch q.ch)&&eqL F2 p.tg.l q.tg.l)&&eqL F2 p.ex.l q.ex.l)&&eqL W5 p.gl q.gl)&&eqL J6 p.ll q.ll)&&a2i p.sp q.sp))):=by
 rw[← a5T,← a1I]
 cases p
 rfl
theorem a5d (p g:Gu):W5 p g=((((((((p.k==g.k)&&(p.name==g.name))&&F2 p.cond g.cond)&&F2 p.ch g.ch)&&F2 p.time g.time)&&eqL F2 p.tg.l g.tg.l)&&eqL F2 p.vl.l g.vl.l)&&eqL J6 p.bl g.bl):=by
 rw[← a1I]
 cases p
 rfl
theorem a3K (p s:Sp):a2i p s=(((((p.k==s.k)&&Go.Ty.eqT p.ty s.ty)&&eqL a0U p.fs.l s.fs.l))&&(((eqL (fun a b:B=>a==b) p.names.l s.names.l&&F2 p.e s.e)&&a0v p.cs p.vs.l s.cs s.vs.l)&&eqL J6 p.bl s.bl)):=by
 rw[← a1I]
 cases p
 rfl
theorem b6N {x y:Sp} (h:(((x.k != y.k)||!(Go.Ty.eqT x.ty y.ty))||((x.fs.l.length:Int) != (y.fs.l.length:Int)))=true):a2i x y=false:=by
 rw[a3K]
 simp only[Bool.or_eq_true,bne_iff_ne,Bool.not_eq_true'] at h
 rcases h with (h | h) | h
 · have:(x.k==y.k)=false:=by simpa using h
   simp[this]
 · simp[h]
 · rw[Q4 a0U x.fs.l y.fs.l (by omega)]
   simp
theorem b4g {x y:Sp} (h:(((x.k != y.k)||!(Go.Ty.eqT x.ty y.ty))||((x.fs.l.length:Int) != (y.fs.l.length:Int)))=false) :
   x.fs.l.length=y.fs.l.length∧a2i x y=(eqL a0U x.fs.l y.fs.l&&(((eqL (fun a b:B=>a==b) x.names.l y.names.l&&F2 x.e y.e)&&a0v x.cs x.vs.l y.cs y.vs.l)&&eqL J6 x.bl y.bl)):=by
 rw[a3K]
 simp only[Bool.or_eq_false_iff,bne_eq_false_iff_eq,Bool.not_eq_false'] at h
 obtain⟨⟨h1,h2⟩,h3⟩:=h
 refine⟨by omega,?_⟩
 have h4:(x.k==y.k)=true:=by simpa using h1
 rw[h4,h2,Bool.true_and,Bool.true_and]
end Go.Pc
end
section
namespace Go.Eng
open Go Go.RowKit
section
variable {P:Program} {m m':View} {h h':List Res} {w w':World}
def Vw (m':View) (h':List Res) (m:View) (h:List Res):Prop:=∀ (a:Option Addr) (n cap sz:Nat) (xs:List Value),Rd m' h' a n cap sz xs→Rd m h a n cap sz xs
theorem b9A {m:View} {g:Nat} {cur:Array Value} {e:TypeId} {fz:Nat × Nat} {n cap sz:Nat} {xs:List Value} (hl:xs.length=n * sz) (h1:n≤cap) (h2:cap≤9223372036854775807) (ht:cur.toList.take (n * sz)=xs):Rd (m.add g (.cells cur e fz)) [] (some ⟨g,0,none⟩) n cap sz xs:=
 ⟨hl,h1,h2,fun w s j u hj=>by
   refine⟨g,0,rfl,?_⟩
   have hb:=s.blk g _ (View.add_blk m g (.cells cur e fz))
   rw[← ht,List.getElem?_take] at hj
   split at hj
   · simp[World.cell?,hb];simpa using hj
   · simp at hj⟩
theorem c01 {m:View} {g:Nat} {o:Obj} {h2:List Res}:Vw (m.add g o) h2 m (.pt g o::h2):=fun a n cap sz xs r=>
 ⟨r.len,r.le,r.mx,fun w s=>r.at_ w ⟨s.os,s.out,s.tape,fun b o' hb=>by
   unfold View.add at hb
   simp only at hb
   split at hb
   · rename_i e
     cases hb
     rw[e]
     exact s.ok _ (List.Mem.head _)
   · exact s.blk b o' hb,fun r hr=>s.ok r (List.Mem.tail _ hr),(List.pairwise_cons.1 s.nd).2,fun x hx b hb=>by
   unfold View.add
   simp only
   split
   · rename_i e
     exact((List.pairwise_cons.1 s.nd).1 x hx b (by rw[e];rfl) hb).elim
   · exact s.fr x (List.Mem.tail _ hx) b hb⟩⟩
theorem CT.lendRow {f:FuncId} {args:List Value} {a:Option Addr} {n cap sz:Nat} {e:TypeId} {xs:List Value} {R:View→Value→List Res→Prop} (he:∀ as w,(callFunc f as).run P w=.ok (.enter f as) w)
   (c:∀ m',m.le m'→Rd m' [] a n cap sz xs→CT P f args h m' (fun v _ h'=>R m' v h')) :
   CT P f args (.row (.slice a n cap) e sz n xs::h) m (fun v _ h'=>∃ m' hx h2,R m' v h2∧h'=hx++h2∧Vw m' h2 m (hx++h2)∧Rd m hx a n cap sz xs):=
 ⟨he,fun w s=>by
   have hrow:w.ownsRow 0 e sz (.slice a n cap) n xs:=s.ok _ (List.Mem.head _)
   obtain⟨k1,k2,k3⟩:=a8f hrow
   obtain⟨hl,hn | ⟨g,cp,cur,hv,_,hh,hnc,hcm,hsz,ht⟩⟩:=hrow
   · obtain⟨_,rfl⟩:=hn
     have hx0:xs=[]:=List.eq_nil_of_length_eq_zero (by simpa using k3)
     subst hx0
     have s2:St m h w:=⟨s.os,s.out,s.tape,s.blk,fun r hr=>s.ok r (List.Mem.tail _ hr),(List.pairwise_cons.1 s.nd).2,fun r hr=>s.fr r (List.Mem.tail _ hr)⟩
     have r0:∀ {q:View},Rd q [] a 0 cap sz []:=⟨k3,k1,k2,fun _ _ j u hj=>by cases hj⟩
     refine Calls.mono ((c m (View.le.refl m) r0).calls w s2) ?_
     rintro e' w' ⟨v,m2,h2,rfl,hle,s3,hR⟩
     exact⟨v,m2,h2,rfl,hle,s3,m,[],h2,hR,rfl,fun _ _ _ _ _ r=>r,r0⟩
   · simp only[Value.slice.injEq] at hv
     obtain⟨rfl,_,rfl⟩:=hv
     have hfp:(Res.row (.slice (some ⟨g,0,none⟩) n cap) e sz n xs).fp=some g:=rfl
     have hmg:m.blk g=none:=s.fr _ (List.Mem.head _) g hfp
     have s2:St (m.add g (.cells cur e (0,0))) h w:=⟨s.os,s.out,s.tape,fun b o' hb=>by
       unfold View.add at hb
       simp only at hb
       split at hb
       · rename_i e
         cases hb
         rw[e]
         exact hh
       · exact s.blk b o' hb,fun r hr=>s.ok r (List.Mem.tail _ hr),(List.pairwise_cons.1 s.nd).2,fun r hr b hb=>by
       unfold View.add
       simp only
       split
       · rename_i e
         exact((List.pairwise_cons.1 s.nd).1 r hr b (e ▸ hfp) hb).elim
       · exact s.fr r (List.Mem.tail _ hr) b hb⟩
     refine Calls.mono ((c _ (View.le_add hmg) (b9A k3 k1 k2 ht)).calls w s2) ?_
     rintro e' w' ⟨v,m2,h2,rfl,hle,s3,hR⟩
     have hml:=(View.le_add (o:=.cells cur e (0,0)) hmg).trans hle
     have hg2:m2.blk g=some (.cells cur e (0,0)):=hle.blk _ _ (View.add_blk m g _)
     refine⟨v,m,.pt g (.cells cur e (0,0))::h2,rfl,View.le.refl m,⟨s3.os.trans hml.os,s3.out.trans hml.out,s3.tape.trans hml.tape,fun b o hb=>s3.blk b o (hml.blk b o hb),fun r hr=>?_,?_,fun r hr b hb=>?_⟩,_,[.pt g (.cells cur e (0,0))],h2,hR,rfl,c01,?_⟩
     · rcases List.mem_cons.1 hr with rfl | hr
       · exact s3.blk g _ hg2
       · exact s3.ok r hr
     · refine List.pairwise_cons.2 ⟨fun r hr b h1 h3=>?_,s3.nd⟩
       cases h1
       have:=s3.fr r hr _ h3
       rw[hg2] at this
       cases this
     · rcases List.mem_cons.1 hr with rfl | hr
       · cases hb
         exact hmg
       · have h1:=s3.fr r hr b hb
         cases hm:m.blk b with
         | none=>rfl
         | some o=>
           rw[hml.blk b o hm] at h1
           cases h1
     · exact c01 _ _ _ _ _ (b9A k3 k1 k2 ht)⟩
end
end Go.Eng
end
section
namespace Go.Pc
open Go.Eng Go.Xp Go
open Go.Ty (Ty Vr)
set_option linter.unusedSimpArgs false
def a2m:Rp:=⟨[],A3,A3⟩
def b0R:Pr:=.mk 0 [] A3 B5 B5 a2m none 0 [] none 0 [] B5 D2
def c5Z (nm:B) (ch:Ex) (tg ex:Sli Ex) (pn:Sli Int) (sp:Sp):Pr:=.mk 0 nm ch tg ex a2m none 0 [] none 0 [] pn sp
end Go.Pc
end
section
namespace Go.Sx
open Go.Eng Go.Pc Go
open Go.Xp hiding B D9
open Go.Ty (Ty Vr Tok)
theorem a2n {α:Type} (q:α→α→Bool) (f:α→α):∀ (l r:List α),(∀ x ∈ l,∀ y,q (f x) y=q x y)→eqL q (l.map f) r=eqL q l r
 | [],[],_=>rfl
 | [],_::_,_=>rfl
 | _::_,[],_=>rfl
 | x::l,y::r,h=>by
   show(q (f x) y&&eqL q (l.map f) r)=(q x y&&eqL q l r)
   rw[h x (List.Mem.head _),a2n q f l r fun z hz=>h z (List.Mem.tail _ hz)]
theorem b4I (p q:Pr):J6 p q=(eqL (fun a b:Int=>a==b) p.pn.l q.pn.l&&((((((((((p.k==q.k)&&(p.name==q.name))&&a3O p.rep q.rep)&&F2 p.ch q.ch)&&eqL F2 p.tg.l q.tg.l)&&eqL F2 p.ex.l q.ex.l)&&eqL W5 p.gl q.gl)&&eqL J6 p.ll q.ll)&&a2i p.sp q.sp))):=by
 rw[← a5T,← a1I]
 cases p
 rfl
theorem b4X (p q:Gu):W5 p q=((((((((p.k==q.k)&&(p.name==q.name))&&F2 p.cond q.cond)&&F2 p.ch q.ch)&&F2 p.time q.time)&&eqL F2 p.tg.l q.tg.l)&&eqL F2 p.vl.l q.vl.l)&&eqL J6 p.bl q.bl):=by
 rw[← a1I]
 cases p
 rfl
theorem b4U (p q:Sp):a2i p q=(((((p.k==q.k)&&Go.Ty.eqT p.ty q.ty)&&eqL a0U p.fs.l q.fs.l))&&(((eqL (fun a b:B=>a==b) p.names.l q.names.l&&F2 p.e q.e)&&a0v p.cs p.vs.l q.cs q.vs.l)&&eqL J6 p.bl q.bl)):=by
 rw[← a1I]
 cases p
 rfl
theorem c1k (r s:Rp):a3O (stR r) s=a3O r s:=by
 unfold a3O
 show(((r.name==s.name)&&F2 (C1 r.base) s.base)&&F2 (C1 r.count) s.count)=_
 rw[a0u,a0u]
theorem a7e (p:Pr):∀ q,J6 (stP p) q=J6 p q:=by
 refine Pr.ind (q:=fun p=>∀ q,J6 (stP p) q=J6 p q) (fun p ih q=>?_) p
 obtain⟨h1,h2,h3,h4,h5,h6,h7,h8,h9,h10⟩:=a7z p
 have hs:a2i (stS p.sp) q.sp=a2i p.sp q.sp:=by
   obtain⟨s1,s2,s3,s4,s5,s6,s7,s8⟩:=b5e p.sp
   have hv:a0v p.sp.cs (p.sp.vs.l.map W4) q.sp.cs q.sp.vs.l=a0v p.sp.cs p.sp.vs.l q.sp.cs q.sp.vs.l:=by
     unfold a0v
     rw[a2n R6 W4 _ _ fun _ _ _=>rfl]
   rw[b4U,b4U,s1,s2,s3,s4,s5,s6,s7,s8,a0u,hv,a2n J6 stP _ _ fun x hx y=>ih x (.s hx) y]
 have hg:eqL W5 (p.gl.map stG) q.gl=eqL W5 p.gl q.gl:=by
   refine a2n W5 stG _ _ fun g hgm y=>?_
   obtain⟨g1,g2,g3,g4,g5,g6,g7,g8⟩:=b1R g
   rw[b4X,b4X,g1,g2,g3,g4,g5,g6,g7,g8,a0u,a0u,a0u,a2n F2 C1 _ _ (fun x _ y=>a0u x y),a2n F2 C1 _ _ (fun x _ y=>a0u x y),a2n J6 stP _ _ fun x hx y=>ih x (.g hgm hx) y]
 rw[b4I,b4I,h1,h2,h3,h4,h5,h6,h7,h8,h9,h10,hs,hg,a0u,c1k,a2n F2 C1 _ _ (fun x _ y=>a0u x y),a2n F2 C1 _ _ (fun x _ y=>a0u x y),a2n J6 stP _ _ fun x hx y=>ih x (.l hx) y]
def a2k (s:B) (n e:Int):Bool:=J6 (K6 (Z2 s)).1 b0R&&((((K6 (Z2 s)).2.1:Nat):Int)==n)&&((K6 (Z2 s)).2.2==e)
end Go.Sx
end
section
namespace Go.Pc
open Go.Eng Go.Xp Go
open Go.Ty (Ty Vr)
set_option linter.unusedSimpArgs false
end Go.Pc
end
section
namespace Go.Sx
open Go.Eng Go.Pc Go
open Go.Xp hiding B
open Go.Ty (Ty Vr Tok)
open Go.Ly (Rw)
def K0 (R:List Rw):List (Int × B):=R.map fun x=>(x.depth,x.text)
theorem a3I {R S:List Rw} (h:K0 R=K0 S):R.length=S.length:=by
 have:=congrArg List.length h
 simpa [K0] using this
theorem b1i {R S:List Rw} (h:K0 R=K0 S) (i:Nat):(R[i]?).map (fun x=>(x.depth,x.text))=(S[i]?).map (fun x=>(x.depth,x.text)):=by
 have:=congrArg (fun l:List (Int × B)=>l[i]?) h
 simpa [K0] using this
theorem a4j {R S:List Rw} (h:K0 R=K0 S):N6 R=N6 S:=by
 funext d i
 have:=b1i h i
 unfold N6
 cases hr:R[i]? <;> cases hs:S[i]? <;> simp[hr,hs] at this ⊢
 rw[this.1]
theorem b5I {R S:List Rw} (h:K0 R=K0 S):Y9 R=Y9 S:=by
 funext d i
 have:=b1i h i
 unfold Y9
 cases hr:R[i]? <;> cases hs:S[i]? <;> simp[hr,hs] at this ⊢
 rw[this.1,this.2]
theorem a1B {R S:List Rw} (h:K0 R=K0 S) {β:Type}:@a03 R β=@a03 S β:=by
 funext d i f
 unfold a03
 rw[b5I h]
theorem a7G {R S:List Rw} (h:K0 R=K0 S) {β:Type}:@a0Q R β=@a0Q S β:=by
 funext d k s i f
 unfold a0Q
 rw[a1B h]
section
variable {R S:List Rw}
theorem a5i (h:K0 R=K0 S) (rec:Int→Bool→Nat→PE Pr) (row:List Tok→E Gu) (least most:Nat) (d:Int):∀ (k:Nat) (acc:List Gu) (i:Nat),T7 R rec row least most d k acc i=T7 S rec row least most d k acc i
 | 0,_,_=>rfl
 | k+1,acc,i=>by
   unfold T7
   rw[a4j h,a1B h]
   simp only[a5i h rec row least most d k]
theorem a2I (h:K0 R=K0 S) (rec:Int→Bool→Nat→PE Pr):a07 R rec=a07 S rec:=by
 funext row least most d i
 unfold a07
 rw[a3I h,a5i h]
theorem a6G (h:K0 R=K0 S) (rec:Int→Bool→Nat→PE Pr) (d:Int):∀ (k:Nat) (acc:List Pr) (i:Nat),a0s R rec d k acc i=a0s S rec d k acc i
 | 0,_,_=>rfl
 | k+1,acc,i=>by
   unfold a0s
   rw[a4j h]
   simp only[a6G h rec d k]
theorem b2m (h:K0 R=K0 S) (rec:Int→Bool→Nat→PE Pr):a1n R rec=a1n S rec:=by
 funext k d ts i
 unfold a1n
 simp only[a3I h,a6G h]
theorem a5F (h:K0 R=K0 S) (rec:Int→Bool→Nat→PE Pr):X5 R rec=X5 S rec:=by
 funext k row d ts i
 unfold X5
 rw[a2I h]
theorem b5R (h:K0 R=K0 S) (rec:Int→Bool→Nat→PE Pr):b6G R rec=b6G S rec:=by
 funext d ts i
 unfold b6G
 rw[a5F h]
theorem b6g (h:K0 R=K0 S) (rec:Int→Bool→Nat→PE Pr):b7k R rec=b7k S rec:=by
 funext d ts i
 unfold b7k
 rw[a2I h]
theorem a5g (h:K0 R=K0 S) (rec:Int→Bool→Nat→PE Pr) (d:Int):∀ (k:Nat) (ns:List Int) (acc:List Pr) (i:Nat),R5 R rec d k ns acc i=R5 S rec d k ns acc i
 | 0,_,_,_=>rfl
 | k+1,ns,acc,i=>by
   unfold R5
   rw[a4j h,a1B h]
   simp only[a5g h rec d k]
theorem b0p (h:K0 R=K0 S) (rec:Int→Bool→Nat→PE Pr):a2K R rec=a2K S rec:=by
 funext d ts i
 unfold a2K
 simp only[a3I h,a5g h]
theorem b0t (h:K0 R=K0 S) (rec:Int→Bool→Nat→PE Pr):a1a R rec=a1a S rec:=by
 funext d ts i
 unfold a1a
 rw[a2I h]
theorem a6y (h:K0 R=K0 S) (d:Int):∀ (k:Nat) (acc:List Vr) (i:Nat),Y5 R d k acc i=Y5 S d k acc i
 | 0,_,_=>rfl
 | k+1,acc,i=>by
   unfold Y5
   rw[a4j h,a1B h]
   simp only[a6y h d k]
theorem b2O (h:K0 R=K0 S):a2N R=a2N S:=by
 funext d ts i
 unfold a2N
 simp only[a3I h,a6y h,a7G h]
theorem b3s (h:K0 R=K0 S) (rec:Int→Bool→Nat→PE Pr):a3n R rec=a3n S rec:=by
 funext d ts i
 unfold a3n
 rw[b2O h,a7G h]
theorem b3Q (h:K0 R=K0 S) (rec:Int→Bool→Nat→PE Pr):a1S R rec=a1S S rec:=by
 funext s
 unfold a1S
 rw[b2m h,b5R h,a5F h,b6g h,b0p h]
theorem b3U (h:K0 R=K0 S) (rec:Int→Bool→Nat→PE Pr):a3G R rec=a3G S rec:=by
 funext d top ts i
 unfold a3G
 rw[b3Q h,b0t h]
theorem b3T (h:K0 R=K0 S) (rec:Int→Bool→Nat→PE Pr):b2W R rec=b2W S rec:=by
 funext d top i
 unfold b2W
 rw[a1B h,b3s h,b3U h]
end
theorem a4z {R S:List Rw} (h:K0 R=K0 S):∀ n,C0 R n=C0 S n
 | 0=>rfl
 | n+1=>by
   unfold C0
   rw[a4z h n,b3T h]
theorem b6M {R S:List Rw} (h:K0 R=K0 S):a6V R=a6V S:=by
 unfold a6V
 rw[a3I h,a4z h]
 congr 1
 funext x i
 have:=b1i h i
 cases hr:R[i]? <;> cases hs:S[i]? <;> simp[hr,hs] at this ⊢
 rw[this.2]
theorem b1H {R S:List Rw} (h:K0 R=K0 S) (hR:Go.Ly.mayP R=true) (hS:Go.Ly.mayP S=true):K6 R=K6 S:=by
 unfold K6
 rw[if_pos hR,if_pos hS,b6M h]
end Go.Sx
end
section
namespace Go.Sx
open Go.Eng Go.Pc Go
open Go.Xp hiding B D9
open Go.Ly (Rw)
def RwB (r:Rw):Prop:=((-9223372036854775808≤r.no∧r.no≤9223372036854775807)∧(-9223372036854775808≤r.depth∧r.depth≤9223372036854775807))∧r.text.length≤140737488355328
end Go.Sx
end
section
namespace Go.Ly
open Go.Eng
def noD (s:B):Prop:=∀ k:Nat,s[k]?=some 45→s[k+1]?≠some 45
theorem b2T:∀ s:B,noD (a6Q s)
 | []=>fun k h=>by simp[a6Q] at h
 | c::l=>by
   unfold a6Q
   split
   · exact fun k h=>by simp at h
   · rename_i hn
     have ih:=b2T l
     intro k h1 h2
     cases k with
     | zero=>
       simp only[List.getElem?_cons_zero,Option.some.injEq] at h1
       simp only[List.getElem?_cons_succ] at h2
       apply hn
       rw[h1]
       cases l with
       | nil=>simp[a6Q] at h2
       | cons d r=>
         unfold a6Q at h2
         split at h2
         · simp at h2
         · simpa using h2
     | succ k=>
       simp only[List.getElem?_cons_succ] at h1 h2
       exact ih k h1 h2
theorem c1A:∀ {s:B},noD s→a6Q s=s
 | [],_=>rfl
 | c::l,h=>by
   have ih:a6Q l=l:=c1A fun k h1 h2=>h (k+1) (by simpa using h1) (by simpa using h2)
   unfold a6Q
   rw[ih,if_neg]
   intro e
   simp only[Bool.and_eq_true,beq_iff_eq] at e
   refine h 0 (by simp[e.1]) ?_
   rw[List.getElem?_cons_succ,← List.head?_eq_getElem?]
   exact e.2
theorem b8M {a b:B} (ha:noD a) (hb:noD b):noD (a++32::b):=fun k h1 h2=>by
 rcases Nat.lt_trichotomy k a.length with h | h | h
 · rw[List.getElem?_append_left h] at h1
   rcases Nat.lt_or_ge (k+1) a.length with h' | h'
   · rw[List.getElem?_append_left h'] at h2
     exact ha k h1 h2
   · rw[List.getElem?_append_right h',show k+1 - a.length=0 by omega] at h2
     simp at h2
 · rw[List.getElem?_append_right (by omega),show k - a.length=0 by omega] at h1
   simp at h1
 · rw[List.getElem?_append_right (by omega),show k - a.length=(k - a.length - 1)+1 by omega,List.getElem?_cons_succ] at h1
   rw[List.getElem?_append_right (by omega),show k+1 - a.length=(k - a.length - 1+1)+1 by omega,List.getElem?_cons_succ] at h2
   exact hb _ h1 h2
theorem a9v:∀ {s:B},noD s→Lib.index s [45,45]=-1
 | [],_=>rfl
 | c::l,h=>by
   have ih:Lib.index l [45,45]=-1:=a9v fun k h1 h2=>h (k+1) (by simpa using h1) (by simpa using h2)
   unfold Lib.index
   rw[c2K,ih,if_neg]
   · rfl
   · intro e
     simp only[Bool.and_eq_true,beq_iff_eq] at e
     refine h 0 (by simp[e.1]) ?_
     rw[List.getElem?_cons_succ,← List.head?_eq_getElem?]
     exact e.2
theorem b0F {s:B} (h:noD s):Lib.contains s [45,45]=false:=by
 unfold Lib.contains
 rw[a9v h]
 rfl
theorem b0h {s:B} (h:Lib.contains s [45,45]=false):noD s:=by
 have e:=b9w s
 unfold Lib.contains at h
 unfold Lib.cut at e
 rw[if_neg (by simpa using h)] at e
 have:=b2T s
 rw[← e] at this
 exact this

structure TxtV (s:B):Prop where
 ne:s≠[]
 hd:s.head?≠some 32
 ls:s.getLast?≠some 32
 nd:noD s
 ok:s.all okB=true
theorem TxtV.join {a b:B} (ha:TxtV a) (hb:TxtV b):TxtV (a++32::b) where
 ne:=by simp
 hd:=by
   rw[List.head?_append]
   cases h:a.head? with
   | none=>exact absurd (List.head?_eq_none_iff.1 h) ha.ne
   | some c=>have:=ha.hd;rw[h] at this;exact this
 ls:=by
   rw[show a++32::b=(a++[32])++b by simp,List.getLast?_append]
   cases h:b.getLast? with
   | none=>exact absurd (List.getLast?_eq_none_iff.1 h) hb.ne
   | some c=>have:=hb.ls;rw[h] at this;exact this
 nd:=b8M ha.nd hb.nd
 ok:=by
   rw[List.all_append,ha.ok,List.all_cons,hb.ok]
   rfl
theorem b9d {s:B} (h:s.getLast?≠some 32):Lib.trimRightB s 32=s:=by
 rcases List.eq_nil_or_concat s with rfl | ⟨l,c,rfl⟩
 · rfl
 · rw[List.concat_eq_append] at h ⊢
   refine b3W ?_
   simpa using h
theorem b7y {s:B} (h:s.head?≠some 32):Lib.trimLeftB s 32=s:=by
 cases s with
 | nil=>rfl
 | cons c l=>
   have hc:(c==32)=false:=by simpa using h
   simp[Lib.trimLeftB,List.dropWhile,hc]
theorem TxtV.valid {s:B} (h:TxtV s) (hl:s.length≤256) (hc:a6S s=false):validP s=true:=by
 have h1:b6r s=false:=by
   simp only[b6r,Bool.or_eq_false_iff,decide_eq_false_iff_not,bne_eq_false_iff_eq,beq_eq_false_iff_ne]
   refine⟨⟨⟨⟨h.ne,by omega⟩,?_⟩,b0F h.nd⟩,hc⟩
   unfold Lib.trimB
   rw[b9d h.ls,b7y h.hd]
 unfold validP
 rw[h1,h.ok]
 rfl
theorem TxtV.of_valid {s:B} (h:validP s=true):TxtV s:=by
 obtain⟨h1,h2,h3,h4,h5,h6⟩:=validP_spec h
 have hL:∀ l:B,(Lib.trimLeftB l 32).head?≠some 32:=by
   intro l e
   have:=List.head?_dropWhile_not (·==(32:UInt8)) l
   unfold Lib.trimLeftB at e
   rw[e] at this
   simp at this
 have hR:∀ l:B,(Lib.trimRightB l 32).getLast?≠some 32:=by
   intro l e
   unfold Lib.trimRightB at e
   rw[List.getLast?_reverse] at e
   exact hL l.reverse e
 have hll:∀ l:B,(Lib.trimLeftB l 32).length≤l.length:=fun l=>(List.dropWhile_sublist _).length_le
 have hrl:∀ l:B,(Lib.trimRightB l 32).length≤l.length:=fun l=>by
   unfold Lib.trimRightB
   rw[List.length_reverse]
   exact Nat.le_trans (List.dropWhile_sublist _).length_le (by simp)
 refine⟨h1,?_,?_,b0h h4,h6⟩
 · rw[← h3]
   exact hL _
 · -- trimming on the left took nothing
   have e1:(Lib.trimLeftB (Lib.trimRightB s 32) 32).length=s.length:=by show(Lib.trimB s 32).length=_;rw[h3]
   have h7:=hll (Lib.trimRightB s 32)
   have h8:=hrl s
   have h9:Lib.trimLeftB (Lib.trimRightB s 32) 32=Lib.trimRightB s 32:=(List.dropWhile_sublist _).eq_of_length (by unfold Lib.trimLeftB at e1 h7;omega)
   rw[← h3]
   show(Lib.trimLeftB (Lib.trimRightB s 32) 32).getLast?≠_
   rw[h9]
   exact hR s
end Go.Ly
end
section
namespace Go.Ly
open Go.Eng
def a8A:B→Bool
 | a::b::r=>(a==45&&b==45)||a8A (b::r)
 | _=>false
theorem b1Q:∀ {s:B},a8A s=false→noD s
 | [],_=>fun k h=>by simp at h
 | [a],_=>fun k h1 h2=>by simp at h2
 | a::b::r,h=>by
   unfold a8A at h
   rw[Bool.or_eq_false_iff] at h
   have ih:=b1Q h.2
   intro k h1 h2
   cases k with
   | zero=>
     simp only[List.getElem?_cons_zero,Option.some.injEq] at h1
     simp only[List.getElem?_cons_succ,List.getElem?_cons_zero,Option.some.injEq] at h2
     rw[h1,h2] at h
     exact absurd h.1 (by decide)
   | succ k=>exact ih k (by simpa using h1) (by simpa using h2)
theorem b2c:∀ {s:B},noD s→a8A s=false
 | [],_=>rfl
 | [a],_=>rfl
 | a::b::r,h=>by
   unfold a8A
   rw[b2c (s:=b::r) fun k h1 h2=>h (k+1) (by simpa using h1) (by simpa using h2),Bool.or_false]
   by_cases e:(a==45&&b==45)=true
   · simp only[Bool.and_eq_true,beq_iff_eq] at e
     exact absurd (by simp[e.2]) (h 0 (by simp[e.1]))
   · simpa using e
theorem c1j {s:B} {k:Nat} {c d:UInt8} (hc:s[k]?=some c) (hd:s[k+1]?=some d):a8A (s.drop k)=((c==45&&d==45)||a8A (s.drop (k+1))):=by
 rw[R8 hc,R8 hd]
 rfl
theorem b9p {s:B} {k:Nat} (h:s.length≤k+1):a8A (s.drop k)=false:=by
 have hl:(s.drop k).length≤1:=by rw[List.length_drop];omega
 match s.drop k,hl with
 | [],_=>rfl
 | [a],_=>rfl
def a8B (s:B):Bool:=((((decide ((s.length:Int) < 1)||decide ((s.length:Int) > 256))||(s.getD 0 0==32))||(s.getD (s.length - 1) 0==32))||a6S s)
def b03 (s:B):Bool:=!a8B s&&(!a8A s&&s.all okB)
theorem c0t (s:B):b03 s=validP s:=by
 rcases Nat.eq_zero_or_pos s.length with h0 | h0
 · rw[List.eq_nil_of_length_eq_zero h0]
   decide
 · have hne:s≠[]:=List.length_pos_iff.1 h0
   have hh:s.head?=some (s.getD 0 0):=by
     rw[List.head?_eq_getElem?,List.getD_eq_getElem?_getD,List.getElem?_eq_getElem h0]
     rfl
   have hl:s.getLast?=some (s.getD (s.length - 1) 0):=by
     rw[List.getLast?_eq_getElem?,List.getD_eq_getElem?_getD,List.getElem?_eq_getElem (by omega)]
     rfl
   rw[Bool.eq_iff_iff]
   constructor
   · intro h
     simp only[b03,a8B,Bool.and_eq_true,Bool.not_eq_true',Bool.or_eq_false_iff,decide_eq_false_iff_not,beq_eq_false_iff_ne] at h
     obtain⟨⟨⟨⟨⟨h1,h2⟩,h3⟩,h4⟩,h5⟩,h6,h7⟩:=h
     exact TxtV.valid ⟨hne,by rw[hh];simpa using h3,by rw[hl];simpa using h4,b1Q h6,h7⟩ (by omega) h5
   · intro h
     have hv:=TxtV.of_valid h
     obtain⟨_,h2,_,_,h5,h6⟩:=validP_spec h
     have h3:=hv.hd
     have h4:=hv.ls
     rw[hh] at h3
     rw[hl] at h4
     simp only[b03,a8B,Bool.and_eq_true,Bool.not_eq_true',Bool.or_eq_false_iff,decide_eq_false_iff_not,beq_eq_false_iff_ne]
     exact⟨⟨⟨⟨⟨by omega,by omega⟩,by simpa using h3⟩,by simpa using h4⟩,h5⟩,b2c hv.nd,h6⟩
theorem b1p (no dp:Int) (x:Rw):(((((decide (x.no < no+1)||decide (x.no > 65536))||decide (x.depth < 0))||decide (x.depth > dp+1))||decide (x.depth > 32))||!validP x.text)=badR no dp x:=by
 unfold badR
 congr 1
 rw[Bool.eq_iff_iff]
 simp only[Bool.or_eq_true,decide_eq_true_eq]
 split <;> omega
end Go.Ly
end
section
namespace Go.Sx
open Go.Eng Go.Pc Go
open Go.Xp hiding B
open Go.Ty (Ty Vr Tok)
open Go.Ly (Rw)
def skP:Pr:=.mk 1 [] A3 B5 B5 a2m none 0 [] none 0 [] B5 D2
def sqP (p:Pr):Pr:=.mk 8 [] A3 B5 B5 a2m none 0 [] none 0 [p] B5 D2
def tiS:Sp:=.mk 1 ⟨5,0,0,[]⟩ ⟨none,0,[[116]]⟩ A3 false B5 B5 none 0 []
def dcP (p:Pr):Pr:=.mk 18 [] A3 B5 B5 a2m none 0 [] none 0 [p] B5 tiS
def a4A:Nat→Pr
 | 0=>skP
 | n+1=>sqP (a4A n)
def a1D (n:Nat):Nat→Pr
 | 0=>a4A n
 | k+1=>dcP (a1D n k)
theorem b7o:M1 skP=true:=by decide +kernel
theorem b7M (p:Pr):M1 (sqP p)=true:=by
 have h:∀ q,M1 (sqP q)=M1 (sqP skP):=fun q=>rfl
 rw[h];decide +kernel
theorem b7E (p:Pr):M1 (dcP p)=true:=by
 have h:∀ q,M1 (dcP q)=M1 (dcP skP):=fun q=>rfl
 rw[h];decide +kernel
theorem b1a {p:Pr} (hp:M1 p=true) (hk:p.k≠11) {d left:Int} {pl:Bool} (h:1≤left):X6 p d pl left=decide (d > 32):=by
 unfold X6
 rw[hp,show decide (left - 1 < 0)=false from decide_eq_false (by omega),show(p.k==11)=false by simpa using hk]
 simp
theorem c0A (p:Pr) (d left:Int) (pl:Bool) (h:1≤left):H1 (sqP p) d pl left=if d > 32 then (false,left - 1) else H1 p (d+1) false (left - 1):=by
 rw[a2J,b1a (b7M p) (show(8:Int)≠11 by decide) h]
 by_cases hd:d > 32
 · rw[if_pos (decide_eq_true hd),if_pos hd]
 · rw[if_neg (by simpa using hd),if_neg hd]
   show(if (R7 [p] (d+1) false (left - 1)).1 then ((true,(R7 [p] (d+1) false (left - 1)).2):Bool × Int) else R7 [p] (d+1) false (left - 1))=_
   rw[show R7 [p] (d+1) false (left - 1)=if (H1 p (d+1) false (left - 1)).1 then (true,(H1 p (d+1) false (left - 1)).2) else H1 p (d+1) false (left - 1) from rfl]
   rcases H1 p (d+1) false (left - 1) with ⟨_ | _,q⟩ <;> rfl
theorem c0j (p:Pr) (d left:Int) (pl:Bool) (h:1≤left):H1 (dcP p) d pl left=if d > 32 then (false,left - 1) else H1 p d pl (left - 1):=by
 rw[a2J,b1a (b7E p) (show(18:Int)≠11 by decide) h]
 by_cases hd:d > 32
 · rw[if_pos (decide_eq_true hd),if_pos hd]
 · rw[if_neg (by simpa using hd),if_neg hd]
   show(if (R7 [p] d pl (left - 1)).1 then ((true,(R7 [p] d pl (left - 1)).2):Bool × Int) else R7 [p] d pl (left - 1))=_
   rw[show R7 [p] d pl (left - 1)=if (H1 p d pl (left - 1)).1 then (true,(H1 p d pl (left - 1)).2) else H1 p d pl (left - 1) from rfl]
   rcases H1 p d pl (left - 1) with ⟨_ | _,q⟩ <;> rfl
theorem b1F:∀ (n:Nat) (d left:Int) (pl:Bool),(n:Int)+1≤left→(H1 (a4A n) d pl left).1=decide (d+n≤32)
 | 0,d,left,pl,h=>by
   show(H1 skP d pl left).1=_
   rw[a2J,b1a b7o (by decide) (by omega)]
   by_cases hd:d > 32
   · rw[if_pos (decide_eq_true hd)]
     exact(decide_eq_false (by simp;omega)).symm
   · rw[if_neg (by simpa using hd)]
     exact(decide_eq_true (by simp;omega)).symm
 | n+1,d,left,pl,h=>by
   show(H1 (sqP (a4A n)) d pl left).1=_
   rw[c0A _ _ _ _ (by omega)]
   by_cases hd:d > 32
   · rw[if_pos hd]
     exact(decide_eq_false (by omega)).symm
   · rw[if_neg hd,b1F n (d+1) (left - 1) false (by omega)]
     exact decide_eq_decide.2 (by omega)
theorem b2x (n:Nat):∀ (k:Nat) (left:Int),(n:Int)+k+1≤left→(H1 (a1D n k) 0 true left).1=decide (n≤32)
 | 0,left,h=>by
   show(H1 (a4A n) 0 true left).1=_
   rw[b1F n 0 left true (by omega)]
   exact decide_eq_decide.2 (by omega)
 | k+1,left,h=>by
   show(H1 (dcP (a1D n k)) 0 true left).1=_
   rw[c0j _ _ _ _ (by omega),if_neg (by decide),b2x n k (left - 1) (by omega)]
theorem a5Z (n k:Nat) (h:n+k≤2000):mayP (a1D n k)=decide (n≤32):=b2x n k 2048 (by omega)
theorem b9J:∀ n,N8 (a4A n)=n+1
 | 0=>rfl
 | n+1=>by show 1+((N8 (a4A n)+0)+(0+0))=_;rw[b9J n];omega
def sqL:List Tok:=[A2 [83,69,81]]
def skL:List Tok:=[A2 [83,75,73,80]]
def dcL:List Tok:=(K4 ⟨5,0,0,[]⟩++J0 [[116]])++[A2 [58]]
def X2:Nat→Int→List Ln
 | 0,d=>[(d,skL)]
 | n+1,d=>(d,sqL)::X2 n (d+1)
theorem a8j:∀ (n:Nat) (d:Int),H5 (a4A n) d=X2 n d
 | 0,d=>rfl
 | n+1,d=>by
   show(d,sqL++a0V a2m)::((H5 (a4A n) (d+1)++[])++[])=_
   rw[a8j n (d+1),List.append_nil,List.append_nil]
   rfl
theorem a7K (n:Nat):∀ k,H5 (a1D n k) 0=List.replicate k (0,dcL)++X2 n 0
 | 0=>a8j n 0
 | k+1=>by
   show[((0:Int),dcL)]++H5 (a1D n k) 0=_
   rw[a7K n k]
   rfl
def c1I (x:Ln):Prop:=(Go.Lx.textO x.2).2=0
def a4y:Nat→List Ln→List Rw
 | _,[]=>[]
 | i,x::r=>⟨i+1,x.1,(Go.Lx.textO x.2).1⟩::a4y (i+1) r
theorem a9O:∀ (l:List Ln) (R:List Rw),R.length+l.length≤2048→(∀ x ∈ l,c1I x)→B8 (R,false) l=(R++a4y R.length l,false)
 | [],R,_,_=>by show(R,false)=_;simp[a4y]
 | x::r,R,h,hf=>by
   rw[X7]
   have h1:C5 (R,false) x=(R++[⟨R.length+1,x.1,(Go.Lx.textO x.2).1⟩],false):=by
     unfold C5
     rw[if_neg (by
       rintro (q | q)
       · exact q (hf x (List.mem_cons_self ..))
       · simp at q h;omega)]
   rw[h1,a9O r _ (by simp at h ⊢;omega) (fun y hy=>hf y (List.mem_cons_of_mem _ hy))]
   simp[a4y]
theorem a7I:∀ (l:List Ln) (i:Nat),(a4y i l).length=l.length
 | [],_=>rfl
 | x::r,i=>by show(a4y (i+1) r).length+1=_;rw[a7I r];rfl
theorem b5w:∀ (l:List Ln) (i j:Nat),(a4y i l)[j]?=(l[j]?).map fun x=>⟨(i+j:Nat)+1,x.1,(Go.Lx.textO x.2).1⟩
 | [],_,_=>by simp[a4y]
 | x::r,i,0=>by simp[a4y]
 | x::r,i,j+1=>by
   show(a4y (i+1) r)[j]?=(r[j]?).map _
   rw[b5w r (i+1) j]
   congr 1
   funext y
   simp
   omega
def b1y (x:Ln):Prop:=Go.Ly.validP (Go.Lx.textO x.2).1=true∧(Go.Lx.textO x.2).1.length≤256
def b3c:Int→List Ln→Prop
 | _,[]=>True
 | d,x::r=>(0≤x.1∧x.1≤d+1∧x.1≤32)∧b3c x.1 r
theorem b3e:∀ (l:List Ln) (i:Nat) (d size:Int),i+l.length≤2048→(∀ x ∈ l,b1y x)→b3c d l→size+321 * l.length≤65537→Go.Ly.mayA i d size (a4y i l)=true
 | [],i,d,size,_,_,_,h=>by
   show decide (size≤65537)=true
   exact decide_eq_true (by simp at h;omega)
 | x::r,i,d,size,hl,hg,⟨⟨h1,h2,h3⟩,hs⟩,h=>by
   have g:=hg x (List.mem_cons_self ..)
   have hb:Go.Ly.badR i d ⟨i+1,x.1,(Go.Lx.textO x.2).1⟩=false:=by
     unfold Go.Ly.badR
     rw[g.1]
     simp only[Bool.or_eq_false_iff,decide_eq_false_iff_not,Bool.not_true,and_true]
     simp at hl
     refine⟨⟨⟨by simp;omega,by simp;omega⟩,by simp;omega⟩,?_⟩
     show ¬ (x.1 > if 32 < d+1 then 32 else d+1)
     split <;> omega
   show(if Go.Ly.badR i d ⟨i+1,x.1,(Go.Lx.textO x.2).1⟩ then false else Go.Ly.mayA ((i:Int)+1) x.1 (size+2 * x.1+((Go.Lx.textO x.2).1.length:Int)+1) (a4y (i+1) r))=true
   rw[if_neg (by rw[hb];decide)]
   have:=g.2
   have e:=b3e r (i+1) x.1 (size+2 * x.1+((Go.Lx.textO x.2).1.length:Int)+1) (by simp at hl;omega) (fun y hy=>hg y (List.mem_cons_of_mem _ hy)) hs (by simp at h;omega)
   exact e
theorem b9a {l:List Ln} (hl:l.length≤200) (hg:∀ x ∈ l,b1y x) (hs:b3c (-1) l):Go.Ly.mayP (a4y 0 l)=true:=by
 unfold Go.Ly.mayP
 rw[a7I,if_neg (by omega)]
 exact b3e l 0 (-1) 0 (by omega) hg hs (by omega)
theorem c3U (d:Int):c1I (d,sqL):=by show(Go.Lx.textO sqL).2=0;decide +kernel
theorem c3B (d:Int):c1I (d,skL):=by show(Go.Lx.textO skL).2=0;decide +kernel
theorem c4f (d:Int):c1I (d,dcL):=by show(Go.Lx.textO dcL).2=0;decide +kernel
theorem c0B (d:Int):b1y (d,sqL):=by show Go.Ly.validP (Go.Lx.textO sqL).1=true∧(Go.Lx.textO sqL).1.length≤256;decide +kernel
theorem c0F (d:Int):b1y (d,skL):=by show Go.Ly.validP (Go.Lx.textO skL).1=true∧(Go.Lx.textO skL).1.length≤256;decide +kernel
theorem c1z (d:Int):b1y (d,dcL):=by show Go.Ly.validP (Go.Lx.textO dcL).1=true∧(Go.Lx.textO dcL).1.length≤256;decide +kernel
theorem a9z {q:Ln→Prop} (h1:∀ d,q (d,sqL)) (h2:∀ d,q (d,skL)):∀ (n:Nat) (d:Int),∀ x ∈ X2 n d,q x
 | 0,d,x,hx=>by
   have:x=(d,skL):=by simpa [X2] using hx
   rw[this];exact h2 d
 | n+1,d,x,hx=>by
   rcases List.mem_cons.1 (show x ∈ (d,sqL)::X2 n (d+1) from hx) with h | h
   · rw[h];exact h1 d
   · exact a9z h1 h2 n (d+1) x h
theorem a9Q {q:Ln→Prop} (h1:∀ d,q (d,sqL)) (h2:∀ d,q (d,skL)) (h3:∀ d,q (d,dcL)) (n k:Nat):∀ x ∈ List.replicate k ((0:Int),dcL)++X2 n 0,q x:=fun x hx=>by
 rcases List.mem_append.1 hx with h | h
 · rw[List.eq_of_mem_replicate h];exact h3 0
 · exact a9z h1 h2 n 0 x h
theorem b01:∀ (n:Nat) (d:Int),(X2 n d).length=n+1
 | 0,_=>rfl
 | n+1,d=>by show(X2 n (d+1)).length+1=_;rw[b01 n]
theorem a84:∀ (n:Nat) (d c:Int),0≤d→d≤c+1→d+n≤32→b3c c (X2 n d)
 | 0,d,c,h0,h1,h2=>⟨⟨h0,h1,by simpa using h2⟩,trivial⟩
 | n+1,d,c,h0,h1,h2=>⟨⟨h0,h1,by omega⟩,a84 n (d+1) d (by omega) (by omega) (by omega)⟩
theorem a8L (n:Nat) (hn:n≤32):∀ (k:Nat) (c:Int),-1≤c→b3c c (List.replicate k ((0:Int),dcL)++X2 n 0)
 | 0,c,h=>a84 n 0 c (by omega) (by omega) (by omega)
 | k+1,c,h=>⟨⟨by decide,by simp;omega,by decide⟩,a8L n hn k 0 (by omega)⟩
theorem a81:∀ (n:Nat) (d:Int),((X2 n d)[n]?).map (·.1)=some (d+n)
 | 0,d=>by simp[X2]
 | n+1,d=>by
   show((X2 n (d+1))[n]?).map (·.1)=_
   rw[a81 n (d+1)]
   congr 1
   omega
theorem b4s (n k:Nat) (hn:n≤32) (hk:k≤60):∃ R:List Rw,M8 (a1D n k)=(R,0)∧R.length=n+k+1∧∃ x,R[n+k]?=some x∧x.depth=n:=by
 have hl:=a7K n k
 have hlen:(List.replicate k ((0:Int),dcL)++X2 n 0).length=n+k+1:=by rw[List.length_append,List.length_replicate,b01];omega
 have hr:=a9O (List.replicate k ((0:Int),dcL)++X2 n 0) [] (by rw[hlen];simp;omega) (a9Q c3U c3B c4f n k)
 have hm:=b9a (l:=List.replicate k ((0:Int),dcL)++X2 n 0) (by omega) (a9Q c0B c0F c1z n k) (a8L n hn k (-1) (by omega))
 refine⟨a4y 0 (List.replicate k ((0:Int),dcL)++X2 n 0),?_,by rw[a7I,hlen],?_⟩
 · unfold M8
   rw[a5Z n k (by omega),if_pos (decide_eq_true hn),hl,hr]
   show(if (false||!Go.Ly.mayP (a4y 0 (List.replicate k ((0:Int),dcL)++X2 n 0)))=true then (([],3):List Rw × Int) else (a4y 0 (List.replicate k ((0:Int),dcL)++X2 n 0),0))=_
   rw[hm]
   rfl
 · have hx:((List.replicate k ((0:Int),dcL)++X2 n 0)[n+k]?).map (·.1)=some (n:Int):=by
     rw[List.getElem?_append_right (by rw[List.length_replicate];omega),List.length_replicate,show n+k - k=n by omega,a81]
     simp
   obtain⟨y,hy,e⟩:=Option.map_eq_some_iff.1 hx
   exact⟨_,by rw[b5w,hy];rfl,e⟩
theorem b0O (n k:Nat) (hn:32 < n) (h:n+k≤2000):M8 (a1D n k)=([],2)∧mayP (a1D n k)=false:=by
 have hm:mayP (a1D n k)=false:=by rw[a5Z n k h];exact decide_eq_false (by omega)
 exact⟨by unfold M8;rw[if_neg (by rw[hm];decide)],hm⟩
end Go.Sx
end

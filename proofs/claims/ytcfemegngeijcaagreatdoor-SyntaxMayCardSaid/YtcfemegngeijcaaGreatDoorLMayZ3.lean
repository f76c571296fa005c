import Derived.Test.YtcfemegngeijcaaGreatDoorLMayZ2
import Derived.Lib.ItoaNum
import Derived.Lib.AppendZerosOnto
section
namespace Go.Sx
open Go.Eng Go.Pc Go
open Go.Xp hiding B
open Go.Ty (Ty Vr Tok)
open Go.Ly (Rw)
abbrev E (α:Type):=Except Int (α × List Tok)
def Q3 {α β:Type} (r:E α) (f:α→List Tok→E β):E β:=match r with
 | .ok (x,ts)=>f x ts
 | .error e=>.error e
def isM (k:Int) (s:B):List Tok→Bool
 | []=>false
 | t::_=>(t.kind==k)&&(t.text==s)
def a07 {β:Type} (k:Int) (s:B) (ts:List Tok) (f:List Tok→E β):E β:=if isM k s ts then f ts.tail else .error 110
def X2:List Tok→E B
 | []=>.error 110
 | t::r=>if t.kind=1 then .ok (t.text,r) else .error 110
def N9 (ts:List Tok):E Ex:=match R9 ts with
 | .ok (x,k)=>.ok (x,ts.drop k)
 | .error _=>.error 110
def M5 (ts:List Tok):E Ex:=if (ts.headD Go.Ty.zeroK).kind=1 then Q3 (N9 ts) fun x r=>if E7 x then .ok (x,r) else .error 110 else .error 110
def a8r (ts:List Tok):E Ty:=if (Go.Ty.front ts).2.2=0 then .ok ((Go.Ty.front ts).1,ts.drop (Go.Ty.front ts).2.1) else .error 110
def a6j (ts:List Tok):E Int:=Q3 (a8r ts) fun t r=>if U4 t then .ok (t.kind,r) else .error 110
def a4V (ts:List Tok):E Fo:=Q3 (a8r (if isM 2 [86,65,76] ts then ts.tail else ts)) fun t r=>Q3 (X2 r) fun n r=>if foP ⟨isM 2 [86,65,76] ts,t,n⟩ then .ok (⟨isM 2 [86,65,76] ts,t,n⟩,r) else .error 110
def a2S {α:Type} (take:List Tok→E α) (sep:B):Nat→List α→List Tok→E (List α)
 | 0,acc,ts=>if isM 5 sep ts then .error 110 else .ok (acc,ts)
 | n+1,acc,ts=>if isM 5 sep ts then Q3 (take ts.tail) fun x r=>a2S take sep n (acc++[x]) r else .ok (acc,ts)
def R4 {α:Type} (take:List Tok→E α) (sep:B) (most:Nat) (ts:List Tok):E (List α):=Q3 (take ts) fun x r=>a2S take sep (most - 1) [x] r
def brM {α:Type} (take:List Tok→E α) (ts:List Tok):E (List α):=a07 5 [40] ts fun r=>if isM 5 [41] r then .ok ([],r.tail) else Q3 (R4 take [44] 8 r) fun l r=>a07 5 [41] r fun r=>.ok (l,r)
def E6:Rp:=⟨[],A2,A2⟩
def b4G (ts:List Tok):E Rp:=if ts.isEmpty then .ok (E6,ts) else Q3 (X2 ts) fun n r=>a07 5 [61] r fun r=>Q3 (N9 r) fun b r=>a07 2 [70,79,82] r fun r=>Q3 (N9 r) fun c r=>.ok (⟨n,b,c⟩,r)
def sl {α:Type} (l:List α):Sli α:=⟨none,0,l⟩
def guM (k:Int) (nm:B) (cond ch:Ex) (tg vl:List Ex) (time:Ex):Gu:=.mk k nm cond ch (sl tg) (sl vl) time none 0 []
def ifM (ts:List Tok):E Gu:=Q3 (N9 ts) fun c r=>.ok (guM 1 [] c A2 [] [] A2,r)
def b33 (ts:List Tok):Bool:=match R9 ts with
 | .ok (_,n)=>isM 5 [38] (ts.drop n)
 | .error _=>false
def b0n (c:Ex) (ts:List Tok):E Gu:=Q3 (M5 ts) fun ch r=>a07 5 [63] r fun r=>if isM 2 [65,70,84,69,82] r then Q3 (N9 r.tail) fun t r=>.ok (guM 4 [] c ch [] [] t,r) else Q3 (R4 M5 [59] 8 r) fun l r=>.ok (guM 3 [] c ch l [] A2,r)
def a9q (ts:List Tok):E Gu:=if b33 ts then Q3 (N9 ts) fun c r=>a07 5 [38] r fun r=>if isM 2 [83,75,73,80] r then .ok (guM 2 [] c A2 [] [] A2,r.tail) else b0n c r else b0n A2 ts
def b6U (ts:List Tok):E Gu:=if isM 2 [69,76,83,69] ts then .ok (guM 6 [] A2 A2 [] [] A2,ts.tail) else Q3 (R4 N9 [44] 8 ts) fun l r=>.ok (guM 5 [] A2 A2 [] l A2,r)
def b3L (ts:List Tok):E Gu:=Q3 (X2 ts) fun n r=>if isM 5 [59] r then Q3 (R4 M5 [59] 8 r.tail) fun l r=>.ok (guM 7 n A2 A2 l [] A2,r) else .ok (guM 7 n A2 A2 [] [] A2,r)
abbrev PE (α:Type):=Except (Int × Nat) (α × Nat)
def S4 {α β:Type} (r:PE α) (f:α→Nat→PE β):PE β:=match r with
 | .ok (x,i)=>f x i
 | .error e=>.error e
def J4 {α β:Type} (r:E α) (i:Nat) (f:α→List Tok→PE β):PE β:=match r with
 | .ok (x,ts)=>f x ts
 | .error e=>.error (e,i)
def G5 {β:Type} (ts:List Tok) (i:Nat) (f:Nat→PE β):PE β:=if ts.isEmpty then f (i+1) else .error (110,i)
def X3 {β:Type} (k:Int) (s:B) (ts:List Tok) (i:Nat) (f:List Tok→PE β):PE β:=if isM k s ts then f ts.tail else .error (110,i)
section
variable (R:List Rw)
def Q4 (d:Int) (i:Nat):Bool:=match R[i]? with
 | some x=>x.depth==d
 | none=>false
def a0Y (d:Int) (i:Nat):Except (Int × Nat) (List Tok):=match R[i]? with
 | none=>.error (110,i)
 | some x=>if (Go.Lx.lexO x.text).2.2≠0 then .error ((Go.Lx.lexO x.text).2.2,i) else if x.depth≠d then .error (110,i) else .ok (Go.Lx.lexO x.text).1
def a1o {β:Type} (d:Int) (i:Nat) (f:List Tok→PE β):PE β:=match a0Y R d i with
 | .ok ts=>f ts
 | .error e=>.error e
def a3n {β:Type} (d:Int) (k:Int) (s:B) (i:Nat) (f:Nat→PE β):PE β:=a1o R d i fun ts=>X3 k s ts i fun r=>G5 r i f
def prM (k:Int) (nm:B) (ch:Ex) (tg ex:List Ex) (rep:Rp) (gl:List Gu) (ll:List Pr) (pn:List Int) (sp:Sp):Pr:=.mk k nm ch (sl tg) (sl ex) rep none 0 gl none 0 ll (sl pn) sp
def spM (k:Int) (ty:Ty) (names:List B) (e:Ex) (cs:Bool) (vs:List Vr) (fs:List Fo) (bl:List Pr):Sp:=.mk k ty (sl names) e cs (sl vs) (sl fs) none 0 bl
def b5B (g:Gu) (x:Pr):Gu:=.mk g.k g.name g.cond g.ch g.tg g.vl g.time none 0 [x]
variable (rec:Int→Bool→Nat→PE Pr)
def a0p (row:List Tok→E Gu) (least most:Nat) (d:Int):Nat→List Gu→Nat→PE (List Gu)
 | 0,acc,i=>if acc.length < least then .error (110,i) else .ok (acc,i)
 | k+1,acc,i=>if acc.length < least∨(acc.length < most∧Q4 R d i=true) then a1o R d i fun ts=>J4 (row ts) i fun g r=>G5 r i fun i=>S4 (rec (d+1) false i) fun x i=>a0p row least most d k (acc++[b5B g x]) i
   else .ok (acc,i)
def a2J (row:List Tok→E Gu) (least most:Nat) (d:Int) (i:Nat):PE (List Gu):=a0p R rec row least most d (R.length - i) [] i
def a2N (d:Int):Nat→List Pr→Nat→PE (List Pr)
 | 0,acc,i=>.ok (acc,i)
 | k+1,acc,i=>if Q4 R d i then S4 (rec d false i) fun x i=>a2N d k (acc++[x]) i else .ok (acc,i)
def b63 (k:Int) (ts:List Tok) (i:Nat):PE Pr:=G5 ts i fun i=>.ok (prM k [] A2 [] [] E6 [] [] [] C2,i)
def a4l (k:Int) (d:Int) (ts:List Tok) (i:Nat):PE Pr:=J4 (b4G ts) i fun r ts=>G5 ts i fun i=>
 if r.name≠[] then S4 (rec (d+1) false i) fun x i=>.ok (prM k [] A2 [] [] r [] [x] [] C2,i)
 else S4 (a2N R rec (d+1) (R.length - i) [] i) fun l i=>.ok (prM k [] A2 [] [] r [] l [] C2,i)
def a1x (k:Int) (row:List Tok→E Gu) (d:Int) (ts:List Tok) (i:Nat):PE Pr:=J4 (b4G ts) i fun r ts=>G5 ts i fun i=>
 S4 (a2J R rec row (if r.name≠[] then 1 else 0) (if r.name≠[] then 1 else 16) (d+1) i) fun l i=>.ok (prM k [] A2 [] [] r l [] [] C2,i)
def c4A (d:Int) (ts:List Tok) (i:Nat):PE Pr:=if isM 2 [80,65,82] ts then G5 ts.tail i fun i=>S4 (rec (d+1) false i) fun x i=>S4 (rec (d+1) false i) fun y i=>.ok (prM 10 [] A2 [] [] E6 [] [x,y] [] C2,i)
 else X3 2 [65,76,84] ts i fun r=>a1x R rec 13 a9q d r i
def c3M (d:Int) (ts:List Tok) (i:Nat):PE Pr:=J4 (N9 ts) i fun e r=>G5 r i fun i=>S4 (a2J R rec b6U 0 16 (d+1) i) fun l i=>.ok (prM 15 [] A2 [] [e] E6 l [] [] C2,i)
def c0n (d:Int) (ts:List Tok) (i:Nat):PE Pr:=J4 (N9 ts) i fun e r=>G5 r i fun i=>S4 (rec (d+1) false i) fun x i=>.ok (prM 16 [] A2 [] [e] E6 [] [x] [] C2,i)
def b4P (ts:List Tok):Option Int:=match ts with
 | [t]=>if t.kind=3∧0≤t.n∧t.n < 8 then some t.n else none
 | _=>none
def Y8 (d:Int):Nat→List Int→List Pr→Nat→PE (List Int × List Pr)
 | 0,ns,acc,i=>if acc.length=0 then .error (110,i) else .ok ((ns,acc),i)
 | k+1,ns,acc,i=>if acc.length=0∨(acc.length < 8∧Q4 R (d+1) i=true) then a1o R (d+1) i fun ts=>X3 2 [80,82,79,67,69,83,83,79,82] ts i fun r=>match b4P r with
     | some n=>S4 (rec (d+2) false (i+1)) fun x i=>Y8 d k (ns++[n]) (acc++[x]) i
     | none=>.error (110,i)
   else .ok ((ns,acc),i)
def a7J (d:Int) (ts:List Tok) (i:Nat):PE Pr:=X3 2 [80,65,82] ts i fun r=>G5 r i fun i=>S4 (Y8 R rec d (R.length - i) [] [] i) fun x i=>.ok (prM 11 [] A2 [] [] E6 [] x.2 x.1 C2,i)
def a5i (d:Int) (ts:List Tok) (i:Nat):PE Pr:=
 if (ts.headD Go.Ty.zeroK).kind=1∧isM 5 [40] ts.tail=true then J4 (X2 ts) i fun n r=>J4 (brM N9 r) i fun l r=>G5 r i fun i=>.ok (prM 17 n A2 [] l E6 [] [] [] C2,i)
 else J4 (R4 M5 [44] 8 ts) i fun f r=>
   if isM 5 [58,61] r then J4 (R4 N9 [44] 8 r.tail) i fun l r=>G5 r i fun i=>.ok (prM 3 [] A2 f l E6 [] [] [] C2,i)
   else if f.length > 1 then .error (110,i)
   else if isM 5 [33] r then J4 (R4 N9 [59] 9 r.tail) i fun l r=>G5 r i fun i=>.ok (prM 5 [] (f.headD A2) [] l E6 [] [] [] C2,i)
   else X3 5 [63] r i fun r=>
     if isM 2 [67,65,83,69] r then G5 r.tail i fun i=>S4 (a2J R rec b3L 1 16 (d+1) i) fun l i=>.ok (prM 7 [] (f.headD A2) [] [] E6 l [] [] C2,i)
     else if isM 2 [65,70,84,69,82] r then J4 (N9 r.tail) i fun e r=>G5 r i fun i=>.ok (prM 6 [] (f.headD A2) [] [e] E6 [] [] [] C2,i)
     else J4 (R4 M5 [59] 8 r) i fun l r=>G5 r i fun i=>.ok (prM 4 [] (f.headD A2) l [] E6 [] [] [] C2,i)
def vrM (tag:B) (l:List Int):Vr:=⟨tag,none,l.length,0,l⟩
def a2d (ts:List Tok):E Vr:=Q3 (X2 ts) fun n r=>if isM 5 [59] r then Q3 (R4 a6j [59] 8 r.tail) fun l r=>.ok (vrM n l,r) else .ok (vrM n [],r)
def a1l (d:Int):Nat→List Vr→Nat→PE (List Vr)
 | 0,acc,i=>if acc.length=0 then .error (110,i) else .ok (acc,i)
 | k+1,acc,i=>if acc.length=0∨Q4 R (d+2) i=true then a1o R (d+2) i fun ts=>J4 (a2d ts) i fun v r=>if Go.Ty.mayPr true (acc++[v]) then G5 r i fun i=>a1l d k (acc++[v]) i else .error (110,i)
   else .ok (acc,i)
def a6C (d:Int) (ts:List Tok) (i:Nat):PE (Bool × List Vr):=
 if isM 2 [73,83] ts then J4 (R4 a6j [59] 8 ts.tail) i fun l r=>X3 5 [58] r i fun r=>G5 r i fun i=>.ok ((false,[vrM [] l]),i)
 else G5 ts i fun i=>a3n R (d+1) 2 [67,65,83,69] i fun i=>S4 (a1l R d (R.length - i) [] i) fun l i=>a3n R d 5 [58] i fun i=>.ok ((true,l),i)
def b1Y (s:Sp) (ts:List Tok) (i:Nat):PE (Option Sp):=X3 5 [58] ts i fun r=>if spP s then G5 r i fun i=>.ok (some s,i) else .error (110,i)
def a7f (d:Int) (ts:List Tok) (i:Nat):PE (Option Sp):=
 if isM 2 [80,82,79,84,79,67,79,76] ts then J4 (X2 ts.tail) i fun n r=>S4 (a6C R d r i) fun p i=>.ok (some (spM 4 Go.Ty.zeroT [n] A2 p.1 p.2 [] []),i)
 else if isM 2 [80,82,79,67] ts then J4 (X2 ts.tail) i fun n r=>J4 (brM a4V r) i fun fs r=>G5 r i fun i=>S4 (rec (d+1) false i) fun x i=>a3n R d 5 [58] i fun i=>.ok (some (spM 5 Go.Ty.zeroT [n] A2 false [] fs [x]),i)
 else if isM 2 [86,65,76] ts then J4 (a8r ts.tail) i fun t r=>J4 (X2 r) i fun n r=>X3 2 [73,83] r i fun r=>J4 (N9 r) i fun e r=>b1Y (spM 2 t [n] e false [] [] []) r i
 else if isM 5 [91] ts||isM 2 [73,78,84] ts||isM 2 [66,89,84,69] ts||isM 2 [66,79,79,76] ts||isM 2 [67,72,65,78] ts||isM 2 [84,73,77,69,82] ts then J4 (a8r ts) i fun t r=>J4 (R4 X2 [44] 8 r) i fun ns r=>
   if isM 2 [73,83] r then J4 (M5 r.tail) i fun e r=>b1Y (spM 3 t ns e false [] [] []) r i else b1Y (spM 1 t ns A2 false [] [] []) r i
 else .ok (none,i)
def a4f (s:B):Option (Int→List Tok→Nat→PE Pr):=
 if s=[83,75,73,80] then some fun _ ts i=>b63 1 ts i else if s=[83,84,79,80] then some fun _ ts i=>b63 2 ts i
 else if s=[83,69,81] then some (a4l R rec 8) else if s=[80,65,82] then some (a4l R rec 9)
 else if s=[80,82,73] then some (c4A R rec) else if s=[65,76,84] then some (a1x R rec 12 a9q) else if s=[73,70] then some (a1x R rec 14 ifM)
 else if s=[67,65,83,69] then some (c3M R rec) else if s=[87,72,73,76,69] then some (c0n rec) else if s=[80,76,65,67,69,68] then some (a7J R rec) else none
def a7d (d:Int) (top:Bool) (ts:List Tok) (i:Nat):PE Pr:=match ts with
 | []=>.error (110,i)
 | t::r=>match a4f R rec t.text with
   | some f=>if t.kind=2∧(top=true∨t.text≠[80,76,65,67,69,68]) then f d r i else a5i R rec d ts i
   | none=>a5i R rec d ts i
def c3o (d:Int) (top:Bool) (i:Nat):PE Pr:=a1o R d i fun ts=>S4 (a7f R rec d ts i) fun so i=>match so with
   | some s=>S4 (rec d top i) fun x i=>.ok (prM 18 [] A2 [] [] E6 [] [x] [] s,i)
   | none=>a7d R rec d top ts i
end
def C4 (R:List Rw):Nat→Int→Bool→Nat→PE Pr
 | 0=>fun _ _ i=>.error (110,i)
 | n+1=>c3o R (C4 R n)
def b0P (R:List Rw):PE Pr:=S4 (C4 R R.length 0 true 0) fun x i=>match R[i]? with
 | none=>.ok (x,i)
 | some y=>.error (if (Go.Lx.lexO y.text).2.2≠0 then (Go.Lx.lexO y.text).2.2 else 110,i)
def U7 (R:List Rw):Pr × Nat × Int:=if Go.Ly.mayP R then (match b0P R with
   | .ok (x,_)=>(x,0,0)
   | .error (e,i)=>(prM 0 [] A2 [] [] E6 [] [] [] C2,i,e)) else (prM 0 [] A2 [] [] E6 [] [] [] C2,0,2)
end Go.Sx
end
section
namespace Go.Lx
open Go.Ty
theorem b1P (s:B):(M6 s).2≤s.length:=by
 unfold M6
 split
 · exact Nat.zero_le _
 · rename_i h
   have h1:1≤s.length:=by
     cases s with
     | nil=>exact absurd rfl h
     | cons a t=>simp
   split
   · exact h1
   · split
     · exact Nat.zero_le _
     · rename_i h2
       have h2:2≤s.length:=by simp at h2;omega
       split
       · exact h2
       · split
         · exact Nat.zero_le _
         · rename_i h4
           have h4:4≤s.length:=by simp at h4;omega
           split
           · exact Nat.zero_le _
           · exact h4
theorem b4j (r:B):(tok r).2≤r.length:=by
 have h0:=a5t r
 have h1:=a5t (r.drop 1)
 have h2:=b1P (r.drop 1)
 have h3:(r.drop 1).length=r.length - 1:=List.length_drop
 cases r with
 | nil=>decide
 | cons c r=>
   simp only[List.length_cons] at h0 h1 h2 h3 ⊢
   unfold tok
   split
   · unfold a3C
     split
     · exact h0
     · split
       · exact Nat.zero_le _
       · exact h0
   · split
     · unfold a9t
       split
       · exact Nat.zero_le _
       · split
         · exact Nat.zero_le _
         · split
           · exact Nat.zero_le _
           · exact h0
     · split
       · unfold b1q
         split
         · exact Nat.zero_le _
         · split
           · exact Nat.zero_le _
           · show 1+run (List.drop 1 (c::r))≤_
             omega
       · split
         · unfold a0k
           split
           · exact Nat.zero_le _
           · rename_i h
             unfold noQ at h
             simp only[Bool.not_eq_true,Bool.or_eq_false_iff] at h
             have:(M6 (List.drop 1 (c::r))).2≠(List.drop 1 (c::r)).length:=fun e=>by
               have:=h.1.2
               rw[e] at this
               simp at this
             show(M6 (List.drop 1 (c::r))).2+2≤_
             omega
         · unfold a7u
           split
           · rename_i h
             simp only[Bool.and_eq_true,decide_eq_true_eq] at h
             exact h.1
           · split
             · show 1≤_
               omega
             · exact Nat.zero_le _
def a8c (r:B):Nat→Tok × Nat
 | 0=>(zeroK,0)
 | k+1=>if sym (r.take (k+1)) then (⟨5,0,r.take (k+1),0⟩,k+1) else a8c r k
theorem b7W (r:B):a7u r=a8c r (min 2 r.length):=by
 match r with
 | []=>rfl
 | [a]=>rfl
 | a::b::s=>
   rw[show min 2 (a::b::s).length=2 by simp]
   unfold a7u a8c a8c a8c
   simp
theorem H7:∀ (n k1 k2:Nat) (r:B) (p:Nat),r.length≤n→n≤k1→n≤k2→a7x k1 r p=a7x k2 r p
 | _,k1,k2,[],p,_,_,_=>by cases k1 <;> cases k2 <;> rfl
 | 0,_,_,c::r,p,h,_,_=>by simp at h
 | n+1,k1,k2,c::r,p,h,h1,h2=>by
   obtain⟨j1,rfl⟩:∃ j,k1=j+1:=⟨k1 - 1,by omega⟩
   obtain⟨j2,rfl⟩:∃ j,k2=j+1:=⟨k2 - 1,by omega⟩
   have hr:r.length≤n:=by simpa using h
   unfold a7x
   rw[H7 n j1 j2 r (p+1) hr (by omega) (by omega)]
   by_cases hn:(tok (c::r)).2==0
   · simp only[hn,if_true]
   · have hn':(tok (c::r)).2≠0:=by simpa using hn
     rw[H7 n j1 j2 ((c::r).drop (tok (c::r)).2) (p+(tok (c::r)).2) (by rw[List.length_drop,List.length_cons];omega) (by omega) (by omega)]
def lx (r:B) (p:Nat):Except Nat (List Tok):=a7x r.length r p
def a6c (l:List Tok):Except Nat (List Tok)→Except Nat (List Tok)
 | .ok m=>.ok (l++m)
 | .error e=>.error e
theorem b8l (x:Except Nat (List Tok)):a6c [] x=x:=by cases x <;> rfl
theorem b9B (l m:List Tok) (x:Except Nat (List Tok)):a6c l (a6c m x)=a6c (l++m) x:=by
 cases x with
 | error e=>rfl
 | ok k=>simp[a6c]
theorem c4H (p:Nat):lx [] p=.ok []:=rfl
theorem a8h (r:B) (p:Nat):lx (32::r) p=lx r (p+1):=by
 show a7x (r.length+1) (32::r) p=_
 unfold a7x
 rw[if_pos (by decide)]
 rfl
theorem lx_bad {c:UInt8} {r:B} {p:Nat} (hc:c≠32) (hn:(tok (c::r)).2=0):lx (c::r) p=.error p:=by
 have e:((c.toNat:Int)==32)=false:=by
   cases h:(c.toNat:Int)==32 with
   | false=>rfl
   | true => exact absurd (UInt8.toNat.inj (by have := eq_of_beq h; have e : c.toNat = 32 := by exact_mod_cast this
                                               rw[e];rfl)) hc
 show(if (c.toNat:Int)==32 then _ else if (tok (c::r)).2==0 then Except.error p else _)=_
 rw[e,hn]
 rfl
theorem lx_tok {c:UInt8} {r:B} {p:Nat} (hc:c≠32) (hn:(tok (c::r)).2≠0):lx (c::r) p=a6c [{ (tok (c::r)).1 with at_:=p }] (lx ((c::r).drop (tok (c::r)).2) (p+(tok (c::r)).2)):=by
 have e:((c.toNat:Int)==32)=false:=by
   cases h:(c.toNat:Int)==32 with
   | false=>rfl
   | true => exact absurd (UInt8.toNat.inj (by have := eq_of_beq h; have e : c.toNat = 32 := by exact_mod_cast this
                                               rw[e];rfl)) hc
 have e2:((tok (c::r)).2==0)=false:=by simpa using hn
 show(if (c.toNat:Int)==32 then _ else if (tok (c::r)).2==0 then Except.error p else match a7x r.length ((c::r).drop (tok (c::r)).2) (p+(tok (c::r)).2) with
     | .ok l=>.ok ({ (tok (c::r)).1 with at_:=p }::l)
     | .error e=>.error e)=_
 rw[e,e2]
 simp only[Bool.false_eq_true,if_false]
 rw[H7 ((c::r).drop (tok (c::r)).2).length r.length ((c::r).drop (tok (c::r)).2).length _ _ (Nat.le_refl _) (by rw[List.length_drop,List.length_cons];omega) (Nat.le_refl _)]
 unfold lx
 cases a7x ((c::r).drop (tok (c::r)).2).length ((c::r).drop (tok (c::r)).2) (p+(tok (c::r)).2) <;> rfl
def c6X:Except Nat (List Tok)→List Tok × Int × Int
 | .ok l=>(l,0,0)
 | .error a=>([],a,80)
theorem a4R {s:B} (h:decide ((s.length:Int) > 256)=true):lexO s=([],0,3):=by unfold lexO;rw[h];rfl
theorem a5I {s:B} (h:decide ((s.length:Int) > 256)=false):lexO s=c6X (lx s 0):=by
 unfold lexO lx
 rw[h]
 cases a7x s.length s 0 <;> rfl
theorem a0n {s:B} {p:Nat} {c:UInt8} (h:s[p]?=some c):s.drop p=c::s.drop (p+1):=by
 have h1:p < s.length:=(List.getElem?_eq_some_iff.1 h).1
 rw[List.drop_eq_getElem_cons h1,(List.getElem?_eq_some_iff.1 h).2]
theorem b4C {s:B} {p:Nat} {l:List Tok} (h:s[p]?=some 32) (hJ:lx s 0=a6c l (lx (s.drop p) p)):lx s 0=a6c l (lx (s.drop (p+1)) (p+1)):=by
 rw[a0n h,a8h] at hJ
 exact hJ
theorem b97 {s:B} {p:Nat} {c:UInt8} {l:List Tok} (h:s[p]?=some c) (hc:c≠32) (hn:(tok (s.drop p)).2=0) (hJ:lx s 0=a6c l (lx (s.drop p) p)):lx s 0=.error p:=by
 rw[a0n h] at hn hJ
 rw[lx_bad hc hn] at hJ
 exact hJ
theorem c0i {s:B} {p:Nat} {c:UInt8} {l:List Tok} (h:s[p]?=some c) (hc:c≠32) (hn:(tok (s.drop p)).2≠0) (hJ:lx s 0=a6c l (lx (s.drop p) p)) :
   lx s 0=a6c (l++[{ (tok (s.drop p)).1 with at_:=p }]) (lx (s.drop (p+(tok (s.drop p)).2)) (p+(tok (s.drop p)).2)):=by
 have e:=a0n h
 rw[e] at hn hJ ⊢
 rw[lx_tok hc hn,b9B,← e,List.drop_drop] at hJ
 rw[e] at hJ
 exact hJ
theorem b5A (c:UInt8):((c.toNat:Int)==32)=(c==32):=by simpa using a04 (p:=fun c=>((c.toNat:Int)==32)==(c==32)) (by decide +kernel) c
end Go.Lx
end
section
namespace Go.Lx
open Go.Ty
def a0y (u:Nat):Nat→B
 | 0=>[]
 | i+1=>P9.getD (u / 16 ^ i % 16) 0::a0y u i
theorem a5y (u:Nat):∀ i,(a0y u i).length=i
 | 0=>rfl
 | i+1=>by show(a0y u i).length+1=_;rw[a5y u i]
def a1W (v:Int) (hex:Bool):B:=if hex then 35::a0y (IntKind.u32.wrap v).toNat 8 else Lib.itoa v
def c4h:B:=[13,10,9,39,42]
def b2Z:B:=[99,110,116,39,42]
def shI (v:Nat):Int:=Lib.indexByte c4h (UInt8.ofNat v)
def a5s (v:Nat):B:=
 if decide (shI v ≥ 0) then [42,b2Z.getD (shI v).toNat 0]
 else if decide ((v:Int) < 32)||decide ((v:Int) > 126) then [42,35,P9.getD (v / 16) 0,P9.getD (v % 16) 0]
 else [UInt8.ofNat v]
def a1p (t:Tok):B:=if t.kind==3 then a1W t.n (decide (t.n < 0)) else if t.kind==4 then [39]++a5s t.n.toNat++[39] else t.text
def b1u (t:Tok) (s:B):Bool:=(t.kind==5)&&Lib.contains s t.text
def c0m:B:=[44,59,58,41,93]
def b4S:B:=[40,91]
def gap (p t:Tok):Bool:=!b1u t c0m&&!b1u p b4S&&((p.kind != 1)||!b1u t b4S)
def a9x:Option Tok→Tok→Bool
 | none,_=>false
 | some p,t=>gap p t
def sep (b:Bool):B:=if b then [32] else []
def textL:Option Tok→List Tok→B
 | _,[]=>[]
 | p,t::l=>sep (a9x p t)++a1p t++textL (some t) l
def a3W (p:Option Tok):List Tok→Option Tok
 | []=>p
 | t::l=>a3W (some t) l
theorem a6H:∀ (l m:List Tok) (p:Option Tok),textL p (l++m)=textL p l++textL (a3W p l) m
 | [],m,p=>rfl
 | t::l,m,p=>by
   show sep (a9x p t)++a1p t++textL (some t) (l++m)=sep (a9x p t)++a1p t++textL (some t) l++textL (a3W (some t) l) m
   rw[a6H l m (some t)]
   simp
theorem a7R:∀ (l:List Tok) (i:Nat) (p:Option Tok) (t:Tok),l[i]?=some t→a3W p (l.take (i+1))=some t
 | [],i,p,t,h=>by cases i <;> cases h
 | x::l,0,p,t,h=>by cases h;cases l <;> rfl
 | x::l,i+1,p,t,h=>by
   show a3W (some x) (l.take (i+1))=some t
   exact a7R l i (some x) t (by simpa using h)
theorem b4q {l:List Tok} {i:Nat} {t:Tok} (p:Option Tok) (h:l[i]?=some t):textL p (l.take (i+1))=textL p (l.take i)++(sep (a9x (a3W p (l.take i)) t)++a1p t):=by
 have h1:i < l.length:=(List.getElem?_eq_some_iff.1 h).1
 have e:l.take (i+1)=l.take i++[t]:=by
   rw[List.take_add_one,h]
   rfl
 rw[e,a6H]
 show textL p (l.take i)++(sep _++a1p t++[])=_
 simp
def textO (l:List Tok):B × Int:=
 if l.any fun t=>!L6 t then ([],2) else if decide (((textL none l).length:Int) > 256) then ([],3) else (textL none l,0)
theorem b6Q {l:List Tok} (h:l.any (fun t=>!L6 t)=true):textO l=([],2):=by unfold textO;rw[h];rfl
theorem b3x {l:List Tok} (h:l.any (fun t=>!L6 t)=false) {i:Nat} (hi:256 < (textL none (l.take i)).length):textO l=([],3):=by
 unfold textO
 rw[h]
 have:decide (((textL none l).length:Int) > 256)=true:=by
   have e:textL none l=textL none (l.take i)++textL (a3W none (l.take i)) (l.drop i):=by rw[← a6H,List.take_append_drop]
   rw[e,List.length_append]
   simp
   omega
 rw[this]
 rfl
theorem c03 {l:List Tok} (h:l.any (fun t=>!L6 t)=false) (hl:(textL none l).length≤256):textO l=(textL none l,0):=by
 unfold textO
 rw[h]
 have:decide (((textL none l).length:Int) > 256)=false:=by simp;omega
 rw[this]
 rfl
theorem b0h (v:Nat):(a5s v).length≤4:=by
 unfold a5s
 split
 · simp
 · split <;> simp
theorem b1l:∀ (n u:Nat),u≤n→(Lib.decDigits u).length≤u+1
 | n,u,h=>by
   unfold Lib.decDigits
   split
   · simp
   · rename_i h10
     cases n with
     | zero=>omega
     | succ n=>
       have:=b1l n (u / 10) (by omega)
       rw[List.length_append,List.length_singleton]
       omega
theorem b7k {v:Int} (b:Bool) (h:-2147483648≤v∧v≤2147483647):(a1W v b).length≤3000000000:=by
 unfold a1W
 split
 · rw[List.length_cons,a5y];omega
 · unfold Lib.itoa
   split
   · have:=b1l _ v.natAbs (Nat.le_refl _);rw[List.length_cons];omega
   · have:=b1l _ v.toNat (Nat.le_refl _);omega
theorem b70 {t:Tok} (h:-2147483648≤t.n∧t.n≤2147483647) (hs:t.text.length≤140737488355328):(a1p t).length≤140737488355328:=by
 unfold a1p
 split
 · have:=b7k (decide (t.n < 0)) h;omega
 · split
   · have:=b0h t.n.toNat
     simp only[List.length_append,List.length_singleton]
     omega
   · exact hs
theorem b4F (u:Nat) (i:Nat):a0y u (i+1)=P9.getD (u / 16 ^ i % 16) 0::a0y u i:=rfl
end Go.Lx
end
section
namespace Go.Lx
open Go.Ty
set_option maxRecDepth 100000
def c5C (t:Tok) (n:Nat) (c:UInt8):Bool:=
 if t.kind==4 then true else if t.kind==5 then (n==2)||!sym (t.text++[c]) else !wch c
def stop (t:Tok) (n:Nat) (y:B):Prop:=∀ c,y[n]?=some c→c5C t n c=true
theorem b4c {x:B} {t:Tok} {n:Nat} (h:a3C x=(t,n)) (hn:n≠0):run x=n∧(t.kind=1∨t.kind=2)∧t.text=x.take n∧t.n=0∧t.at_=0:=by
 unfold a3C at h
 split at h
 · cases h;exact⟨rfl,.inr rfl,rfl,rfl,rfl⟩
 · split at h
   · cases h;exact absurd rfl hn
   · cases h;exact⟨rfl,.inl rfl,rfl,rfl,rfl⟩
theorem c0w {x:B} {t:Tok} {n:Nat} (h:a9t x=(t,n)) (hn:n≠0):run x=n∧t.kind=3∧t.text=[]∧t.at_=0:=by
 unfold a9t at h
 split at h
 · cases h;exact absurd rfl hn
 · split at h
   · cases h;exact absurd rfl hn
   · split at h
     · cases h;exact absurd rfl hn
     · cases h;exact⟨rfl,rfl,rfl,rfl⟩
theorem b9e {x:B} {t:Tok} {n:Nat} (h:b1q x=(t,n)) (hn:n≠0):1+run (x.drop 1)=n∧t.kind=3∧t.text=[]∧t.at_=0:=by
 unfold b1q at h
 split at h
 · cases h;exact absurd rfl hn
 · split at h
   · cases h;exact absurd rfl hn
   · cases h;exact⟨rfl,rfl,rfl,rfl⟩
theorem b65 {x:B} {t:Tok} {n:Nat} (h:a0k x=(t,n)) (hn:n≠0):noQ (x.drop 1) (M6 (x.drop 1)).2=false∧t=⟨4,0,[],(M6 (x.drop 1)).1⟩∧n=(M6 (x.drop 1)).2+2:=by
 unfold a0k at h
 split at h
 · cases h;exact absurd rfl hn
 · rename_i hq;cases h;exact⟨by simpa using hq,rfl,rfl⟩
theorem b7n {x:B} {t:Tok} {n:Nat} (h:a7u x=(t,n)) (hn:n≠0):t=⟨5,0,x.take n,0⟩∧sym (x.take n)=true∧n≤x.length∧(n=2∨n=1∧(2≤x.length→sym (x.take 2)=false)):=by
 unfold a7u at h
 split at h
 · rename_i hc
   simp only[Bool.and_eq_true,decide_eq_true_eq] at hc
   cases h
   exact⟨rfl,hc.2,hc.1,.inl rfl⟩
 · rename_i h2
   split at h
   · rename_i hc
     simp only[Bool.and_eq_true,decide_eq_true_eq] at hc
     cases h
     refine⟨rfl,hc.2,hc.1,.inr ⟨rfl,fun hl=>?_⟩⟩
     cases hb:sym (x.take 2) with
     | false=>rfl
     | true=>exact absurd (by rw[hb];simpa using hl) h2
   · cases h;exact absurd rfl hn
end Go.Lx

namespace Go.Lx
open Go.Ty
set_option maxRecDepth 100000
theorem b3f {P:B→Prop} (h0:P []) (h1:∀ r,P r→P (32::r)) (h2:∀ c r,c≠32→(tok (c::r)).2=0→P (c::r))
   (h3:∀ c r,c≠32→(tok (c::r)).2≠0→P ((c::r).drop (tok (c::r)).2)→P (c::r)):∀ r,P r:=by
 have key:∀ n,∀ r:B,r.length≤n→P r:=by
   intro n
   induction n with
   | zero=>intro r hr;cases r with
     | nil=>exact h0
     | cons c r=>simp at hr
   | succ n ih=>
     intro r hr
     cases r with
     | nil=>exact h0
     | cons c r=>
       by_cases hc:c=32
       · subst hc;exact h1 r (ih r (by simpa using hr))
       · by_cases hn:(tok (c::r)).2=0
         · exact h2 c r hc hn
         · exact h3 c r hc hn (ih _ (by rw[List.length_drop];simp only[List.length_cons] at hr ⊢;omega))
 exact fun r=>key r.length r (Nat.le_refl _)
theorem b5f {l:List Tok} {x:Except Nat (List Tok)} {m:List Tok} (h:a6c l x=.ok m):∃ k,x=.ok k∧m=l++k:=by
 cases x with
 | error e=>cases h
 | ok k=>cases h;exact⟨k,rfl,rfl⟩
end Go.Lx

namespace Go.Lx
open Go.Ty
set_option maxRecDepth 100000
theorem b7s {t:Tok} (h:L6 t=true):(t.kind=1∧t.n=0∧name t.text=true)∨(t.kind=2∧t.n=0∧key t.text=true)∨(t.kind=5∧t.n=0∧sym t.text=true)∨(t.kind=4∧t.text=[]∧0≤t.n∧t.n < 256)∨(t.kind=3∧t.text=[]):=by
 unfold L6 at h
 split at h
 · cases h
 · split at h
   · rename_i hk;simp at h hk;exact .inl ⟨hk,h.1,h.2⟩
   · split at h
     · rename_i hk;simp at h hk;exact .inr (.inl ⟨hk,h.1,h.2⟩)
     · split at h
       · rename_i hk;simp at h hk;exact .inr (.inr (.inl ⟨hk,h.1,h.2⟩))
       · split at h
         · rename_i hk;simp at h hk;exact .inr (.inr (.inr (.inl ⟨hk,h.1.1,h.1.2,h.2⟩)))
         · simp at h;exact .inr (.inr (.inr (.inr h)))
end Go.Lx

namespace Go.Lx
open Go.Ty
set_option maxRecDepth 100000
def c5v:Option Tok→Nat→List Tok→List Tok
 | _,_,[]=>[]
 | p,q,t::l=>{ t with at_:=(q+(sep (a9x p t)).length:Nat) }::c5v (some t) (q+(sep (a9x p t)).length+(a1p t).length) l
theorem a84 (v:Int):-2147483648≤IntKind.i32.wrap v∧IntKind.i32.wrap v≤2147483647:=by
 unfold IntKind.wrap
 simp[IntKind.bits,IntKind.signed]
 omega
theorem c3H (c:UInt8):chB a1S (esc c).toNat < 256∧0≤chB a1S (esc c).toNat:=by
 unfold chB
 have:=(a1S.getD (esc c).toNat 0).toNat_lt
 omega
theorem b75 (s:B):0≤(M6 s).1∧(M6 s).1 < 256:=by
 unfold M6
 split
 · exact⟨Int.le_refl 0,show(0:Int) < 256 by decide⟩
 · split
   · have:=(s.getD 0 0).toNat_lt
     show 0≤chB s 0∧chB s 0 < 256
     unfold chB
     omega
   · split
     · exact⟨Int.le_refl 0,show(0:Int) < 256 by decide⟩
     · split
       · have:=c3H (s.getD 1 0)
         exact⟨this.2,this.1⟩
       · split
         · exact⟨Int.le_refl 0,show(0:Int) < 256 by decide⟩
         · split
           · exact⟨Int.le_refl 0,show(0:Int) < 256 by decide⟩
           · show 0≤(a0E _).1∧(a0E _).1 < 256
             unfold a0E
             rw[a3V]
             cases hv:a7w 16 ((s.drop 2).take 2) 0 with
             | none=>exact⟨Int.le_refl 0,show(0:Int) < 256 by decide⟩
             | some v=>
               have hb:=a2k (by decide) a5e _ 0 v (by decide) hv
               have hl:((s.drop 2).take 2).length≤2:=by rw[List.length_take];omega
               have hp:(16:Int) ^ ((s.drop 2).take 2).length≤16 ^ 2:=by exact_mod_cast Nat.pow_le_pow_right (by decide) hl
               simp only
               omega
theorem c2Q {c:UInt8} {r:B} {t:Tok} {n:Nat} (h:tok (c::r)=(t,n)) (hn:n≠0) {z:Int} (hz:0≤z∧z < 256):L6 { t with at_:=z }=true∧(-2147483648≤t.n∧t.n≤2147483647):=by
 have h0:(decide (z < 0)||decide (z ≥ 256))=false:=by simp;omega
 unfold tok at h
 rw[a2Z] at h
 split at h
 · rename_i hl
   obtain⟨hr,_⟩:=b4c h hn
   unfold a3C at h
   split at h
   · rename_i hk
     cases h
     refine⟨?_,by show(-2147483648:Int)≤0∧(0:Int)≤2147483647;omega⟩
     unfold L6
     simp only[h0,hk]
     rfl
   · rename_i hk
     split at h
     · cases h;exact absurd rfl hn
     · rename_i h32
       cases h
       refine⟨?_,by show(-2147483648:Int)≤0∧(0:Int)≤2147483647;omega⟩
       unfold L6
       simp only[h0,b6V hl (by simpa using hk)]
       simpa using h32
 · split at h
   · obtain⟨_,hk,htx,_⟩:=c0w h hn
     refine⟨?_,?_⟩
     · unfold L6
       simp only[h0,hk,htx]
       rfl
     · unfold a9t at h
       split at h
       · cases h;exact absurd rfl hn
       · split at h
         · cases h;exact absurd rfl hn
         · split at h
           · cases h;exact absurd rfl hn
           · cases h;exact a84 _
   · split at h
     · obtain⟨_,hk,htx,_⟩:=b9e h hn
       refine⟨?_,?_⟩
       · unfold L6
         simp only[h0,hk,htx]
         rfl
       · unfold b1q at h
         split at h
         · cases h;exact absurd rfl hn
         · split at h
           · cases h;exact absurd rfl hn
           · cases h;exact a84 _
     · split at h
       · obtain⟨_,htk,_⟩:=b65 h hn
         have hv:=b75 r
         subst htk
         refine⟨?_,by show -2147483648≤(M6 r).1∧(M6 r).1≤2147483647;omega⟩
         unfold L6
         simp only[h0]
         simp
         omega
       · obtain⟨htk,hsy,_,_⟩:=b7n h hn
         subst htk
         refine⟨?_,by show(-2147483648:Int)≤0∧(0:Int)≤2147483647;omega⟩
         unfold L6
         simp only[h0,hsy]
         rfl
theorem c2L:∀ s ∈ a8d,s.length≤32:=by decide +kernel
theorem c1u:∀ s ∈ b2C,s.length≤32:=by decide +kernel
theorem may_len {t:Tok} (h:L6 t=true):t.text.length≤32:=by
 rcases b7s h with ⟨_,_,h3⟩ | ⟨_,_,h3⟩ | ⟨_,_,h3⟩ | ⟨_,h3,_⟩ | ⟨_,h3⟩
 · unfold name at h3
   simp only[Bool.and_eq_true,decide_eq_true_eq] at h3
   have:=h3.1.1.1.2
   omega
 · exact c2L _ ((a1M _ _).1 (by rw[b9r] at h3;exact h3))
 · exact c1u _ ((a1M _ _).1 (by rw[c3Z] at h3;exact h3))
 · rw[h3];exact Nat.zero_le _
 · rw[h3];exact Nat.zero_le _
theorem lx_may:∀ (r:B) (p:Nat) (l:List Tok),lx r p=.ok l→p+r.length≤256→∀ x,x ∈ l→L6 x=true∧(-2147483648≤x.n∧x.n≤2147483647):=by
 refine b3f ?_ ?_ ?_ ?_
 · intro p l h _ x hx;cases h;cases hx
 · intro r ih p l h hp x hx
   rw[a8h] at h
   exact ih _ _ h (by simp only[List.length_cons] at hp;omega) x hx
 · intro c r hc hn p l h
   rw[lx_bad hc hn] at h
   cases h
 · intro c r hc hn ih p l h hp x hx
   rw[lx_tok hc hn] at h
   obtain⟨k,hk,rfl⟩:=b5f h
   have hle:=b4j (c::r)
   rcases List.mem_append.1 hx with hx | hx
   · cases List.mem_singleton.1 hx
     exact c2Q (show tok (c::r)=((tok (c::r)).1,(tok (c::r)).2) from rfl) hn (z:=(p:Int)) (by simp only[List.length_cons] at hp;omega)
   · exact ih _ _ hk (by rw[List.length_drop];omega) x hx
end Go.Lx

namespace Go.Lx
open Go.Ty
set_option maxRecDepth 100000
theorem lx_len:∀ (r:B) (p:Nat) (l:List Tok),lx r p=.ok l→l.length≤r.length:=by
 refine b3f ?_ ?_ ?_ ?_
 · intro p l h;cases h;exact Nat.le_refl _
 · intro r ih p l h
   rw[a8h] at h
   have:=ih _ _ h
   simp only[List.length_cons]
   omega
 · intro c r hc hn p l h
   rw[lx_bad hc hn] at h
   cases h
 · intro c r hc hn ih p l h
   rw[lx_tok hc hn] at h
   obtain⟨k,hk,rfl⟩:=b5f h
   have:=ih _ _ hk
   have hle:=b4j (c::r)
   rw[List.length_drop] at this
   simp only[List.length_append,List.length_singleton]
   omega
theorem lexO_ok {s:B} {l:List Tok} {z:Int} (h:lexO s=(l,z,0)):s.length≤256∧lx s 0=.ok l∧z=0:=by
 cases hd:decide ((s.length:Int) > 256) with
 | true=>rw[a4R hd] at h;cases h
 | false=>
   rw[a5I hd] at h
   cases hx:lx s 0 with
   | error e=>rw[hx] at h;cases h
   | ok m=>
     rw[hx] at h
     cases h
     have:=of_decide_eq_false hd
     exact⟨by omega,rfl,rfl⟩
theorem lexO_no {s:B} {l:List Tok} {z e:Int} (h:lexO s=(l,z,e)) (he:e≠0):l=[]:=by
 cases hd:decide ((s.length:Int) > 256) with
 | true=>rw[a4R hd] at h;cases h;rfl
 | false=>
   rw[a5I hd] at h
   cases hx:lx s 0 with
   | error e=>rw[hx] at h;cases h;rfl
   | ok m=>rw[hx] at h;cases h;exact absurd rfl he
end Go.Lx
end
section
namespace Go.Xp
open Go.Eng Go
open Go.Ty (Tok B7)
open Go.Lx (L6)
set_option maxRecDepth 100000
def a8l (ts:List Tok):Prop:=D2 ts≠C5 [91]
def b0H (ts:List Tok):Prop:=opF (D2 ts) 22 1=0
theorem H6 {t:Tok} {r:List Tok} (h:L6 t=true) (ha:t.at_=0):D2 (t::r)=t:=by
 rw[a4Y,if_pos h]
 cases t
 cases ha
 rfl
theorem O4 {ins:B→B→List Tok→a0z} {ts:List Tok} {t:Tok} (h:D2 ts=t):S1 ins ts=if t.kind=3 then .ok (sx 1 0 0 t.n [] [],ts.tail) else if t.kind=4 then .ok (sx 2 0 0 t.n [] [],ts.tail)
 else if t=D1 [70,65,76,83,69] then .ok (sx 3 0 0 0 [] [],ts.tail) else if t=D1 [84,82,85,69] then .ok (sx 3 0 0 1 [] [],ts.tail)
 else if t.kind=1 then (if D2 ts.tail=C5 [91] then (match ins [91] [93] ts.tail with
     | .ok (x,r)=>.ok (sx 5 0 0 0 t.text [x],r)
     | .error e=>.error e) else .ok (sx 4 0 0 0 t.text [],ts.tail))
 else if t=C5 [40] then ins [40] [41] ts else .error 100:=by subst h;rfl
theorem Y5 {ins:B→B→List Tok→a0z} {ts:List Tok} {t:Tok} (h:D2 ts=t):a0S ins ts=if t=D1 [83,73,90,69] then (if (D2 ts.tail).kind=1 then .ok (sx 9 0 0 0 (D2 ts.tail).text [],ts.tail.tail) else .error 100)
 else if a0t t≠0 then unQ (fun x=>sx 8 0 (a0t t) 0 [] [x]) (S1 ins ts.tail)
 else if opF t 4 23≠0 then unQ (fun x=>sx 6 (opF t 4 23) 0 0 [] [x]) (S1 ins ts.tail)
 else match S1 ins ts with
   | .error e=>.error e
   | .ok (a,r)=>if opF (D2 r) 22 1≠0 then unQ (fun b=>sx 7 (opF (D2 r) 22 1) 0 0 [] [a,b]) (S1 ins r.tail) else .ok (a,r):=by subst h;rfl
inductive Dp:Nat→Ex→Prop
 | mk {n:Nat} {e:Ex} (h:∀ x ∈ e.l,Dp n x):Dp (n+1) e
theorem Dp.part {n:Nat} {e x:Ex} (d:Dp (n+1) e) (hx:x ∈ e.l):Dp n x:=by cases d with | mk h=>exact h x hx
theorem Dp.pos {n:Nat} {e:Ex} (d:Dp n e):∃ k,n=k+1:=by cases d;exact⟨_,rfl⟩
theorem Dp.up {e:Ex}:∀ {n:Nat},Dp n e→Dp (n+1) e:=by
 refine Ex.ind (p:=fun e=>∀ {n:Nat},Dp n e→Dp (n+1) e) (fun e ih n d=>?_) e
 obtain⟨k,rfl⟩:=d.pos
 exact .mk fun x hx=>ih x hx (d.part hx)
def b8I (t:Tok):Prop:=t.kind=1∨t.kind=3∨t.kind=4∨t=D1 [70,65,76,83,69]∨t=D1 [84,82,85,69]∨t=C5 [40]
theorem b8o {t:Tok} (h:b8I t):t≠D1 [83,73,90,69]∧a0t t=0∧opF t 4 23=0:=by
 have key:t.kind=1∨t.kind=3∨t.kind=4→t≠D1 [83,73,90,69]∧a0t t=0∧opF t 4 23=0:=by
   intro hk
   have hm:∀ s,t≠D1 s:=by
     rintro s rfl
     have:=W6 s
     omega
   have ho:∀ o,t≠L3 o:=fun o=>hm _
   refine⟨hm _,?_,?_⟩
   · unfold a0t
     rw[if_neg (hm _),if_neg (hm _),if_neg (hm _)]
   · simp only[opF,if_neg (ho _)]
 rcases h with h | h | h | rfl | rfl | rfl
 · exact key (.inl h)
 · exact key (.inr (.inl h))
 · exact key (.inr (.inr h))
 · decide +kernel
 · decide +kernel
 · decide +kernel
theorem b1g (n:Int):L6 (a7v n)=true:=rfl
theorem a7X {n:Int} (h:0≤n∧n≤255):L6 (a3q n)=true:=by
 unfold L6 a3q
 simp
 omega
theorem a3j {s:B} (h:Go.Lx.name s=true):L6 (F1 s)=true:=by
 unfold L6 F1
 simp[h]
theorem b9j:∀ o,o < 27→1≤o→L6 (L3 (o:Nat))=true:=by decide +kernel
theorem a4P {o:Int} (h:1≤o∧o≤26):L6 (L3 o)=true:=by
 have:=b9j o.toNat (by omega) (by omega)
 rwa [show((o.toNat:Nat):Int)=o by omega] at this
theorem b5m (o:Int):(L3 o).at_=0:=a3E _
theorem c3N:∀ o,o < 27→23≤o→(L3 (o:Nat)≠D1 [83,73,90,69])∧a0t (L3 (o:Nat))=0∧opF (L3 (o:Nat)) 4 23=o:=by decide +kernel
theorem c4f:∀ o,o < 23→1≤o→opF (L3 (o:Nat)) 22 1=o∧L3 (o:Nat)≠C5 [91]:=by decide +kernel
theorem b5s:∀ k,k < 4→1≤k→L6 (D1 (L9 (k:Nat)))=true∧D1 (L9 (k:Nat))≠D1 [83,73,90,69]∧a0t (D1 (L9 (k:Nat)))=k:=by decide +kernel
theorem b2x {s:B} {r:List Tok} (h:L6 (C5 s)=true) (hs:s≠[91]):a8l (C5 s::r):=by
 unfold a8l
 rw[H6 h rfl]
 intro q
 exact hs (congrArg Tok.text q)
theorem c2T (r:List Tok):b0H (C5 [93]::r):=by
 unfold b0H
 rw[H6 (by decide +kernel) rfl]
 decide +kernel
theorem c3b (r:List Tok):b0H (C5 [41]::r):=by
 unfold b0H
 rw[H6 (by decide +kernel) rfl]
 decide +kernel
theorem b8N {f:Nat} {o s:B} {ts r:List Tok} {x:Ex} (ho:L6 (C5 o)=true) (hs:L6 (C5 s)=true) (h:a0S (V7 f) ts=.ok (x,C5 s::r)):V7 (f+1) o s (C5 o::ts)=.ok (x,r):=by
 unfold V7
 rw[H6 ho rfl,if_pos rfl]
 show(match a0S (V7 f) ts with | .error e=>.error e | .ok (x,r)=>if D2 r=C5 s then .ok (x,r.tail) else .error 100:a0z)=_
 rw[h]
 show(if D2 (C5 s::r)=C5 s then .ok (x,(C5 s::r).tail) else .error 100:a0z)=_
 rw[H6 hs rfl,if_pos rfl]
 rfl
section
variable {e:Ex} (hF:Fine e)
include hF
theorem a6N (hn:-2147483648≤e.n∧e.n≤2147483647) (h:e.k=2):0≤e.n∧e.n≤255:=by
 have h1:=hF.ok
 unfold C8 at h1
 simp only[h] at h1
 by_cases hb:a5k .i32 e.n 8=0
 · exact(c6d hn).1 hb
 · simp[hb] at h1
theorem a1J (h:e.k=4∨e.k=5∨e.k=9):Go.Lx.name e.s=true:=by
 have h1:=hF.ok
 unfold C8 at h1
 cases hb:Go.Lx.name e.s with
 | true=>rfl
 | false=>rcases h with h | h | h <;> simp[h,hb] at h1
theorem b2h (ho:0≤e.o∧e.o≤255) (h:e.k=6):23≤e.o∧e.o≤26:=by
 have h1:=hF.ok
 unfold C8 at h1
 simp only[h] at h1
 by_cases h2:e.o < 23
 · simp[h2] at h1
 · have h3:=b3o (o:=e.o) (by omega)
   rw[h3] at h1
   by_cases h4:e.o - 23 ≥ 4
   · simp[h2,h4] at h1
   · omega
theorem b2E (h:e.k=7):1≤e.o∧e.o≤22:=by
 have h1:=hF.ok
 unfold C8 at h1
 simp only[h] at h1
 by_cases h2:e.o < 1
 · simp[h2] at h1
 · by_cases h4:e.o > 22
   · simp[h2,h4] at h1
   · omega
theorem a9P (h:e.k=8):1≤e.t∧e.t≤3:=by
 have h1:=hF.ok
 unfold C8 at h1
 simp only[h] at h1
 by_cases h2:e.t=1
 · omega
 by_cases h3:e.t=2
 · omega
 by_cases h4:e.t=3
 · omega
 simp[L9,h2,h3,h4] at h1
theorem b7y (h:e.k=1∨e.k=2∨e.k=3∨e.k=4∨e.k=9):e.l=[]:=by
 have h1:=hF.ok
 have h2:=hF.num
 have:(C8 e).1=0:=by
   unfold C8 at h1 ⊢
   rcases h with h | h | h | h | h <;> simp only[h] at h1 ⊢ <;> (revert h1;simp) <;> split <;> simp
 rw[this] at h2
 match hl:e.l with
 | []=>rfl
 | _::_=>rw[hl] at h2;simp at h2;omega
end
theorem b3I {e:Ex} (hF:Fine e):C3 e=(if e.k=1 then sx 1 0 0 e.n [] [] else if e.k=2 then sx 2 0 0 e.n [] [] else if e.k=3 then sx 3 0 0 e.n [] [] else if e.k=4 then sx 4 0 0 0 e.s []
   else if e.k=9 then sx 9 0 0 0 e.s [] else if e.k=5 then sx 5 0 0 0 e.s (e.l.map C3) else if e.k=6 then sx 6 e.o 0 0 [] (e.l.map C3) else if e.k=7 then sx 7 e.o 0 0 [] (e.l.map C3) else sx 8 0 e.t 0 [] (e.l.map C3)):=by
 have h1:=hF.ok
 have hl:=b7y hF
 rw[Y1]
 unfold C8 at h1
 rcases a1L hF with h | h | h | h | h | h | h | h | h
 · simp only[h] at h1 ⊢
   rw[hl (by omega)]
   simp[fin] at h1
   simp[sx,h1]
 · simp only[h] at h1 ⊢
   rw[hl (by omega)]
   revert h1
   simp only[show ¬ ((2:Int)=1) by decide,if_false,if_true]
   split
   · intro h1;cases h1
   · intro h1
     simp[fin] at h1
     simp[sx,h1]
 · simp only[h] at h1 ⊢
   rw[hl (by omega)]
   revert h1
   simp only[show ¬ ((3:Int)=1) by decide,show ¬ ((3:Int)=2) by decide,if_false,if_true]
   split
   · intro h1;cases h1
   · intro h1
     simp[fin] at h1
     simp[sx,h1]
 · simp only[h] at h1 ⊢
   rw[hl (by omega)]
   revert h1
   cases Go.Lx.name e.s
   · simp
   · intro h1
     simp[fin] at h1
     simp[sx,h1]
 · simp only[h] at h1 ⊢
   rw[hl (by omega)]
   revert h1
   cases Go.Lx.name e.s
   · simp
   · intro h1
     simp[fin] at h1
     simp[sx,h1]
 · simp only[h] at h1 ⊢
   revert h1
   cases Go.Lx.name e.s
   · simp
   · intro h1
     simp[fin] at h1
     simp[sx,h1]
 · simp only[h] at h1 ⊢
   revert h1
   simp only[show ¬ ((6:Int)=1) by decide,show ¬ ((6:Int)=2) by decide,show ¬ ((6:Int)=3) by decide,show ¬ ((6:Int)=4) by decide,show ¬ ((6:Int)=9) by decide,show ¬ ((6:Int)=5) by decide,if_false,if_true]
   split
   · intro h1;cases h1
   · intro h1
     simp[fin] at h1
     simp[sx,h1]
 · simp only[h] at h1 ⊢
   revert h1
   simp only[show ¬ ((7:Int)=1) by decide,show ¬ ((7:Int)=2) by decide,show ¬ ((7:Int)=3) by decide,show ¬ ((7:Int)=4) by decide,show ¬ ((7:Int)=9) by decide,show ¬ ((7:Int)=5) by decide,show ¬ ((7:Int)=6) by decide,if_false,if_true]
   split
   · intro h1;cases h1
   · intro h1
     simp[fin] at h1
     simp[sx,h1]
 · simp only[h] at h1 ⊢
   revert h1
   simp only[show ¬ ((8:Int)=1) by decide,show ¬ ((8:Int)=2) by decide,show ¬ ((8:Int)=3) by decide,show ¬ ((8:Int)=4) by decide,show ¬ ((8:Int)=9) by decide,show ¬ ((8:Int)=5) by decide,show ¬ ((8:Int)=6) by decide,show ¬ ((8:Int)=7) by decide,if_false,if_true]
   split
   · intro h1;cases h1
   · intro h1
     simp[fin] at h1
     simp[sx,h1]
theorem a7L {e:Ex} (hF:Fine e) (hn:-2147483648≤e.n∧e.n≤2147483647) (rest:List Tok):b8I (D2 (D0 e++rest)):=by
 rcases a1L hF with h | h | h | h | h | h | h | h | h
 · rw[show D0 e++rest=a7v e.n::rest by unfold D0 N3 par;rw[F5];simp[wr,h],H6 (b1g _) rfl]
   exact .inr (.inl rfl)
 · rw[show D0 e++rest=a3q e.n::rest by unfold D0 N3 par;rw[F5];simp[wr,h],H6 (a7X (a6N hF hn h)) rfl]
   exact .inr (.inr (.inl rfl))
 · rcases a6J hn hF h with h0 | h0
   · rw[show D0 e++rest=D1 [70,65,76,83,69]::rest by unfold D0 N3 par;rw[F5];simp[wr,h,h0],H6 (by decide +kernel) (a3E _)]
     exact .inr (.inr (.inr (.inl rfl)))
   · rw[show D0 e++rest=D1 [84,82,85,69]::rest by unfold D0 N3 par;rw[F5];simp[wr,h,h0],H6 (by decide +kernel) (a3E _)]
     exact .inr (.inr (.inr (.inr (.inl rfl))))
 · rw[show D0 e++rest=F1 e.s::rest by unfold D0 N3 par;rw[F5];simp[wr,h],H6 (a3j (a1J hF (.inl h))) rfl]
   exact .inl rfl
 · rw[show D0 e++rest=C5 [40]::((B4 e++[C5 [41]])++rest) by unfold D0 N3 par;simp[h],H6 (by decide +kernel) rfl]
   exact .inr (.inr (.inr (.inr (.inr rfl))))
 · obtain⟨x,hx⟩:=S0 hF (.inl h)
   rw[show D0 e++rest=F1 e.s::(C5 [91]::(B4 x++[C5 [93]])++rest) by unfold D0 N3 par;rw[F5];simp[wr,h,hx,Q0],H6 (a3j (a1J hF (.inr (.inl h)))) rfl]
   exact .inl rfl
 · rw[show D0 e++rest=C5 [40]::((B4 e++[C5 [41]])++rest) by unfold D0 N3 par;simp[h],H6 (by decide +kernel) rfl]
   exact .inr (.inr (.inr (.inr (.inr rfl))))
 · rw[show D0 e++rest=C5 [40]::((B4 e++[C5 [41]])++rest) by unfold D0 N3 par;simp[h],H6 (by decide +kernel) rfl]
   exact .inr (.inr (.inr (.inr (.inr rfl))))
 · rw[show D0 e++rest=C5 [40]::((B4 e++[C5 [41]])++rest) by unfold D0 N3 par;simp[h],H6 (by decide +kernel) rfl]
   exact .inr (.inr (.inr (.inr (.inr rfl))))
abbrev RdE (e:Ex):Prop:=∀ f,Dp (f+1) e→∀ rest,a8l rest→b0H rest→a0S (V7 f) (B4 e++rest)=.ok (C3 e,rest)
abbrev RdO (e:Ex):Prop:=∀ f,Dp (f+1) e→(par e.k=true→Dp f e)→∀ rest,a8l rest→S1 (V7 f) (D0 e++rest)=.ok (C3 e,rest)
theorem a9a {f:Nat} {ts r:List Tok} {x:Ex} (hs:b8I (D2 ts)) (ho:S1 (V7 f) ts=.ok (x,r)):a0S (V7 f) ts=if opF (D2 r) 22 1≠0 then unQ (fun b=>sx 7 (opF (D2 r) 22 1) 0 0 [] [x,b]) (S1 (V7 f) r.tail) else .ok (x,r):=by
 obtain⟨h1,h2,h3⟩:=b8o hs
 unfold a0S
 simp only[if_neg h1,h2,h3,ho,ne_eq,not_true,if_false]
theorem c4x {f:Nat} {ts r:List Tok} {x:Ex} (h:V7 f [40] [41] (C5 [40]::ts)=.ok (x,r)):S1 (V7 f) (C5 [40]::ts)=.ok (x,r):=by
 rw[O4 (H6 (by decide +kernel) rfl),if_neg (by decide),if_neg (by decide),if_neg (by decide +kernel),if_neg (by decide +kernel),if_neg (by decide),if_pos rfl]
 exact h
theorem b8F {e:Ex} (h:par e.k=true) (hE:RdE e):RdO e:=by
 intro f hd hp rest hb
 obtain⟨k,rfl⟩:=(hp h).pos
 have he:=hE k (hp h) (C5 [41]::rest) (b2x (by decide +kernel) (by decide)) (c3b rest)
 rw[show D0 e++rest=C5 [40]::(B4 e++C5 [41]::rest) by unfold D0 N3;rw[h];simp]
 exact c4x (b8N (by decide +kernel) (by decide +kernel) he)
theorem c01 {e:Ex} (hp:par e.k=false) (hF:Fine e) (hn:-2147483648≤e.n∧e.n≤2147483647) (hO:RdO e):RdE e:=by
 intro f hd rest hb ho
 have h1:=hO f hd (fun q=>by rw[hp] at q;cases q) rest hb
 have hs:=a7L hF hn rest
 rw[show B4 e=D0 e by unfold D0 N3;rw[hp];rfl,a9a hs h1,if_neg (fun q=>q ho)]
theorem c5X (e:Ex):Fine e→Wf e→RdE e∧RdO e:=by
 refine Ex.ind (p:=fun e=>Fine e→Wf e→RdE e∧RdO e) (fun e ih hF hW=>?_) e
 obtain⟨⟨hk,hor,ht⟩,hn,hs⟩:=hW.spec
 have fs:=b3I hF
 have lit (hp:par e.k=false) (hO:RdO e):RdE e∧RdO e:=⟨c01 hp hF hn hO,hO⟩
 have brk (hp:par e.k=true) (hE:RdE e):RdE e∧RdO e:=⟨hE,b8F hp hE⟩
 rcases a1L hF with h | h | h | h | h | h | h | h | h
 · refine lit (by simp[par,h]) fun f _ _ rest hb=>?_
   rw[show D0 e++rest=a7v e.n::rest by unfold D0 N3 par;rw[F5];simp[wr,h]]
   rw[O4 (H6 (b1g _) rfl),if_pos (show(a7v e.n).kind=3 from rfl),fs]
   simp[h]
   rfl
 · refine lit (by simp[par,h]) fun f _ _ rest hb=>?_
   rw[show D0 e++rest=a3q e.n::rest by unfold D0 N3 par;rw[F5];simp[wr,h]]
   rw[O4 (H6 (a7X (a6N hF hn h)) rfl),if_neg (by show ¬ (4:Int)=3;decide),if_pos (show(a3q e.n).kind=4 from rfl),fs]
   simp[h]
   rfl
 · refine lit (by simp[par,h]) fun f _ _ rest hb=>?_
   rcases a6J hn hF h with h0 | h0
   · rw[show D0 e++rest=D1 [70,65,76,83,69]::rest by unfold D0 N3 par;rw[F5];simp[wr,h,h0]]
     rw[O4 (H6 (by decide +kernel) (a3E _)),if_neg (by decide +kernel),if_neg (by decide +kernel),if_pos rfl,fs]
     simp[h,h0]
   · rw[show D0 e++rest=D1 [84,82,85,69]::rest by unfold D0 N3 par;rw[F5];simp[wr,h,h0]]
     rw[O4 (H6 (by decide +kernel) (a3E _)),if_neg (by decide +kernel),if_neg (by decide +kernel),if_neg (by decide +kernel),if_pos rfl,fs]
     simp[h,h0]
 · refine lit (by simp[par,h]) fun f _ _ rest hb=>?_
   have hnm:∀ s,F1 e.s≠D1 s:=fun s q=>by
     have:=W6 s
     rw[← q] at this
     rcases this with h | h <;> cases h
   rw[show D0 e++rest=F1 e.s::rest by unfold D0 N3 par;rw[F5];simp[wr,h]]
   rw[O4 (H6 (a3j (a1J hF (.inl h))) rfl),if_neg (by show ¬ (1:Int)=3;decide),if_neg (by show ¬ (1:Int)=4;decide),if_neg (hnm _),if_neg (hnm _),if_pos (show(F1 e.s).kind=1 from rfl),List.tail_cons,if_neg hb,fs]
   simp[h]
   rfl
 · refine brk (by simp[par,h]) fun f _ rest hb ho=>?_
   rw[show B4 e++rest=D1 [83,73,90,69]::F1 e.s::rest by rw[F5];simp[wr,h]]
   rw[Y5 (H6 (by decide +kernel) (a3E _)),if_pos rfl,List.tail_cons,H6 (a3j (a1J hF (.inr (.inr h)))) rfl,if_pos (show(F1 e.s).kind=1 from rfl),fs]
   simp[h]
   rfl
 · obtain⟨x,hx⟩:=S0 hF (.inl h)
   have hxm:x ∈ e.l:=by rw[hx];exact List.Mem.head _
   obtain⟨iE,_⟩:=ih x hxm (hF.part hxm) (hW.part hxm)
   have hnm:∀ s,F1 e.s≠D1 s:=fun s q=>by
     have:=W6 s
     rw[← q] at this
     rcases this with h | h <;> cases h
   refine lit (by simp[par,h]) fun f hd _ rest hb=>?_
   obtain⟨k,rfl⟩:=(hd.part hxm).pos
   have he:=iE k (hd.part hxm) (C5 [93]::rest) (b2x (by decide +kernel) (by decide)) (c2T rest)
   have hi:V7 (k+1) [91] [93] (C5 [91]::(B4 x++C5 [93]::rest))=.ok (C3 x,rest):=b8N (by decide +kernel) (by decide +kernel) he
   rw[show D0 e++rest=F1 e.s::C5 [91]::(B4 x++C5 [93]::rest) by unfold D0 N3 par;rw[F5];simp[wr,h,hx,Q0]]
   rw[O4 (H6 (a3j (a1J hF (.inr (.inl h)))) rfl),if_neg (by show ¬ (1:Int)=3;decide),if_neg (by show ¬ (1:Int)=4;decide),if_neg (hnm _),if_neg (hnm _),if_pos (show(F1 e.s).kind=1 from rfl),List.tail_cons,H6 (by decide +kernel) rfl,if_pos rfl,hi,fs]
   simp[h,hx]
   rfl
 · obtain⟨x,hx⟩:=S0 hF (.inr (.inl h))
   have hxm:x ∈ e.l:=by rw[hx];exact List.Mem.head _
   obtain⟨_,iO⟩:=ih x hxm (hF.part hxm) (hW.part hxm)
   have hm:=b2h hF hor h
   obtain⟨o,ho⟩:∃ o:Nat,e.o=o:=⟨e.o.toNat,by omega⟩
   obtain⟨q1,q2,q3⟩:=c3N o (by omega) (by omega)
   refine brk (by simp[par,h]) fun f hd rest hb _=>?_
   have he:=iO f (hd.part hxm).up (fun _=>hd.part hxm) rest hb
   rw[show B4 e++rest=L3 e.o::(D0 x++rest) by rw[F5];simp[wr,h,hx,Q0,D0]]
   rw[Y5 (H6 (a4P (by omega)) (b5m _)),ho]
   simp only[if_neg q1,q2,q3,List.tail_cons,he,ne_eq,not_true,if_false]
   rw[if_pos (by omega),fs]
   simp[h,hx,ho,unQ]
 · obtain⟨x,y,hx⟩:=a4I hF h
   have hxm:x ∈ e.l:=by rw[hx];exact List.Mem.head _
   have hym:y ∈ e.l:=by rw[hx];exact List.Mem.tail _ (List.Mem.head _)
   obtain⟨_,iO⟩:=ih x hxm (hF.part hxm) (hW.part hxm)
   obtain⟨_,jO⟩:=ih y hym (hF.part hym) (hW.part hym)
   have hm:=b2E hF h
   obtain⟨o,ho⟩:∃ o:Nat,e.o=o:=⟨e.o.toNat,by omega⟩
   obtain⟨q1,q2⟩:=c4f o (by omega) (by omega)
   refine brk (by simp[par,h]) fun f hd rest hb _=>?_
   have hnx:∀ r,D2 (L3 e.o::r)=L3 e.o:=fun r=>H6 (a4P (by omega)) (b5m _)
   have he:=iO f (hd.part hxm).up (fun _=>hd.part hxm) (L3 e.o::(D0 y++rest)) (by unfold a8l;rw[hnx,ho];exact q2)
   have hf:=jO f (hd.part hym).up (fun _=>hd.part hym) rest hb
   have hst:=a7L (hF.part hxm) (hW.part hxm).spec.2.1 (L3 e.o::(D0 y++rest))
   rw[show B4 e++rest=D0 x++(L3 e.o::(D0 y++rest)) by rw[F5];simp[wr,h,hx,Q0,D0],a9a hst he,hnx,ho,q1,if_pos (by omega),List.tail_cons,hf,fs]
   simp[h,hx,ho,unQ]
 · obtain⟨x,hx⟩:=S0 hF (.inr (.inr h))
   have hxm:x ∈ e.l:=by rw[hx];exact List.Mem.head _
   obtain⟨_,iO⟩:=ih x hxm (hF.part hxm) (hW.part hxm)
   have hm:=a9P hF h
   obtain⟨o,ho⟩:∃ o:Nat,e.t=o:=⟨e.t.toNat,by omega⟩
   obtain⟨q0,q1,q2⟩:=b5s o (by omega) (by omega)
   refine brk (by simp[par,h]) fun f hd rest hb _=>?_
   have he:=iO f (hd.part hxm).up (fun _=>hd.part hxm) rest hb
   rw[show B4 e++rest=D1 (L9 e.t)::(D0 x++rest) by rw[F5];simp[wr,h,hx,Q0,D0]]
   rw[ho,Y5 (H6 q0 (a3E _))]
   simp only[if_neg q1,q2,List.tail_cons,he,ne_eq]
   rw[if_pos (by omega),fs]
   simp[h,hx,ho,unQ]
abbrev a2D (u:Tok):Prop:=L6 u=true∧(-2147483648≤u.n∧u.n≤2147483647)
theorem z0:(-2147483648:Int)≤0∧(0:Int)≤2147483647:=by decide
theorem a1C {s:B} (h:L6 (D1 s)=true):a2D (D1 s):=⟨h,by unfold D1;split <;> exact z0⟩
theorem a5Q {s:B} (h:L6 (C5 s)=true):a2D (C5 s):=⟨h,z0⟩
theorem a4Q {p:Bool × List Tok} (h:∀ u ∈ p.2,a2D u):∀ u ∈ N3 p,a2D u:=by
 unfold N3
 split
 · intro u hu
   rcases List.mem_cons.1 hu with rfl | hu
   · exact a5Q (by decide +kernel)
   · rcases List.mem_append.1 hu with hu | hu
     · exact h u hu
     · rw[List.mem_singleton] at hu
       subst hu
       exact a5Q (by decide +kernel)
 · exact h
theorem P5 {t:Tok} {l:List Tok} (h:a2D t) (hl:∀ u ∈ l,a2D u):∀ u ∈ t::l,a2D u:=fun u hu=>by
 rcases List.mem_cons.1 hu with rfl | hu
 · exact h
 · exact hl u hu
theorem b2c {k l:List Tok} (h:∀ u ∈ k,a2D u) (hl:∀ u ∈ l,a2D u):∀ u ∈ k++l,a2D u:=fun u hu=>by
 rcases List.mem_append.1 hu with hu | hu
 · exact h u hu
 · exact hl u hu
theorem a1X:∀ u ∈ ([]:List Tok),a2D u:=fun _ hu=>(List.not_mem_nil hu).elim
theorem b05 (e:Ex):Fine e→Wf e→∀ u ∈ B4 e,a2D u:=by
 refine Ex.ind (p:=fun e=>Fine e→Wf e→∀ u ∈ B4 e,a2D u) (fun e ih hF hW=>?_) e
 obtain⟨⟨hk,hor,ht⟩,hn,hs⟩:=hW.spec
 have nm (h:e.k=4∨e.k=5∨e.k=9):a2D (F1 e.s):=⟨a3j (a1J hF h),z0⟩
 rcases a1L hF with h | h | h | h | h | h | h | h | h
 · rw[show B4 e=[a7v e.n] by rw[F5];simp[wr,h]]
   exact P5 ⟨b1g _,hn⟩ a1X
 · rw[show B4 e=[a3q e.n] by rw[F5];simp[wr,h]]
   exact P5 ⟨a7X (a6N hF hn h),hn⟩ a1X
 · rcases a6J hn hF h with h0 | h0
   · rw[show B4 e=[D1 [70,65,76,83,69]] by rw[F5];simp[wr,h,h0]]
     exact P5 (a1C (by decide +kernel)) a1X
   · rw[show B4 e=[D1 [84,82,85,69]] by rw[F5];simp[wr,h,h0]]
     exact P5 (a1C (by decide +kernel)) a1X
 · rw[show B4 e=[F1 e.s] by rw[F5];simp[wr,h]]
   exact P5 (nm (.inl h)) a1X
 · rw[show B4 e=[D1 [83,73,90,69],F1 e.s] by rw[F5];simp[wr,h]]
   exact P5 (a1C (by decide +kernel)) (P5 (nm (.inr (.inr h))) a1X)
 · obtain⟨x,hx⟩:=S0 hF (.inl h)
   have hxm:x ∈ e.l:=by rw[hx];exact List.Mem.head _
   rw[show B4 e=F1 e.s::C5 [91]::(B4 x++[C5 [93]]) by rw[F5];simp[wr,h,hx,Q0]]
   exact P5 (nm (.inr (.inl h))) (P5 (a5Q (by decide +kernel)) (b2c (ih x hxm (hF.part hxm) (hW.part hxm)) (P5 (a5Q (by decide +kernel)) a1X)))
 · obtain⟨x,hx⟩:=S0 hF (.inr (.inl h))
   have hxm:x ∈ e.l:=by rw[hx];exact List.Mem.head _
   have hm:=b2h hF hor h
   rw[show B4 e=L3 e.o::N3 (par x.k,B4 x) by rw[F5];simp[wr,h,hx,Q0]]
   exact P5 (a1C (a4P (by omega))) (a4Q (ih x hxm (hF.part hxm) (hW.part hxm)))
 · obtain⟨x,y,hx⟩:=a4I hF h
   have hxm:x ∈ e.l:=by rw[hx];exact List.Mem.head _
   have hym:y ∈ e.l:=by rw[hx];exact List.Mem.tail _ (List.Mem.head _)
   have hm:=b2E hF h
   rw[show B4 e=N3 (par x.k,B4 x)++L3 e.o::N3 (par y.k,B4 y) by rw[F5];simp[wr,h,hx,Q0]]
   exact b2c (a4Q (ih x hxm (hF.part hxm) (hW.part hxm))) (P5 (a1C (a4P (by omega))) (a4Q (ih y hym (hF.part hym) (hW.part hym))))
 · obtain⟨x,hx⟩:=S0 hF (.inr (.inr h))
   have hxm:x ∈ e.l:=by rw[hx];exact List.Mem.head _
   have hm:=a9P hF h
   obtain⟨o,ho⟩:∃ o:Nat,e.t=o:=⟨e.t.toNat,by omega⟩
   rw[show B4 e=D1 (L9 e.t)::N3 (par x.k,B4 x) by rw[F5];simp[wr,h,hx,Q0],ho]
   exact P5 (a1C (b5s o (by omega) (by omega)).1) (a4Q (ih x hxm (hF.part hxm) (hW.part hxm)))
end Go.Xp
end
section
namespace Go.Xp
open Go.Eng Go
open Go.Ty (Tok B7)
open Go.Lx (L6)
set_option maxRecDepth 100000
def c3A (rd:List Tok→a0z) (ok:List Tok→Prop) (sz:Ex→Nat):Prop:=
 ∀ ts x r,rd ts=.ok (x,r)→∃ p,(ts=p++r∧1≤p.length)∧sz x≤p.length∧∀ r',ok r'→rd (p++r')=.ok (x,r')
abbrev wl (x:Ex):Nat:=(B4 x).length
abbrev ol (x:Ex):Nat:=(D0 x).length
abbrev c4a (ins:B→B→List Tok→a0z):Prop:=∀ o s,s=[93]∨s=[41]→c3A (ins o s) (fun _=>True) (fun x=>wl x+2)
theorem c5y (x:Ex):ol x≤wl x+2:=a3h (par x.k,B4 x)
theorem b9y {x:Ex} (h:par x.k=false):ol x=wl x:=by
 unfold ol wl D0 N3
 rw[h]
 rfl
theorem c6z (x:Ex):wl x≤ol x:=by
 unfold wl ol D0 N3
 split
 · simp only[List.length_cons,List.length_append]
   omega
 · exact Nat.le_refl _
theorem b21:D2 []=zeroT:=rfl
theorem a0x (s:B):zeroT≠D1 s:=fun e=>by
 have hk:(0:Int)=(D1 s).kind:=congrArg Tok.kind e
 rcases W6 s with h | h
 · have:=hk.trans h;omega
 · have:=hk.trans h;omega
theorem b2n {ins:B→B→List Tok→a0z}:S1 ins []=.error 100:=by
 rw[O4 b21,if_neg (by decide),if_neg (by decide),if_neg (a0x _),if_neg (a0x _),if_neg (by decide),if_neg (by decide)]
theorem b6X {ins:B→B→List Tok→a0z} (hi:c4a ins):c3A (S1 ins) a8l ol:=by
 intro ts x r h
 cases ts with
 | nil=>rw[b2n] at h;cases h
 | cons t q=>
   obtain⟨u,hu⟩:∃ u,∀ q',D2 (t::q')=u:=⟨_,fun _=>rfl⟩
   rw[O4 (hu q),List.tail_cons] at h
   have one:∀ {x:Ex},wl x=1→par x.k=false→ol x≤[t].length:=fun h1 h2=>by rw[b9y h2,h1];exact Nat.le_refl 1
   by_cases k3:u.kind=3
   · rw[if_pos k3] at h
     cases h
     exact⟨[t],⟨rfl,Nat.le_refl 1⟩,one rfl rfl,fun r' _=>by rw[List.singleton_append,O4 (hu r'),if_pos k3];rfl⟩
   rw[if_neg k3] at h
   by_cases k4:u.kind=4
   · rw[if_pos k4] at h
     cases h
     exact⟨[t],⟨rfl,Nat.le_refl 1⟩,one rfl rfl,fun r' _=>by rw[List.singleton_append,O4 (hu r'),if_neg k3,if_pos k4];rfl⟩
   rw[if_neg k4] at h
   by_cases f:u=D1 [70,65,76,83,69]
   · rw[if_pos f] at h
     cases h
     exact⟨[t],⟨rfl,Nat.le_refl 1⟩,one rfl rfl,fun r' _=>by rw[List.singleton_append,O4 (hu r'),if_neg k3,if_neg k4,if_pos f];rfl⟩
   rw[if_neg f] at h
   by_cases g:u=D1 [84,82,85,69]
   · rw[if_pos g] at h
     cases h
     exact⟨[t],⟨rfl,Nat.le_refl 1⟩,one rfl rfl,fun r' _=>by rw[List.singleton_append,O4 (hu r'),if_neg k3,if_neg k4,if_neg f,if_pos g];rfl⟩
   rw[if_neg g] at h
   by_cases k1:u.kind=1
   · rw[if_pos k1] at h
     by_cases b:D2 q=C5 [91]
     · rw[if_pos b] at h
       cases hq:ins [91] [93] q with
       | error e=>rw[hq] at h;cases h
       | ok w=>
         obtain⟨y,r1⟩:=w
         rw[hq] at h
         cases h
         obtain⟨p,⟨hp,hp1⟩,hs,hf⟩:=hi [91] [93] (.inl rfl) q y _ hq
         refine⟨t::p,⟨by rw[hp];rfl,Nat.succ_le_succ (Nat.zero_le _)⟩,?_,fun r' _=>?_⟩
         · rw[b9y rfl]
           show(F1 u.text::C5 [91]::(B4 y++[C5 [93]])).length≤(t::p).length
           simp only[List.length_cons,List.length_append,List.length_nil]
           simp only[wl] at hs
           omega
         · have hb:D2 (p++r')=C5 [91]:=by
             rw[hp] at b
             cases p with
             | nil=>exact absurd hp1 (by decide)
             | cons v w=>exact b
           rw[List.cons_append,O4 (hu _),if_neg k3,if_neg k4,if_neg f,if_neg g,if_pos k1,List.tail_cons,if_pos hb,hf r' trivial]
     · rw[if_neg b] at h
       cases h
       exact⟨[t],⟨rfl,Nat.le_refl 1⟩,one rfl rfl,fun r' hr=>by rw[List.singleton_append,O4 (hu r'),if_neg k3,if_neg k4,if_neg f,if_neg g,if_pos k1,List.tail_cons,if_neg hr]⟩
   rw[if_neg k1] at h
   by_cases o:u=C5 [40]
   · rw[if_pos o] at h
     obtain⟨p,⟨hp,hp1⟩,hs,hf⟩:=hi [40] [41] (.inr rfl) _ x r h
     refine⟨p,⟨hp,hp1⟩,Nat.le_trans (c5y x) hs,fun r' _=>?_⟩
     cases p with
     | nil=>exact absurd hp1 (by decide)
     | cons v w=>
       have hv:v=t:=(List.cons.inj hp).1.symm
       subst hv
       rw[List.cons_append,O4 (hu _),if_neg k3,if_neg k4,if_neg f,if_neg g,if_neg k1,if_pos o]
       exact hf r' trivial
   · rw[if_neg o] at h
     cases h
theorem b4n {mk:Ex→Ex} {p:a0z} {x:Ex} {r:List Tok} (h:unQ mk p=.ok (x,r)):∃ y,p=.ok (y,r)∧x=mk y:=by
 cases p with
 | error e=>cases h
 | ok q=>
   obtain⟨y,z⟩:=q
   cases h
   exact⟨y,rfl,rfl⟩
theorem a6D:∀ n o:Nat,opF zeroT n o=0
 | 0,_=>rfl
 | n+1,o=>by
   unfold opF
   rw[if_neg (show zeroT≠L3 o from a0x _)]
   exact a6D n (o+1)
theorem b8x {ins:B→B→List Tok→a0z}:a0S ins []=.error 100:=by
 rw[Y5 b21,if_neg (a0x _),if_neg (by unfold a0t;rw[if_neg (a0x _),if_neg (a0x _),if_neg (a0x _)];decide),if_neg (by rw[a6D];decide),b2n]
theorem b7N {p:List Tok} (hp:1≤p.length) (r r':List Tok):D2 (p++r)=D2 (p++r'):=by
 cases p with
 | nil=>exact absurd hp (by decide)
 | cons t q=>rfl
theorem b0k {ins:B→B→List Tok→a0z} (hi:c4a ins):c3A (a0S ins) (fun r=>a8l r∧b0H r) wl:=by
 have hO:=b6X hi
 intro ts x r h
 cases ts with
 | nil=>rw[b8x] at h;cases h
 | cons t q=>
   obtain⟨u,hu⟩:∃ u,∀ q',D2 (t::q')=u:=⟨_,fun _=>rfl⟩
   rw[Y5 (hu q),List.tail_cons] at h
   by_cases k1:u=D1 [83,73,90,69]
   · rw[if_pos k1] at h
     by_cases k2:(D2 q).kind=1
     · rw[if_pos k2] at h
       cases q with
       | nil=>cases k2
       | cons v w=>
         cases h
         refine⟨[t,v],⟨rfl,Nat.succ_le_succ (Nat.zero_le _)⟩,Nat.le_refl 2,fun r' _=>?_⟩
         rw[show[t,v]++r'=t::v::r' from rfl,Y5 (hu _),List.tail_cons,if_pos k1,if_pos (show(D2 (v::r')).kind=1 from k2)]
         rfl
     · rw[if_neg k2] at h
       cases h
   rw[if_neg k1] at h
   by_cases k2:a0t u≠0
   · rw[if_pos k2] at h
     obtain⟨y,hy,rfl⟩:=b4n h
     obtain⟨p,⟨hp,hp1⟩,hs,hf⟩:=hO q y r hy
     refine⟨t::p,⟨by rw[hp];rfl,Nat.succ_le_succ (Nat.zero_le _)⟩,?_,fun r' hr=>?_⟩
     · show(D1 (L9 (a0t u))::D0 y).length≤(t::p).length
       exact Nat.succ_le_succ hs
     · rw[List.cons_append,Y5 (hu _),List.tail_cons,if_neg k1,if_pos k2,hf r' hr.1]
       rfl
   rw[if_neg k2] at h
   by_cases k3:opF u 4 23≠0
   · rw[if_pos k3] at h
     obtain⟨y,hy,rfl⟩:=b4n h
     obtain⟨p,⟨hp,hp1⟩,hs,hf⟩:=hO q y r hy
     refine⟨t::p,⟨by rw[hp];rfl,Nat.succ_le_succ (Nat.zero_le _)⟩,?_,fun r' hr=>?_⟩
     · show(L3 (opF u 4 23)::D0 y).length≤(t::p).length
       exact Nat.succ_le_succ hs
     · rw[List.cons_append,Y5 (hu _),List.tail_cons,if_neg k1,if_neg k2,if_pos k3,hf r' hr.1]
       rfl
   rw[if_neg k3] at h
   cases hq:S1 ins (t::q) with
   | error e=>rw[hq] at h;cases h
   | ok w=>
     obtain⟨a,r1⟩:=w
     rw[hq] at h
     obtain⟨p,⟨hp,hp1⟩,hs,hf⟩:=hO _ a r1 hq
     have hd:∀ r',a0S ins (p++r')=match S1 ins (p++r') with
         | .error e=>.error e
         | .ok (a,r)=>if opF (D2 r) 22 1≠0 then unQ (fun b=>sx 7 (opF (D2 r) 22 1) 0 0 [] [a,b]) (S1 ins r.tail) else .ok (a,r):=fun r'=>by
       have hn:D2 (p++r')=u:=by rw[b7N hp1 r' r1,← hp];exact hu q
       rw[Y5 hn,if_neg k1,if_neg k2,if_neg k3] <;> rfl
     by_cases k4:opF (D2 r1) 22 1≠0
     · replace h:=(if_pos k4).symm.trans h
       obtain⟨y,hy,rfl⟩:=b4n h
       cases r1 with
       | nil=>exact absurd (a6D 22 1) k4
       | cons v w=>
         obtain⟨p2,⟨hp2,hp21⟩,hs2,hf2⟩:=hO w y r hy
         have hv:∀ w',D2 (v::w')=D2 (v::w):=fun _=>rfl
         have hb:∀ w',a8l (v::w'):=fun w' e=>by
           rw[hv,] at e
           rw[e] at k4
           exact k4 (by decide +kernel)
         refine⟨p++v::p2,⟨by rw[hp,hp2];simp,by rw[List.length_append];omega⟩,?_,fun r' hr=>?_⟩
         · show(D0 a++L3 (opF (D2 (v::w)) 22 1)::D0 y).length≤_
           simp only[List.length_append,List.length_cons]
           simp only[ol] at hs hs2
           omega
         · rw[List.append_assoc,List.cons_append,hd,hf _ (hb _)]
           show(if opF (D2 (v::(p2++r'))) 22 1≠0 then unQ (fun b=>sx 7 (opF (D2 (v::(p2++r'))) 22 1) 0 0 [] [a,b]) (S1 ins (v::(p2++r')).tail) else .ok (a,v::(p2++r')))=_
           rw[hv,if_pos k4,List.tail_cons,hf2 r' hr.1]
           rfl
     · replace h:=(if_neg k4).symm.trans h
       cases h
       refine⟨p,⟨hp,hp1⟩,?_,fun r' hr=>?_⟩
       · exact Nat.le_trans (c6z _) hs
       · rw[hd,hf r' hr.1]
         exact if_neg (fun k=>k hr.2)
theorem b3a:∀ f,c4a (V7 f)
 | 0=>fun _ _ _ _ _ _ h=>by cases h
 | f+1=>fun o s ho ts x r h=>by
   unfold V7 at h
   by_cases k1:D2 ts=C5 o
   · rw[if_pos k1] at h
     cases ts with
     | nil=>cases congrArg Tok.kind k1
     | cons t q=>
       rw[List.tail_cons] at h
       cases hq:a0S (V7 f) q with
       | error e=>rw[hq] at h;cases h
       | ok w=>
         obtain⟨y,r1⟩:=w
         rw[hq] at h
         by_cases k2:D2 r1=C5 s
         · replace h:=(if_pos k2).symm.trans h
           cases r1 with
           | nil=>cases congrArg Tok.kind k2
           | cons v w=>
             cases h
             obtain⟨p,⟨hp,hp1⟩,hs,hf⟩:=b0k (b3a f) q _ _ hq
             have hv:∀ w',D2 (v::w')=C5 s:=fun _=>k2
             refine⟨t::(p++[v]),⟨by rw[hp];simp,Nat.succ_le_succ (Nat.zero_le _)⟩,?_,fun r' _=>?_⟩
             · simp only[List.length_cons,List.length_append,List.length_nil]
               simp only[wl] at hs ⊢
               omega
             · have hno:a8l (v::r')∧b0H (v::r'):=by
                 unfold a8l b0H
                 rw[hv]
                 rcases ho with rfl | rfl <;> exact⟨by decide +kernel,by decide +kernel⟩
               rw[show t::(p++[v])++r'=t::(p++v::r') by simp]
               unfold V7
               rw[if_pos (show D2 (t::(p++v::r'))=C5 o from k1),List.tail_cons,hf _ hno]
               exact if_pos k2
         · replace h:=(if_neg k2).symm.trans h
           cases h
   · rw[if_neg k1] at h
     cases h
abbrev Er (rd:List Tok→a0z):Prop:=∀ ts e,rd ts=.error e→e=100∨e=3
abbrev c4Q (ins:B→B→List Tok→a0z):Prop:=∀ o s,Er (ins o s)
theorem c1h {ins:B→B→List Tok→a0z} (hi:c4Q ins):Er (S1 ins):=by
 intro ts e h
 rw[O4 rfl] at h
 repeat' split at h
 all_goals first | (cases h;done) | (cases h;rename_i h2;exact hi _ _ _ _ h2) | exact hi _ _ _ _ h | (cases h;exact .inl rfl)
theorem c4I {mk:Ex→Ex} {p:a0z} {e:Int} (h:unQ mk p=.error e):p=.error e:=by
 cases p with
 | error f=>cases h;rfl
 | ok q=>cases h
theorem b5j {ins:B→B→List Tok→a0z} (hi:c4Q ins):Er (a0S ins):=by
 intro ts e h
 have hO:=c1h hi
 rw[Y5 rfl] at h
 repeat' split at h
 all_goals first | (cases h;done) | exact hO _ _ (c4I h) | (cases h;rename_i h2;exact hO _ _ h2) | (cases h;exact .inl rfl)
theorem c04:∀ f,c4Q (V7 f)
 | 0=>fun _ _ _ _ h=>by cases h;exact .inr rfl
 | f+1=>fun o s ts e h=>by
   unfold V7 at h
   repeat' split at h
   all_goals first | (cases h;done) | (cases h;rename_i h2;exact b5j (c04 f) _ _ h2) | (cases h;exact .inl rfl)
theorem b9J {ts:List Tok} {x:Ex} {k:Nat} (h:R9 ts=.ok (x,k)):((1≤k∧k≤ts.length)∧E9 x=true)∧(B4 x).length≤k∧R9 (ts.take k)=.ok (x,k):=by
 unfold R9 at h
 cases hq:b0c ts with
 | error e=>rw[hq] at h;cases h
 | ok w=>
   obtain⟨y,r⟩:=w
   rw[hq] at h
   by_cases hm:E9 y=true
   · replace h:=(if_pos hm).symm.trans h
     cases h
     obtain⟨p,⟨hp,hp1⟩,hs,hf⟩:=b0k (b3a 32) ts _ _ hq
     have hl:ts.length - r.length=p.length:=by rw[hp,List.length_append];omega
     have ht:ts.take (ts.length - r.length)=p:=by rw[hl,hp,List.take_left]
     have he:=hf [] ⟨by unfold a8l;decide +kernel,by unfold b0H;decide +kernel⟩
     rw[List.append_nil] at he
     refine⟨⟨⟨by omega,by omega⟩,hm⟩,by rw[hl];exact hs,?_⟩
     rw[ht]
     unfold R9 b0c
     rw[he]
     show(if E9 _ then Except.ok (_,p.length - 0) else .error 3)=_
     rw[if_pos hm,hl,Nat.sub_zero]
   · replace h:=(if_neg hm).symm.trans h
     cases h
theorem b2B {ts:List Tok} {e:Int} (h:R9 ts=.error e):e=100∨e=3:=by
 unfold R9 at h
 cases hq:b0c ts with
 | error f=>
   rw[hq] at h
   cases h
   exact b5j (c04 32) ts _ hq
 | ok w=>
   obtain⟨y,r⟩:=w
   rw[hq] at h
   by_cases hm:E9 y=true
   · replace h:=(if_pos hm).symm.trans h
     cases h
   · replace h:=(if_neg hm).symm.trans h
     cases h
     exact .inr rfl
theorem b3m {ts:List Tok}:a0o ts≤ts.length:=by
 unfold a0o
 cases h:R9 ts with
 | error e=>exact Nat.zero_le _
 | ok w=>exact(b9J h).1.1.2
end Go.Xp
end
section
namespace Go.Ty
open Go.Lx
theorem a9f {t:Ty} (h:may t=true) (h4:(t.kind != 4)=false):(t.item=0∧name t.proto=true)∨(is t.item=true∧t.proto=[]):=by
 have h4':t.kind=4:=by simpa using h4
 unfold may at h
 split at h
 · cases h
 · rw[h4'] at h
   rw[if_neg (by decide),if_neg (by decide)] at h
   split at h
   · rename_i h0;exact .inl ⟨by simpa using h0,h⟩
   · simp at h;exact .inr h
end Go.Ty
end
section
namespace Go.Ty
open Go.Lx
def C3 (x:Tok):Tok:={ x with at_:=0 }
def M (l:List Tok) (i:Nat) (y:Tok):Prop:=∃ x,l[i]?=some x∧C3 x=y
def a2z (l:List Tok):Nat→List Tok→Prop
 | _,[]=>True
 | i,y::w=>M l i y∧a2z l (i+1) w
theorem M.lt {l:List Tok} {i:Nat} {y:Tok} (a:M l i y):i < l.length:=by
 obtain⟨x,hx,_⟩:=a
 exact(List.getElem?_eq_some_iff.1 hx).1
theorem W5 (l:List Tok):∀ (u w:List Tok) (i:Nat),a2z l i (u++w)↔a2z l i u∧a2z l (i+u.length) w
 | [],w,i=>by simp[a2z]
 | y::u,w,i=>by
   show(M l i y∧a2z l (i+1) (u++w))↔(M l i y∧a2z l (i+1) u)∧a2z l (i+(u.length+1)) w
   rw[W5 l u w (i+1),and_assoc,show i+1+u.length=i+(u.length+1) by omega]
theorem a6a {l:List Tok} {i:Nat} {y:Tok}:M l i y↔i < l.length∧C3 (J7 l i)=y:=by
 constructor
 · intro m
   have h:=m.lt
   obtain⟨x,hx,e⟩:=m
   rw[a1I h] at hx
   cases hx
   exact⟨h,e⟩
 · rintro ⟨h,e⟩;exact⟨_,a1I h,e⟩
theorem N7 {l:List Tok} {i:Nat} {kd:Int} {s:B} (h3:kd≠3):next l i kd s=true↔M l i ⟨kd,0,s,0⟩:=by
 rw[a6a]
 unfold next a3J C3
 generalize J7 l i=x
 cases x
 simp[h3]
 constructor
 · rintro ⟨⟨⟨a,b⟩,c⟩,d⟩;exact⟨a,b,c,d⟩
 · rintro ⟨a,b,c,d⟩;exact⟨⟨⟨a,b⟩,c⟩,d⟩
theorem c09 {l:List Tok} {i:Nat} {s:B}:next l i 3 s=true↔M l i ⟨3,0,s,(J7 l i).n⟩:=by
 rw[a6a]
 unfold next a3J C3
 generalize J7 l i=x
 cases x
 simp
 constructor
 · rintro ⟨⟨a,b⟩,c⟩;exact⟨a,b,c⟩
 · rintro ⟨a,b,c⟩;exact⟨⟨a,b⟩,c⟩
theorem a2K {l:List Tok} {i:Nat} {kd:Int} {s:B} {y:Tok} (m:M l i y) (h:y.kind≠kd∨y.text≠s):next l i kd s=false:=by
 cases hn:next l i kd s with
 | false=>rfl
 | true=>
   exfalso
   obtain⟨_,e⟩:=a6a.1 m
   subst e
   unfold next a3J at hn
   simp at hn
   rcases h with h | h
   · exact h hn.1.1.2
   · exact h hn.1.2
theorem a9h (l:List Tok) (i:Nat):named l i=if next l i 2 c1e then some 1 else if next l i 2 b5h then some 2 else if next l i 2 b5k then some 3 else none:=rfl
theorem is_three {k:Int} (h:is k=true):k=1∨k=2∨k=3:=by
 rw[b5n] at h
 unfold prim at h
 simp at h
 omega
theorem a8v {l:List Tok} {i:Nat} {k:Int} (h:named l i=some k):is k=true∧M l i (a1i (wordS k).1):=by
 rw[a9h] at h
 split at h
 · cases h;rename_i hn;exact⟨by decide,(N7 (by decide)).1 hn⟩
 · split at h
   · cases h;rename_i hn;exact⟨by decide,(N7 (by decide)).1 hn⟩
   · split at h
     · cases h;rename_i hn;exact⟨by decide,(N7 (by decide)).1 hn⟩
     · cases h
theorem b1V {l:List Tok} {i:Nat} {k:Int} (h:is k=true) (m:M l i (a1i (wordS k).1)):named l i=some k:=by
 rw[a9h]
 rcases is_three h with rfl | rfl | rfl
 · have m':M l i (a1i c1e):=m
   rw[if_pos ((N7 (by decide)).2 m')]
 · have m':M l i (a1i b5h):=m
   rw[if_neg (by rw[a2K m' (.inr (by decide))];decide),if_pos ((N7 (by decide)).2 m')]
 · have m':M l i (a1i b5k):=m
   rw[if_neg (by rw[a2K m' (.inr (by decide))];decide),if_neg (by rw[a2K m' (.inr (by decide))];decide),if_pos ((N7 (by decide)).2 m')]
theorem a8A {l:List Tok} {i:Nat} {y:Tok} (m:M l i y) (h:y.kind≠2∨(y.text≠c1e∧y.text≠b5h∧y.text≠b5k)):named l i=none:=by
 rw[a9h]
 rw[if_neg (by rw[a2K m (h.imp_right fun h=>h.1)];decide),if_neg (by rw[a2K m (h.imp_right fun h=>h.2.1)];decide),if_neg (by rw[a2K m (h.imp_right fun h=>h.2.2)];decide)]
inductive Shape (t:Ty):Prop where
 | plain (k d:Int) (hk:is k=true) (e:t=⟨k,d,0,[]⟩)
 | timer (e:t=⟨5,0,0,[]⟩)
 | item (k d:Int) (hk:is k=true) (e:t=⟨4,d,k,[]⟩)
 | proto (s:B) (d:Int) (hs:name s=true) (e:t=⟨4,d,0,s⟩)
theorem may_shape {t:Ty} (h:may t=true):Shape t:=by
 obtain⟨k,d,i,s⟩:=t
 by_cases hk:is k=true
 · unfold may at h
   split at h
   · cases h
   · simp only[Bool.and_eq_true,beq_iff_eq] at h
     obtain⟨rfl,rfl⟩:=h
     exact .plain k d hk rfl
 · by_cases h4:k=4
   · subst h4
     rcases a9f h (by simp) with ⟨h0,hn⟩ | ⟨hi,h0⟩
     · simp only at h0 hn;subst h0;exact .proto s d hn rfl
     · simp only at h0 hi;subst h0;exact .item i d hi rfl
   · unfold may at h
     split at h
     · cases h
     · rw[if_pos (by simpa using h4),eqT_iff] at h
       exact .timer h
theorem b4u (k d:Int) (hk:is k=true):toks ⟨k,d,0,[]⟩=dimT ⟨k,d,0,[]⟩++[a1i (wordS k).1]:=by
 unfold toks
 rw[List.append_assoc]
 rcases is_three hk with rfl | rfl | rfl <;> rfl
theorem b3Z (k d:Int) (hk:is k=true):toks ⟨4,d,k,[]⟩=dimT ⟨4,d,k,[]⟩++[a1i a2L,a1i cOF,a1i (wordS k).1]:=by
 unfold toks
 rw[List.append_assoc]
 rcases is_three hk with rfl | rfl | rfl <;> rfl
theorem c2R {s:B} (h:name s=true):s≠[]:=by rintro rfl;cases h
theorem b3v (s:B) (d:Int) (hs:name s=true):toks ⟨4,d,0,s⟩=dimT ⟨4,d,0,s⟩++[a1i a2L,a1i cOF,⟨1,0,s,0⟩]:=by
 unfold toks
 rw[List.append_assoc]
 unfold lastT
 have:(s==[])=false:=by simpa using c2R hs
 simp only[this]
 rfl
theorem b9w {t:Ty} (h:may t=true):∃ s w,toks t=dimT t++a1i s::w:=by
 cases may_shape h with
 | plain k d hk e=>subst e;exact⟨_,_,b4u k d hk⟩
 | timer e=>subst e;exact⟨_,_,rfl⟩
 | item k d hk e=>subst e;exact⟨_,_,b3Z k d hk⟩
 | proto s d hs e=>subst e;exact⟨_,_,b3v s d hs⟩
theorem c4j {t:Ty} (l:List Tok) (h:may t=true) (hb:a2z l 0 (toks t)):pre l=(true,t.dim,(dimT t).length):=by
 have hd:=may_dim h
 obtain⟨s,w,e⟩:=b9w h
 rw[e,W5] at hb
 by_cases h0:t.dim=0
 · have ed:dimT t=[]:=by unfold dimT;rw[h0];rfl
   rw[ed] at hb ⊢
   rw[c07 (a2K hb.2.1 (.inl (show(2:Int)≠5 by decide))),h0]
   rfl
 · have ed:dimT t=[C5 lb,⟨3,0,[],t.dim⟩,C5 rb]:=by unfold dimT;rw[if_pos (by simp;omega)]
   rw[ed] at hb ⊢
   obtain⟨⟨m0,m1,m2,_⟩,_⟩:=hb
   have en:(J7 l 1).n=t.dim:=by
     obtain⟨_,e1⟩:=a6a.1 m1
     exact congrArg Tok.n e1
   rw[b3u ((N7 (by decide)).2 m0) (c09.2 (by rw[en];exact m1)),en,(N7 (by decide)).2 m2]
   have:decide (t.dim > 0)=true:=by simp;omega
   rw[this]
   rfl
theorem b0o {l:List Tok} {d:Int} {n:Nat} {k:Int} (hP:pre l=(true,d,n)) (hn:named l n=some k):mid l=(true,⟨k,d,0,[]⟩,n+1):=by
 unfold mid;rw[hP];simp only[hn]
theorem a8H {l : List Tok} {d : Int} {n : Nat} (hP : pre l = (true, d, n)) (m0 : M l n (a1i a2L)) (m1 : M l (n + 1) (a1i cOF)) : mid l = (match named l (n + 2) with
          | some k=>(true,⟨4,d,k,[]⟩,n+3)
          | none=>if decide ((n+2:Nat) < (l.length:Int))&&next l (n+2) 1 (J7 l (n+2)).text then (true,⟨4,d,0,(J7 l (n+2)).text⟩,n+3) else (true,⟨4,d,0,[]⟩,n+2)):=by
 unfold mid
 rw[hP]
 simp only[a8A m0 (.inr (by decide)),(N7 (show(2:Int)≠3 by decide)).2 m0,(N7 (show(2:Int)≠3 by decide)).2 m1,if_true]
 cases named l (n+2) <;> rfl
theorem a7W {t:Ty} {l:List Tok} (h:may t=true) (hb:a2z l 0 (toks t)):front l=(t,(toks t).length,0):=by
 have hP:=c4j l h hb
 have hM:mid l=(true,t,(toks t).length):=by
   cases may_shape h with
   | plain k d hk e=>
     subst e
     rw[b4u k d hk] at hb ⊢
     rw[W5,Nat.zero_add] at hb
     rw[b0o hP (b1V hk hb.2.1),List.length_append]
     rfl
   | timer e=>
     subst e
     have m:M l 0 (a1i a4n):=hb.1
     exact b1s hP (a8A m (.inr (by decide))) (a2K m (.inr (by decide))) ((N7 (by decide)).2 m)
   | item k d hk e=>
     subst e
     rw[b3Z k d hk] at hb ⊢
     rw[W5,Nat.zero_add] at hb
     obtain⟨_,m0,m1,m2,_⟩:=hb
     rw[a8H hP m0 m1,b1V hk m2,List.length_append]
     rfl
   | proto s d hs e=>
     subst e
     rw[b3v s d hs] at hb ⊢
     rw[W5,Nat.zero_add] at hb
     obtain⟨_,m0,m1,m2,_⟩:=hb
     have m2':M l ((dimT ⟨4,d,0,s⟩).length+2) ⟨1,0,s,0⟩:=m2
     have et:(J7 l ((dimT ⟨4,d,0,s⟩).length+2)).text=s:=congrArg Tok.text (a6a.1 m2').2
     have hlt:=m2'.lt
     rw[a8H hP m0 m1,a8A m2' (.inl (show(1:Int)≠2 by decide)),et]
     have c:(decide ((((dimT ⟨4,d,0,s⟩).length+2:Nat):Int) < (l.length:Int))&&next l ((dimT ⟨4,d,0,s⟩).length+2) 1 s)=true:=by
       rw[(N7 (by decide)).2 m2',Bool.and_true]
       exact decide_eq_true (by omega)
     simp only[c,if_true,List.length_append]
     rfl
 exact a9U hM (by rw[h];rfl)
theorem b1y {l:List Tok} {d:Int} {n:Nat} (h:pre l=(true,d,n)) (t:Ty) (e:t.dim=d):n=(dimT t).length∧a2z l 0 (dimT t):=by
 by_cases h0:next l 0 5 lb=true
 · by_cases h1:next l 1 3 []=true
   · rw[b3u h0 h1] at h
     simp only[Prod.mk.injEq] at h
     obtain⟨hc,hd,hn⟩:=h
     rw[hc] at hn
     simp only[Bool.and_eq_true,decide_eq_true_eq] at hc
     have ed:dimT t=[C5 lb,⟨3,0,[],t.dim⟩,C5 rb]:=by unfold dimT;rw[if_pos (by simp;omega)]
     rw[ed]
     refine⟨hn.symm,(N7 (by decide)).1 h0,?_,(N7 (by decide)).1 hc.2,trivial⟩
     rw[e,← hd]
     exact c09.1 h1
   · rw[b8E h0 (by simpa using h1)] at h
     cases h
 · rw[c07 (by simpa using h0)] at h
   cases h
   have ed:dimT t=[]:=by unfold dimT;rw[e];rfl
   rw[ed]
   exact⟨rfl,trivial⟩
theorem c3X {l:List Tok} {t:Ty} {n:Nat} (h:mid l=(true,t,n)) (hm:may t=true):a2z l 0 (toks t):=by
 obtain⟨⟨b,d,n0⟩,hP⟩:∃ p,pre l=p:=⟨_,rfl⟩
 cases b with
 | false=>unfold mid at h;rw[hP] at h;cases h
 | true=>
   cases hn:named l n0 with
   | some k=>
     rw[b0o hP hn] at h
     cases h
     obtain⟨hk,m⟩:=a8v hn
     obtain⟨e,hb⟩:=b1y hP ⟨k,d,0,[]⟩ rfl
     rw[b4u k d hk,W5]
     subst e
     exact⟨hb,by rw[Nat.zero_add];exact m,trivial⟩
   | none=>
     cases hc:next l n0 2 a2L with
     | true=>
       have m0:M l n0 (a1i a2L):=(N7 (by decide)).1 hc
       cases ho:next l (n0+1) 2 cOF with
       | false=>
         unfold mid at h
         rw[hP] at h
         simp only[hn,hc,ho,if_true,Bool.false_eq_true,if_false] at h
         cases h
       | true=>
         have m1:M l (n0+1) (a1i cOF):=(N7 (by decide)).1 ho
         rw[a8H hP m0 m1] at h
         cases hk:named l (n0+2) with
         | some k=>
           rw[hk] at h
           cases h
           obtain⟨hk,m2⟩:=a8v hk
           obtain⟨e,hb⟩:=b1y hP ⟨4,d,k,[]⟩ rfl
           rw[b3Z k d hk,W5]
           subst e
           rw[Nat.zero_add]
           exact⟨hb,m0,m1,m2,trivial⟩
         | none=>
           rw[hk] at h
           simp only at h
           split at h
           · rename_i hx
             simp only[Bool.and_eq_true] at hx
             have m2:=(N7 (show(1:Int)≠3 by decide)).1 hx.2
             cases h
             have hs:name (J7 l (n0+2)).text=true:=by
               rcases a9f hm rfl with ⟨_,hs⟩ | ⟨hi,_⟩
               · exact hs
               · cases hi
             obtain⟨e,hb⟩:=b1y hP ⟨4,d,0,(J7 l (n0+2)).text⟩ rfl
             rw[b3v _ d hs,W5]
             rw[← e,Nat.zero_add]
             exact⟨hb,m0,m1,m2,trivial⟩
           · cases h
             rcases a9f hm rfl with ⟨_,hs⟩ | ⟨hi,_⟩
             · cases hs
             · cases hi
     | false=>
       cases ht:next l n0 2 a4n with
       | true=>
         rw[b1s hP hn hc ht] at h
         cases h
         have e5:(⟨5,d,0,[]⟩:Ty)=timer:=by
           cases may_shape hm with
           | plain k d hk e=>cases e;cases hk
           | timer e=>exact e
           | item k d hk e=>cases e
           | proto s d hs e=>cases e
         rw[e5]
         cases e5
         obtain⟨e,_⟩:=b1y hP timer rfl
         subst e
         exact⟨(N7 (by decide)).1 ht,trivial⟩
       | false=>
         rw[b5d hP hn hc ht] at h
         cases h
         cases may_shape hm with
         | plain k d hk e=>cases e;cases hk
         | timer e=>cases e
         | item k d hk e=>cases e
         | proto s d hs e=>cases e
theorem front_to (l:List Tok):front l=(zeroT,0,90)∨∃ t,may t=true∧a2z l 0 (toks t)∧front l=(t,(toks t).length,0):=by
 obtain⟨⟨ok,t,n⟩,hM⟩:∃ p,mid l=p:=⟨_,rfl⟩
 by_cases hc:(!ok||!may t)=true
 · exact .inl (b1U hM hc)
 · simp at hc
   obtain⟨rfl,hm⟩:=hc
   have hb:=c3X hM hm
   exact .inr ⟨t,hm,hb,a7W hm hb⟩
end Go.Ty
end
section
namespace Go.Sx
open Go.Eng Go.Pc Go
open Go.Xp hiding B
open Go.Ty (Ty Vr Tok)
def stL (s:Sli Ex):Sli Ex:=sl (s.l.map C3)
def stR (r:Rp):Rp:=⟨r.name,C3 r.base,C3 r.count⟩
def X7 (x:Vr):Vr:=vrM x.tag x.items
mutual
def stP:Pr→Pr
 | .mk k n ch tg ex rep _ _ gl _ _ ll pn sp=>.mk k n (C3 ch) (stL tg) (stL ex) (stR rep) none 0 (c1y gl) none 0 (b61 ll) (sl pn.l) (stS sp)
def b61:List Pr→List Pr
 | []=>[]
 | x::r=>stP x::b61 r
def stG:Gu→Gu
 | .mk k n cond ch tg vl time _ _ bl=>.mk k n (C3 cond) (C3 ch) (stL tg) (stL vl) (C3 time) none 0 (b61 bl)
def c1y:List Gu→List Gu
 | []=>[]
 | x::r=>stG x::c1y r
def stS:Sp→Sp
 | .mk k ty names e cs vs fs _ _ bl=>.mk k ty (sl names.l) (C3 e) cs (sl (vs.l.map X7)) (sl fs.l) none 0 (b61 bl)
end
theorem a4p:∀ l:List Pr,b61 l=l.map stP
 | []=>rfl
 | x::r=>by rw[b61,a4p r];rfl
theorem a9m:∀ l:List Gu,c1y l=l.map stG
 | []=>rfl
 | x::r=>by rw[c1y,a9m r];rfl
theorem Z9 (e:Ex):E7 (C3 e)=E7 e:=by unfold E7;rw[S2];cases e;rfl
theorem b8a {k:Int} {s:B} {ts:List Tok} (h:isM k s ts=true):∃ t r,ts=t::r∧t.kind=k∧t.text=s:=by
 cases ts with
 | nil=>cases h
 | cons t r=>
   have h':((t.kind==k)&&(t.text==s))=true:=h
   simp only[Bool.and_eq_true,beq_iff_eq] at h'
   exact⟨t,r,rfl,h'.1,h'.2⟩
theorem c0L {k:Int} {s:B} {ts:List Tok} (h:isM k s ts=true):0 < ts.length:=by
 obtain⟨t,r,rfl,_⟩:=b8a h
 exact Nat.succ_pos _
theorem b1Z (ts:List Tok):X2 ts=if (ts.getD 0 Go.Ty.zeroK).kind=1 then .ok ((ts.getD 0 Go.Ty.zeroK).text,ts.tail) else .error 110:=by
 cases ts with
 | nil=>rfl
 | cons t r=>rfl
theorem b2X (ts:List Tok):N9 ts=if a5w ts=0 then .ok (a8B ts,ts.drop (a0o ts)) else .error 110:=by
 unfold N9 a5w a8B a0o
 cases hf:R9 ts with
 | ok x=>obtain⟨x,k⟩:=x;rfl
 | error e=>
   rcases b2B hf with rfl | rfl <;> rfl
theorem a7q (ts:List Tok):M5 ts=if (ts.getD 0 Go.Ty.zeroK).kind=1 then Q3 (N9 ts) fun x r=>if E7 x then .ok (x,r) else .error 110 else .error 110:=by
 cases ts <;> rfl
open Go.Ty in
theorem b1J (l:List Tok):∀ (w:List Tok) (i:Nat),a2z l i w→i≤l.length→i+w.length≤l.length
 | [],i,_,hi=>hi
 | y::w,i,h,_=>by
   obtain⟨h1,h2⟩:=(W5 l [y] w i).1 h
   have h3:=b1J l w (i+1) h2 (by
     have:=M.lt h1.1
     omega)
   simp only[List.length_cons]
   omega
theorem c3D (ts:List Tok):(Go.Ty.front ts).2.1≤ts.length:=by
 rcases Go.Ty.front_to ts with h | ⟨t,hm,hb,h⟩
 · rw[h];exact Nat.zero_le _
 · rw[h]
   have:=b1J ts _ 0 hb (Nat.zero_le _)
   simpa using this
theorem b4X {t:Ty} (h:Go.Ty.may t=true):TyW t:=by
 have hd:=Go.Ty.may_dim h
 cases Go.Ty.may_shape h with
 | plain k d hk e=>
   subst e
   have:=Go.Ty.is_three hk
   exact⟨by simp only;omega,by simp only;omega,by simp only at hd ⊢;omega,Nat.zero_le _⟩
 | timer e=>
   subst e
   exact⟨by decide,by decide,by decide,Nat.zero_le _⟩
 | item k d hk e=>
   subst e
   have:=Go.Ty.is_three hk
   exact⟨by simp only;omega,by simp only;omega,by simp only at hd ⊢;omega,Nat.zero_le _⟩
 | proto s d hs e=>
   subst e
   refine⟨by simp only;omega,by simp only;omega,by simp only at hd ⊢;omega,?_⟩
   unfold Go.Lx.name at hs
   simp only[Bool.and_eq_true,decide_eq_true_eq] at hs
   have:=hs.1.1.1.2
   show s.length≤Big
   unfold Big
   omega
theorem c6f (ts:List Tok):TyW (Go.Ty.front ts).1:=by
 rcases Go.Ty.front_to ts with h | ⟨t,hm,hb,h⟩
 · rw[h];exact⟨by decide,by decide,by decide,Nat.zero_le _⟩
 · rw[h];exact b4X hm
end Go.Sx
end
section
namespace Go.Eng
open Go Go.RowKit

def b0Z (P:Program) (l:Nat) (v v2:Value) (w:World) (R:Bool→World→Prop):Prop:=
 ∃ fn tmps assign body,(Instr.yield l #[v,v2]).run P w=.ok (.round l fn tmps assign body) w ∧
   RoundIn (fen none) 0 P l fn tmps assign body w fun e w'=>∃ b,e=.returned (.bool b)∧R b w'
section
variable {P:Program} {ops:Array Oper} {Q:Exit→Act→World→Prop} {n:Cx} {F:Fm} {h h':List Res} {m:View} {rest:List Oper}
variable {op:Op} {ty:TypeId} {pos:String} {after:Array Edge} {d:Nat} {v v2:Value}

theorem b0Z.mono {l:Nat} {w:World} {R R':Bool→World→Prop} (h:b0Z P l v v2 w R) (hr:∀ b w',R b w'→R' b w'):b0Z P l v v2 w R':=by
 obtain⟨fn,tmps,assign,body,h1,h2⟩:=h
 exact⟨fn,tmps,assign,body,h1,h2.mono fun e w' ⟨b,e1,e2⟩=>⟨b,e1,hr b w' e2⟩⟩
end
end Go.Eng
end
section
namespace Go.Eng
open Go Go.RowKit
section
variable {P:Program} {m m':View} {h h':List Res} {w w':World}
theorem c1v (s:St m h w):m.le (I3 w):=⟨s.os,s.out,s.tape,fun b o hb=>s.blk b o hb⟩
theorem St.grow {m2:View} {h2:List Res} (s:St m h w) (hle:(I3 w).le m2) (s2:St m2 h2 w'):St m h w'∧∀ r ∈ h,∀ b,r.fp=some b→∃ o,m2.blk b=some o:=by
 have same:∀ b,b < w.heap.size→w'.heap[b]?=w.heap[b]?:=fun b hb=>by
   have e:w.heap[b]?=some w.heap[b]:=Array.getElem?_eq_getElem hb
   rw[e]
   exact s2.blk b _ (hle.blk b _ e)
 have hm:=c1v s
 refine⟨⟨s2.os.trans (hle.os.trans s.os),s2.out.trans (hle.out.trans s.out),s2.tape.trans (hle.tape.trans s.tape),fun b o hb=>s2.blk b o (hle.blk b o (hm.blk b o hb)),
   fun r hr=>Res.ok_of_block (s.ok r hr) fun b hb=>same b (Res.lt (s.ok r hr) b hb),s.nd,s.fr⟩,fun r hr b hb=>?_⟩
 have hlt:=Res.lt (s.ok r hr) b hb
 exact⟨_,hle.blk b _ (show w.heap[b]?=some w.heap[b] from Array.getElem?_eq_getElem hlt)⟩
theorem CT.swap {f:FuncId} {args:List Value} {R:List Res→Value→Prop} (c:CT P f args h m (fun v _ h'=>∃ hs,h'=hs++h∧R hs v)):CT P f args h m (fun v _ h'=>∃ hs,h'=h++hs∧R hs v):=
 c.conv fun v m2 h2 w2 _ st hR=>by
   obtain⟨hs,rfl,hR⟩:=hR
   exact⟨m2,h++hs,View.le.refl _,st.perm List.perm_append_comm,hs,rfl,hR⟩
end
section
variable {P:Program} {ops:Array Oper} {Q:Exit→Act→World→Prop} {n:Cx} {F:Fm} {h h':List Res} {m:View} {rest:List Oper}
variable {ty:TypeId} {pos:String} {after:Array Edge} {dst:Option Tmp} {g:Option (Nat × Bool)} {d:Nat}
theorem c6x (a:Option Addr) (cap sz:Nat) (h:a=none∨∃ b off,a=some ⟨b,off,none⟩):sl1 a 0 cap sz=a:=by
 unfold sl1
 split
 · rfl
 · rcases h with rfl | ⟨b,off,rfl⟩
   · rfl
   · simp[Addr.add_lit]
theorem Rd.sub0 {a:Option Addr} {k c sz:Nat} {xs:List Value} (s:Rd m h a k c sz xs) (q:Nat) (h1:k≤q) (h2:q≤c):Rd m h (sl1 a 0 q sz) k q sz xs:=
 ⟨s.len,h1,Nat.le_trans h2 s.mx,fun w st j u hj=>by
   obtain⟨b,off,rfl,hc⟩:=s.at_ w st j u hj
   refine⟨b,off,?_,hc⟩
   unfold sl1
   split
   · rfl
   · simp[Addr.add_lit]⟩
theorem CT.know {f:FuncId} {args:List Value} {R:Value→View→List Res→Prop} {A:Prop} (he:∀ as w,(callFunc f as).run P w=.ok (.enter f as) w) (ha:∀ w,St m h w→A) (k:A→CT P f args h m R):CT P f args h m R:=
 ⟨he,fun w hs=>(k (ha w hs)).calls w hs⟩
theorem CT.knowRow {f:FuncId} {args:List Value} {R:Value→View→List Res→Prop} {a:Option Addr} {k cap sz:Nat} {e:TypeId} {ys:List Value} (he:∀ as w,(callFunc f as).run P w=.ok (.enter f as) w) (hm:Res.row (.slice a k cap) e sz k ys ∈ h)
   (kk:k≤cap→cap≤9223372036854775807→ys.length=k * sz→CT P f args h m R):CT P f args h m R:=
 CT.know he (fun _ st=>a81 (st.ok _ hm)) fun ⟨h1,h2,h3⟩=>kk h1 h2 h3
end
end Go.Eng
end
section
namespace Go.Eng
open Go Go.RowKit
theorem b02 (a b:ByteArray):(a==b)=(a.data==b.data):=rfl
theorem c1q {n k:List UInt8} (h:¬ n=k):((⟨n.toArray⟩:ByteArray)==⟨k.toArray⟩)=false:=by
 rw[b02]
 exact beq_eq_false_iff_ne.2 fun e=>h (by simpa using e)
theorem b1k (n:List UInt8):((⟨n.toArray⟩:ByteArray)==⟨n.toArray⟩)=true:=by
 rw[b02]
 exact beq_self_eq_true _

structure MapS (es:Array MapEntry) (ks:List (List UInt8)):Prop where
 a:∀ e ∈ es.toList,∃ n,e.key=str n∧e.val=.bool true∧n ∈ ks
 b:∀ n ∈ ks,∃ e ∈ es.toList,e.key=str n
theorem MapS.nil:MapS #[] []:=⟨fun e h=>by simp at h,fun n h=>by cases h⟩

section
variable {P:Program} {ops:Array Oper} {Q:Exit→Act→World→Prop} {n:Cx} {F:Fm} {h h':List Res} {m:View} {rest:List Oper}
variable {ty:TypeId} {pos:String} {after:Array Edge} {dst:Option Tmp} {g:Option (Nat × Bool)} {d:Nat}

end

section
variable {P:Program} {ops:Array Oper} {Q:Exit→Act→World→Prop} {n:Cx} {F:Fm} {m:View} {eff:List Nat} {t:Tl} {hs hp:List Res}
variable {ty:TypeId} {pos:String} {after:Array Edge} {d:Nat}
abbrev b3g (e:TypeId) (sz:Nat):Res:=.row (.slice none 0 0) e sz 0 []
theorem St.insNil (e:TypeId) (sz:Nat) {fr l1 l2 hs:List Res} {w:World} (s:St m (fr++((l1++l2)++hs)) w):St m (fr++((l1++b3g e sz::l2)++hs)) w:=by
 refine(s.addNil e sz).perm ?_
 have h1:(fr++((l1++b3g e sz::l2)++hs)).Perm (b3g e sz::(fr++((l1++l2)++hs))):=by
   refine(List.Perm.append_left fr ((List.perm_middle (l₁:=l1) (l₂:=l2)).append_right hs)).trans ?_
   exact List.perm_middle
 exact h1.symm
theorem a5P (e:TypeId) (sz:Nat) {l1 l2:List Res}:∀ (r:List Fl) {F:Fm} {fr:List Res},a1Y P ops Q n t r F (fr++((l1++b3g e sz::l2)++hs)) m→a1Y P ops Q n t r F (fr++((l1++l2)++hs)) m
 | [],_,_,h=>WL.mk fun a w ha st=>h.e a w ha (st.insNil e sz)
 | (_,_,_)::r,_,fr,h=>fun b=>a5P e sz r (fr:=_::fr) (h b)
theorem a4o.imp {r:Result Next} {R R':Value→World→Prop} {X:List PanicEntry→World→Prop} (h:a4o P r R X) (k:∀ v w,R v w→R' v w):a4o P r R' X:=by
 cases r with
 | ok x w=>
   cases x with
   | value v=>exact k _ _ h
   | skip=>exact k _ _ h
   | enter f args=>
     refine Calls.mono h fun e w' q=>?_
     rcases q with ⟨v,rfl,hv⟩ | q
     · exact .inl ⟨v,rfl,k v w' hv⟩
     · exact .inr q
   | _=>exact h
 | halt _ _=>exact h
theorem SRr.insNil (e:TypeId) (sz:Nat) {l1 l2:List Res}:∀ (T:Tr) {F:Fm},SRr P ops Q n eff t hs T F (l1++b3g e sz::l2) m→SRr P ops Q n eff t hs T F (l1++l2) m
 | .nil,_,h=>a5P e sz t.fl (fr:=[]) h
 | .alt a b,_,h=>⟨SRr.insNil e sz a h.1,SRr.insNil e sz b h.2⟩
 | .op i s,_,h=>by
   obtain⟨o,ho,hd,h⟩:=h
   refine⟨o,ho,hd,?_⟩
   have hsub:(l1++l2).Sublist (l1++b3g e sz::l2):=(List.sublist_cons_self _ _).append_left l1
   cases he:eff.contains i with
   | false=>
     rw[he] at h
     obtain⟨v,pg,hk⟩:=h
     exact⟨v,pg,SRr.insNil e sz s hk⟩
   | true=>
     rw[he] at h
     dsimp only at h ⊢
     cases hr:a5z o with
     | true=>
       rw[hr] at h
       obtain⟨v,pg,hk⟩:=h
       exact⟨v,⟨fun a w ha st=>pg.e a w ha (St.insNil e sz (fr:=[]) st)⟩,SRr.insNil e sz s hk⟩
     | false=>
       rw[hr] at h
       dsimp only at h ⊢
       have sat:∀ {G:Fm} {l:List Res},Sat n hs G (l++l2) m→Sat n hs G (l++b3g e sz::l2) m:=fun ⟨fr,a,w,ha,st⟩=>⟨fr,a,w,ha,st.insNil e sz⟩
       cases hmk:a3D o&&eff.contains 4096 with
       | true=>
         rw[hmk] at h
         exact⟨fun s a ha=>h.ex (sat s) a ha,fun a ha k cs el hout b s'=>SRr.insNil e sz (l1:=_::l1) s (h.k a ha k cs el hout b (sat (l:=_::l1) s'))⟩
       | false=>
       rw[hmk] at h
       dsimp only at h ⊢
       refine⟨fun fr a w ha st=>?_⟩
       obtain⟨h1,h2⟩:=h.e fr a w ha (St.insNil e sz st)
       refine⟨fun hw=>(h1 hw).imp fun v w' q=>?_,fun hw=>?_⟩
       · obtain⟨m',hp',q1,q2,q3,q4⟩:=q
         exact⟨m',hp',q1,q2,fun ha=>hsub.trans (q3 ha),q4⟩
       · exact⟨fun _=>List.Sublist.refl _,SRr.insNil e sz s (h2 hw).2⟩
theorem a0s {q:Nat} {s:Tr} {tt e k:Nat} {sz by_:Nat} {ps:List (Nat × Operand)} {vs:List (Nat × Value)} {z:Value} {zs cs:List Value} {gd:Nat × Bool} {c:Bool}
   (ho:ops[q]?=some ⟨some d,.buildSlice tt k ps.toArray,ty,pos,after,some gd⟩) (he:eff.contains q=true) (hg:GU ops n F gd c) (E:EL P tt e sz by_) (hz:(P.info? e).bind (·.zero)=some z) (ev:c=true→EvP n F ps vs)
   (hzs:a8P z k=some zs) (hf:a4v (fun i=>some (i * sz,sz)) zs vs=some cs) (hk:k * sz≤16777216) (h0:Nat.beq (k * sz) 0=false) (hd:d < n.num)
   (kk:∀ b r,(c=true→r=.pt b (.cells cs.toArray e (0,0)))→SR P ops Q n eff t hs s ((d,gv c (.slice (some ⟨b,0,none⟩) k k))::F) (r::hp) m) :
   SR P ops Q n eff t hs (.op q s) F hp m:=⟨_,ho,fun y hy=>by cases hy;exact hd,by
 rw[he]
 simp only[a8M,a8E,Bool.false_and]
 refine⟨fun fr f w hf' st=>?_⟩
 have hy:=hg.wanted (dst:=some d) (op:=.buildSlice tt k ps.toArray) (ty:=ty) (pos:=pos) (after:=after) hf'
 cases c with
 | true=>
   refine⟨fun _=>?_,fun h=>by rw[hy] at h;cases h⟩
   have hrun:=W0 (P:=P) w (dst:=some d) (ty:=ty) (pos:=pos) (after:=after) (g:=some gd) E hz (ev rfl) hzs hf hk h0 hf'
   rw[hrun]
   exact⟨m,.pt w.heap.size (.cells cs.toArray e)::hp,View.le.refl m,(st.alloc _).perm List.perm_middle.symm,fun _=>List.sublist_cons_self _ _,(kk w.heap.size _ (fun _=>rfl)).e⟩
 | false=>
   refine⟨fun h=>(by rw[hy] at h;cases h),fun _=>⟨fun _=>List.Sublist.refl _,?_⟩⟩
   exact SRr.insNil e sz (l1:=[]) s (kk 0 (b3g e sz) (fun h=>by cases h)).e⟩
end

section
variable {P:Program} {n:Cx} {F:Fm} {h:List Res} {m:View}
variable {ty:TypeId} {pos:String} {after:Array Edge} {dst:Option Tmp} {g:Option (Nat × Bool)}
def eqP (P:Program) (o:TypeId) (t:TypeId) (xs ys:List Value) (off:Nat):Option Bool:=match P.underlying t with
 | some (.struct gs)=>match Nat.beq t o with
   | true=>match (P.info? t).map (·.size) with
     | some k=>match seg xs off k with
       | some as=>match seg ys off k with
         | some bs=>b3z P as bs gs.toList
         | none=>none
       | none=>none
     | none=>none
   | false=>none
 | some d=>match O2 d with
   | true=>match xs[off]? with
     | some a=>match ys[off]? with
       | some b=>eqC d a b
       | none=>none
     | none=>none
   | false=>none
 | none=>none
def b4M (P:Program) (o:TypeId) (xs ys:List Value):List Field→Option Bool
 | []=>some true
 | f::fs=>match eqP P o f.type xs ys f.offset with
   | some r=>match b4M P o xs ys fs with
     | some q => match (f.name != "_") with
       | true=>some (r&&q)
       | false=>none
     | none=>none
   | none=>none
theorem b2U {xs as:List Value} {off k:Nat} (h:seg xs off k=some as):(xs.drop off).take k=as:=by
 obtain⟨h1,h2⟩:=a6e h
 subst h1
 refine List.ext_getElem? fun i=>?_
 rcases Nat.lt_or_ge i as.length with hi | hi
 · have:=h2 i _ (List.getElem?_eq_getElem hi)
   rw[List.getElem?_take_of_lt hi,List.getElem?_drop,this,List.getElem?_eq_getElem hi]
 · rw[List.getElem?_eq_none hi,List.getElem?_eq_none (by rw[List.length_take];omega)]
theorem c1j (w:World) (d:Nat) {o t:TypeId} (ho:P.stoodInHeld o=false) {xs ys:List Value} {off:Nat} {r:Bool} (he:eqP P o t xs ys off=some r):∃ a b,(part t xs.toArray off).run P w=.ok a w∧(part t ys.toArray off).run P w=.ok b w∧(Op.equalIn (d+2) t a b).run P w=.ok r w:=by
 unfold eqP at he
 split at he
 · rename_i gs ht
   split at he
   · rename_i hto
     have hto:=Nat.eq_of_beq_eq_true hto
     subst hto
     have hs:=ho
     split at he
     · rename_i k hk
       split at he
       · rename_i as ha
         split at he
         · rename_i bs hb
           cases hi:P.info? t with
           | none=>rw[hi] at hk;cases hk
           | some i0=>
             have hsz:i0.size=k:=by rw[hi] at hk;simpa using hk
             have hf:P.fieldsOf t=gs:=by simp[Program.fieldsOf,ht]
             have hag:=a2T (P:=P) w ht rfl
             refine⟨.agg as.toArray,.agg bs.toArray,?_,?_,?_⟩
             · simp[part,hag,sizeOf,typeInfo,hi,hsz,b2U ha]
             · simp[part,hag,sizeOf,typeInfo,hi,hsz,b2U hb]
             · rw[run_equalIn_struct (P:=P) w (d+1) t as.toArray bs.toArray (by rw[hf];exact ht) hs,hf]
               exact a5V w d as bs he
         · cases he
       · cases he
     · cases he
   · cases he
 · rename_i ds _ ht
   split at he
   · rename_i hp
     split at he
     · rename_i a ha
       split at he
       · rename_i b hb
         refine⟨a,b,?_,?_,b4Y w (d:=d+1) ht he⟩
         · simp[part,N0 w ht hp,ha]
         · simp[part,N0 w ht hp,hb]
       · cases he
     · cases he
   · cases he
 · cases he
theorem a9T (w:World) (d:Nat) {o:TypeId} (ho:P.stoodInHeld o=false) (xs ys:List Value):∀ {fs:List Field} {r:Bool},b4M P o xs ys fs=some r→(Op.eqFields (d+2) xs.toArray ys.toArray fs).run P w=.ok r w
 | [],r,he=>by cases he;simp[Op.eqFields]
 | f::fs,r,he=>by
   unfold b4M at he
   split at he
   · rename_i c hc
     split at he
     · rename_i q hq
       split at he
       · rename_i h7
         cases he
         have h8 : f.name ≠ "_" := by simpa using h7
         have ih:=a9T w d ho xs ys hq
         obtain⟨a,b,ea,eb,e5⟩:=c1j (P:=P) w d ho hc
         simp only[Op.eqFields,if_pos h8,Sem.run_bind]
         rw[ea,Result.andThen_ok,eb,Result.andThen_ok,e5,Result.andThen_ok]
         cases c
         · simp
         · simpa using ih
       · cases he
     · cases he
   · cases he
theorem b2G {o:TypeId} {x y:Operand} {t t':TypeId} {fs:Array Field} {as bs:List Value} {r:Bool} (ht:P.underlying t=some (.struct fs)) (hs:P.stoodInHeld t=false) (hm:P.eqGuardType P.depth t=false) (ex:Ev n F x (.agg as.toArray)) (ey:Ev n F y (.agg bs.toArray))
   (ho:P.stoodInHeld o=false) (hr:b4M P o as bs fs.toList=some r):PO P ⟨dst,.binOp .neq t x y t',ty,pos,after,g⟩ n F h m (.bool (!r)):=.mk fun a w ha _=>by
 have hf:P.fieldsOf t=fs:=by simp[Program.fieldsOf,ht]
 have e1:=run_equalIn_struct (P:=P) w 9999 t as.toArray bs.toArray (by rw[hf];exact ht) hs
 rw[hf,a9T w 9997 ho as bs hr] at e1
 simp[execOp,ex a ha,ey a ha,run_eqGuard_agg w _ t _ _ _ _ hm,run_neq_struct,e1]
end
end Go.Eng
end
section
namespace Go.Sx
open Go.Eng Go.Pc Go
open Go.Xp hiding B
open Go.Ty (Ty Vr Tok)
open Go.Ly (Rw T7)
open Go.Lx (lexO L6)
theorem a8m (s:B):(lexO s).1.length≤256∧∀ x ∈ (lexO s).1,L6 x=true∧(-2147483648≤x.n∧x.n≤2147483647):=by
 obtain⟨l,z,e,h⟩:∃ l z e,lexO s=(l,z,e):=⟨_,_,_,rfl⟩
 rw[h]
 by_cases he:e=0
 · subst he
   obtain⟨h1,h2,-⟩:=Go.Lx.lexO_ok h
   have h3:=Go.Lx.lx_len s 0 l h2
   exact⟨by show l.length≤256;omega,Go.Lx.lx_may s 0 l h2 (by omega)⟩
 · have h1:=Go.Lx.lexO_no h he
   subst h1
   exact⟨Nat.zero_le _,fun x hx=>(List.not_mem_nil hx).elim⟩
theorem c2O (s:B):∀ t ∈ (lexO s).1,t.text.length≤140737488355328:=fun t ht=>by have:=Go.Lx.may_len ((a8m s).2 t ht).1;omega
structure Pz where
 bp:Nat
 ra:Option Addr
 rc:Nat
 R:List Rw
structure Pok (m:View) (z:Pz):Prop where
 rd:Rd m [] z.ra z.R.length z.rc 3 (fl T7 z.R)
 ok:z.R.length≤2048∧∀ x ∈ z.R,0≤x.depth∧x.depth≤32∧x.text.length≤256
 ne:∀ x ∈ z.R,(lexO x.text).2.2=0→(lexO x.text).1≠[]
theorem b00 (q:UInt8→Bool):∀ (l:B) {c:UInt8} {r:B},l.dropWhile q=c::r→q c=false
 | x::l,c,r,h=>by
   unfold List.dropWhile at h
   split at h
   · exact b00 q l h
   · cases h;assumption
theorem c4l {s:B} (h:Go.Ly.validP s=true) (he:(lexO s).2.2=0):(lexO s).1≠[]:=by
 obtain⟨h1,-,h2,-⟩:=Go.Ly.validP_spec h
 obtain⟨l,z,e,hl⟩:∃ l z e,lexO s=(l,z,e):=⟨_,_,_,rfl⟩
 rw[hl] at he ⊢
 obtain rfl:e=0:=he
 obtain⟨-,h3,-⟩:=Go.Lx.lexO_ok hl
 cases s with
 | nil=>exact absurd rfl h1
 | cons c r=>
   have hc:c≠32:=by
     have h4:=b00 (·==32) (Lib.trimRightB (c::r) 32) (c:=c) (r:=r) h2
     simpa using h4
   rintro rfl
   by_cases hn:(Go.Lx.tok (c::r)).2=0
   · rw[Go.Lx.lx_bad hc hn] at h3;cases h3
   · rw[Go.Lx.lx_tok hc hn] at h3
     cases hx:Go.Lx.lx ((c::r).drop (Go.Lx.tok (c::r)).2) (0+(Go.Lx.tok (c::r)).2) with
     | ok m=>rw[hx] at h3;cases h3
     | error e=>rw[hx] at h3;cases h3
theorem Pok.of {m:View} {z:Pz} (hr:Rd m [] z.ra z.R.length z.rc 3 (fl T7 z.R)) (h:Go.Ly.mayP z.R=true):Pok m z:=
 ⟨hr,Go.Ly.mayP_all h,fun x hx=>by
   unfold Go.Ly.mayP at h
   split at h
   · cases h
   · exact c4l (Go.Ly.mayA_all h x hx).2.2⟩
theorem J9 {α β:Type} (x:α) (ts:List Tok) (i:Nat) (f:α→List Tok→PE β):J4 (.ok (x,ts)) i f=f x ts:=rfl
theorem Q2 {α β:Type} (x:α) (i:Nat) (f:α→Nat→PE β):S4 (.ok (x,i)) f=f x i:=rfl
theorem O1 {β:Type} {ts:List Tok} {i:Nat} {f:Nat→PE β} (h:ts=[]):G5 ts i f=f (i+1):=by subst h;rfl
theorem O0 {β:Type} {ts:List Tok} {i:Nat} {f:Nat→PE β} (h:ts≠[]):G5 ts i f=.error (110,i):=by cases ts with | nil=>exact absurd rfl h | cons=>rfl
theorem a2w {β:Type} {k:Int} {s:B} {ts:List Tok} {i:Nat} {f:List Tok→PE β} (h:isM k s ts=true):X3 k s ts i f=f ts.tail:=by unfold X3;rw[h];rfl
theorem a2E {β:Type} {k:Int} {s:B} {ts:List Tok} {i:Nat} {f:List Tok→PE β} (h:isM k s ts=false):X3 k s ts i f=.error (110,i):=by unfold X3;rw[h];rfl
theorem a4C {β:Type} {R:List Rw} {d:Int} {i:Nat} {ts:List Tok} {f:List Tok→PE β} (h:a0Y R d i=.ok ts):a1o R d i f=f ts:=by unfold a1o;rw[h]
theorem K5 {β:Type} {R:List Rw} {d:Int} {i:Nat} {e:Int × Nat} {f:List Tok→PE β} (h:a0Y R d i=.error e):a1o R d i f=.error e:=by unfold a1o;rw[h]
theorem a1A {m:View} {z:Pz} {d:Int} {i:Nat} {ts:List Tok} (hz:Pok m z) (h:a0Y z.R d i=.ok ts):(i < z.R.length∧0≤d∧d≤32)∧∃ x,z.R[i]?=some x∧x.depth=d∧ts=(lexO x.text).1:=by
 unfold a0Y at h
 cases hx:z.R[i]? with
 | none=>rw[hx] at h;cases h
 | some x=>
   rw[hx] at h
   simp only at h
   split at h
   · cases h
   · split at h
     · cases h
     · rename_i hd
       have hd:x.depth=d:=Decidable.byContradiction hd
       cases h
       have h1:=hz.ok.2 x (List.mem_of_getElem? hx)
       exact⟨⟨(List.getElem?_eq_some_iff.1 hx).1,by omega,by omega⟩,x,rfl,hd,rfl⟩
theorem c1U {m:View} {z:Pz} {d:Int} {i:Nat} {ts:List Tok} (hz:Pok m z) (h:a0Y z.R d i=.ok ts):0 < ts.length:=by
 unfold a0Y at h
 cases hx:z.R[i]? with
 | none=>rw[hx] at h;cases h
 | some x=>
   rw[hx] at h
   simp only at h
   split at h
   · cases h
   · rename_i he
     split at h
     · cases h
     · cases h
       have h1:=hz.ne x (List.mem_of_getElem? hx) (Decidable.byContradiction he)
       exact List.length_pos_iff.2 h1
theorem a3m {R:List Rw} {d:Int} {i:Nat} (h:R.length≤i):a0Y R d i=.error (110,i):=by
 unfold a0Y;rw[List.getElem?_eq_none h]
theorem a7F {R:List Rw} {d:Int} {i:Nat} (h:Q4 R d i=true):i < R.length:=by
 unfold Q4 at h
 cases hx:R[i]? with
 | none=>rw[hx] at h;cases h
 | some x=>exact(List.getElem?_eq_some_iff.1 hx).1
theorem b6R {R:List Rw} {rec:Int→Bool→Nat→PE Pr} {row:List Tok→E Gu} {least most:Nat} {d:Int} {k:Nat} {acc:List Gu} {i:Nat} (hk:R.length≤i+k) (hc:acc.length < least∨(acc.length < most∧Q4 R d i=true)) :
   a0p R rec row least most d k acc i=a1o R d i fun ts=>J4 (row ts) i fun g r=>G5 r i fun i=>S4 (rec (d+1) false i) fun x i=>a0p R rec row least most d (k - 1) (acc++[b5B g x]) i:=by
 cases k with
 | zero=>
   have hl:acc.length < least:=hc.elim id fun h=>absurd (a7F h.2) (by omega)
   rw[K5 (a3m (by omega))]
   unfold a0p
   rw[if_pos hl]
 | succ k=>
   conv=>lhs;unfold a0p
   rw[if_pos hc]
   rfl
theorem b2L {R:List Rw} {rec:Int→Bool→Nat→PE Pr} {row:List Tok→E Gu} {least most:Nat} {d:Int} {k:Nat} {acc:List Gu} {i:Nat} (hc:¬ (acc.length < least∨(acc.length < most∧Q4 R d i=true))) :
   a0p R rec row least most d k acc i=.ok (acc,i):=by
 cases k with
 | zero=>
   unfold a0p
   rw[if_neg fun h=>hc (.inl h)]
 | succ k=>
   unfold a0p
   rw[if_neg hc]
theorem b9Q {R:List Rw} {rec:Int→Bool→Nat→PE Pr} {d:Int} {k:Nat} {acc:List Pr} {i:Nat} (hk:R.length≤i+k) (hc:Q4 R d i=true) :
   a2N R rec d k acc i=S4 (rec d false i) fun x i=>a2N R rec d (k - 1) (acc++[x]) i:=by
 cases k with
 | zero=>exact absurd (a7F hc) (by omega)
 | succ k=>
   conv=>lhs;unfold a2N
   rw[if_pos hc]
   rfl
theorem b3O {R:List Rw} {rec:Int→Bool→Nat→PE Pr} {d:Int} {k:Nat} {acc:List Pr} {i:Nat} (hc:Q4 R d i=false):a2N R rec d k acc i=.ok (acc,i):=by
 cases k with
 | zero=>rfl
 | succ k=>unfold a2N;rw[if_neg (by rw[hc];decide)]
theorem b6o {R:List Rw} {rec:Int→Bool→Nat→PE Pr} {d:Int} {k:Nat} {ns:List Int} {acc:List Pr} {i:Nat} (hk:R.length≤i+k) (hc:acc.length=0∨(acc.length < 8∧Q4 R (d+1) i=true)) :
   Y8 R rec d k ns acc i=a1o R (d+1) i fun ts=>X3 2 [80,82,79,67,69,83,83,79,82] ts i fun r=>match b4P r with
     | some n=>S4 (rec (d+2) false (i+1)) fun x i=>Y8 R rec d (k - 1) (ns++[n]) (acc++[x]) i
     | none=>.error (110,i):=by
 cases k with
 | zero=>
   have hl:acc.length=0:=hc.elim id fun h=>absurd (a7F h.2) (by omega)
   rw[K5 (a3m (by omega))]
   unfold Y8
   rw[if_pos hl]
 | succ k=>
   conv=>lhs;unfold Y8
   rw[if_pos hc]
   rfl
theorem b2f {R:List Rw} {rec:Int→Bool→Nat→PE Pr} {d:Int} {k:Nat} {ns:List Int} {acc:List Pr} {i:Nat} (hc:¬ (acc.length=0∨(acc.length < 8∧Q4 R (d+1) i=true))) :
   Y8 R rec d k ns acc i=.ok ((ns,acc),i):=by
 cases k with
 | zero=>
   unfold Y8
   rw[if_neg fun h=>hc (.inl h)]
 | succ k=>
   unfold Y8
   rw[if_neg hc]
theorem b9U {R:List Rw} {d:Int} {k:Nat} {acc:List Vr} {i:Nat} (hk:R.length≤i+k) (hc:acc.length=0∨Q4 R (d+2) i=true) :
   a1l R d k acc i=a1o R (d+2) i fun ts=>J4 (a2d ts) i fun v r=>if Go.Ty.mayPr true (acc++[v]) then G5 r i fun i=>a1l R d (k - 1) (acc++[v]) i else .error (110,i):=by
 cases k with
 | zero=>
   have hl:acc.length=0:=hc.elim id fun h=>absurd (a7F h) (by omega)
   rw[K5 (a3m (by omega))]
   unfold a1l
   rw[if_pos hl]
 | succ k=>
   conv=>lhs;unfold a1l
   rw[if_pos hc]
   rfl
theorem b3G {R:List Rw} {d:Int} {k:Nat} {acc:List Vr} {i:Nat} (hc:¬ (acc.length=0∨Q4 R (d+2) i=true)):a1l R d k acc i=.ok (acc,i):=by
 cases k with
 | zero=>
   unfold a1l
   rw[if_neg fun h=>hc (.inl h)]
 | succ k=>
   unfold a1l
   rw[if_neg hc]
theorem b6e {R:List Rw} {rec:Int→Bool→Nat→PE Pr} {d:Int} {top:Bool} {ts:List Tok} {i:Nat} {t:Tok} {f:Int→List Tok→Nat→PE Pr} (h0:ts[0]?=some t) (hw:a4f R rec t.text=some f) (hc:t.kind=2∧(top=true∨t.text≠[80,76,65,67,69,68])):a7d R rec d top ts i=f d ts.tail i:=by
 cases ts with
 | nil=>cases h0
 | cons u r=>
   cases h0
   unfold a7d
   simp only[hw]
   rw[if_pos hc]
   rfl
theorem b2w {R:List Rw} {rec:Int→Bool→Nat→PE Pr} {d:Int} {top:Bool} {ts:List Tok} {i:Nat} {t:Tok} (h0:ts[0]?=some t) (hc:a4f R rec t.text=none∨¬ (t.kind=2∧(top=true∨t.text≠[80,76,65,67,69,68]))):a7d R rec d top ts i=a5i R rec d ts i:=by
 cases ts with
 | nil=>cases h0
 | cons u r=>
   cases h0
   unfold a7d
   cases hw:a4f R rec t.text with
   | none=>simp only[hw]
   | some f=>
     simp only[hw]
     rcases hc with hc | hc
     · rw[hc] at hw;cases hw
     · rw[if_neg hc]
structure Gs (m:View) (h:List Res) (a:Option Addr) (c:Nat) (l:List Gu):Prop where
 rd:Rd m h a l.length c 23 (fl guE l)
 ok:∀ g ∈ l,GOk m h g
 sub:∀ g ∈ l,∀ x ∈ g.bl,POk m h x
structure Ls (m:View) (h:List Res) (a:Option Addr) (c:Nat) (l:List Pr):Prop where
 rd:Rd m h a l.length c 42 (fl prE l)
 ok:∀ x ∈ l,POk m h x
structure Ns (m:View) (h:List Res) (s:Sli Int):Prop where
 rd:Rd m h s.a s.l.length s.c 1 (fl a2O s.l)
 ok:∀ x ∈ s.l,-9223372036854775808≤x∧x≤9223372036854775807
structure Ss (m:View) (h:List Res) (s:Sp):Prop where
 ok:SOk m h s
 sub:∀ x ∈ s.bl,POk m h x
structure Rs (m:View) (h:List Res) (r:Rp):Prop where
 n:r.name.length≤Big
 b:EOk m h r.base
 c:EOk m h r.count
variable {m:View} {h h':List Res}
theorem Gs.mono {a:Option Addr} {c:Nat} {l:List Gu} (q:Gs m h a c l) (s:h.Sublist h'):Gs m h' a c l:=⟨q.rd.mono (View.le.refl m) s,fun g hg=>(q.ok g hg).mono s,fun g hg x hx=>(q.sub g hg x hx).mono s⟩
theorem Ls.mono {a:Option Addr} {c:Nat} {l:List Pr} (q:Ls m h a c l) (s:h.Sublist h'):Ls m h' a c l:=⟨q.rd.mono (View.le.refl m) s,fun g hg=>(q.ok g hg).mono s⟩
theorem Ns.mono {l:Sli Int} (q:Ns m h l) (s:h.Sublist h'):Ns m h' l:=⟨q.rd.mono (View.le.refl m) s,q.ok⟩
theorem Ss.mono {x:Sp} (q:Ss m h x) (s:h.Sublist h'):Ss m h' x:=⟨q.ok.mono s,fun y hy=>(q.sub y hy).mono s⟩
theorem Rs.mono {r:Rp} (q:Rs m h r) (s:h.Sublist h'):Rs m h' r:=⟨q.n,q.b.mono s,q.c.mono s⟩
theorem a0J (m:View) (h:List Res):Gs m h none 0 []:=⟨Rd.nilF guE 23 m h,fun _ hx=>(List.not_mem_nil hx).elim,fun _ hx=>(List.not_mem_nil hx).elim⟩
theorem a3u (m:View) (h:List Res):Ls m h none 0 []:=⟨Rd.nilF prE 42 m h,fun _ hx=>(List.not_mem_nil hx).elim⟩
theorem a00 (m:View) (h:List Res):Ns m h A9:=⟨Rd.nilF a2O 1 m h,fun _ hx=>(List.not_mem_nil hx).elim⟩
theorem H0 (m:View) (h:List Res):LOk m h A9:=⟨Rd.nilF exE 6 m h,fun _ hx=>(List.not_mem_nil hx).elim⟩
theorem b6m (m:View) (h:List Res):TOk m h A2:=.mk (Rd.nilF exE 6 m h) (fun _ hx=>by cases hx)
theorem a6u (m:View) (h:List Res):EOk m h A2:=⟨b6m m h,.mk (by decide) (by decide) (by decide) (by decide) (Nat.zero_le _) fun _ hx=>(List.not_mem_nil hx).elim⟩
theorem X0 (m:View) (h:List Res):Rs m h E6:=⟨Nat.zero_le _,a6u m h,a6u m h⟩
theorem a9o (m:View) (h:List Res):Go.Ty.PrOk m h none 0 0 []:=⟨Rd.nilF Go.Ty.encV 2 m h,fun _ hx=>(List.not_mem_nil hx).elim,fun _ hx=>(List.not_mem_nil hx).elim⟩
theorem S9 (m:View) (h:List Res):Ss m h C2:=
 ⟨⟨by decide,⟨by decide,by decide,by decide,Nat.zero_le _⟩,Rd.nilF Go.Lx.encB 1 m h,fun _ hx=>(List.not_mem_nil hx).elim,a6u m h,a9o m h,fun _ hx=>(List.not_mem_nil hx).elim,Rd.nilF foE 6 m h,fun _ hx=>(List.not_mem_nil hx).elim,Rd.nilF prE 42 m h⟩,fun _ hx=>(List.not_mem_nil hx).elim⟩
theorem a5j {k:Int} {nm:B} {ch:Ex} {tg ex:Sli Ex} {rep:Rp} {ga:Option Addr} {gc:Nat} {gl:List Gu} {la:Option Addr} {lc:Nat} {ll:List Pr} {pn:Sli Int} {sp:Sp} (hk:0≤k∧k≤255) (hn:nm.length≤Big) (hch:EOk m h ch) (ht:LOk m h tg) (he:LOk m h ex)
   (hr:Rs m h rep) (hg:Gs m h ga gc gl) (hl:Ls m h la lc ll) (hp:Ns m h pn) (hs:Ss m h sp):POk m h (.mk k nm ch tg ex rep ga gc gl la lc ll pn sp):=
 .mk ⟨hk,hn,hch,ht,he,hr.n,hr.b,hr.c,hg.rd,hg.ok,hl.rd,hp.rd,hp.ok,hs.ok⟩ fun x hx=>by
   cases hx with
   | l hx=>exact hl.ok x hx
   | s hx=>exact hs.sub x hx
   | g hq hx=>exact hg.sub _ hq x hx
end Go.Sx
end
section
namespace Go.Sx
open Go.Eng Go.Pc Go
open Go.Xp hiding B
open Go.Ty (Ty Vr Tok)
theorem b7Y (e:Ex):C3 (C3 e)=C3 e:=by
 refine Ex.ind (p:=fun e=>C3 (C3 e)=C3 e) (fun e ih=>?_) e
 rw[Y1 e,Y1]
 show Ex.mk _ _ _ _ _ _ _ ((e.l.map C3).map C3)=_
 rw[List.map_map]
 congr 1
 exact List.map_congr_left fun x hx=>ih x hx
theorem a0K (x w:Ex):D6 (C3 x) w=D6 x w:=by rw[Bool.eq_iff_iff,a2n,a2n,b7Y]
theorem c4G (x w:Ex):D6 x (C3 w)=D6 x w:=by rw[Bool.eq_iff_iff,a2n,a2n,b7Y]
theorem a3M (e:Ex):G4 (C3 e)=G4 e:=a0K e A2
theorem b2v:∀ (l pre:List Vr),Go.Ty.mayIn (pre.map X7) (l.map X7)=Go.Ty.mayIn pre l
 | [],_=>rfl
 | v::r,pre=>by
   have h1:Go.Ty.badV (pre.map X7) (X7 v)=Go.Ty.badV pre v:=by
     unfold Go.Ty.badV Go.Ty.tagIn
     rw[List.any_map]
     rfl
   have h2:=b2v r (pre++[v])
   rw[List.map_append] at h2
   show(if Go.Ty.badV (pre.map X7) (X7 v) then false else Go.Ty.mayIn (pre.map X7++[X7 v]) (r.map X7))=if Go.Ty.badV pre v then false else Go.Ty.mayIn (pre++[v]) r
   rw[h1,← h2]
   rfl
theorem a7K (cs:Bool) (l:List Vr):Go.Ty.mayPr cs (l.map X7)=Go.Ty.mayPr cs l:=by
 unfold Go.Ty.mayPr
 rw[List.length_map]
 have h0:(Go.Ty.hdV (l.map X7)).tag=(Go.Ty.hdV l).tag∧(Go.Ty.hdV (l.map X7)).items=(Go.Ty.hdV l).items:=by cases l <;> exact⟨rfl,rfl⟩
 rw[h0.1,h0.2]
 have h1:=b2v l []
 rw[List.map_nil] at h1
 rw[h1]
theorem a4z {α β:Type} (l:List α) (f:α→β) (a b:Int) (q:β→Bool) (r:α→Bool) (h:∀ x,q (f x)=r x):D4 (l.map f) a b q=D4 l a b r:=by
 unfold D4
 rw[List.length_map,List.any_map]
 congr 2
 congr 1
 funext x
 simp[h]
theorem b5C {α:Type} (q:α→α→Bool) (f:α→α) (h:∀ x y,q (f x) (f y)=q x y):∀ (l r:List α),eqL q (l.map f) (r.map f)=eqL q l r
 | [],[]=>rfl
 | [],_::_=>rfl
 | _::_,[]=>rfl
 | x::l,y::r=>by
   show(q (f x) (f y)&&eqL q (l.map f) (r.map f))=_
   rw[h,b5C q f h l r]
   rfl
theorem U9 (s:Sp):stS s=spM s.k s.ty s.names.l (C3 s.e) s.cs (s.vs.l.map X7) s.fs.l (s.bl.map stP):=by
 cases s
 rw[stS,a4p]
 rfl
theorem b0m (a b:Sp):H9 (stS a) (stS b)=H9 a b:=by
 rw[U9,U9]
 unfold H9
 show((((((((a.k==b.k)&&Go.Ty.eqT a.ty b.ty)&&(a.names.l==b.names.l))&&D6 (C3 a.e) (C3 b.e))&&(a.cs==b.cs))&&eqL P3 (a.vs.l.map X7) (b.vs.l.map X7))&&eqL a0g a.fs.l b.fs.l)&&(((a.bl.map stP).length:Int)==(b.bl.map stP).length))=_
 rw[a0K,c4G,b5C P3 X7 (fun _ _=>rfl),List.length_map,List.length_map]
theorem c2j (s:Sp):Y4 (stS s)=stS (Y4 s):=by
 rw[U9 s]
 unfold Y4
 show(if s.k=1 then _ else if s.k=2 then _ else if s.k=3 then _ else if s.k=4 then _ else _)=_
 split
 · rw[U9];rfl
 · split
   · rw[U9];rfl
   · split
     · rw[U9];rfl
     · split
       · rw[U9];rfl
       · rw[U9];rfl
theorem c3c (s:Sp):a0w (stS s)=a0w s:=by
 rw[U9 s]
 unfold a0w
 show(if s.k=1 then Go.Ty.may s.ty else if s.k=2 then U4 s.ty&&E9 (C3 s.e) else if s.k=3 then U4 s.ty&&E7 (C3 s.e) else if s.k=4 then Go.Ty.mayPr s.cs (s.vs.l.map X7) else (((s.bl.map stP).length:Int)==1)&&D4 s.fs.l 0 8 foP)=_
 rw[S2,Z9,a7K,List.length_map]
theorem c3i (s:Sp):spP (stS s)=spP s:=by
 have h1:(stS s).k=s.k:=by rw[U9];rfl
 have h2:(stS s).names.l=s.names.l:=by rw[U9];rfl
 unfold spP
 rw[h1,h2,c3c,c2j,b0m]
end Go.Sx
end
section
namespace Go.Eng
open Go Go.RowKit
def a8N (es:Array MapEntry) (kv:List (List UInt8 × Value)):Prop:=es.toList.map (fun x=>(x.key,x.val))=kv.map fun p=>(str p.1,p.2)
theorem a8N.nil:a8N #[] []:=rfl
def a1q (n:List UInt8):List (List UInt8 × Value)→Option Value
 | []=>none
 | (k,v)::r=>if n=k then some v else a1q n r
theorem b3N {n:List UInt8}:∀ (l:List MapEntry) (kv:List (List UInt8 × Value)) (i:Nat),l.map (fun x=>(x.key,x.val))=kv.map (fun p=>(str p.1,p.2)) →
   (a1q n kv=none∧Instr.findNow .string (str n) l i=some none)∨∃ j v,a1q n kv=some v∧Instr.findNow .string (str n) l i=some (some (i+j,v))
 | [],[],_,_=>.inl ⟨rfl,rfl⟩
 | [],_::_,_,h=>by cases h
 | _::_,[],_,h=>by cases h
 | e::l,(k,v)::kv,i,h=>by
   simp only[List.map_cons,List.cons.injEq,Prod.mk.injEq] at h
   obtain⟨⟨hk,hv⟩,h⟩:=h
   by_cases hn:n=k
   · subst hn
     refine .inr ⟨0,v,by simp[a1q],?_⟩
     simp[Instr.findNow,hk,Instr.sameNow,b1k,hv]
   · have hb:((⟨n.toArray⟩:ByteArray)==⟨k.toArray⟩)=false:=c1q hn
     have e1:Instr.findNow .string (str n) (e::l) i=Instr.findNow .string (str n) l (i+1):=by
       simp[Instr.findNow,hk,Instr.sameNow,hb]
     have e2:a1q n ((k,v)::kv)=a1q n kv:=by simp[a1q,hn]
     rw[e1,e2]
     rcases b3N l kv (i+1) h with h1 | ⟨j,v,h1,h2⟩
     · exact .inl h1
     · exact .inr ⟨j+1,v,h1,by rw[h2];congr 3;omega⟩
section
variable {P:Program} {ops:Array Oper} {Q:Exit→Act→World→Prop} {n:Cx} {F:Fm} {h h':List Res} {m:View} {rest:List Oper}
variable {ty:TypeId} {pos:String} {after:Array Edge} {dst:Option Tmp} {g:Option (Nat × Bool)} {d:Nat}
theorem b3n (w:World) {t kt et:TypeId} {b:Nat} {es:Array MapEntry} {clock:Nat} {kv:List (List UInt8 × Value)} {x:List UInt8} {v:Value} (ht:P.underlying t=some (.map kt et)) (hk:P.underlying kt=some (.string)) (hM:a8N es kv) (hx:a1q x kv=none)
   (hb:w.heap[b]?=some (.map es clock)):∃ es' clock',a8N es' (kv++[(x,v)])∧(Instr.mapUpdate t (.map (some b)) (str x) v).run P w=.ok () { w with heap:=w.heap.setIfInBounds b (.map es' clock') }:=by
 have hck:(Instr.checkKey false 10000 kt (str x)).run P w=.ok () w:=by
   unfold Instr.checkKey
   simp[run_underlying hk]
 have hget:(getObj b).run P w=.ok (.map es clock) w:=by simp[getObj,Sem.run,hb]
 have hset:∀ o,(setObj b o).run P w=.ok () { w with heap:=w.heap.setIfInBounds b o }:=fun o=>by simp[setObj,Sem.run,hb]
 rcases b3N (n:=x) es.toList kv 0 hM with ⟨h1,h2⟩ | ⟨j,v,h1,h2⟩
 · refine⟨es.push { key:=str x,val:=v,born:=clock },clock+1,?_,?_⟩
   · unfold a8N at hM ⊢
     simp[hM]
   · simp[Instr.mapUpdate,run_underlying ht,hget,hck,Instr.findKey,run_underlying hk,h2,hset]
 · rw[hx] at h1;cases h1
theorem R1 {op:Op} {x y z:Operand} {t kt et:TypeId} {b:Nat} {es:Array MapEntry} {clock:Nat} {kv:List (List UInt8 × Value)} {i:List UInt8} {v:Value} {hq:Array MapEntry→Nat→List Res} (hop:op=.mapUpdate t x y z∨op=.insert t x y z) (ht:P.underlying t=some (.map kt et)) (hk:P.underlying kt=some (.string)) (hM:a8N es kv) (hi:a1q i kv=none)
   (ex:Ev n F x (.map (some b))) (ey:Ev n F y (str i)) (ez:Ev n F z v) (u:∀ es' c',Upd h (.pt b (.map es clock)) (.pt b (.map es' c')) (hq es' c')) (k:∀ es' c',a8N es' (kv++[(i,v)])→WL P ops Q n rest F (hq es' c') m) :
   WL P ops Q n (⟨none,op,ty,pos,after,none⟩::rest) F h m:=.mk fun a w ha hs=>by
 obtain⟨es',c',h1,h2⟩:=b3n (P:=P) w (x:=i) (v:=v) ht hk hM hi (hs.ok _ (u es clock).mem)
 have hrun:(execOp a.eval ⟨none,op,ty,pos,after,none⟩).run P w=.ok .skip { w with heap:=w.heap.setIfInBounds b (.map es' c') }:=by
   rcases hop with rfl | rfl <;> simp[execOp,ex a ha,ey a ha,ez a ha,h2]
 exact G0 rfl (a8k hrun (k es' c' h1 _ _ ha (hs.setObj (u es' c'))))
theorem b4a {x y:Operand} {t kt et:TypeId} {b:Nat} {es:Array MapEntry} {clock:Nat} {kv:List (List UInt8 × Value)} {i:List UInt8} {z:Value} (ht:P.underlying t=some (.map kt et)) (hk:P.underlying kt=some (.string)) (hz:(P.info? et).bind (·.zero)=some z) (hM:a8N es kv)
   (ex:Ev n F x (.map (some b))) (ey:Ev n F y (str i)) (hm:Res.pt b (.map es clock) ∈ h):PO P ⟨dst,.lookup t x y true,ty,pos,after,g⟩ n F h m (.tuple #[(a1q i kv).getD z,.bool (a1q i kv).isSome]):=.mk fun a w ha hs=>by
 have hb:w.heap[b]?=some (.map es clock):=hs.ok _ hm
 have hck:(Instr.checkKey es.isEmpty 10000 kt (str i)).run P w=.ok () w:=by
   unfold Instr.checkKey
   simp[run_underlying hk]
 have hget:(getObj b).run P w=.ok (.map es clock) w:=by simp[getObj,Sem.run,hb]
 have hzr:(zeroValue et).run P w=.ok z w:=by
   cases hi:P.info? et with
   | none=>simp[hi] at hz
   | some j=>
     have:j.zero=some z:=by simpa [hi] using hz
     simp[zeroValue,typeInfo,hi,this]
 rcases b3N (n:=i) es.toList kv 0 hM with ⟨h1,h2⟩ | ⟨j,v,h1,h2⟩
 · simp[execOp,ex a ha,ey a ha,Instr.lookup,run_underlying ht,hget,hck,Instr.findKey,run_underlying hk,h1,h2,hzr]
 · simp[execOp,ex a ha,ey a ha,Instr.lookup,run_underlying ht,hget,hck,Instr.findKey,run_underlying hk,h1,h2]
theorem c6n {fn:Func} {ex:Exit} {m0:View} {R:Value→View→List Res→Prop} {r r':ResultVar} {v v':Value} {q:FuncId} {cap:List Value} (hex:ex=.ret∨ex=.normal) (hds:n.ds=[a9B q cap]) (he:∀ as w,(callFunc q as).run P w=.ok (.enter q as) w)
   (hd:a9G P q cap .returning m h h) (hfn:fn.results=#[r,r']) (x1:RV P n F h m r v) (x2:RV P n F h m r' v') (hle:m0.le m) (hsub:h'.Sublist h) (hR:R (.tuple #[v,v']) m h') :
   ∀ a w,Fr n F a→St m h w→bodyPostD P fn (RQ m0 R) ex a w:=fun a w ha hs=>by
 have key:Leaves P fn a.tmps (RQ m0 R) a.defers .returning w:=by
   rw[ha.d,hds]
   refine b0Y he (by simp) hd hs fun w' hs'=>⟨.tuple #[v,v'],?_,_,m,h',rfl,hle,hs'.sub hsub,hR⟩
   have h1:=x1.e a w' ha hs'
   have h2:=x2.e a w' ha hs'
   simp[Z7,hfn,h1,h2]
 rcases hex with rfl | rfl <;> exact key
theorem c6k {fn:Func} {m0:View} {R:Value→View→List Res→Prop} {r r':ResultVar} {v v' u:Value} {q:FuncId} {cap:List Value} {h2:List Res} (hds:n.ds=[a9B q cap]) (he:∀ as w,(callFunc q as).run P w=.ok (.enter q as) w)
   (hd:a9G P q cap (.panicking [{ v:=u,recovered:=false }]) m h h2) (hfn:fn.results=#[r,r']) (x1:RV P n F h2 m r v) (x2:RV P n F h2 m r' v') (hle:m0.le m) (hsub:h'.Sublist h2) (hR:R (.tuple #[v,v']) m h') :
   ∀ a w,Fr n F a→St m h w→bodyPostD P fn (RQ m0 R) (.panic [{ v:=u,recovered:=false }]) a w:=fun a w ha hs=>by
 show Leaves P fn a.tmps (RQ m0 R) a.defers (.panicking [{ v:=u,recovered:=false }]) w
 rw[ha.d,hds]
 refine b0Y he (by simp) hd hs fun w' hs'=>⟨.tuple #[v,v'],?_,_,m,h',rfl,hle,hs'.sub hsub,hR⟩
 have h1:=x1.e a w' ha hs'
 have h2:=x2.e a w' ha hs'
 simp[Z7,hfn,h1,h2]
end
end Go.Eng
end
section
namespace Go.Sx
open Go.Eng Go.Pc Go
open Go.Xp hiding B
open Go.Ty (Ty Vr Tok)
open Go.Ly (Rw)
def Er {α:Type} (r:E α):Prop:=∀ e,r=.error e→e=110
theorem X4 {α:Type} {x:α × List Tok}:Er (.ok x):=nofun
theorem a5m {α:Type}:Er (.error 110:E α):=fun e h=>by cases h;rfl
theorem S3 {α β:Type} {r:E α} {f:α→List Tok→E β} (h:Er r) (hf:∀ x ts,Er (f x ts)):Er (Q3 r f):=by
 cases r with
 | ok x=>exact hf x.1 x.2
 | error e=>rw[h e rfl];exact a5m
theorem a4M {β:Type} {k:Int} {s:B} {ts:List Tok} {f:List Tok→E β} (h:∀ r,Er (f r)):Er (a07 k s ts f):=by
 unfold a07
 split
 · exact h _
 · exact a5m
theorem a1a {α:Type} {c:Prop} [Decidable c] {a b:E α} (ha:Er a) (hb:Er b):Er (if c then a else b):=by
 split
 · exact ha
 · exact hb
theorem a1u (ts:List Tok):Er (X2 ts):=by rw[b1Z];exact a1a X4 a5m
theorem V0 (ts:List Tok):Er (N9 ts):=by rw[b2X];exact a1a X4 a5m
theorem a4W (ts:List Tok):Er (M5 ts):=by rw[a7q];exact a1a (S3 (V0 ts) fun _ _=>a1a X4 a5m) a5m
theorem b1e (ts:List Tok):Er (a8r ts):=a1a X4 a5m
theorem b5x (ts:List Tok):Er (a6j ts):=S3 (b1e ts) fun _ _=>a1a X4 a5m
theorem b5U (ts:List Tok):Er (a4V ts):=S3 (b1e _) fun _ _=>S3 (a1u _) fun _ _=>a1a X4 a5m
theorem b5a {α:Type} {take:List Tok→E α} {sep:B} (h:∀ ts,Er (take ts)):∀ (n:Nat) (acc:List α) (ts:List Tok),Er (a2S take sep n acc ts)
 | 0,_,_=>a1a a5m X4
 | n+1,_,_=>a1a (S3 (h _) fun _ _=>b5a h n _ _) X4
theorem a2g {α:Type} {take:List Tok→E α} {sep:B} {most:Nat} {ts:List Tok} (h:∀ ts,Er (take ts)):Er (R4 take sep most ts):=S3 (h _) fun _ _=>b5a h _ _ _
theorem c3d {α:Type} {take:List Tok→E α} {ts:List Tok} (h:∀ ts,Er (take ts)):Er (brM take ts):=a4M fun _=>a1a X4 (S3 (a2g h) fun _ _=>a4M fun _=>X4)
theorem b8G (ts:List Tok):Er (b4G ts):=a1a X4 (S3 (a1u _) fun _ _=>a4M fun _=>S3 (V0 _) fun _ _=>a4M fun _=>S3 (V0 _) fun _ _=>X4)
theorem c4B (ts:List Tok):Er (ifM ts):=S3 (V0 _) fun _ _=>X4
theorem b5t (c:Ex) (ts:List Tok):Er (b0n c ts):=S3 (a4W _) fun _ _=>a4M fun _=>a1a (S3 (V0 _) fun _ _=>X4) (S3 (a2g a4W) fun _ _=>X4)
theorem c0d (ts:List Tok):Er (a9q ts):=a1a (S3 (V0 _) fun _ _=>a4M fun _=>a1a X4 (b5t _ _)) (b5t _ _)
theorem c4S (ts:List Tok):Er (b6U ts):=a1a X4 (S3 (a2g V0) fun _ _=>X4)
theorem c4M (ts:List Tok):Er (b3L ts):=S3 (a1u _) fun _ _=>a1a (S3 (a2g a4W) fun _ _=>X4) X4
theorem b3w (ts:List Tok):Er (a2d ts):=S3 (a1u _) fun _ _=>a1a (S3 (a2g b5x) fun _ _=>X4) X4
def Ep {α:Type} (r:PE α):Prop:=∀ e j,r=.error (e,j)→e≠0
theorem P6 {α:Type} {x:α × Nat}:Ep (.ok x):=nofun
theorem a2x {α:Type} {i:Nat}:Ep (.error (110,i):PE α):=fun e j h=>by cases h;decide
theorem U6 {α β:Type} {r:PE α} {f:α→Nat→PE β} (h:Ep r) (hf:∀ x i,Ep (f x i)):Ep (S4 r f):=by
 cases r with
 | ok x=>exact hf x.1 x.2
 | error e=>exact fun a j q=>h a j (by cases q;rfl)
theorem M0 {α β:Type} {r:E α} {i:Nat} {f:α→List Tok→PE β} (h:Er r) (hf:∀ x ts,Ep (f x ts)):Ep (J4 r i f):=by
 cases r with
 | ok x=>exact hf x.1 x.2
 | error e=>rw[h e rfl];exact a2x
theorem S5 {α:Type} {c:Prop} [Decidable c] {a b:PE α} (ha:Ep a) (hb:Ep b):Ep (if c then a else b):=by
 split
 · exact ha
 · exact hb
theorem L1 {β:Type} {ts:List Tok} {i:Nat} {f:Nat→PE β} (h:∀ i,Ep (f i)):Ep (G5 ts i f):=S5 (h _) a2x
theorem a2v {β:Type} {k:Int} {s:B} {ts:List Tok} {i:Nat} {f:List Tok→PE β} (h:∀ r,Ep (f r)):Ep (X3 k s ts i f):=S5 (h _) a2x
variable {R:List Rw}
theorem a6b {β:Type} {d:Int} {i:Nat} {f:List Tok→PE β} (h:∀ r,Ep (f r)):Ep (a1o R d i f):=by
 unfold a1o a0Y
 cases hx:R[i]? with
 | none=>exact a2x
 | some x=>
   simp only
   split
   · rename_i h1
     split at h1
     · cases h1
     · split at h1
       · cases h1
       · exact h _
   · rename_i h1
     split at h1
     · rename_i he
       cases h1
       exact fun a j q=>by cases q;exact he
     · split at h1
       · cases h1;exact a2x
       · cases h1
theorem b1t {β:Type} {d k:Int} {s:B} {i:Nat} {f:Nat→PE β} (h:∀ i,Ep (f i)):Ep (a3n R d k s i f):=a6b fun _=>a2v fun _=>L1 h
variable {rec:Int→Bool→Nat→PE Pr} (hr:∀ d t i,Ep (rec d t i))
include hr
theorem a5a {row:List Tok→E Gu} (hw:∀ ts,Er (row ts)) {least most:Nat} {d:Int}:∀ (k:Nat) (acc:List Gu) (i:Nat),Ep (a0p R rec row least most d k acc i)
 | 0,_,_=>S5 a2x P6
 | k+1,_,_=>S5 (a6b fun _=>M0 (hw _) fun _ _=>L1 fun _=>U6 (hr _ _ _) fun _ _=>a5a hw k _ _) P6
theorem b2a {d:Int}:∀ (k:Nat) (acc:List Pr) (i:Nat),Ep (a2N R rec d k acc i)
 | 0,_,_=>P6
 | k+1,_,_=>S5 (U6 (hr _ _ _) fun _ _=>b2a k _ _) P6
theorem b0z {d:Int}:∀ (k:Nat) (ns:List Int) (acc:List Pr) (i:Nat),Ep (Y8 R rec d k ns acc i)
 | 0,_,_,_=>S5 a2x P6
 | k+1,_,_,_=>S5 (a6b fun _=>a2v fun r=>by
     cases b4P r with
     | none=>exact a2x
     | some n=>exact U6 (hr _ _ _) fun _ _=>b0z k _ _ _) P6
omit hr in
theorem a9S {d:Int}:∀ (k:Nat) (acc:List Vr) (i:Nat),Ep (a1l R d k acc i)
 | 0,_,_=>S5 a2x P6
 | k+1,_,_=>S5 (a6b fun _=>M0 (b3w _) fun _ _=>S5 (L1 fun _=>a9S k _ _) a2x) P6
omit hr in
theorem c0e {d:Int} {ts:List Tok} {i:Nat}:Ep (a6C R d ts i):=
 S5 (M0 (a2g b5x) fun _ _=>a2v fun _=>L1 fun _=>P6) (L1 fun _=>b1t fun _=>U6 (a9S _ _ _) fun _ _=>b1t fun _=>P6)
omit hr in
theorem b1h {s:Sp} {ts:List Tok} {i:Nat}:Ep (b1Y s ts i):=a2v fun _=>S5 (L1 fun _=>P6) a2x
theorem c1H {d:Int} {ts:List Tok} {i:Nat}:Ep (a7f R rec d ts i):=
 S5 (M0 (a1u _) fun _ _=>U6 c0e fun _ _=>P6)
   (S5 (M0 (a1u _) fun _ _=>M0 (c3d b5U) fun _ _=>L1 fun _=>U6 (hr _ _ _) fun _ _=>b1t fun _=>P6)
     (S5 (M0 (b1e _) fun _ _=>M0 (a1u _) fun _ _=>a2v fun _=>M0 (V0 _) fun _ _=>b1h)
       (S5 (M0 (b1e _) fun _ _=>M0 (a2g a1u) fun _ _=>S5 (M0 (a4W _) fun _ _=>b1h) b1h) P6)))
theorem a9Q {k:Int} {d:Int} {ts:List Tok} {i:Nat}:Ep (a4l R rec k d ts i):=
 M0 (b8G _) fun _ _=>L1 fun _=>S5 (U6 (hr _ _ _) fun _ _=>P6) (U6 (b2a hr _ _ _) fun _ _=>P6)
theorem a74 {k:Int} {row:List Tok→E Gu} (hw:∀ ts,Er (row ts)) {d:Int} {ts:List Tok} {i:Nat}:Ep (a1x R rec k row d ts i):=
 M0 (b8G _) fun _ _=>L1 fun _=>U6 (a5a hr hw _ _ _) fun _ _=>P6
theorem a9R {d:Int} {ts:List Tok} {i:Nat}:Ep (a5i R rec d ts i):=
 S5 (M0 (a1u _) fun _ _=>M0 (c3d V0) fun _ _=>L1 fun _=>P6)
   (M0 (a2g a4W) fun _ _=>S5 (M0 (a2g V0) fun _ _=>L1 fun _=>P6) (S5 a2x (S5 (M0 (a2g V0) fun _ _=>L1 fun _=>P6)
     (a2v fun _=>S5 (L1 fun _=>U6 (a5a hr c4M _ _ _) fun _ _=>P6) (S5 (M0 (V0 _) fun _ _=>L1 fun _=>P6) (M0 (a2g a4W) fun _ _=>L1 fun _=>P6))))))
theorem c1i {s:B} {f:Int→List Tok→Nat→PE Pr} (h:a4f R rec s=some f) (d:Int) (ts:List Tok) (i:Nat):Ep (f d ts i):=by
 unfold a4f at h
 split at h
 · cases h;exact L1 fun _=>P6
 split at h
 · cases h;exact L1 fun _=>P6
 split at h
 · cases h;exact a9Q hr
 split at h
 · cases h;exact a9Q hr
 split at h
 · cases h;exact S5 (L1 fun _=>U6 (hr _ _ _) fun _ _=>U6 (hr _ _ _) fun _ _=>P6) (a2v fun _=>a74 hr c0d)
 split at h
 · cases h;exact a74 hr c0d
 split at h
 · cases h;exact a74 hr c4B
 split at h
 · cases h;exact M0 (V0 _) fun _ _=>L1 fun _=>U6 (a5a hr c4S _ _ _) fun _ _=>P6
 split at h
 · cases h;exact M0 (V0 _) fun _ _=>L1 fun _=>U6 (hr _ _ _) fun _ _=>P6
 split at h
 · cases h;exact a2v fun _=>L1 fun _=>U6 (b0z hr _ _ _ _) fun _ _=>P6
 · cases h
theorem c1X {d:Int} {top:Bool} {ts:List Tok} {i:Nat}:Ep (a7d R rec d top ts i):=by
 cases ts with
 | nil=>exact a2x
 | cons t r=>
   unfold a7d
   cases hw:a4f R rec t.text with
   | none=>simp only[hw];exact a9R hr
   | some f=>simp only[hw];exact S5 (c1i hr hw _ _ _) (a9R hr)
theorem c0R {d:Int} {top:Bool} {i:Nat}:Ep (c3o R rec d top i):=a6b fun _=>U6 (c1H hr) fun so _=>by
 cases so with
 | none=>exact c1X hr
 | some s=>exact U6 (hr _ _ _) fun _ _=>P6
omit hr in
theorem a8y:∀ (n:Nat) (d:Int) (t:Bool) (i:Nat),Ep (C4 R n d t i)
 | 0,_,_,_=>a2x
 | n+1,_,_,_=>c0R (a8y n)
omit hr in
theorem c4m:Ep (b0P R):=U6 (a8y _ _ _ _) fun _ i=>by
 cases R[i]? with
 | none=>exact P6
 | some y=>
   show Ep (.error (if (Go.Lx.lexO y.text).2.2≠0 then (Go.Lx.lexO y.text).2.2 else 110,i))
   intro e j h
   cases h
   split
   · assumption
   · decide
end Go.Sx
end
section
namespace Go.Sx
open Go.Eng Go.Pc Go
open Go.Xp hiding B
open Go.Ty (Ty Vr Tok)
open Go.Ly (Rw)
def A4 (s:B):Tok:=if Go.Lx.key s then ⟨2,0,s,0⟩ else ⟨5,0,s,0⟩
def P8 (s:B):Tok:=⟨1,0,s,0⟩
def M9 (t:Ty):List Tok:=(Go.Ty.tokens t).1
def a1c (k:Int):List Tok:=M9 ⟨k,0,0,[]⟩
def D5 {α:Type} (sep:B) (f:α→List Tok):List α→List Tok
 | []=>[]
 | [x]=>f x
 | x::y::r=>f x++⟨5,0,sep,0⟩::D5 sep f (y::r)
theorem a2b {α:Type} (sep:B) (f:α→List Tok):∀ (l:List α) (x:α),l≠[]→D5 sep f (l++[x])=D5 sep f l++(⟨5,0,sep,0⟩::f x)
 | [],_,h=>absurd rfl h
 | [y],x,_=>rfl
 | y::z::r,x,_=>by
   show f y++⟨5,0,sep,0⟩::D5 sep f (z::r++[x])=(f y++⟨5,0,sep,0⟩::D5 sep f (z::r))++(⟨5,0,sep,0⟩::f x)
   rw[a2b sep f (z::r) x (by simp)]
   simp
def a2F (s:B) (l:List Tok):List Tok:=if l.length=0 then [] else A4 s::l
def a2i (r:Rp):List Tok:=if r.name=[] then [] else ((([P8 r.name]++[A4 [61]])++F4 r.base)++[A4 [70,79,82]])++F4 r.count
def R7 (f:Fo):List Tok:=((if f.val then [A4 [86,65,76]] else [])++M9 f.ty)++[P8 f.name]
abbrev Ln:=Int × List Tok
def B3 (k:Int) (n:B) (ch:Ex) (tg ex:List Ex) (rep:Rp):List Tok:=
 if k=1 then [A4 [83,75,73,80]]
 else if k=2 then [A4 [83,84,79,80]]
 else if k=3 then (D5 [44] F4 tg++[A4 [58,61]])++D5 [44] F4 ex
 else if k=4 then (F4 ch++[A4 [63]])++D5 [59] F4 tg
 else if k=5 then (F4 ch++[A4 [33]])++D5 [59] F4 ex
 else if k=6 then (F4 ch++[A4 [63],A4 [65,70,84,69,82]])++D5 [] F4 ex
 else if k=7 then F4 ch++[A4 [63],A4 [67,65,83,69]]
 else if k=8 then [A4 [83,69,81]]++a2i rep
 else if k=9 then [A4 [80,65,82]]++a2i rep
 else if k=10 then [A4 [80,82,73],A4 [80,65,82]]
 else if k=11 then [A4 [80,76,65,67,69,68],A4 [80,65,82]]
 else if k=12 then [A4 [65,76,84]]++a2i rep
 else if k=13 then [A4 [80,82,73],A4 [65,76,84]]++a2i rep
 else if k=14 then [A4 [73,70]]++a2i rep
 else if k=15 then [A4 [67,65,83,69]]++D5 [] F4 ex
 else if k=16 then [A4 [87,72,73,76,69]]++D5 [] F4 ex
 else (([P8 n]++[A4 [40]])++D5 [44] F4 ex)++[A4 [41]]
def a0u (c:Ex):List Tok:=if G4 c then [] else F4 c++[⟨5,0,[38],0⟩]
def I6 (k:Int) (n:B) (cond ch:Ex) (tg vl:List Ex) (time:Ex):List Tok:=
 if k=1 then F4 cond
 else if k=2 then a0u cond++[A4 [83,75,73,80]]
 else if k=3 then ((a0u cond++F4 ch)++[A4 [63]])++D5 [59] F4 tg
 else if k=4 then ((a0u cond++F4 ch)++[A4 [63],A4 [65,70,84,69,82]])++F4 time
 else if k=5 then D5 [44] F4 vl
 else if k=6 then [A4 [69,76,83,69]]
 else [P8 n]++a2F [59] (D5 [59] F4 tg)
def K8 (l:List B):List Tok:=D5 [44] (fun s=>[P8 s]) l
def L2 (v:Vr):List Tok:=[P8 v.tag]++a2F [59] (D5 [59] a1c v.items)
mutual
def K2:Pr→Int→List Ln
 | .mk k n ch tg ex rep _ _ gl _ _ ll pn sp,d=>if k=18 then L8 sp d++a1R ll d else (d,B3 k n ch tg.l ex.l rep)::(G2 k pn.l ll d++L5 gl (d+1))
def a1R:List Pr→Int→List Ln
 | [],_=>[]
 | x::_,d=>K2 x d
def G2 (k:Int):List Int→List Pr→Int→List Ln
 | _,[],_=>[]
 | ns,x::r,d=>(if k=11 then (d+1,[A4 [80,82,79,67,69,83,83,79,82],⟨3,0,[],IntKind.i32.wrap (ns.headD 0)⟩])::K2 x (d+2) else K2 x (d+1))++G2 k ns.tail r d
def a02:Gu→Int→List Ln
 | .mk k n cond ch tg vl time _ _ bl,d=>(d,I6 k n cond ch tg.l vl.l time)::a1R bl (d+1)
def L5:List Gu→Int→List Ln
 | [],_=>[]
 | g::r,d=>a02 g d++L5 r d
def L8:Sp→Int→List Ln
 | .mk k ty ns e cs vs fs _ _ bl,d=>
   if k=1 then [(d,(M9 ty++K8 ns.l)++[A4 [58]])]
   else if k=2 then [(d,(((([A4 [86,65,76]]++M9 ty)++K8 ns.l)++[A4 [73,83]])++F4 e)++[A4 [58]])]
   else if k=3 then [(d,(((M9 ty++K8 ns.l)++[A4 [73,83]])++F4 e)++[A4 [58]])]
   else if k=5 then (d,((([A4 [80,82,79,67]]++K8 ns.l)++[A4 [40]])++D5 [44] R7 fs.l)++[A4 [41]])::(a1R bl (d+1)++[(d,[A4 [58]])])
   else if cs=false then [(d,((([A4 [80,82,79,84,79,67,79,76]]++K8 ns.l)++[A4 [73,83]])++D5 [59] a1c (Go.Ty.hdV vs.l).items)++[A4 [58]])]
   else (d,[A4 [80,82,79,84,79,67,79,76]]++K8 ns.l)::(d+1,[A4 [67,65,83,69]])::(vs.l.map (fun v=>((d+2,L2 v):Ln))++[(d,[A4 [58]])])
end
abbrev Ps:=List Rw × Bool
def C7 (st:Ps) (x:Ln):Ps:=if (Go.Lx.textO x.2).2≠0∨st.1.length > 2048 then (st.1,true) else (st.1++[⟨st.1.length+1,x.1,(Go.Lx.textO x.2).1⟩],st.2)
def C1 (st:Ps) (l:List Ln):Ps:=l.foldl C7 st
theorem a0a (st:Ps) (a b:List Ln):C1 st (a++b)=C1 (C1 st a) b:=List.foldl_append
theorem a0A (st:Ps) (x:Ln) (b:List Ln):C1 st (x::b)=C1 (C7 st x) b:=rfl
def a0N (p:Pr):List Rw × Int:=if mayP p then (if (C1 ([],false) (K2 p 0)).2||!Go.Ly.mayP (C1 ([],false) (K2 p 0)).1 then ([],3) else ((C1 ([],false) (K2 p 0)).1,0)) else ([],2)
end Go.Sx
end
section
namespace Go.Eng
open Go Go.RowKit
section
variable {P:Program} {ops:Array Oper} {Q:Exit→Act→World→Prop} {n:Cx} {F:Fm} {h h':List Res} {m:View} {rest:List Oper}
variable {ty:TypeId} {pos:String} {after:Array Edge} {d:Nat}
theorem b9q {x y:Operand} {t tn e:TypeId} {sz by_ q:Nat} {kn kq:IntKind} {j:Int} (E:EL P t e sz by_) (htn:P.underlying tn=some (.int kn)) (ex:Ev n F x (.slice none 0 0)) (ey:Ev n F y (.int kq j)) (hj:j=(q:Int)) (h0:0 < q) (hb:q * by_≤140737488355328) (h63:q≤4611686018427387904) (hd:d < n.num)
   (kk:∀ b cap,q≤cap→cap≤9223372036854775807→WL P ops Q n rest ((d,.slice (some ⟨b,0,none⟩) q cap)::F) (.row (.slice (some ⟨b,0,none⟩) 0 cap) e sz 0 []::h) m) :
   WL P ops Q n (⟨some d,.call ⟨.builtin .append,#[x,y],#[t,tn]⟩,ty,pos,after,none⟩::rest) F h m:=.mk fun f w hf hs=>by
 subst hj
 obtain⟨i,z,ht,hi,hz,hsize,hby,hzs,hsz⟩:=E.ex
 subst hsize hby
 have hr:=Lib.run_append_grow_zeros (P:=P) w t tn ty e i z kq kn ht htn hi hz none 0 0 [] (run_firstCells_none w.drew i.size 0 0 0) q h0 hsz (by omega) (by omega) (by omega) (growslice_fits (by omega) (by rw[Nat.zero_add];exact hb))
 simp only[Nat.zero_add] at hr
 have hge:=grownCap_ge w q 0 e
 have hcm:grownCap w q 0 e≤maxLen:=grownCap_le_maxLen w q 0 e (by unfold maxLen;omega)
 refine G0 rfl (N8 (v:=.slice (some ⟨w.heap.size,0,none⟩) q (grownCap w q 0 e)) (w':=w.drew.alloc (.cells (([]:List Value).toArray++Builtin.zeroCells z.cells q++Builtin.zeroCells z.cells (grownCap w q 0 e - q)) e)) ?_ (kk w.heap.size (grownCap w q 0 e) hge (by unfold maxLen at hcm;omega) _ _ (hf.put hd _) ?_))
 · simp at hr
   simp[execOp,resolve,invoke,builtin,ex f hf,ey f hf,hr]
 · refine(hs.drew.alloc (.cells (([]:List Value).toArray++Builtin.zeroCells z.cells q++Builtin.zeroCells z.cells (grownCap w q 0 e - q)) e)).conv (r':=.row (.slice (some ⟨w.heap.size,0,none⟩) 0 (grownCap w q 0 e)) e i.size 0 []) Upd.here rfl fun hh=>?_
   have:=a3L (sz:=i.size) (n:=0) (cap:=grownCap w q 0 e) hh (Nat.zero_le _) hcm (by
     simp only[Array.size_append,List.size_toArray,size_zeroCells,hzs,List.length_nil,Nat.zero_add,← Nat.add_mul]
     congr 1
     omega)
   rw[Nat.zero_mul,List.take_zero] at this
   exact this
theorem b1X {x:Operand} {t:TypeId} {e:TypeId} {a:Option Addr} {l c:Nat} {dst:Option Tmp} {g:Option (Nat × Bool)} (ht:P.underlying t=some (.slice e)) (ex:Ev n F x (.slice a l c)) :
   PO P ⟨dst,.call ⟨.builtin .cap,#[x],#[t]⟩,ty,pos,after,g⟩ n F h m (.int .i64 c):=.mk fun b w ha _=>by
 simp[execOp,resolve,invoke,builtin,ex b ha,Builtin.cap_,run_underlying ht,goInt]
end
end Go.Eng
end
section
namespace Go.Sx
open Go.Eng Go.Pc Go
open Go.Xp hiding B F1
open Go.Ty (Ty Vr Tok)
theorem a8L (p:Pr):(stP p).k=p.k∧(stP p).name=p.name∧(stP p).ch=C3 p.ch∧(stP p).tg.l=p.tg.l.map C3∧(stP p).ex.l=p.ex.l.map C3∧(stP p).rep=stR p.rep∧(stP p).gl=p.gl.map stG∧(stP p).ll=p.ll.map stP∧(stP p).pn.l=p.pn.l∧(stP p).sp=stS p.sp:=by
 cases p
 refine⟨rfl,rfl,rfl,rfl,rfl,rfl,?_,?_,rfl,rfl⟩
 · exact a9m _
 · exact a4p _
theorem b3c (g:Gu):(stG g).k=g.k∧(stG g).name=g.name∧(stG g).cond=C3 g.cond∧(stG g).ch=C3 g.ch∧(stG g).tg.l=g.tg.l.map C3∧(stG g).vl.l=g.vl.l.map C3∧(stG g).time=C3 g.time∧(stG g).bl=g.bl.map stP:=by
 cases g
 exact⟨rfl,rfl,rfl,rfl,rfl,rfl,rfl,a4p _⟩
theorem b4U (s:Sp):(stS s).k=s.k∧(stS s).ty=s.ty∧(stS s).names.l=s.names.l∧(stS s).e=C3 s.e∧(stS s).cs=s.cs∧(stS s).vs.l=s.vs.l.map X7∧(stS s).fs.l=s.fs.l∧(stS s).bl=s.bl.map stP:=by
 rw[U9]
 exact⟨rfl,rfl,rfl,rfl,rfl,rfl,rfl,rfl⟩
theorem c5R (g:Gu):guP (stG g)=guP g:=by
 obtain⟨h1,h2,h3,h4,h5,h6,h7,h8⟩:=b3c g
 unfold guP a3s
 rw[h1,h2,h3,h4,h5,h6,h7,h8,List.length_map,a3M,a3M,a3M,S2,S2,Z9,a4z _ C3 _ _ E7 E7 Z9,a4z _ C3 _ _ E9 E9 S2]
theorem c5E (u:Us) (g:Gu):inG u (stG g)=inG u g:=by
 unfold inG
 rw[c5R,(b3c g).1]
theorem c6D:stS C2=C2:=by
 rw[U9]
 have:C3 A2=A2:=by rw[Y1];rfl
 show spM 0 Go.Ty.zeroT [] (C3 A2) false [] [] []=C2
 rw[this]
 rfl
theorem a9W (p:Pr) (u:Us):K7 (stP p) u=K7 p u:=by
 obtain⟨h1,h2,h3,h4,h5,h6,h7,h8,h9,h10⟩:=a8L p
 unfold K7
 rw[h2,h3,h4,h5,h7,h8,h9,h10,List.length_map,a3M,Z9,a4z _ C3 _ _ E7 E7 Z9,a4z _ C3 _ _ E9 E9 S2,a4z _ stG _ _ (inG u) (inG u) (c5E u),c3i]
 have:H9 (stS p.sp) C2=H9 p.sp C2:=by
   have:=b0m p.sp C2
   rwa [c6D] at this
 rw[this]
theorem b9I (p:Pr):K3 (stP p)=K3 p:=by
 obtain⟨h1,h2,h3,h4,h5,h6,h7,h8,h9,h10⟩:=a8L p
 unfold K3
 have hr:N5 (stP p).rep=N5 p.rep:=by
   rw[h6]
   unfold N5 stR
   show(if p.rep.name==[] then G4 (C3 p.rep.base)&&G4 (C3 p.rep.count) else Go.Lx.name p.rep.name&&E9 (C3 p.rep.base)&&E9 (C3 p.rep.count))=_
   rw[a3M,a3M,S2,S2]
 have hn:(stP p).rep.name=p.rep.name:=by rw[h6];rfl
 rw[h1,hr,hn,a9W,a9W]
theorem c1x (p:Pr) (d:Int) (pl:Bool) (q:Int):R6 (stP p) d pl q=R6 p d pl q:=by
 unfold R6
 rw[b9I,(a8L p).1]
abbrev b3b (p:Pr):Prop:=∀ d pl q,F7 (stP p) d pl q=F7 p d pl q
theorem b5z {d:Int} {pl:Bool}:∀ {l:List Pr} {q:Int},(∀ x ∈ l,b3b x)→Q8 (l.map stP) d pl q=Q8 l d pl q
 | [],_,_=>rfl
 | x::r,q,h=>by
   have h1:=h x (List.Mem.head _) d pl q
   show(if (F7 (stP x) d pl q).1 then Q8 (r.map stP) d pl (F7 (stP x) d pl q).2 else F7 (stP x) d pl q)=(if (F7 x d pl q).1 then Q8 r d pl (F7 x d pl q).2 else F7 x d pl q)
   rw[h1,b5z fun y hy=>h y (List.Mem.tail _ hy)]
theorem b5y {d:Int} {l:List Pr} {q:Int} (h:∀ x ∈ l,b3b x):a3R (l.map stP) d q=a3R l d q:=by
 cases l with
 | nil=>rfl
 | cons x r=>exact h x (List.Mem.head _) d false q
theorem b5c {d:Int}:∀ {l:List Gu} {q:Int},(∀ g ∈ l,∀ x ∈ g.bl,b3b x)→a1h (l.map stG) d q=a1h l d q
 | [],_,_=>rfl
 | g::r,q,h=>by
   have h1:a1s (stG g) d q=a1s g d q:=by
     rw[a3X,a3X,(b3c g).2.2.2.2.2.2.2]
     exact b5y (h g (List.Mem.head _))
   show(if (a1s (stG g) d q).1 then a1h (r.map stG) d (a1s (stG g) d q).2 else a1s (stG g) d q)=(if (a1s g d q).1 then a1h r d (a1s g d q).2 else a1s g d q)
   rw[h1,b5c fun y hy=>h y (List.Mem.tail _ hy)]
theorem c1a (p:Pr):b3b p:=by
 refine Pr.ind (q:=b3b) (fun p ih d pl q=>?_) p
 obtain⟨h1,h2,h3,h4,h5,h6,h7,h8,h9,h10⟩:=a8L p
 have hs:∀ a b,T8 (stS p.sp) a b=T8 p.sp a b:=fun a b=>by
   rw[a4Z,a4Z,(b4U p.sp).2.2.2.2.1,(b4U p.sp).2.2.2.2.2.2.2,b5y fun x hx=>ih x (.s hx)]
 have hl:∀ a b c,Q8 (p.ll.map stP) a b c=Q8 p.ll a b c:=fun a b c=>b5z fun x hx=>ih x (.l hx)
 have hg:∀ a b,a1h (p.gl.map stG) a b=a1h p.gl a b:=fun a b=>b5c fun g hg x hx=>ih x (.g hg hx)
 rw[a3G (stP p),a3G p,c1x,h1,h7,h8,h10,hs,hl,hl,hg,hg]
theorem c0N (p:Pr):mayP (stP p)=mayP p:=by unfold mayP;rw[c1a]
theorem b0a {α β:Type} (sep:B) (f:β→List Tok) (g:α→β) (e:α→List Tok) (h:∀ x,f (g x)=e x):∀ l:List α,D5 sep f (l.map g)=D5 sep e l
 | []=>rfl
 | [x]=>h x
 | x::y::r=>by
   show f (g x)++⟨5,0,sep,0⟩::D5 sep f ((y::r).map g)=e x++⟨5,0,sep,0⟩::D5 sep e (y::r)
   rw[h,b0a sep f g e h (y::r)]
theorem a2l (sep:B) (l:List Ex):D5 sep F4 (l.map C3)=D5 sep F4 l:=b0a sep F4 C3 F4 W8 l
theorem c3W (r:Rp):a2i (stR r)=a2i r:=by
 unfold a2i stR
 show(if r.name=[] then [] else ((([P8 r.name]++[A4 [61]])++F4 (C3 r.base))++[A4 [70,79,82]])++F4 (C3 r.count))=_
 rw[W8,W8]
theorem c0O (e:Ex):a0u (C3 e)=a0u e:=by
 unfold a0u
 rw[a3M,W8]
abbrev a8s (p:Pr):Prop:=∀ d,K2 (stP p) d=K2 p d
theorem b0d {k d:Int}:∀ {l:List Pr} {ns:List Int},(∀ x ∈ l,a8s x)→G2 k ns (l.map stP) d=G2 k ns l d
 | [],ns,_=>by cases ns <;> rfl
 | x::r,ns,h=>by
   have h1:=h x (List.Mem.head _)
   show(if k=11 then _::K2 (stP x) (d+2) else K2 (stP x) (d+1))++G2 k ns.tail (r.map stP) d=_
   rw[h1,h1,b0d fun y hy=>h y (List.Mem.tail _ hy)]
   rfl
theorem a6M {d:Int} {l:List Pr} (h:∀ x ∈ l,a8s x):a1R (l.map stP) d=a1R l d:=by
 cases l with
 | nil=>rfl
 | cons x r=>exact h x (List.Mem.head _) d
theorem b1W (g:Gu) (d:Int):a02 g d=(d,I6 g.k g.name g.cond g.ch g.tg.l g.vl.l g.time)::a1R g.bl (d+1):=by cases g;rfl
theorem b6t {d:Int} {g:Gu} (h:∀ x ∈ g.bl,a8s x):a02 (stG g) d=a02 g d:=by
 obtain⟨h1,h2,h3,h4,h5,h6,h7,h8⟩:=b3c g
 rw[b1W,b1W,h1,h2,h3,h4,h5,h6,h7,h8,a6M h]
 unfold I6
 rw[W8,W8,W8,c0O,a2l,a2l]
theorem a8o {d:Int}:∀ {l:List Gu},(∀ g ∈ l,∀ x ∈ g.bl,a8s x)→L5 (l.map stG) d=L5 l d
 | [],_=>rfl
 | g::r,h=>by
   show a02 (stG g) d++L5 (r.map stG) d=a02 g d++L5 r d
   rw[b6t (h g (List.Mem.head _)),a8o fun y hy=>h y (List.Mem.tail _ hy)]
theorem b1M (s:Sp) (d:Int):L8 s d=if s.k=1 then [(d,(M9 s.ty++K8 s.names.l)++[A4 [58]])]
   else if s.k=2 then [(d,(((([A4 [86,65,76]]++M9 s.ty)++K8 s.names.l)++[A4 [73,83]])++F4 s.e)++[A4 [58]])]
   else if s.k=3 then [(d,(((M9 s.ty++K8 s.names.l)++[A4 [73,83]])++F4 s.e)++[A4 [58]])]
   else if s.k=5 then (d,((([A4 [80,82,79,67]]++K8 s.names.l)++[A4 [40]])++D5 [44] R7 s.fs.l)++[A4 [41]])::(a1R s.bl (d+1)++[(d,[A4 [58]])])
   else if s.cs=false then [(d,((([A4 [80,82,79,84,79,67,79,76]]++K8 s.names.l)++[A4 [73,83]])++D5 [59] a1c (Go.Ty.hdV s.vs.l).items)++[A4 [58]])]
   else (d,[A4 [80,82,79,84,79,67,79,76]]++K8 s.names.l)::(d+1,[A4 [67,65,83,69]])::(s.vs.l.map (fun v=>((d+2,L2 v):Ln))++[(d,[A4 [58]])]):=by cases s;rfl
theorem b78 {d:Int} {s:Sp} (h:∀ x ∈ s.bl,a8s x):L8 (stS s) d=L8 s d:=by
 obtain⟨h1,h2,h3,h4,h5,h6,h7,h8⟩:=b4U s
 have hv:(Go.Ty.hdV (s.vs.l.map X7)).items=(Go.Ty.hdV s.vs.l).items:=by cases s.vs.l <;> rfl
 rw[b1M,b1M,h1,h2,h3,h4,h5,h6,h7,h8,a6M h,W8,hv,List.map_map]
 rfl
theorem b2m (p:Pr) (d:Int):K2 p d=if p.k=18 then L8 p.sp d++a1R p.ll d else (d,B3 p.k p.name p.ch p.tg.l p.ex.l p.rep)::(G2 p.k p.pn.l p.ll d++L5 p.gl (d+1)):=by cases p;rfl
theorem c0c (p:Pr):a8s p:=by
 refine Pr.ind (q:=a8s) (fun p ih d=>?_) p
 obtain⟨h1,h2,h3,h4,h5,h6,h7,h8,h9,h10⟩:=a8L p
 have hf:B3 p.k p.name (C3 p.ch) (p.tg.l.map C3) (p.ex.l.map C3) (stR p.rep)=B3 p.k p.name p.ch p.tg.l p.ex.l p.rep:=by
   unfold B3
   rw[W8,a2l,a2l,a2l,a2l,a2l,c3W]
 rw[b2m,b2m,h1,h2,h3,h4,h5,h6,h7,h8,h9,h10,hf,b78 fun x hx=>ih x (.s hx),a6M fun x hx=>ih x (.l hx),b0d fun x hx=>ih x (.l hx),a8o fun g hg x hx=>ih x (.g hg hx)]
theorem c0C (p:Pr):a0N (stP p)=a0N p:=by
 unfold a0N
 rw[c0N,c0c]
def N4 (s:B):List B:=Lib.splitK [47] 0 (Lib.count s [47]) s
def a5U (i:Nat) (x:B):Go.Ly.Rw:=⟨(i:Int)+1,(x.length:Int) - ((Lib.trimLeftB x 46).length:Int),Lib.trimLeftB x 46⟩
def a6h:Nat→List B→List Go.Ly.Rw
 | _,[]=>[]
 | i,x::l=>a5U i x::a6h (i+1) l
theorem a7Z:∀ {i j:Nat} {l:List B} {x:B},l[j]?=some x→a6h i (l.take (j+1))=a6h i (l.take j)++[a5U (i+j) x]
 | _,_,[],_,h=>by cases h
 | i,0,y::l,x,h=>by cases h;rfl
 | i,j+1,y::l,x,h=>by
   have ih:=a7Z (i:=i+1) (j:=j) (l:=l) (x:=x) (by simpa using h)
   show a5U i y::a6h (i+1) (l.take (j+1))=a5U i y::(a6h (i+1) (l.take j)++[a5U (i+(j+1)) x])
   rw[ih,show i+1+j=i+(j+1) by omega]
def a03 (s:B):List Go.Ly.Rw:=a6h 0 (N4 s)
def a3B (s:B) (k:Int):Bool:=(((((U7 (a03 s)).1.k==k)&&(((U7 (a03 s)).2.1:Int)==0))&&((U7 (a03 s)).2.2==0))&&((a0N (U7 (a03 s)).1).2==0))&&eqL Go.Ly.eqR (a0N (U7 (a03 s)).1).1 (a03 s)
end Go.Sx
end
section
namespace Go.Pc
open Go.Eng Go.Xp Go
open Go.Ty (Ty Vr)
def a43 (r s:Rp):Bool:=((r.name==s.name)&&D6 r.base s.base)&&D6 r.count s.count
def a1Z (c:Bool) (l:List Vr) (d:Bool) (s:List Vr):Bool:=(c==d)&&eqL P3 l s
mutual
def H2:Pr→Pr→Bool
 | .mk k nm ch tg ex rp _ _ gl _ _ ll pn sp=>fun q=>eqL (fun a b:Int=>a==b) pn.l q.pn.l&&((((((((((k==q.k)&&(nm==q.name))&&a43 rp q.rep)&&D6 ch q.ch)&&eqL D6 tg.l q.tg.l)&&eqL D6 ex.l q.ex.l)&&b0I gl q.gl)&&a1f ll q.ll)&&X9 sp q.sp))
def a1f:List Pr→List Pr→Bool
 | []=>fun s=>match s with
   | []=>true
   | _::_=>false
 | x::r=>fun s=>match s with
   | []=>false
   | y::t=>H2 x y&&a1f r t
def R3:Gu→Gu→Bool
 | .mk k nm c ch tg vl tm _ _ bl=>fun g=>(((((((k==g.k)&&(nm==g.name))&&D6 c g.cond)&&D6 ch g.ch)&&D6 tm g.time)&&eqL D6 tg.l g.tg.l)&&eqL D6 vl.l g.vl.l)&&a1f bl g.bl
def b0I:List Gu→List Gu→Bool
 | []=>fun s=>match s with
   | []=>true
   | _::_=>false
 | x::r=>fun s=>match s with
   | []=>false
   | y::t=>R3 x y&&b0I r t
def X9:Sp→Sp→Bool
 | .mk k ty nms e cs vs fs _ _ bl=>fun s=>((((k==s.k)&&Go.Ty.eqT ty s.ty)&&eqL a0g fs.l s.fs.l))&&(((eqL (fun a b:B=>a==b) nms.l s.names.l&&D6 e s.e)&&a1Z cs vs.l s.cs s.vs.l)&&a1f bl s.bl)
end
theorem a2e:∀ l s:List Pr,a1f l s=eqL H2 l s
 | [],[]=>rfl
 | x::r,y::s=>by show(H2 x y&&a1f r s)=(H2 x y&&eqL H2 r s);rw[a2e r s]
 | [],_::_=>rfl
 | _::_,[]=>rfl
theorem a6X:∀ l s:List Gu,b0I l s=eqL R3 l s
 | [],[]=>rfl
 | x::r,y::s=>by show(R3 x y&&b0I r s)=(R3 x y&&eqL R3 r s);rw[a6X r s]
 | [],_::_=>rfl
 | _::_,[]=>rfl
theorem b2o (p q:Pr):H2 p q=(eqL (fun a b:Int=>a==b) p.pn.l q.pn.l&&((((((((((p.k==q.k)&&(p.name==q.name))&&a43 p.rep q.rep)&&D6 p.ch q.ch)&&eqL D6 p.tg.l q.tg.l)&&eqL D6 p.ex.l q.ex.l)&&eqL R3 p.gl q.gl)&&eqL H2 p.ll q.ll)&&X9 p.sp q.sp))):=by
 rw[← a6X,← a2e]
 cases p
 rfl
theorem b3t (p g:Gu):R3 p g=((((((((p.k==g.k)&&(p.name==g.name))&&D6 p.cond g.cond)&&D6 p.ch g.ch)&&D6 p.time g.time)&&eqL D6 p.tg.l g.tg.l)&&eqL D6 p.vl.l g.vl.l)&&eqL H2 p.bl g.bl):=by
 rw[← a2e]
 cases p
 rfl
theorem a8Q (p s:Sp):X9 p s=(((((p.k==s.k)&&Go.Ty.eqT p.ty s.ty)&&eqL a0g p.fs.l s.fs.l))&&(((eqL (fun a b:B=>a==b) p.names.l s.names.l&&D6 p.e s.e)&&a1Z p.cs p.vs.l s.cs s.vs.l)&&eqL H2 p.bl s.bl)):=by
 rw[← a2e]
 cases p
 rfl
theorem b7z {x y:Sp} (h:(((x.k != y.k)||!(Go.Ty.eqT x.ty y.ty))||((x.fs.l.length:Int) != (y.fs.l.length:Int)))=true):X9 x y=false:=by
 rw[a8Q]
 simp only[Bool.or_eq_true,bne_iff_ne,Bool.not_eq_true'] at h
 rcases h with (h | h) | h
 · have:(x.k==y.k)=false:=by simpa using h
   simp[this]
 · simp[h]
 · rw[R8 a0g x.fs.l y.fs.l (by omega)]
   simp
theorem b4s {x y:Sp} (h:(((x.k != y.k)||!(Go.Ty.eqT x.ty y.ty))||((x.fs.l.length:Int) != (y.fs.l.length:Int)))=false) :
   x.fs.l.length=y.fs.l.length∧X9 x y=(eqL a0g x.fs.l y.fs.l&&(((eqL (fun a b:B=>a==b) x.names.l y.names.l&&D6 x.e y.e)&&a1Z x.cs x.vs.l y.cs y.vs.l)&&eqL H2 x.bl y.bl)):=by
 rw[a8Q]
 simp only[Bool.or_eq_false_iff,bne_eq_false_iff_eq,Bool.not_eq_false'] at h
 obtain⟨⟨h1,h2⟩,h3⟩:=h
 refine⟨by omega,?_⟩
 have h4:(x.k==y.k)=true:=by simpa using h1
 rw[h4,h2,Bool.true_and,Bool.true_and]
end Go.Pc
end
section
namespace Go.Eng
open Go Go.RowKit
section
variable {P:Program} {m m':View} {h h':List Res} {w w':World}
def Vw (m':View) (h':List Res) (m:View) (h:List Res):Prop:=∀ (a:Option Addr) (n cap sz:Nat) (xs:List Value),Rd m' h' a n cap sz xs→Rd m h a n cap sz xs
theorem b9S {m:View} {g:Nat} {cur:Array Value} {e:TypeId} {fz:Nat × Nat} {n cap sz:Nat} {xs:List Value} (hl:xs.length=n * sz) (h1:n≤cap) (h2:cap≤9223372036854775807) (ht:cur.toList.take (n * sz)=xs):Rd (m.add g (.cells cur e fz)) [] (some ⟨g,0,none⟩) n cap sz xs:=
 ⟨hl,h1,h2,fun w s j u hj=>by
   refine⟨g,0,rfl,?_⟩
   have hb:=s.blk g _ (View.add_blk m g (.cells cur e fz))
   rw[← ht,List.getElem?_take] at hj
   split at hj
   · simp[World.cell?,hb];simpa using hj
   · simp at hj⟩
theorem b8H {m:View} {g:Nat} {o:Obj} {h2:List Res}:Vw (m.add g o) h2 m (.pt g o::h2):=fun a n cap sz xs r=>
 ⟨r.len,r.le,r.mx,fun w s=>r.at_ w ⟨s.os,s.out,s.tape,fun b o' hb=>by
   unfold View.add at hb
   simp only at hb
   split at hb
   · rename_i e
     cases hb
     rw[e]
     exact s.ok _ (List.Mem.head _)
   · exact s.blk b o' hb,fun r hr=>s.ok r (List.Mem.tail _ hr),(List.pairwise_cons.1 s.nd).2,fun x hx b hb=>by
   unfold View.add
   simp only
   split
   · rename_i e
     exact((List.pairwise_cons.1 s.nd).1 x hx b (by rw[e];rfl) hb).elim
   · exact s.fr x (List.Mem.tail _ hx) b hb⟩⟩
theorem CT.lendRow {f:FuncId} {args:List Value} {a:Option Addr} {n cap sz:Nat} {e:TypeId} {xs:List Value} {R:View→Value→List Res→Prop} (he:∀ as w,(callFunc f as).run P w=.ok (.enter f as) w)
   (c:∀ m',m.le m'→Rd m' [] a n cap sz xs→CT P f args h m' (fun v _ h'=>R m' v h')) :
   CT P f args (.row (.slice a n cap) e sz n xs::h) m (fun v _ h'=>∃ m' hx h2,R m' v h2∧h'=hx++h2∧Vw m' h2 m (hx++h2)∧Rd m hx a n cap sz xs):=
 ⟨he,fun w s=>by
   have hrow:w.ownsRow 0 e sz (.slice a n cap) n xs:=s.ok _ (List.Mem.head _)
   obtain⟨k1,k2,k3⟩:=a81 hrow
   obtain⟨hl,hn | ⟨g,cp,cur,hv,_,hh,hnc,hcm,hsz,ht⟩⟩:=hrow
   · obtain⟨_,rfl⟩:=hn
     have hx0:xs=[]:=List.eq_nil_of_length_eq_zero (by simpa using k3)
     subst hx0
     have s2:St m h w:=⟨s.os,s.out,s.tape,s.blk,fun r hr=>s.ok r (List.Mem.tail _ hr),(List.pairwise_cons.1 s.nd).2,fun r hr=>s.fr r (List.Mem.tail _ hr)⟩
     have r0:∀ {q:View},Rd q [] a 0 cap sz []:=⟨k3,k1,k2,fun _ _ j u hj=>by cases hj⟩
     refine Calls.mono ((c m (View.le.refl m) r0).calls w s2) ?_
     rintro e' w' ⟨v,m2,h2,rfl,hle,s3,hR⟩
     exact⟨v,m2,h2,rfl,hle,s3,m,[],h2,hR,rfl,fun _ _ _ _ _ r=>r,r0⟩
   · simp only[Value.slice.injEq] at hv
     obtain⟨rfl,_,rfl⟩:=hv
     have hfp:(Res.row (.slice (some ⟨g,0,none⟩) n cap) e sz n xs).fp=some g:=rfl
     have hmg:m.blk g=none:=s.fr _ (List.Mem.head _) g hfp
     have s2:St (m.add g (.cells cur e (0,0))) h w:=⟨s.os,s.out,s.tape,fun b o' hb=>by
       unfold View.add at hb
       simp only at hb
       split at hb
       · rename_i e
         cases hb
         rw[e]
         exact hh
       · exact s.blk b o' hb,fun r hr=>s.ok r (List.Mem.tail _ hr),(List.pairwise_cons.1 s.nd).2,fun r hr b hb=>by
       unfold View.add
       simp only
       split
       · rename_i e
         exact((List.pairwise_cons.1 s.nd).1 r hr b (e ▸ hfp) hb).elim
       · exact s.fr r (List.Mem.tail _ hr) b hb⟩
     refine Calls.mono ((c _ (View.le_add hmg) (b9S k3 k1 k2 ht)).calls w s2) ?_
     rintro e' w' ⟨v,m2,h2,rfl,hle,s3,hR⟩
     have hml:=(View.le_add (o:=.cells cur e (0,0)) hmg).trans hle
     have hg2:m2.blk g=some (.cells cur e (0,0)):=hle.blk _ _ (View.add_blk m g _)
     refine⟨v,m,.pt g (.cells cur e (0,0))::h2,rfl,View.le.refl m,⟨s3.os.trans hml.os,s3.out.trans hml.out,s3.tape.trans hml.tape,fun b o hb=>s3.blk b o (hml.blk b o hb),fun r hr=>?_,?_,fun r hr b hb=>?_⟩,_,[.pt g (.cells cur e (0,0))],h2,hR,rfl,b8H,?_⟩
     · rcases List.mem_cons.1 hr with rfl | hr
       · exact s3.blk g _ hg2
       · exact s3.ok r hr
     · refine List.pairwise_cons.2 ⟨fun r hr b h1 h3=>?_,s3.nd⟩
       cases h1
       have:=s3.fr r hr _ h3
       rw[hg2] at this
       cases this
     · rcases List.mem_cons.1 hr with rfl | hr
       · cases hb
         exact hmg
       · have h1:=s3.fr r hr b hb
         cases hm:m.blk b with
         | none=>rfl
         | some o=>
           rw[hml.blk b o hm] at h1
           cases h1
     · exact b8H _ _ _ _ _ (b9S k3 k1 k2 ht)⟩
end
end Go.Eng
end
section
namespace Go.Pc
open Go.Eng Go.Xp Go
open Go.Ty (Ty Vr)
set_option linter.unusedSimpArgs false
theorem I8 {α:Type} (l:List α) (q:α→Bool):D4 l 0 0 q=l.isEmpty:=by
 unfold D4 a2q
 cases l with
 | nil=>rfl
 | cons x r=>
   have:¬ (((x::r).length:Int)≤0):=by simp only[List.length_cons];omega
   simp only[this,decide_false,Bool.and_false,Bool.false_and,List.isEmpty_cons]
theorem a3b {α:Type} (l:List α) (q:α→Bool):D4 l 0 8 q=(decide ((l.length:Int)≤8)&&l.all q):=by
 have h1:(l.length:Int) ≥ 0:=by omega
 have h2:(!(l.any fun x=>!q x))=l.all q:=by
   induction l with
   | nil=>rfl
   | cons x r ih=>
     have:=ih (by omega)
     simp only[List.any_cons,List.all_cons,← this]
     cases q x <;> simp
 unfold D4 a2q
 rw[h2]
 simp[h1]
theorem U1 (n:Nat):a2q 1 1 (n:Int)=((n:Int)==1):=by
 unfold a2q
 rw[Bool.eq_iff_iff]
 simp
 omega
theorem V8 (n:Nat):a2q 2 2 (n:Int)=((n:Int)==2):=by
 unfold a2q
 rw[Bool.eq_iff_iff]
 simp
 omega
theorem Q5 {α:Type} (l:List α):a2q 0 0 (l.length:Int)=l.isEmpty:=by
 cases l with
 | nil=>rfl
 | cons x r=>
   unfold a2q
   have:¬ (((x::r).length:Int)≤0):=by simp only[List.length_cons];omega
   simp only[this,decide_false,Bool.and_false,List.isEmpty_cons]
theorem V1 {α:Type} (q:α→α→Bool) (l:List α):eqL q l []=l.isEmpty:=by cases l <;> rfl
theorem V5 {α:Type} {q:α→α→Bool} (hq:∀ x,q x x=true):∀ l:List α,eqL q l l=true
 | []=>rfl
 | x::r=>by show(q x x&&eqL q r r)=true;rw[hq,V5 hq r];rfl
theorem G6 {α:Type} (l:List α):((l.length:Int)==0)=l.isEmpty:=by
 cases l with
 | nil=>rfl
 | cons x r=>
   rw[List.isEmpty_cons,beq_eq_false_iff_ne]
   simp only[List.length_cons]
   omega
theorem a3a (t:Ty):Go.Ty.eqT t t=true:=(Go.Ty.eqT_iff t t).2 rfl
theorem a3l (f:Fo):a0g f f=true:=by unfold a0g;simp[a3a]
theorem a1e (v:Vr):P3 v v=true:=by unfold P3;simp
theorem F9:G4 A2=true:=by decide
def a5o:Gu:=.mk 0 [] A2 A2 A9 A9 A2 none 0 []
def a3v:Rp:=⟨[],A2,A2⟩
def P2:Pr:=.mk 0 [] A2 A9 A9 a3v none 0 [] none 0 [] A9 C2
theorem a0G {nm:B} {c ch tm:Ex} {tg vl:Sli Ex}:R3 (.mk 0 nm c ch tg vl tm none 0 []) a5o=((((((nm==[])&&G4 c)&&G4 ch)&&G4 tm)&&tg.l.isEmpty)&&vl.l.isEmpty):=by
 rw[b3t]
 show(((((((((0:Int)==0)&&(nm==[]))&&D6 c A2)&&D6 ch A2)&&D6 tm A2)&&eqL D6 tg.l [])&&eqL D6 vl.l [])&&eqL H2 [] [])=_
 rw[V1,V1,show((0:Int)==0)=true from rfl,Bool.true_and,show eqL H2 [] []=true from rfl,Bool.and_true]
 rfl
theorem a0C (s:Sp):X9 s C2=H9 s C2:=by
 rw[a8Q]
 unfold H9
 show(((((s.k==0)&&Go.Ty.eqT s.ty Go.Ty.zeroT)&&eqL a0g s.fs.l []))&&(((eqL (fun a b:B=>a==b) s.names.l []&&D6 s.e A2)&&((s.cs==false)&&eqL P3 s.vs.l []))&&eqL H2 s.bl []))=((((((((s.k==0)&&Go.Ty.eqT s.ty Go.Ty.zeroT)&&(s.names.l==[]))&&D6 s.e A2)&&(s.cs==false))&&eqL P3 s.vs.l [])&&eqL a0g s.fs.l [])&&((s.bl.length:Int)==0))
 rw[V1,V1,V1,V1,G6,show(s.names.l==[])=s.names.l.isEmpty by cases s.names.l <;> rfl]
 generalize (s.k==0)=a
 generalize Go.Ty.eqT s.ty Go.Ty.zeroT=b
 generalize s.fs.l.isEmpty=c
 generalize s.names.l.isEmpty=d
 generalize D6 s.e A2=e
 generalize (s.cs==false)=f
 generalize s.vs.l.isEmpty=g
 generalize s.bl.isEmpty=i
 revert a b c d e f g i
 decide
theorem M1 {nm:B} {ch:Ex} {tg ex:Sli Ex} {pn:Sli Int} {sp:Sp}:H2 (.mk 0 nm ch tg ex a3v none 0 [] none 0 [] pn sp) P2=(((((pn.l.isEmpty&&(nm==[]))&&G4 ch)&&tg.l.isEmpty)&&ex.l.isEmpty)&&H9 sp C2):=by
 rw[b2o,← a0C]
 show(eqL (fun a b:Int=>a==b) pn.l []&&(((((((((((0:Int)==0)&&(nm==[]))&&a43 a3v a3v)&&D6 ch A2)&&eqL D6 tg.l [])&&eqL D6 ex.l [])&&eqL R3 [] [])&&eqL H2 [] [])&&X9 sp C2)))=_
 rw[V1,V1,V1,show((0:Int)==0)=true from rfl,show a43 a3v a3v=true by decide,show eqL H2 [] []=true from rfl,show eqL R3 [] []=true from rfl]
 show _=(((((pn.l.isEmpty&&(nm==[]))&&D6 ch A2)&&tg.l.isEmpty)&&ex.l.isEmpty)&&X9 sp C2)
 generalize pn.l.isEmpty=a
 generalize (nm==[])=b
 generalize D6 ch A2=c
 generalize tg.l.isEmpty=d
 generalize ex.l.isEmpty=e
 generalize X9 sp C2=f
 revert a b c d e f
 decide
theorem V3 {α:Type}:(A9:Sli α).l.isEmpty=true:=rfl
theorem a0v:(([]:B)==[])=true:=rfl
theorem c6y {g:Gu} (h:g.k=1∨g.k=2):guP g=((E9 g.cond&&((g.bl.length:Int)==1))&&R3 (.mk 0 g.name A2 g.ch g.tg g.vl g.time none 0 []) a5o):=by
 rw[a0G]
 try rw[F9]
 unfold guP a3s
 rcases h with h | h
 · rw[h]
   simp only[Int.reduceEq,Int.reduceBEq,Int.reduceBNe,Int.reduceLE,if_true,if_false,reduceIte,decide_true,decide_false,I8,M7,Bool.or_true,Bool.or_false,Bool.true_or,Bool.false_or,Bool.and_true,Bool.and_false,Bool.true_and,Bool.false_and,Bool.false_eq_true,V3,a0v,F9]
   generalize E9 g.cond=x0
   generalize G4 g.ch=x1
   generalize G4 g.time=x2
   generalize g.tg.l.isEmpty=x3
   generalize g.vl.l.isEmpty=x4
   generalize (g.name==[])=x5
   generalize ((g.bl.length:Int)==1)=x6
   revert x0 x1 x2 x3 x4 x5 x6
   decide
 · rw[h]
   simp only[Int.reduceEq,Int.reduceBEq,Int.reduceBNe,Int.reduceLE,if_true,if_false,reduceIte,decide_true,decide_false,I8,M7,Bool.or_true,Bool.or_false,Bool.true_or,Bool.false_or,Bool.and_true,Bool.and_false,Bool.true_and,Bool.false_and,Bool.false_eq_true,V3,a0v,F9]
   generalize E9 g.cond=x0
   generalize G4 g.ch=x1
   generalize G4 g.time=x2
   generalize g.tg.l.isEmpty=x3
   generalize g.vl.l.isEmpty=x4
   generalize (g.name==[])=x5
   generalize ((g.bl.length:Int)==1)=x6
   revert x0 x1 x2 x3 x4 x5 x6
   decide
theorem c7m {g:Gu} (h:g.k=3):guP g=(((((G4 g.cond||E9 g.cond)&&E7 g.ch)&&D4 g.tg.l 1 8 E7)&&((g.bl.length:Int)==1))&&R3 (.mk 0 g.name A2 A2 A9 g.vl g.time none 0 []) a5o):=by
 rw[a0G]
 try rw[F9]
 unfold guP a3s
 rw[h]
 simp only[Int.reduceEq,Int.reduceBEq,Int.reduceBNe,Int.reduceLE,if_true,if_false,reduceIte,decide_true,decide_false,I8,M7,Bool.or_true,Bool.or_false,Bool.true_or,Bool.false_or,Bool.and_true,Bool.and_false,Bool.true_and,Bool.false_and,Bool.false_eq_true,V3,a0v,F9]
 generalize D4 g.tg.l 1 8 E7=x0
 generalize E9 g.cond=x1
 generalize G4 g.cond=x2
 generalize E7 g.ch=x3
 generalize G4 g.time=x4
 generalize g.vl.l.isEmpty=x5
 generalize (g.name==[])=x6
 generalize ((g.bl.length:Int)==1)=x7
 revert x0 x1 x2 x3 x4 x5 x6 x7
 decide
theorem c7k {g:Gu} (h:g.k=4):guP g=(((((G4 g.cond||E9 g.cond)&&E7 g.ch)&&E9 g.time)&&((g.bl.length:Int)==1))&&R3 (.mk 0 g.name A2 A2 g.tg g.vl A2 none 0 []) a5o):=by
 rw[a0G]
 try rw[F9]
 unfold guP a3s
 rw[h]
 simp only[Int.reduceEq,Int.reduceBEq,Int.reduceBNe,Int.reduceLE,if_true,if_false,reduceIte,decide_true,decide_false,I8,M7,Bool.or_true,Bool.or_false,Bool.true_or,Bool.false_or,Bool.and_true,Bool.and_false,Bool.true_and,Bool.false_and,Bool.false_eq_true,V3,a0v,F9]
 generalize E9 g.cond=x0
 generalize G4 g.cond=x1
 generalize E7 g.ch=x2
 generalize E9 g.time=x3
 generalize g.tg.l.isEmpty=x4
 generalize g.vl.l.isEmpty=x5
 generalize (g.name==[])=x6
 generalize ((g.bl.length:Int)==1)=x7
 revert x0 x1 x2 x3 x4 x5 x6 x7
 decide
theorem c7b {g:Gu} (h:g.k=5):guP g=((D4 g.vl.l 1 8 E9&&((g.bl.length:Int)==1))&&R3 (.mk 0 g.name g.cond g.ch g.tg A9 g.time none 0 []) a5o):=by
 rw[a0G]
 try rw[F9]
 unfold guP a3s
 rw[h]
 simp only[Int.reduceEq,Int.reduceBEq,Int.reduceBNe,Int.reduceLE,if_true,if_false,reduceIte,decide_true,decide_false,I8,M7,Bool.or_true,Bool.or_false,Bool.true_or,Bool.false_or,Bool.and_true,Bool.and_false,Bool.true_and,Bool.false_and,Bool.false_eq_true,V3,a0v,F9]
 generalize D4 g.vl.l 1 8 E9=x0
 generalize G4 g.cond=x1
 generalize G4 g.ch=x2
 generalize G4 g.time=x3
 generalize g.tg.l.isEmpty=x4
 generalize (g.name==[])=x5
 generalize ((g.bl.length:Int)==1)=x6
 revert x0 x1 x2 x3 x4 x5 x6
 decide
theorem c6T {g:Gu} (h:g.k=6):guP g=((true&&((g.bl.length:Int)==1))&&R3 (.mk 0 g.name g.cond g.ch g.tg g.vl g.time none 0 []) a5o):=by
 rw[a0G]
 try rw[F9]
 unfold guP a3s
 rw[h]
 simp only[Int.reduceEq,Int.reduceBEq,Int.reduceBNe,Int.reduceLE,if_true,if_false,reduceIte,decide_true,decide_false,I8,M7,Bool.or_true,Bool.or_false,Bool.true_or,Bool.false_or,Bool.and_true,Bool.and_false,Bool.true_and,Bool.false_and,Bool.false_eq_true,V3,a0v,F9]
 generalize G4 g.cond=x0
 generalize G4 g.ch=x1
 generalize G4 g.time=x2
 generalize g.tg.l.isEmpty=x3
 generalize g.vl.l.isEmpty=x4
 generalize (g.name==[])=x5
 generalize ((g.bl.length:Int)==1)=x6
 revert x0 x1 x2 x3 x4 x5 x6
 decide
theorem c7j {g:Gu} (h:g.k=7):guP g=(((Go.Lx.name g.name&&D4 g.tg.l 0 8 E7)&&((g.bl.length:Int)==1))&&R3 (.mk 0 [] g.cond g.ch A9 g.vl g.time none 0 []) a5o):=by
 rw[a0G]
 try rw[F9]
 unfold guP a3s
 rw[h]
 simp only[Int.reduceEq,Int.reduceBEq,Int.reduceBNe,Int.reduceLE,if_true,if_false,reduceIte,decide_true,decide_false,I8,M7,Bool.or_true,Bool.or_false,Bool.true_or,Bool.false_or,Bool.and_true,Bool.and_false,Bool.true_and,Bool.false_and,Bool.false_eq_true,V3,a0v,F9]
 generalize D4 g.tg.l 0 8 E7=x0
 generalize Go.Lx.name g.name=x1
 generalize G4 g.cond=x2
 generalize G4 g.ch=x3
 generalize G4 g.time=x4
 generalize g.vl.l.isEmpty=x5
 generalize ((g.bl.length:Int)==1)=x6
 revert x0 x1 x2 x3 x4 x5 x6
 decide
theorem c5o {g:Gu} (h0:0≤g.k) (h:¬ (g.k=1∨g.k=2)) (h3:g.k≠3) (h4:g.k≠4) (h5:g.k≠5) (h6:g.k≠6) (h7:g.k≠7) (b:Bool):guP g=((false&&((g.bl.length:Int)==1))&&b):=by
 rw[Bool.false_and,Bool.false_and]
 unfold guP
 by_cases hz:g.k=0
 · rw[hz];rfl
 · have:¬ g.k≤7:=by omega
   simp[this]
theorem b2Q {k:Int} {ty:Ty} {names:Sli B} {e:Ex} {cs:Bool} {vs:Sli Vr} {fs:Sli Fo} {ba:Option Addr} {bc:Nat} {bl:List Pr}:(Sp.mk k ty names e cs vs fs ba bc bl).k=k:=rfl
theorem a8V {k:Int} {ty:Ty} {names:Sli B} {e:Ex} {cs:Bool} {vs:Sli Vr} {fs:Sli Fo} {ba:Option Addr} {bc:Nat} {bl:List Pr}:(Sp.mk k ty names e cs vs fs ba bc bl).ty=ty:=rfl
theorem a2Y {k:Int} {ty:Ty} {names:Sli B} {e:Ex} {cs:Bool} {vs:Sli Vr} {fs:Sli Fo} {ba:Option Addr} {bc:Nat} {bl:List Pr}:(Sp.mk k ty names e cs vs fs ba bc bl).names=names:=rfl
theorem b2p {k:Int} {ty:Ty} {names:Sli B} {e:Ex} {cs:Bool} {vs:Sli Vr} {fs:Sli Fo} {ba:Option Addr} {bc:Nat} {bl:List Pr}:(Sp.mk k ty names e cs vs fs ba bc bl).e=e:=rfl
theorem a8i {k:Int} {ty:Ty} {names:Sli B} {e:Ex} {cs:Bool} {vs:Sli Vr} {fs:Sli Fo} {ba:Option Addr} {bc:Nat} {bl:List Pr}:(Sp.mk k ty names e cs vs fs ba bc bl).cs=cs:=rfl
theorem a9l {k:Int} {ty:Ty} {names:Sli B} {e:Ex} {cs:Bool} {vs:Sli Vr} {fs:Sli Fo} {ba:Option Addr} {bc:Nat} {bl:List Pr}:(Sp.mk k ty names e cs vs fs ba bc bl).vs=vs:=rfl
theorem a9k {k:Int} {ty:Ty} {names:Sli B} {e:Ex} {cs:Bool} {vs:Sli Vr} {fs:Sli Fo} {ba:Option Addr} {bc:Nat} {bl:List Pr}:(Sp.mk k ty names e cs vs fs ba bc bl).fs=fs:=rfl
theorem a8e {k:Int} {ty:Ty} {names:Sli B} {e:Ex} {cs:Bool} {vs:Sli Vr} {fs:Sli Fo} {ba:Option Addr} {bc:Nat} {bl:List Pr}:(Sp.mk k ty names e cs vs fs ba bc bl).bl=bl:=rfl
theorem a1d {α:Type}:(A9:Sli α).l=[]:=rfl
theorem a2j (e:Ex):D6 e e=true:=(a2n e e).2 rfl
theorem a6l {α:Type}:((([]:List α).length:Nat):Int)=0:=rfl
theorem a3i:D6 A2 A2=true:=by decide
theorem c7d {s:Sp} (h:s.k=1):spP s=((Go.Ty.may s.ty&&D4 s.names.l 1 8 Go.Lx.name)&&X9 (.mk 0 Go.Ty.zeroT A9 s.e s.cs s.vs s.fs s.ba s.bc s.bl) C2):=by
 rw[a0C]
 unfold spP a0w Y4 H9
 rw[h]
 show _=(_&&(((((((((0:Int)==0)&&Go.Ty.eqT Go.Ty.zeroT Go.Ty.zeroT)&&(([]:List B)==[]))&&D6 s.e A2)&&(s.cs==false))&&eqL P3 s.vs.l [])&&eqL a0g s.fs.l [])&&(((s.bl:List Pr).length:Int)==0)))
 simp only[Int.reduceEq,Int.reduceBEq,Int.reduceLE,and_self,and_true,true_and,if_true,if_false,reduceIte,beq_self_eq_true,Bool.and_true,Bool.true_and,b2Q,a8V,a2Y,b2p,a8i,a9l,a9k,a8e,a3i,a2j,a6l,a3a,V1,G6,V5 a3l,V5 a1e,V3,a1d,List.isEmpty_nil,a3b]
 all_goals
   generalize Go.Ty.may s.ty=x0
   generalize D4 s.names.l 1 8 Go.Lx.name=x1
   generalize D6 s.e A2=x2
   generalize (s.cs==false)=x3
   generalize s.vs.l.isEmpty=x4
   generalize s.fs.l.isEmpty=x5
   generalize s.bl.isEmpty=x6
   revert x0 x1 x2 x3 x4 x5 x6
   decide
theorem c6S {s:Sp} (h:s.k=2):spP s=(((U4 s.ty&&D4 s.names.l 1 1 Go.Lx.name)&&E9 s.e)&&X9 (.mk 0 Go.Ty.zeroT A9 A2 s.cs s.vs s.fs s.ba s.bc s.bl) C2):=by
 rw[a0C]
 unfold spP a0w Y4 H9
 rw[h]
 show _=(_&&(((((((((0:Int)==0)&&Go.Ty.eqT Go.Ty.zeroT Go.Ty.zeroT)&&(([]:List B)==[]))&&D6 A2 A2)&&(s.cs==false))&&eqL P3 s.vs.l [])&&eqL a0g s.fs.l [])&&(((s.bl:List Pr).length:Int)==0)))
 simp only[Int.reduceEq,Int.reduceBEq,Int.reduceLE,and_self,and_true,true_and,if_true,if_false,reduceIte,beq_self_eq_true,Bool.and_true,Bool.true_and,b2Q,a8V,a2Y,b2p,a8i,a9l,a9k,a8e,a3i,a2j,a6l,a3a,V1,G6,V5 a3l,V5 a1e,V3,a1d,List.isEmpty_nil,a3b]
 all_goals
   generalize U4 s.ty=x0
   generalize D4 s.names.l 1 1 Go.Lx.name=x1
   generalize E9 s.e=x2
   generalize (s.cs==false)=x3
   generalize s.vs.l.isEmpty=x4
   generalize s.fs.l.isEmpty=x5
   generalize s.bl.isEmpty=x6
   revert x0 x1 x2 x3 x4 x5 x6
   decide
theorem c7i {s:Sp} (h:s.k=3):spP s=(((U4 s.ty&&D4 s.names.l 1 1 Go.Lx.name)&&E7 s.e)&&X9 (.mk 0 Go.Ty.zeroT A9 A2 s.cs s.vs s.fs s.ba s.bc s.bl) C2):=by
 rw[a0C]
 unfold spP a0w Y4 H9
 rw[h]
 show _=(_&&(((((((((0:Int)==0)&&Go.Ty.eqT Go.Ty.zeroT Go.Ty.zeroT)&&(([]:List B)==[]))&&D6 A2 A2)&&(s.cs==false))&&eqL P3 s.vs.l [])&&eqL a0g s.fs.l [])&&(((s.bl:List Pr).length:Int)==0)))
 simp only[Int.reduceEq,Int.reduceBEq,Int.reduceLE,and_self,and_true,true_and,if_true,if_false,reduceIte,beq_self_eq_true,Bool.and_true,Bool.true_and,b2Q,a8V,a2Y,b2p,a8i,a9l,a9k,a8e,a3i,a2j,a6l,a3a,V1,G6,V5 a3l,V5 a1e,V3,a1d,List.isEmpty_nil,a3b]
 all_goals
   generalize U4 s.ty=x0
   generalize D4 s.names.l 1 1 Go.Lx.name=x1
   generalize E7 s.e=x2
   generalize (s.cs==false)=x3
   generalize s.vs.l.isEmpty=x4
   generalize s.fs.l.isEmpty=x5
   generalize s.bl.isEmpty=x6
   revert x0 x1 x2 x3 x4 x5 x6
   decide
theorem c6V {s:Sp} (h:s.k=4):spP s=((D4 s.names.l 1 1 Go.Lx.name&&Go.Ty.mayPr s.cs s.vs.l)&&X9 (.mk 0 s.ty A9 s.e false A9 s.fs s.ba s.bc s.bl) C2):=by
 rw[a0C]
 unfold spP a0w Y4 H9
 rw[h]
 show _=(_&&(((((((((0:Int)==0)&&Go.Ty.eqT s.ty Go.Ty.zeroT)&&(([]:List B)==[]))&&D6 s.e A2)&&(false==false))&&eqL P3 [] [])&&eqL a0g s.fs.l [])&&(((s.bl:List Pr).length:Int)==0)))
 simp only[Int.reduceEq,Int.reduceBEq,Int.reduceLE,and_self,and_true,true_and,if_true,if_false,reduceIte,beq_self_eq_true,Bool.and_true,Bool.true_and,b2Q,a8V,a2Y,b2p,a8i,a9l,a9k,a8e,a3i,a2j,a6l,a3a,V1,G6,V5 a3l,V5 a1e,V3,a1d,List.isEmpty_nil,a3b]
 all_goals
   generalize D4 s.names.l 1 1 Go.Lx.name=x0
   generalize Go.Ty.mayPr s.cs s.vs.l=x1
   generalize Go.Ty.eqT s.ty Go.Ty.zeroT=x2
   generalize D6 s.e A2=x3
   generalize s.fs.l.isEmpty=x4
   generalize s.bl.isEmpty=x5
   revert x0 x1 x2 x3 x4 x5
   decide
theorem c71 {s:Sp} (h:s.k=5):spP s=((((D4 s.names.l 1 1 Go.Lx.name&&decide ((s.fs.l.length:Int)≤8))&&((s.bl.length:Int)==1))&&s.fs.l.all foP)&&X9 (.mk 0 s.ty A9 s.e s.cs s.vs A9 none 0 []) C2):=by
 rw[a0C]
 unfold spP a0w Y4 H9
 rw[h]
 show _=(_&&(((((((((0:Int)==0)&&Go.Ty.eqT s.ty Go.Ty.zeroT)&&(([]:List B)==[]))&&D6 s.e A2)&&(s.cs==false))&&eqL P3 s.vs.l [])&&eqL a0g [] [])&&((([]:List Pr).length:Int)==0)))
 simp only[Int.reduceEq,Int.reduceBEq,Int.reduceLE,and_self,and_true,true_and,if_true,if_false,reduceIte,beq_self_eq_true,Bool.and_true,Bool.true_and,b2Q,a8V,a2Y,b2p,a8i,a9l,a9k,a8e,a3i,a2j,a6l,a3a,V1,G6,V5 a3l,V5 a1e,V3,a1d,List.isEmpty_nil,a3b]
 all_goals
   generalize D4 s.names.l 1 1 Go.Lx.name=x0
   generalize decide ((s.fs.l.length:Int)≤8)=x1
   generalize ((s.bl.length:Int)==1)=x2
   generalize s.fs.l.all foP=x3
   generalize Go.Ty.eqT s.ty Go.Ty.zeroT=x4
   generalize D6 s.e A2=x5
   generalize (s.cs==false)=x6
   generalize s.vs.l.isEmpty=x7
   revert x0 x1 x2 x3 x4 x5 x6 x7
   decide
theorem c6u {s:Sp} (h1:s.k≠1) (h2:s.k≠2) (h3:s.k≠3) (h4:s.k≠4) (h5:s.k≠5) (b:Bool):spP s=(false&&b):=by
 unfold spP
 rw[if_neg (by omega),Bool.false_and]
def I1 (nm:B) (ch:Ex) (tg ex:Sli Ex) (pn:Sli Int) (sp:Sp):Pr:=.mk 0 nm ch tg ex a3v none 0 [] none 0 [] pn sp
def gQ (a b:Int):Gu→Bool:=inG { us0 with lo:=a,hi:=b }
def a8O (p:Pr):Bool:=if p.k=8∨p.k=9 then ((((true&&((!(!(p.rep.name==[])))||((p.ll.length:Int)==1)))&&((p.gl.length:Int)==0))&&N5 p.rep)&&H2 (I1 p.name p.ch p.tg p.ex p.pn p.sp) P2) else false
def Y6 (p:Pr):Bool:=if p.ll.length≤2048 then K3 p else a8O p
theorem a0B {p:Pr} {pb A:Bool} (hA:pb=false→A=false) (hb:pb=true→p.ll.length≤2048) (hk:¬ (p.k=8∨p.k=9)) (h:K3 p=A):Y6 p=A:=by
 unfold Y6
 by_cases hl:p.ll.length≤2048
 · rw[if_pos hl,h]
 · have hf:pb=false:=by
     cases hp:pb with
     | false=>rfl
     | true=>exact absurd (hb hp) hl
   rw[if_neg hl,hA hf]
   unfold a8O
   rw[if_neg hk]
theorem b0L {p:Pr} {u:Us} (hu:B5 p.k=(u,true)):K3 p=(N5 p.rep&&(if (p.rep.name==[])=true then K7 p u else (u.rep&&K7 p (b0T u)))):=by
 unfold K3
 rw[hu]
 cases hr:N5 p.rep with
 | false=>rfl
 | true=>
   cases hn:(p.rep.name==[]) with
   | true=>
     have:(p.rep.name != [])=false:=by rw[bne,hn];rfl
     simp[this]
   | false=>
     have:(p.rep.name != [])=true:=by rw[bne,hn];rfl
     cases hx:u.rep <;> simp[this,hx]
theorem Z0 {p:Pr} {u:Us} (hu:B5 p.k=(u,true)) (hr:u.rep=false):K3 p=(N5 p.rep&&((p.rep.name==[])&&K7 p u)):=by
 rw[b0L hu,hr]
 cases (p.rep.name==[]) <;> simp
theorem a3F {α:Type} {l:List α} (h:l.isEmpty=true):l.length≤2048:=by cases l with
 | nil=>simp
 | cons _ _=>cases h
theorem b9N {n:Nat} (h:((n:Int)==1)=true):n≤2048:=by
 have:(n:Int)=1:=by simpa using h
 omega
theorem c4T {n:Nat} (h:((n:Int)==2)=true):n≤2048:=by
 have:(n:Int)=2:=by simpa using h
 omega
theorem a1T:H9 C2 C2=true:=by decide
theorem c4L {p:Pr} (h:p.k=1∨p.k=2):Y6 p=(((((!(!(p.rep.name==[])))&&((p.ll.length:Int)==0))&&((p.gl.length:Int)==0))&&N5 p.rep)&&H2 (I1 p.name p.ch p.tg p.ex p.pn p.sp) P2):=by
 have hu:B5 p.k=(us0,true):=by rcases h with h | h <;> rw[h] <;> rfl
 refine a0B (pb:=((p.ll.length:Int)==0)) (fun hp=>by rw[hp];simp only[Bool.and_false,Bool.false_and]) (fun hp=>by rw[G6] at hp;exact a3F hp) (by omega) ?_
 rw[Z0 hu rfl]
 unfold I1
 rw[M1]
 dsimp only [K7,us0]
 simp only[Bool.false_eq_true,if_true,if_false,reduceIte,I8,Q5,U1,V8,M7,G6,Bool.and_true,Bool.true_and,Bool.false_and,Bool.false_or,Bool.or_false,Bool.not_false,Bool.not_true,V3,a0v,F9,a1d,List.isEmpty_nil,a1T]
 generalize N5 p.rep=x0
 generalize (p.rep.name==[])=x1
 generalize p.ll.isEmpty=x2
 generalize p.gl.isEmpty=x3
 generalize (p.name==[])=x4
 generalize G4 p.ch=x5
 generalize p.tg.l.isEmpty=x6
 generalize p.ex.l.isEmpty=x7
 generalize p.pn.l.isEmpty=x8
 generalize H9 p.sp C2=x9
 revert x0 x1 x2 x3 x4 x5 x6 x7 x8 x9
 decide +kernel
theorem c6e {p:Pr} (h:p.k=3):Y6 p=(((((((!(!(p.rep.name==[])))&&D4 p.tg.l 1 8 E7)&&D4 p.ex.l 1 8 E9)&&((p.ll.length:Int)==0))&&((p.gl.length:Int)==0))&&N5 p.rep)&&H2 (I1 p.name p.ch A9 A9 p.pn p.sp) P2):=by
 have hu:B5 p.k=({ us0 with t0:=1,t1:=8,e0:=1,e1:=8 },true):=by rw[h];rfl
 refine a0B (pb:=((p.ll.length:Int)==0)) (fun hp=>by rw[hp];simp only[Bool.and_false,Bool.false_and]) (fun hp=>by rw[G6] at hp;exact a3F hp) (by omega) ?_
 rw[Z0 hu rfl]
 unfold I1
 rw[M1]
 dsimp only [K7,us0]
 simp only[Bool.false_eq_true,if_true,if_false,reduceIte,I8,Q5,U1,V8,M7,G6,Bool.and_true,Bool.true_and,Bool.false_and,Bool.false_or,Bool.or_false,Bool.not_false,Bool.not_true,V3,a0v,F9,a1d,List.isEmpty_nil,a1T]
 generalize N5 p.rep=x0
 generalize (p.rep.name==[])=x1
 generalize p.ll.isEmpty=x2
 generalize p.gl.isEmpty=x3
 generalize (p.name==[])=x4
 generalize G4 p.ch=x5
 generalize D4 p.tg.l 1 8 E7=x6
 generalize p.pn.l.isEmpty=x7
 generalize H9 p.sp C2=x8
 generalize D4 p.ex.l 1 8 E9=x9
 revert x0 x1 x2 x3 x4 x5 x6 x7 x8 x9
 decide +kernel
theorem c6i {p:Pr} (h:p.k=4):Y6 p=(((((((!(!(p.rep.name==[])))&&E7 p.ch)&&D4 p.tg.l 1 8 E7)&&((p.ll.length:Int)==0))&&((p.gl.length:Int)==0))&&N5 p.rep)&&H2 (I1 p.name A2 A9 p.ex p.pn p.sp) P2):=by
 have hu:B5 p.k=({ us0 with chan:=true,t0:=1,t1:=8 },true):=by rw[h];rfl
 refine a0B (pb:=((p.ll.length:Int)==0)) (fun hp=>by rw[hp];simp only[Bool.and_false,Bool.false_and]) (fun hp=>by rw[G6] at hp;exact a3F hp) (by omega) ?_
 rw[Z0 hu rfl]
 unfold I1
 rw[M1]
 dsimp only [K7,us0]
 simp only[Bool.false_eq_true,if_true,if_false,reduceIte,I8,Q5,U1,V8,M7,G6,Bool.and_true,Bool.true_and,Bool.false_and,Bool.false_or,Bool.or_false,Bool.not_false,Bool.not_true,V3,a0v,F9,a1d,List.isEmpty_nil,a1T]
 generalize N5 p.rep=x0
 generalize (p.rep.name==[])=x1
 generalize p.ll.isEmpty=x2
 generalize p.gl.isEmpty=x3
 generalize (p.name==[])=x4
 generalize E7 p.ch=x5
 generalize D4 p.tg.l 1 8 E7=x6
 generalize p.ex.l.isEmpty=x7
 generalize p.pn.l.isEmpty=x8
 generalize H9 p.sp C2=x9
 revert x0 x1 x2 x3 x4 x5 x6 x7 x8 x9
 decide +kernel
theorem c5K {p:Pr} (h:p.k=5):Y6 p=(((((((!(!(p.rep.name==[])))&&E7 p.ch)&&D4 p.ex.l 1 9 E9)&&((p.ll.length:Int)==0))&&((p.gl.length:Int)==0))&&N5 p.rep)&&H2 (I1 p.name A2 p.tg A9 p.pn p.sp) P2):=by
 have hu:B5 p.k=({ us0 with chan:=true,e0:=1,e1:=9 },true):=by rw[h];rfl
 refine a0B (pb:=((p.ll.length:Int)==0)) (fun hp=>by rw[hp];simp only[Bool.and_false,Bool.false_and]) (fun hp=>by rw[G6] at hp;exact a3F hp) (by omega) ?_
 rw[Z0 hu rfl]
 unfold I1
 rw[M1]
 dsimp only [K7,us0]
 simp only[Bool.false_eq_true,if_true,if_false,reduceIte,I8,Q5,U1,V8,M7,G6,Bool.and_true,Bool.true_and,Bool.false_and,Bool.false_or,Bool.or_false,Bool.not_false,Bool.not_true,V3,a0v,F9,a1d,List.isEmpty_nil,a1T]
 generalize N5 p.rep=x0
 generalize (p.rep.name==[])=x1
 generalize p.ll.isEmpty=x2
 generalize p.gl.isEmpty=x3
 generalize (p.name==[])=x4
 generalize E7 p.ch=x5
 generalize p.tg.l.isEmpty=x6
 generalize p.pn.l.isEmpty=x7
 generalize H9 p.sp C2=x8
 generalize D4 p.ex.l 1 9 E9=x9
 revert x0 x1 x2 x3 x4 x5 x6 x7 x8 x9
 decide +kernel
theorem c5t {p:Pr} (h:p.k=6):Y6 p=(((((((!(!(p.rep.name==[])))&&E7 p.ch)&&D4 p.ex.l 1 1 E9)&&((p.ll.length:Int)==0))&&((p.gl.length:Int)==0))&&N5 p.rep)&&H2 (I1 p.name A2 p.tg A9 p.pn p.sp) P2):=by
 have hu:B5 p.k=({ us0 with chan:=true,e0:=1,e1:=1 },true):=by rw[h];rfl
 refine a0B (pb:=((p.ll.length:Int)==0)) (fun hp=>by rw[hp];simp only[Bool.and_false,Bool.false_and]) (fun hp=>by rw[G6] at hp;exact a3F hp) (by omega) ?_
 rw[Z0 hu rfl]
 unfold I1
 rw[M1]
 dsimp only [K7,us0]
 simp only[Bool.false_eq_true,if_true,if_false,reduceIte,I8,Q5,U1,V8,M7,G6,Bool.and_true,Bool.true_and,Bool.false_and,Bool.false_or,Bool.or_false,Bool.not_false,Bool.not_true,V3,a0v,F9,a1d,List.isEmpty_nil,a1T]
 generalize N5 p.rep=x0
 generalize (p.rep.name==[])=x1
 generalize p.ll.isEmpty=x2
 generalize p.gl.isEmpty=x3
 generalize (p.name==[])=x4
 generalize E7 p.ch=x5
 generalize p.tg.l.isEmpty=x6
 generalize p.pn.l.isEmpty=x7
 generalize H9 p.sp C2=x8
 generalize D4 p.ex.l 1 1 E9=x9
 revert x0 x1 x2 x3 x4 x5 x6 x7 x8 x9
 decide +kernel
theorem c6w {p:Pr} (h:p.k=7):Y6 p=((((((!(!(p.rep.name==[])))&&E7 p.ch)&&((p.ll.length:Int)==0))&&D4 p.gl 1 16 (gQ 7 7))&&N5 p.rep)&&H2 (I1 p.name A2 p.tg p.ex p.pn p.sp) P2):=by
 have hu:B5 p.k=({ us0 with chan:=true,g0:=1,g1:=16,lo:=7,hi:=7 },true):=by rw[h];rfl
 refine a0B (pb:=((p.ll.length:Int)==0)) (fun hp=>by rw[hp];simp only[Bool.and_false,Bool.false_and]) (fun hp=>by rw[G6] at hp;exact a3F hp) (by omega) ?_
 rw[Z0 hu rfl]
 unfold I1
 rw[M1]
 dsimp only [K7,us0]
 simp only[Bool.false_eq_true,if_true,if_false,reduceIte,I8,Q5,U1,V8,M7,G6,Bool.and_true,Bool.true_and,Bool.false_and,Bool.false_or,Bool.or_false,Bool.not_false,Bool.not_true,V3,a0v,F9,a1d,List.isEmpty_nil,a1T]
 have e1:D4 p.gl 1 16 (inG { rep:=false,name:=false,chan:=true,spec:=false,procs:=false,t0:=0,t1:=0,e0:=0,e1:=0,p0:=0,p1:=0,g0:=1,g1:=16,lo:=7,hi:=7 })=D4 p.gl 1 16 (gQ 7 7):=rfl
 rw[e1]
 generalize N5 p.rep=x0
 generalize (p.rep.name==[])=x1
 generalize p.ll.isEmpty=x2
 generalize (p.name==[])=x3
 generalize E7 p.ch=x4
 generalize p.tg.l.isEmpty=x5
 generalize p.ex.l.isEmpty=x6
 generalize p.pn.l.isEmpty=x7
 generalize H9 p.sp C2=x8
 generalize D4 p.gl 1 16 (gQ 7 7)=x9
 revert x0 x1 x2 x3 x4 x5 x6 x7 x8 x9
 decide +kernel
theorem c5j {p:Pr} (h:p.k=10):Y6 p=(((((!(!(p.rep.name==[])))&&((p.ll.length:Int)==2))&&((p.gl.length:Int)==0))&&N5 p.rep)&&H2 (I1 p.name p.ch p.tg p.ex p.pn p.sp) P2):=by
 have hu:B5 p.k=({ us0 with p0:=2,p1:=2 },true):=by rw[h];rfl
 refine a0B (pb:=((p.ll.length:Int)==2)) (fun hp=>by rw[hp];simp only[Bool.and_false,Bool.false_and]) (fun hp=>c4T hp) (by omega) ?_
 rw[Z0 hu rfl]
 unfold I1
 rw[M1]
 dsimp only [K7,us0]
 simp only[Bool.false_eq_true,if_true,if_false,reduceIte,I8,Q5,U1,V8,M7,G6,Bool.and_true,Bool.true_and,Bool.false_and,Bool.false_or,Bool.or_false,Bool.not_false,Bool.not_true,V3,a0v,F9,a1d,List.isEmpty_nil,a1T]
 generalize N5 p.rep=x0
 generalize (p.rep.name==[])=x1
 generalize ((p.ll.length:Int)==2)=x2
 generalize p.gl.isEmpty=x3
 generalize (p.name==[])=x4
 generalize G4 p.ch=x5
 generalize p.tg.l.isEmpty=x6
 generalize p.ex.l.isEmpty=x7
 generalize p.pn.l.isEmpty=x8
 generalize H9 p.sp C2=x9
 revert x0 x1 x2 x3 x4 x5 x6 x7 x8 x9
 decide +kernel
theorem c5e {p:Pr} (h:p.k=15):Y6 p=((((((!(!(p.rep.name==[])))&&D4 p.ex.l 1 1 E9)&&((p.ll.length:Int)==0))&&D4 p.gl 0 16 (gQ 5 6))&&N5 p.rep)&&H2 (I1 p.name p.ch p.tg A9 p.pn p.sp) P2):=by
 have hu:B5 p.k=({ us0 with e0:=1,e1:=1,g0:=0,g1:=16,lo:=5,hi:=6 },true):=by rw[h];rfl
 refine a0B (pb:=((p.ll.length:Int)==0)) (fun hp=>by rw[hp];simp only[Bool.and_false,Bool.false_and]) (fun hp=>by rw[G6] at hp;exact a3F hp) (by omega) ?_
 rw[Z0 hu rfl]
 unfold I1
 rw[M1]
 dsimp only [K7,us0]
 simp only[Bool.false_eq_true,if_true,if_false,reduceIte,I8,Q5,U1,V8,M7,G6,Bool.and_true,Bool.true_and,Bool.false_and,Bool.false_or,Bool.or_false,Bool.not_false,Bool.not_true,V3,a0v,F9,a1d,List.isEmpty_nil,a1T]
 have e1:D4 p.gl 0 16 (inG { rep:=false,name:=false,chan:=false,spec:=false,procs:=false,t0:=0,t1:=0,e0:=1,e1:=1,p0:=0,p1:=0,g0:=0,g1:=16,lo:=5,hi:=6 })=D4 p.gl 0 16 (gQ 5 6):=rfl
 rw[e1]
 generalize N5 p.rep=x0
 generalize (p.rep.name==[])=x1
 generalize p.ll.isEmpty=x2
 generalize (p.name==[])=x3
 generalize G4 p.ch=x4
 generalize p.tg.l.isEmpty=x5
 generalize p.pn.l.isEmpty=x6
 generalize H9 p.sp C2=x7
 generalize D4 p.ex.l 1 1 E9=x8
 generalize D4 p.gl 0 16 (gQ 5 6)=x9
 revert x0 x1 x2 x3 x4 x5 x6 x7 x8 x9
 decide +kernel
theorem c5c {p:Pr} (h:p.k=16):Y6 p=((((((!(!(p.rep.name==[])))&&D4 p.ex.l 1 1 E9)&&((p.ll.length:Int)==1))&&((p.gl.length:Int)==0))&&N5 p.rep)&&H2 (I1 p.name p.ch p.tg A9 p.pn p.sp) P2):=by
 have hu:B5 p.k=({ us0 with e0:=1,e1:=1,p0:=1,p1:=1 },true):=by rw[h];rfl
 refine a0B (pb:=((p.ll.length:Int)==1)) (fun hp=>by rw[hp];simp only[Bool.and_false,Bool.false_and]) (fun hp=>b9N hp) (by omega) ?_
 rw[Z0 hu rfl]
 unfold I1
 rw[M1]
 dsimp only [K7,us0]
 simp only[Bool.false_eq_true,if_true,if_false,reduceIte,I8,Q5,U1,V8,M7,G6,Bool.and_true,Bool.true_and,Bool.false_and,Bool.false_or,Bool.or_false,Bool.not_false,Bool.not_true,V3,a0v,F9,a1d,List.isEmpty_nil,a1T]
 generalize N5 p.rep=x0
 generalize (p.rep.name==[])=x1
 generalize ((p.ll.length:Int)==1)=x2
 generalize p.gl.isEmpty=x3
 generalize (p.name==[])=x4
 generalize G4 p.ch=x5
 generalize p.tg.l.isEmpty=x6
 generalize p.pn.l.isEmpty=x7
 generalize H9 p.sp C2=x8
 generalize D4 p.ex.l 1 1 E9=x9
 revert x0 x1 x2 x3 x4 x5 x6 x7 x8 x9
 decide +kernel
theorem c5k {p:Pr} (h:p.k=17):Y6 p=(((((((!(!(p.rep.name==[])))&&Go.Lx.name p.name)&&D4 p.ex.l 0 8 E9)&&((p.ll.length:Int)==0))&&((p.gl.length:Int)==0))&&N5 p.rep)&&H2 (I1 [] p.ch p.tg A9 p.pn p.sp) P2):=by
 have hu:B5 p.k=({ us0 with name:=true,e0:=0,e1:=8 },true):=by rw[h];rfl
 refine a0B (pb:=((p.ll.length:Int)==0)) (fun hp=>by rw[hp];simp only[Bool.and_false,Bool.false_and]) (fun hp=>by rw[G6] at hp;exact a3F hp) (by omega) ?_
 rw[Z0 hu rfl]
 unfold I1
 rw[M1]
 dsimp only [K7,us0]
 simp only[Bool.false_eq_true,if_true,if_false,reduceIte,I8,Q5,U1,V8,M7,G6,Bool.and_true,Bool.true_and,Bool.false_and,Bool.false_or,Bool.or_false,Bool.not_false,Bool.not_true,V3,a0v,F9,a1d,List.isEmpty_nil,a1T]
 generalize N5 p.rep=x0
 generalize (p.rep.name==[])=x1
 generalize p.ll.isEmpty=x2
 generalize p.gl.isEmpty=x3
 generalize Go.Lx.name p.name=x4
 generalize G4 p.ch=x5
 generalize p.tg.l.isEmpty=x6
 generalize p.pn.l.isEmpty=x7
 generalize H9 p.sp C2=x8
 generalize D4 p.ex.l 0 8 E9=x9
 revert x0 x1 x2 x3 x4 x5 x6 x7 x8 x9
 decide +kernel
theorem c4D {p:Pr} (h:p.k=18):Y6 p=((((((!(!(p.rep.name==[])))&&spP p.sp)&&((p.ll.length:Int)==1))&&((p.gl.length:Int)==0))&&N5 p.rep)&&H2 (I1 p.name p.ch p.tg p.ex p.pn C2) P2):=by
 have hu:B5 p.k=({ us0 with spec:=true,p0:=1,p1:=1 },true):=by rw[h];rfl
 refine a0B (pb:=((p.ll.length:Int)==1)) (fun hp=>by rw[hp];simp only[Bool.and_false,Bool.false_and]) (fun hp=>b9N hp) (by omega) ?_
 rw[Z0 hu rfl]
 unfold I1
 rw[M1]
 dsimp only [K7,us0]
 simp only[Bool.false_eq_true,if_true,if_false,reduceIte,I8,Q5,U1,V8,M7,G6,Bool.and_true,Bool.true_and,Bool.false_and,Bool.false_or,Bool.or_false,Bool.not_false,Bool.not_true,V3,a0v,F9,a1d,List.isEmpty_nil,a1T]
 generalize N5 p.rep=x0
 generalize (p.rep.name==[])=x1
 generalize ((p.ll.length:Int)==1)=x2
 generalize p.gl.isEmpty=x3
 generalize (p.name==[])=x4
 generalize G4 p.ch=x5
 generalize p.tg.l.isEmpty=x6
 generalize p.ex.l.isEmpty=x7
 generalize p.pn.l.isEmpty=x8
 generalize spP p.sp=x9
 revert x0 x1 x2 x3 x4 x5 x6 x7 x8 x9
 decide +kernel
end Go.Pc
end
section
namespace Go.Sx
open Go.Eng Go.Pc Go
open Go.Xp hiding B F1
open Go.Ty (Ty Vr Tok)
theorem a2P {α:Type} (q:α→α→Bool) (f:α→α):∀ (l r:List α),(∀ x ∈ l,∀ y,q (f x) y=q x y)→eqL q (l.map f) r=eqL q l r
 | [],[],_=>rfl
 | [],_::_,_=>rfl
 | _::_,[],_=>rfl
 | x::l,y::r,h=>by
   show(q (f x) y&&eqL q (l.map f) r)=(q x y&&eqL q l r)
   rw[h x (List.Mem.head _),a2P q f l r fun z hz=>h z (List.Mem.tail _ hz)]
theorem b5q (p q:Pr):H2 p q=(eqL (fun a b:Int=>a==b) p.pn.l q.pn.l&&((((((((((p.k==q.k)&&(p.name==q.name))&&a43 p.rep q.rep)&&D6 p.ch q.ch)&&eqL D6 p.tg.l q.tg.l)&&eqL D6 p.ex.l q.ex.l)&&eqL R3 p.gl q.gl)&&eqL H2 p.ll q.ll)&&X9 p.sp q.sp))):=by
 rw[← a6X,← a2e]
 cases p
 rfl
theorem b5J (p q:Gu):R3 p q=((((((((p.k==q.k)&&(p.name==q.name))&&D6 p.cond q.cond)&&D6 p.ch q.ch)&&D6 p.time q.time)&&eqL D6 p.tg.l q.tg.l)&&eqL D6 p.vl.l q.vl.l)&&eqL H2 p.bl q.bl):=by
 rw[← a2e]
 cases p
 rfl
theorem b5g (p q:Sp):X9 p q=(((((p.k==q.k)&&Go.Ty.eqT p.ty q.ty)&&eqL a0g p.fs.l q.fs.l))&&(((eqL (fun a b:B=>a==b) p.names.l q.names.l&&D6 p.e q.e)&&a1Z p.cs p.vs.l q.cs q.vs.l)&&eqL H2 p.bl q.bl)):=by
 rw[← a2e]
 cases p
 rfl
theorem c2x (r s:Rp):a43 (stR r) s=a43 r s:=by
 unfold a43
 show(((r.name==s.name)&&D6 (C3 r.base) s.base)&&D6 (C3 r.count) s.count)=_
 rw[a0K,a0K]
theorem c2r (p:Pr):∀ q,H2 (stP p) q=H2 p q:=by
 refine Pr.ind (q:=fun p=>∀ q,H2 (stP p) q=H2 p q) (fun p ih q=>?_) p
 obtain⟨h1,h2,h3,h4,h5,h6,h7,h8,h9,h10⟩:=a8L p
 have hs:X9 (stS p.sp) q.sp=X9 p.sp q.sp:=by
   obtain⟨s1,s2,s3,s4,s5,s6,s7,s8⟩:=b4U p.sp
   have hv:a1Z p.sp.cs (p.sp.vs.l.map X7) q.sp.cs q.sp.vs.l=a1Z p.sp.cs p.sp.vs.l q.sp.cs q.sp.vs.l:=by
     unfold a1Z
     rw[a2P P3 X7 _ _ fun _ _ _=>rfl]
   rw[b5g,b5g,s1,s2,s3,s4,s5,s6,s7,s8,a0K,hv,a2P H2 stP _ _ fun x hx y=>ih x (.s hx) y]
 have hg:eqL R3 (p.gl.map stG) q.gl=eqL R3 p.gl q.gl:=by
   refine a2P R3 stG _ _ fun g hgm y=>?_
   obtain⟨g1,g2,g3,g4,g5,g6,g7,g8⟩:=b3c g
   rw[b5J,b5J,g1,g2,g3,g4,g5,g6,g7,g8,a0K,a0K,a0K,a2P D6 C3 _ _ (fun x _ y=>a0K x y),a2P D6 C3 _ _ (fun x _ y=>a0K x y),a2P H2 stP _ _ fun x hx y=>ih x (.g hgm hx) y]
 rw[b5q,b5q,h1,h2,h3,h4,h5,h6,h7,h8,h9,h10,hs,hg,a0K,c2x,a2P D6 C3 _ _ (fun x _ y=>a0K x y),a2P D6 C3 _ _ (fun x _ y=>a0K x y),a2P H2 stP _ _ fun x hx y=>ih x (.l hx) y]
def a2R (s:B) (n e:Int):Bool:=H2 (U7 (a03 s)).1 P2&&((((U7 (a03 s)).2.1:Nat):Int)==n)&&((U7 (a03 s)).2.2==e)
end Go.Sx
end
section
namespace Go.Pc
open Go.Eng Go.Xp Go
open Go.Ty (Ty Vr)
set_option linter.unusedSimpArgs false
theorem c4c {p:Pr} (h:p.k=8∨p.k=9):Y6 p=((((true&&((!(!(p.rep.name==[])))||((p.ll.length:Int)==1)))&&((p.gl.length:Int)==0))&&N5 p.rep)&&H2 (I1 p.name p.ch p.tg p.ex p.pn p.sp) P2):=by
 unfold Y6
 by_cases hl:p.ll.length≤2048
 · rw[if_pos hl]
   have hu:B5 p.k=({ us0 with rep:=true,p0:=0,p1:=2048 },true):=by rcases h with h | h <;> rw[h] <;> rfl
   rw[b0L hu]
   unfold I1
   rw[M1]
   have hs:a2q 0 2048 (p.ll.length:Int)=true:=by
     unfold a2q
     simp
     omega
   rw[show b0T { us0 with rep:=true,p0:=0,p1:=2048 }={ us0 with rep:=true,p0:=1,p1:=1 } from rfl]
   dsimp only [K7,us0]
   simp only[Bool.false_eq_true,if_false,reduceIte,I8,U1,hs,M7,G6,Bool.and_true,Bool.true_and,Bool.false_and,Bool.false_or,Bool.or_false,Bool.not_false,Bool.not_true]
   generalize N5 p.rep=x0
   generalize (p.rep.name==[])=x1
   generalize ((p.ll.length:Int)==1)=x2
   generalize p.gl.isEmpty=x3
   generalize (p.name==[])=x4
   generalize G4 p.ch=x5
   generalize p.tg.l.isEmpty=x6
   generalize p.ex.l.isEmpty=x7
   generalize p.pn.l.isEmpty=x8
   generalize H9 p.sp C2=x9
   revert x0 x1 x2 x3 x4 x5 x6 x7 x8 x9
   decide +kernel
 · rw[if_neg hl]
   unfold a8O
   rw[if_pos h]
theorem b94 {p:Pr} {lo hi le mo:Int} (h89:¬ (p.k=8∨p.k=9)) (hu:B5 p.k=({ us0 with rep:=true,g0:=0,g1:=16,lo:=lo,hi:=hi },true)) (hml:mo=(if (p.rep.name==[])=true then 16 else 1)∧le=(if (p.rep.name==[])=true then 0 else 1)) :
   Y6 p=((((true&&((p.ll.length:Int)==0))&&D4 p.gl le mo (gQ lo hi))&&N5 p.rep)&&H2 (I1 p.name p.ch p.tg p.ex p.pn p.sp) P2):=by
 refine a0B (pb:=((p.ll.length:Int)==0)) (fun hp=>by rw[hp];simp only[Bool.and_false,Bool.false_and]) (fun hp=>by rw[G6] at hp;exact a3F hp) h89 ?_
 rw[b0L hu]
 unfold I1
 rw[M1,show b0T { us0 with rep:=true,g0:=0,g1:=16,lo:=lo,hi:=hi }={ us0 with rep:=true,g0:=1,g1:=1,lo:=lo,hi:=hi } from rfl]
 obtain⟨rfl,rfl⟩:=hml
 have e1:∀ a b:Int,D4 p.gl a b (inG { rep:=true,name:=false,chan:=false,spec:=false,procs:=false,t0:=0,t1:=0,e0:=0,e1:=0,p0:=0,p1:=0,g0:=a,g1:=b,lo:=lo,hi:=hi })=D4 p.gl a b (gQ lo hi):=fun _ _=>rfl
 dsimp only [K7,us0]
 simp only[Bool.false_eq_true,if_false,reduceIte,I8,Q5,M7,G6,Bool.and_true,Bool.true_and,Bool.false_and,Bool.false_or,Bool.or_false,Bool.not_false,Bool.not_true,e1]
 cases hn:(p.rep.name==[]) with
 | true=>
   simp only[if_true]
   generalize N5 p.rep=x0
   generalize p.ll.isEmpty=x2
   generalize D4 p.gl 0 16 (gQ lo hi)=x3
   generalize (p.name==[])=x4
   generalize G4 p.ch=x5
   generalize p.tg.l.isEmpty=x6
   generalize p.ex.l.isEmpty=x7
   generalize p.pn.l.isEmpty=x8
   generalize H9 p.sp C2=x9
   revert x0 x2 x3 x4 x5 x6 x7 x8 x9
   decide +kernel
 | false=>
   simp only[Bool.false_eq_true,if_false]
   generalize N5 p.rep=x0
   generalize p.ll.isEmpty=x2
   generalize D4 p.gl 1 1 (gQ lo hi)=x3
   generalize (p.name==[])=x4
   generalize G4 p.ch=x5
   generalize p.tg.l.isEmpty=x6
   generalize p.ex.l.isEmpty=x7
   generalize p.pn.l.isEmpty=x8
   generalize H9 p.sp C2=x9
   revert x0 x2 x3 x4 x5 x6 x7 x8 x9
   decide +kernel
theorem b7X {p:Pr} {le mo:Int} (h:p.k=12∨p.k=13) (hml:mo=(if (p.rep.name==[])=true then 16 else 1)∧le=(if (p.rep.name==[])=true then 0 else 1)) :
   Y6 p=((((true&&((p.ll.length:Int)==0))&&D4 p.gl le mo (gQ 2 4))&&N5 p.rep)&&H2 (I1 p.name p.ch p.tg p.ex p.pn p.sp) P2):=
 b94 (by omega) (by rcases h with h | h <;> rw[h] <;> rfl) hml
theorem c4o {p:Pr} {le mo:Int} (h:p.k=14) (hml:mo=(if (p.rep.name==[])=true then 16 else 1)∧le=(if (p.rep.name==[])=true then 0 else 1)) :
   Y6 p=((((true&&((p.ll.length:Int)==0))&&D4 p.gl le mo (gQ 1 1))&&N5 p.rep)&&H2 (I1 p.name p.ch p.tg p.ex p.pn p.sp) P2):=
 b94 (by omega) (by rw[h];rfl) hml
def okN (n:Int):Bool:=decide (n ≥ 0)&&decide (n≤7)
theorem b8z {α:Type} {l:List α} {n:Nat} {q:α→Bool}:D4 l n n q=(((l.length:Int)==(n:Int))&&l.all q):=by
 have h2:(!(l.any fun x=>!q x))=l.all q:=by
   induction l with
   | nil=>rfl
   | cons x r ih=>
     simp only[List.any_cons,List.all_cons,← ih]
     cases q x <;> simp
 have h3:a2q n n (l.length:Int)=((l.length:Int)==(n:Int)):=by
   unfold a2q
   rw[Bool.eq_iff_iff]
   simp
   omega
 unfold D4
 rw[h2,h3]
theorem c4O {p:Pr} {v:Bool} (h:p.k=11) (hJ:p.pn.l.length≤8→v=(((!(!(p.rep.name==[])))&&((p.pn.l.length:Int)==(p.ll.length:Int)))&&p.pn.l.all okN)) (hN:¬ p.pn.l.length≤8→v=((!(!(p.rep.name==[])))&&((p.pn.l.length:Int)==(p.ll.length:Int)))) :
   Y6 p=((((v&&(decide ((p.ll.length:Int) ≥ 1)&&decide ((p.ll.length:Int)≤8)))&&((p.gl.length:Int)==0))&&N5 p.rep)&&H2 (I1 p.name p.ch p.tg p.ex A9 p.sp) P2):=by
 have hu:B5 p.k=({ us0 with procs:=true,p0:=1,p1:=8 },true):=by rw[h];rfl
 refine a0B (pb:=(decide ((p.ll.length:Int) ≥ 1)&&decide ((p.ll.length:Int)≤8))) (fun hp=>by rw[hp];simp only[Bool.and_false,Bool.false_and]) (fun hp=>by simp at hp;omega) (by omega) ?_
 rw[Z0 hu rfl]
 unfold I1
 rw[M1]
 have e1:D4 p.pn.l (p.ll.length:Int) (p.ll.length:Int) (fun n=>decide (n ≥ 0)&&decide (n < 8))=(((p.pn.l.length:Int)==(p.ll.length:Int))&&p.pn.l.all okN):=by
   rw[b8z]
   have:(fun n:Int=>decide (n ≥ 0)&&decide (n < 8))=okN:=by
     funext n
     unfold okN
     rw[Bool.eq_iff_iff]
     simp
     omega
   rw[this]
 dsimp only [K7,us0]
 simp only[Bool.false_eq_true,if_true,if_false,reduceIte,I8,M7,G6,Bool.and_true,Bool.true_and,Bool.false_and,Bool.false_or,Bool.or_false,Bool.not_false,Bool.not_true,V3,a1d,e1]
 unfold a2q
 by_cases h8:p.pn.l.length≤8
 · rw[hJ h8]
   generalize N5 p.rep=x0
   generalize (p.rep.name==[])=x1
   generalize decide ((p.ll.length:Int) ≥ 1)=x2
   generalize decide ((p.ll.length:Int)≤8)=x3
   generalize (p.name==[])=x4
   generalize G4 p.ch=x5
   generalize p.tg.l.isEmpty=x6
   generalize p.ex.l.isEmpty=x7
   generalize ((p.pn.l.length:Int)==(p.ll.length:Int))=x8
   generalize H9 p.sp C2=x9
   generalize p.pn.l.all okN=x10
   generalize p.gl.isEmpty=x11
   cases x0 <;> cases x11 <;> revert x1 x2 x3 x4 x5 x6 x7 x8 x9 x10 <;> decide +kernel
 · rw[hN h8]
   have hx:(((p.pn.l.length:Int)==(p.ll.length:Int))&&decide ((p.ll.length:Int)≤8))=false:=by
     cases hq:((p.pn.l.length:Int)==(p.ll.length:Int)) with
     | false=>rfl
     | true=>
       have:(p.pn.l.length:Int)=(p.ll.length:Int):=by simpa using hq
       simp
       omega
   revert hx
   generalize N5 p.rep=x0
   generalize (p.rep.name==[])=x1
   generalize decide ((p.ll.length:Int) ≥ 1)=x2
   generalize decide ((p.ll.length:Int)≤8)=x3
   generalize (p.name==[])=x4
   generalize G4 p.ch=x5
   generalize p.tg.l.isEmpty=x6
   generalize p.ex.l.isEmpty=x7
   generalize ((p.pn.l.length:Int)==(p.ll.length:Int))=x8
   generalize H9 p.sp C2=x9
   generalize p.pn.l.all okN=x10
   generalize p.gl.isEmpty=x11
   cases x0 <;> cases x11 <;> revert x1 x2 x3 x4 x5 x6 x7 x8 x9 x10 <;> decide +kernel
theorem c3K {p:Pr} (h12:¬ (p.k=1∨p.k=2)) (h3:p.k≠3) (h4:p.k≠4) (h5:p.k≠5) (h6:p.k≠6) (h7:p.k≠7) (h89:¬ (p.k=8∨p.k=9)) (h10:p.k≠10) (h11:p.k≠11) (h1213:¬ (p.k=12∨p.k=13)) (h14:p.k≠14) (h15:p.k≠15) (h16:p.k≠16) (h17:p.k≠17) (h18:p.k≠18) (a b c:Bool) :
   Y6 p=((((false&&a)&&b)&&N5 p.rep)&&c):=by
 have hF:(B5 p.k).2=false:=by
   unfold B5
   repeat rw[if_neg (by omega)]
 have hp:K3 p=false:=by
   unfold K3
   rw[hF]
   simp
 rw[Bool.false_and,Bool.false_and,Bool.false_and,Bool.false_and]
 unfold Y6
 split
 · exact hp
 · unfold a8O
   rw[if_neg h89]
end Go.Pc
end
section
namespace Go.Pc
open Go.Eng Go.Xp Go
open Go.Ty (Ty Vr)
def J6 (r:Bool × Int):Int:=if r.1 then r.2 else -1
def a2A (l:List Pr) (d:Int) (pl:Bool) (q:Int):Int:=if q < 0 then -1 else J6 (Q8 l d pl q)
def a3d (l:List Gu) (d q:Int):Int:=if q < 0 then -1 else J6 (a1h l d q)
theorem a7B {p:Pr} {d left:Int} {pl:Bool} (h0:0≤left) (h:(F7 p d pl left).1=true):0≤(F7 p d pl left).2∧(F7 p d pl left).2≤left:=by
 obtain⟨h1,h2⟩:=(a2h p d pl left h0 h).2 h
 exact⟨h2,by omega⟩
theorem a5W {p:Pr} {d left:Int} {pl:Bool} (h0:0≤left):-1≤J6 (F7 p d pl left)∧J6 (F7 p d pl left)≤left:=by
 unfold J6
 cases hc:(F7 p d pl left).1 with
 | true=>have:=a7B h0 hc;simp;omega
 | false=>simp;omega
theorem b6b {l:List Pr} {d q:Int} {pl:Bool} (h:q < 0):a2A l d pl q=-1:=by unfold a2A;rw[if_pos h]
theorem a6P {l:List Gu} {d q:Int} (h:q < 0):a3d l d q=-1:=by unfold a3d;rw[if_pos h]
theorem b6J {d q:Int} {pl:Bool} (h:0≤q):a2A [] d pl q=q:=by unfold a2A;rw[if_neg (by omega)];rfl
theorem b6G {d q:Int} (h:0≤q):a3d [] d q=q:=by unfold a3d;rw[if_neg (by omega)];rfl
theorem b4r {x:Pr} {r:List Pr} {d q:Int} {pl:Bool} (h:0≤q):a2A (x::r) d pl q=a2A r d pl (J6 (F7 x d pl q)):=by
 unfold a2A
 rw[if_neg (by omega)]
 have e:Q8 (x::r) d pl q=if (F7 x d pl q).1 then Q8 r d pl (F7 x d pl q).2 else F7 x d pl q:=rfl
 rw[e]
 cases hc:(F7 x d pl q).1 with
 | true=>
   have:=a7B h hc
   have hv:J6 (F7 x d pl q)=(F7 x d pl q).2:=by unfold J6;rw[if_pos hc]
   rw[if_pos rfl,hv,if_neg (by omega)]
 | false=>
   have hv:J6 (F7 x d pl q)=-1:=by unfold J6;rw[if_neg (by rw[hc];decide)]
   rw[if_neg (by decide),hv]
   rfl
theorem b4A {g:Gu} {x:Pr} {r:List Gu} {d q:Int} (h:0≤q) (hx:g.bl[0]?=some x):a3d (g::r) d q=a3d r d (J6 (F7 x d false q)):=by
 unfold a3d
 rw[if_neg (by omega)]
 have e0:a1s g d q=F7 x d false q:=by
   rw[a3X]
   cases hb:g.bl with
   | nil=>rw[hb] at hx;cases hx
   | cons y t=>rw[hb] at hx;cases hx;rfl
 have e:a1h (g::r) d q=if (F7 x d false q).1 then a1h r d (F7 x d false q).2 else F7 x d false q:=by rw[← e0];rfl
 rw[e]
 cases hc:(F7 x d false q).1 with
 | true=>
   have:=a7B h hc
   have hv:J6 (F7 x d false q)=(F7 x d false q).2:=by unfold J6;rw[if_pos hc]
   rw[if_pos rfl,hv,if_neg (by omega)]
 | false=>
   have hv:J6 (F7 x d false q)=-1:=by unfold J6;rw[if_neg (by rw[hc];decide)]
   rw[if_neg (by decide),hv]
   rfl
theorem b0r:∀ l:List Pr,l.length≤N1 l
 | []=>Nat.le_refl _
 | x::r=>by
   have h1:=b0r r
   have h2:=a4m x
   show r.length+1≤Q1 x+N1 r
   omega
theorem b9a {l:List Pr} {d q:Int} {pl:Bool} (h0:0≤q) (h:q < l.length):(Q8 l d pl q).1=false:=by
 cases hc:(Q8 l d pl q).1 with
 | false=>rfl
 | true=>
   obtain⟨_,h2,h3⟩:=a4A h0 (fun x _ d pl q hq hx=>a2h x d pl q hq hx) hc
   have:=b0r l
   omega
theorem b08 (k:Int):(B5 k).1.p1≤2048∧(b0T (B5 k).1).p1≤2048:=by
 by_cases hk:1≤k∧k≤18
 · have:k=1∨k=2∨k=3∨k=4∨k=5∨k=6∨k=7∨k=8∨k=9∨k=10∨k=11∨k=12∨k=13∨k=14∨k=15∨k=16∨k=17∨k=18:=by omega
   rcases this with h | h | h | h | h | h | h | h | h | h | h | h | h | h | h | h | h | h <;> rw[h] <;> decide
 · have:B5 k=(us0,false):=by
     unfold B5
     repeat rw[if_neg (by omega)]
   rw[this]
   decide
theorem b6h {p:Pr} (h:K3 p=true):p.ll.length≤2048:=by
 have hV:=Z3 h
 by_cases hr:p.rep.name=[]
 · have h1:=(hV.pn hr).2
   have:=(b08 p.k).1
   omega
 · unfold K3 at h
   have h2:=hV.rp hr
   have h3:(p.rep.name != [])=true:=by simpa using hr
   rw[hV.kd,hV.rep,h3,h2] at h
   simp only[Bool.not_true,Bool.or_self,Bool.false_eq_true,if_false,if_true] at h
   have h4:=b0q (plU h).1.1.1
   have:=(b08 p.k).2
   omega
theorem b5T {p:Pr} (h:K3 p=true):Y6 p=true:=by
 unfold Y6
 rw[if_pos (b6h h),h]
theorem b1H {p:Pr} (h:Y6 p=true):K3 p=true∨(K3 p=false∧2048 < p.ll.length∧(p.k=8∨p.k=9)∧p.gl=[]):=by
 cases hp:K3 p with
 | true=>exact .inl rfl
 | false=>
   right
   unfold Y6 at h
   split at h
   · rw[hp] at h;cases h
   · rename_i hl
     unfold a8O at h
     split at h
     · rename_i hk
       simp only[Bool.and_eq_true] at h
       have hg:=h.1.1.2
       rw[G6] at hg
       exact⟨rfl,by omega,hk,List.isEmpty_iff.1 hg⟩
     · cases h
theorem c1t {s:Sp} (h:s.k≠4):(Y4 s).cs=false:=by
 unfold Y4
 split
 · rfl
 split
 · rfl
 split
 · rfl
 rfl
theorem c2g {s:Sp} (hk:s.k≤5) (h1:1≤s.k) (h:s.k≠5):(Y4 s).bl.length=0:=by
 unfold Y4
 split
 · rfl
 split
 · rfl
 split
 · rfl
 split
 · rfl
 · omega
theorem c6h {s:Sp} (h:spP s=true) (h4:s.k≠4):s.cs=false:=by
 have hV:=a7C h
 unfold spP at h
 rw[if_pos hV.kd] at h
 simp only[Bool.and_eq_true] at h
 have h2:=h.2
 unfold H9 at h2
 simp only[Bool.and_eq_true,beq_iff_eq] at h2
 rw[h2.1.1.1.2,c1t h4]
theorem c5H {s:Sp} (h:spP s=true) (h5:s.k≠5):s.bl=[]:=by
 have hV:=a7C h
 unfold spP at h
 rw[if_pos hV.kd] at h
 simp only[Bool.and_eq_true] at h
 have h2:=h.2
 unfold H9 at h2
 simp only[Bool.and_eq_true,beq_iff_eq] at h2
 have h3:=h2.2
 rw[c2g hV.kd.2 hV.kd.1 h5] at h3
 exact List.eq_nil_of_length_eq_zero (by omega)
theorem b9c {p:Pr} {d left:Int} {pl:Bool} (h:(((decide (d > 32)||(left==0))||!(Y6 p))||((p.k==11)&&!pl))=true):J6 (F7 p d pl left)=-1:=by
 have hh:R6 p d pl left=true:=by
   unfold R6
   simp only[Bool.or_eq_true,Bool.and_eq_true,decide_eq_true_eq,beq_iff_eq,Bool.not_eq_true'] at h ⊢
   rcases h with ((h | h) | h) | h
   · exact .inl (.inl (.inr h))
   · exact .inl (.inl (.inl (by omega)))
   · left;right
     cases hp:K3 p with
     | false=>rfl
     | true=>rw[b5T hp] at h;cases h
   · exact .inr h
 rw[a3G,hh]
 rfl
theorem b6p {p:Pr} {d left:Int} {pl:Bool} (hd:d≤32) (h1:1≤left) (h2:left≤2048) (ho:Y6 p=true) (h11:((p.k==11)&&!pl)=false) :
   J6 (F7 p d pl left)=a3d p.gl (d+2) (a2A p.ll (if p.k=18 then d else if p.k=11 then d+2 else d+1) (pl&&(p.k==18)) (if p.k=18 then J6 (T8 p.sp d (left - 1)) else left - 1)):=by
 rcases b1H ho with hp | ⟨hp,hl,hk,_⟩
 · have hh:R6 p d pl left=false:=by
     unfold R6
     rw[hp,h11]
     simp
     omega
   rw[a3G,hh,if_neg (by decide)]
   have step:∀ (l:List Pr) (b:Int) (pl:Bool) (q:Int),0≤q→J6 (if (Q8 l b pl q).1 then a1h p.gl (d+2) (Q8 l b pl q).2 else Q8 l b pl q)=a3d p.gl (d+2) (a2A l b pl q):=fun l b pl q hq=>by
     have e:a2A l b pl q=J6 (Q8 l b pl q):=by unfold a2A;rw[if_neg (by omega)]
     rw[e]
     cases hc:(Q8 l b pl q).1 with
     | true=>
       obtain⟨_,e2,e3⟩:=a4A hq (fun x _ d pl q hq hx=>a2h x d pl q hq hx) hc
       have hv:J6 (Q8 l b pl q)=(Q8 l b pl q).2:=by unfold J6;rw[if_pos hc]
       rw[if_pos rfl,hv]
       unfold a3d
       rw[if_neg (by omega)]
     | false=>
       have hv:J6 (Q8 l b pl q)=-1:=by unfold J6;rw[if_neg (by rw[hc];decide)]
       rw[if_neg (by decide),hv]
       rfl
   by_cases h18:p.k=18
   · rw[if_pos h18,if_pos h18,if_pos h18,show(p.k==18)=true by rw[h18];rfl,Bool.and_true]
     have hV:=Z3 hp
     have hsl:p.sp.bl.length≤1:=b9u (hV.sp (by rw[h18];rfl))
     cases hS:(T8 p.sp d (left - 1)).1 with
     | true=>
       have hr:0≤(T8 p.sp d (left - 1)).2:=by
         rw[a4Z] at hS ⊢
         split at hS
         · cases hS
         · rename_i hc
           rw[if_neg hc]
           exact(a6q (by omega) hsl (fun x _ d pl q hq hx=>a2h x d pl q hq hx) hS).2.2
       have hv:J6 (T8 p.sp d (left - 1))=(T8 p.sp d (left - 1)).2:=by unfold J6;rw[if_pos hS]
       rw[if_pos rfl,hv]
       exact step _ _ _ _ hr
     | false=>
       have hv:J6 (T8 p.sp d (left - 1))=-1:=by unfold J6;rw[if_neg (by rw[hS];decide)]
       rw[if_neg (by decide),hv]
       rfl
   · rw[if_neg h18,if_neg h18,if_neg h18,show(p.k==18)=false by simpa using h18,Bool.and_false]
     exact step _ _ _ _ (by omega)
 · have hh:R6 p d pl left=true:=by unfold R6;rw[hp];simp
   have h18:p.k≠18:=by omega
   rw[a3G,hh,if_pos rfl,if_neg h18,if_neg h18]
   have hq:a2A p.ll (if p.k=11 then d+2 else d+1) (pl&&(p.k==18)) (left - 1)=-1:=by
     unfold a2A
     rw[if_neg (by omega)]
     unfold J6
     rw[if_neg (by rw[b9a (by omega) (by omega)];decide)]
   rw[hq]
   rfl
end Go.Pc
end

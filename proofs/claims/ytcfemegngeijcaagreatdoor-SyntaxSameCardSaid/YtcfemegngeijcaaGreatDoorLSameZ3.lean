import Derived.Test.YtcfemegngeijcaaGreatDoorLSameZ2
import Derived.Lib.ItoaNum
import Derived.Lib.AppendZerosOnto
section
namespace Go.Sx
open Go.Eng Go.Pc Go
open Go.Xp hiding B
open Go.Ty (Ty Vr Tok)
open Go.Ly (Rw)
abbrev E (α:Type):=Except Int (α × List Tok)
def O5 {α β:Type} (r:E α) (f:α→List Tok→E β):E β:=match r with
 | .ok (x,ts)=>f x ts
 | .error e=>.error e
def isM (k:Int) (s:B):List Tok→Bool
 | []=>false
 | t::_=>(t.kind==k)&&(t.text==s)
def Y4 {β:Type} (k:Int) (s:B) (ts:List Tok) (f:List Tok→E β):E β:=if isM k s ts then f ts.tail else .error 110
def V0:List Tok→E B
 | []=>.error 110
 | t::r=>if t.kind=1 then .ok (t.text,r) else .error 110
def M1 (ts:List Tok):E Ex:=match P9 ts with
 | .ok (x,k)=>.ok (x,ts.drop k)
 | .error _=>.error 110
def L3 (ts:List Tok):E Ex:=if (ts.headD Go.Ty.zeroK).kind=1 then O5 (M1 ts) fun x r=>if O2 x then .ok (x,r) else .error 110 else .error 110
def a7w (ts:List Tok):E Ty:=if (Go.Ty.front ts).2.2=0 then .ok ((Go.Ty.front ts).1,ts.drop (Go.Ty.front ts).2.1) else .error 110
def a5n (ts:List Tok):E Int:=O5 (a7w ts) fun t r=>if a1K t then .ok (t.kind,r) else .error 110
def a4m (ts:List Tok):E Fo:=O5 (a7w (if isM 2 [86,65,76] ts then ts.tail else ts)) fun t r=>O5 (V0 r) fun n r=>if foP ⟨isM 2 [86,65,76] ts,t,n⟩ then .ok (⟨isM 2 [86,65,76] ts,t,n⟩,r) else .error 110
def a2j {α:Type} (take:List Tok→E α) (sep:B):Nat→List α→List Tok→E (List α)
 | 0,acc,ts=>if isM 5 sep ts then .error 110 else .ok (acc,ts)
 | n+1,acc,ts=>if isM 5 sep ts then O5 (take ts.tail) fun x r=>a2j take sep n (acc++[x]) r else .ok (acc,ts)
def P4 {α:Type} (take:List Tok→E α) (sep:B) (most:Nat) (ts:List Tok):E (List α):=O5 (take ts) fun x r=>a2j take sep (most - 1) [x] r
def brM {α:Type} (take:List Tok→E α) (ts:List Tok):E (List α):=Y4 5 [40] ts fun r=>if isM 5 [41] r then .ok ([],r.tail) else O5 (P4 take [44] 8 r) fun l r=>Y4 5 [41] r fun r=>.ok (l,r)
def D3:Rp:=⟨[],A4,A4⟩
def b2F (ts:List Tok):E Rp:=if ts.isEmpty then .ok (D3,ts) else O5 (V0 ts) fun n r=>Y4 5 [61] r fun r=>O5 (M1 r) fun b r=>Y4 2 [70,79,82] r fun r=>O5 (M1 r) fun c r=>.ok (⟨n,b,c⟩,r)
def sl {α:Type} (l:List α):Sli α:=⟨none,0,l⟩
def guM (k:Int) (nm:B) (cond ch:Ex) (tg vl:List Ex) (time:Ex):Gu:=.mk k nm cond ch (sl tg) (sl vl) time none 0 []
def ifM (ts:List Tok):E Gu:=O5 (M1 ts) fun c r=>.ok (guM 1 [] c A4 [] [] A4,r)
def b1z (ts:List Tok):Bool:=match P9 ts with
 | .ok (_,n)=>isM 5 [38] (ts.drop n)
 | .error _=>false
def a8H (c:Ex) (ts:List Tok):E Gu:=O5 (L3 ts) fun ch r=>Y4 5 [63] r fun r=>if isM 2 [65,70,84,69,82] r then O5 (M1 r.tail) fun t r=>.ok (guM 4 [] c ch [] [] t,r) else O5 (P4 L3 [59] 8 r) fun l r=>.ok (guM 3 [] c ch l [] A4,r)
def a71 (ts:List Tok):E Gu:=if b1z ts then O5 (M1 ts) fun c r=>Y4 5 [38] r fun r=>if isM 2 [83,75,73,80] r then .ok (guM 2 [] c A4 [] [] A4,r.tail) else a8H c r else a8H A4 ts
def b5a (ts:List Tok):E Gu:=if isM 2 [69,76,83,69] ts then .ok (guM 6 [] A4 A4 [] [] A4,ts.tail) else O5 (P4 M1 [44] 8 ts) fun l r=>.ok (guM 5 [] A4 A4 [] l A4,r)
def b3c (ts:List Tok):E Gu:=O5 (V0 ts) fun n r=>if isM 5 [59] r then O5 (P4 L3 [59] 8 r.tail) fun l r=>.ok (guM 7 n A4 A4 l [] A4,r) else .ok (guM 7 n A4 A4 [] [] A4,r)
abbrev PE (α:Type):=Except (Int × Nat) (α × Nat)
def P8 {α β:Type} (r:PE α) (f:α→Nat→PE β):PE β:=match r with
 | .ok (x,i)=>f x i
 | .error e=>.error e
def I2 {α β:Type} (r:E α) (i:Nat) (f:α→List Tok→PE β):PE β:=match r with
 | .ok (x,ts)=>f x ts
 | .error e=>.error (e,i)
def F4 {β:Type} (ts:List Tok) (i:Nat) (f:Nat→PE β):PE β:=if ts.isEmpty then f (i+1) else .error (110,i)
def V1 {β:Type} (k:Int) (s:B) (ts:List Tok) (i:Nat) (f:List Tok→PE β):PE β:=if isM k s ts then f ts.tail else .error (110,i)
section
variable (R:List Rw)
def O6 (d:Int) (i:Nat):Bool:=match R[i]? with
 | some x=>x.depth==d
 | none=>false
def a0q (d:Int) (i:Nat):Except (Int × Nat) (List Tok):=match R[i]? with
 | none=>.error (110,i)
 | some x=>if (Go.Lx.lexO x.text).2.2≠0 then .error ((Go.Lx.lexO x.text).2.2,i) else if x.depth≠d then .error (110,i) else .ok (Go.Lx.lexO x.text).1
def a0N {β:Type} (d:Int) (i:Nat) (f:List Tok→PE β):PE β:=match a0q R d i with
 | .ok ts=>f ts
 | .error e=>.error e
def a2t {β:Type} (d:Int) (k:Int) (s:B) (i:Nat) (f:Nat→PE β):PE β:=a0N R d i fun ts=>V1 k s ts i fun r=>F4 r i f
def prM (k:Int) (nm:B) (ch:Ex) (tg ex:List Ex) (rep:Rp) (gl:List Gu) (ll:List Pr) (pn:List Int) (sp:Sp):Pr:=.mk k nm ch (sl tg) (sl ex) rep none 0 gl none 0 ll (sl pn) sp
def spM (k:Int) (ty:Ty) (names:List B) (e:Ex) (cs:Bool) (vs:List Vr) (fs:List Fo) (bl:List Pr):Sp:=.mk k ty (sl names) e cs (sl vs) (sl fs) none 0 bl
def b3U (g:Gu) (x:Pr):Gu:=.mk g.k g.name g.cond g.ch g.tg g.vl g.time none 0 [x]
variable (rec:Int→Bool→Nat→PE Pr)
def Z3 (row:List Tok→E Gu) (least most:Nat) (d:Int):Nat→List Gu→Nat→PE (List Gu)
 | 0,acc,i=>if acc.length < least then .error (110,i) else .ok (acc,i)
 | k+1,acc,i=>if acc.length < least∨(acc.length < most∧O6 R d i=true) then a0N R d i fun ts=>I2 (row ts) i fun g r=>F4 r i fun i=>P8 (rec (d+1) false i) fun x i=>Z3 row least most d k (acc++[b3U g x]) i
   else .ok (acc,i)
def a1P (row:List Tok→E Gu) (least most:Nat) (d:Int) (i:Nat):PE (List Gu):=Z3 R rec row least most d (R.length - i) [] i
def a2l (d:Int):Nat→List Pr→Nat→PE (List Pr)
 | 0,acc,i=>.ok (acc,i)
 | k+1,acc,i=>if O6 R d i then P8 (rec d false i) fun x i=>a2l d k (acc++[x]) i else .ok (acc,i)
def b5o (k:Int) (ts:List Tok) (i:Nat):PE Pr:=F4 ts i fun i=>.ok (prM k [] A4 [] [] D3 [] [] [] D4,i)
def a3L (k:Int) (d:Int) (ts:List Tok) (i:Nat):PE Pr:=I2 (b2F ts) i fun r ts=>F4 ts i fun i=>
 if r.name≠[] then P8 (rec (d+1) false i) fun x i=>.ok (prM k [] A4 [] [] r [] [x] [] D4,i)
 else P8 (a2l R rec (d+1) (R.length - i) [] i) fun l i=>.ok (prM k [] A4 [] [] r [] l [] D4,i)
def a0Y (k:Int) (row:List Tok→E Gu) (d:Int) (ts:List Tok) (i:Nat):PE Pr:=I2 (b2F ts) i fun r ts=>F4 ts i fun i=>
 P8 (a1P R rec row (if r.name≠[] then 1 else 0) (if r.name≠[] then 1 else 16) (d+1) i) fun l i=>.ok (prM k [] A4 [] [] r l [] [] D4,i)
def c3a (d:Int) (ts:List Tok) (i:Nat):PE Pr:=if isM 2 [80,65,82] ts then F4 ts.tail i fun i=>P8 (rec (d+1) false i) fun x i=>P8 (rec (d+1) false i) fun y i=>.ok (prM 10 [] A4 [] [] D3 [] [x,y] [] D4,i)
 else V1 2 [65,76,84] ts i fun r=>a0Y R rec 13 a71 d r i
def c2B (d:Int) (ts:List Tok) (i:Nat):PE Pr:=I2 (M1 ts) i fun e r=>F4 r i fun i=>P8 (a1P R rec b5a 0 16 (d+1) i) fun l i=>.ok (prM 15 [] A4 [] [e] D3 l [] [] D4,i)
def b6K (d:Int) (ts:List Tok) (i:Nat):PE Pr:=I2 (M1 ts) i fun e r=>F4 r i fun i=>P8 (rec (d+1) false i) fun x i=>.ok (prM 16 [] A4 [] [e] D3 [] [x] [] D4,i)
def b3Z (ts:List Tok):Option Int:=match ts with
 | [t]=>if t.kind=3∧0≤t.n∧t.n < 8 then some t.n else none
 | _=>none
def W6 (d:Int):Nat→List Int→List Pr→Nat→PE (List Int × List Pr)
 | 0,ns,acc,i=>if acc.length=0 then .error (110,i) else .ok ((ns,acc),i)
 | k+1,ns,acc,i=>if acc.length=0∨(acc.length < 8∧O6 R (d+1) i=true) then a0N R (d+1) i fun ts=>V1 2 [80,82,79,67,69,83,83,79,82] ts i fun r=>match b3Z r with
     | some n=>P8 (rec (d+2) false (i+1)) fun x i=>W6 d k (ns++[n]) (acc++[x]) i
     | none=>.error (110,i)
   else .ok ((ns,acc),i)
def a6y (d:Int) (ts:List Tok) (i:Nat):PE Pr:=V1 2 [80,65,82] ts i fun r=>F4 r i fun i=>P8 (W6 R rec d (R.length - i) [] [] i) fun x i=>.ok (prM 11 [] A4 [] [] D3 [] x.2 x.1 D4,i)
def a3R (d:Int) (ts:List Tok) (i:Nat):PE Pr:=
 if (ts.headD Go.Ty.zeroK).kind=1∧isM 5 [40] ts.tail=true then I2 (V0 ts) i fun n r=>I2 (brM M1 r) i fun l r=>F4 r i fun i=>.ok (prM 17 n A4 [] l D3 [] [] [] D4,i)
 else I2 (P4 L3 [44] 8 ts) i fun f r=>
   if isM 5 [58,61] r then I2 (P4 M1 [44] 8 r.tail) i fun l r=>F4 r i fun i=>.ok (prM 3 [] A4 f l D3 [] [] [] D4,i)
   else if f.length > 1 then .error (110,i)
   else if isM 5 [33] r then I2 (P4 M1 [59] 9 r.tail) i fun l r=>F4 r i fun i=>.ok (prM 5 [] (f.headD A4) [] l D3 [] [] [] D4,i)
   else V1 5 [63] r i fun r=>
     if isM 2 [67,65,83,69] r then F4 r.tail i fun i=>P8 (a1P R rec b3c 1 16 (d+1) i) fun l i=>.ok (prM 7 [] (f.headD A4) [] [] D3 l [] [] D4,i)
     else if isM 2 [65,70,84,69,82] r then I2 (M1 r.tail) i fun e r=>F4 r i fun i=>.ok (prM 6 [] (f.headD A4) [] [e] D3 [] [] [] D4,i)
     else I2 (P4 L3 [59] 8 r) i fun l r=>F4 r i fun i=>.ok (prM 4 [] (f.headD A4) l [] D3 [] [] [] D4,i)
def vrM (tag:B) (l:List Int):Vr:=⟨tag,none,l.length,0,l⟩
def a1w (ts:List Tok):E Vr:=O5 (V0 ts) fun n r=>if isM 5 [59] r then O5 (P4 a5n [59] 8 r.tail) fun l r=>.ok (vrM n l,r) else .ok (vrM n [],r)
def a0L (d:Int):Nat→List Vr→Nat→PE (List Vr)
 | 0,acc,i=>if acc.length=0 then .error (110,i) else .ok (acc,i)
 | k+1,acc,i=>if acc.length=0∨O6 R (d+2) i=true then a0N R (d+2) i fun ts=>I2 (a1w ts) i fun v r=>if Go.Ty.mayPr true (acc++[v]) then F4 r i fun i=>a0L d k (acc++[v]) i else .error (110,i)
   else .ok (acc,i)
def a5G (d:Int) (ts:List Tok) (i:Nat):PE (Bool × List Vr):=
 if isM 2 [73,83] ts then I2 (P4 a5n [59] 8 ts.tail) i fun l r=>V1 5 [58] r i fun r=>F4 r i fun i=>.ok ((false,[vrM [] l]),i)
 else F4 ts i fun i=>a2t R (d+1) 2 [67,65,83,69] i fun i=>P8 (a0L R d (R.length - i) [] i) fun l i=>a2t R d 5 [58] i fun i=>.ok ((true,l),i)
def b0w (s:Sp) (ts:List Tok) (i:Nat):PE (Option Sp):=V1 5 [58] ts i fun r=>if spP s then F4 r i fun i=>.ok (some s,i) else .error (110,i)
def a5Y (d:Int) (ts:List Tok) (i:Nat):PE (Option Sp):=
 if isM 2 [80,82,79,84,79,67,79,76] ts then I2 (V0 ts.tail) i fun n r=>P8 (a5G R d r i) fun p i=>.ok (some (spM 4 Go.Ty.zeroT [n] A4 p.1 p.2 [] []),i)
 else if isM 2 [80,82,79,67] ts then I2 (V0 ts.tail) i fun n r=>I2 (brM a4m r) i fun fs r=>F4 r i fun i=>P8 (rec (d+1) false i) fun x i=>a2t R d 5 [58] i fun i=>.ok (some (spM 5 Go.Ty.zeroT [n] A4 false [] fs [x]),i)
 else if isM 2 [86,65,76] ts then I2 (a7w ts.tail) i fun t r=>I2 (V0 r) i fun n r=>V1 2 [73,83] r i fun r=>I2 (M1 r) i fun e r=>b0w (spM 2 t [n] e false [] [] []) r i
 else if isM 5 [91] ts||isM 2 [73,78,84] ts||isM 2 [66,89,84,69] ts||isM 2 [66,79,79,76] ts||isM 2 [67,72,65,78] ts||isM 2 [84,73,77,69,82] ts then I2 (a7w ts) i fun t r=>I2 (P4 V0 [44] 8 r) i fun ns r=>
   if isM 2 [73,83] r then I2 (L3 r.tail) i fun e r=>b0w (spM 3 t ns e false [] [] []) r i else b0w (spM 1 t ns A4 false [] [] []) r i
 else .ok (none,i)
def a3h (s:B):Option (Int→List Tok→Nat→PE Pr):=
 if s=[83,75,73,80] then some fun _ ts i=>b5o 1 ts i else if s=[83,84,79,80] then some fun _ ts i=>b5o 2 ts i
 else if s=[83,69,81] then some (a3L R rec 8) else if s=[80,65,82] then some (a3L R rec 9)
 else if s=[80,82,73] then some (c3a R rec) else if s=[65,76,84] then some (a0Y R rec 12 a71) else if s=[73,70] then some (a0Y R rec 14 ifM)
 else if s=[67,65,83,69] then some (c2B R rec) else if s=[87,72,73,76,69] then some (b6K rec) else if s=[80,76,65,67,69,68] then some (a6y R rec) else none
def a6h (d:Int) (top:Bool) (ts:List Tok) (i:Nat):PE Pr:=match ts with
 | []=>.error (110,i)
 | t::r=>match a3h R rec t.text with
   | some f=>if t.kind=2∧(top=true∨t.text≠[80,76,65,67,69,68]) then f d r i else a3R R rec d ts i
   | none=>a3R R rec d ts i
def c1i (d:Int) (top:Bool) (i:Nat):PE Pr:=a0N R d i fun ts=>P8 (a5Y R rec d ts i) fun so i=>match so with
   | some s=>P8 (rec d top i) fun x i=>.ok (prM 18 [] A4 [] [] D3 [] [x] [] s,i)
   | none=>a6h R rec d top ts i
end
def C1 (R:List Rw):Nat→Int→Bool→Nat→PE Pr
 | 0=>fun _ _ i=>.error (110,i)
 | n+1=>c1i R (C1 R n)
def b0d (R:List Rw):PE Pr:=P8 (C1 R R.length 0 true 0) fun x i=>match R[i]? with
 | none=>.ok (x,i)
 | some y=>.error (if (Go.Lx.lexO y.text).2.2≠0 then (Go.Lx.lexO y.text).2.2 else 110,i)
def S2 (R:List Rw):Pr × Nat × Int:=if Go.Ly.mayP R then (match b0d R with
   | .ok (x,_)=>(x,0,0)
   | .error (e,i)=>(prM 0 [] A4 [] [] D3 [] [] [] D4,i,e)) else (prM 0 [] A4 [] [] D3 [] [] [] D4,0,2)
end Go.Sx
end
section
namespace Go.Lx
open Go.Ty
theorem b1i (s:B):(K4 s).2≤s.length:=by
 unfold K4
 split
 · exact Nat.zero_le _
 · rename_i h
   have h1:1≤s.length:=by
     cases s with
     | nil=>exact absurd rfl h
     | cons a t=>simp
   split
   · exact h1
   · split
     · exact Nat.zero_le _
     · rename_i h2
       have h2:2≤s.length:=by simp at h2;omega
       split
       · exact h2
       · split
         · exact Nat.zero_le _
         · rename_i h4
           have h4:4≤s.length:=by simp at h4;omega
           split
           · exact Nat.zero_le _
           · exact h4
theorem b2m (r:B):(tok r).2≤r.length:=by
 have h0:=a4D r
 have h1:=a4D (r.drop 1)
 have h2:=b1i (r.drop 1)
 have h3:(r.drop 1).length=r.length - 1:=List.length_drop
 cases r with
 | nil=>decide
 | cons c r=>
   simp only[List.length_cons] at h0 h1 h2 h3 ⊢
   unfold tok
   split
   · unfold a2R
     split
     · exact h0
     · split
       · exact Nat.zero_le _
       · exact h0
   · split
     · unfold a8m
       split
       · exact Nat.zero_le _
       · split
         · exact Nat.zero_le _
         · split
           · exact Nat.zero_le _
           · exact h0
     · split
       · unfold a9Q
         split
         · exact Nat.zero_le _
         · split
           · exact Nat.zero_le _
           · show 1+run (List.drop 1 (c::r))≤_
             omega
       · split
         · unfold a00
           split
           · exact Nat.zero_le _
           · rename_i h
             unfold noQ at h
             simp only[Bool.not_eq_true,Bool.or_eq_false_iff] at h
             have:(K4 (List.drop 1 (c::r))).2≠(List.drop 1 (c::r)).length:=fun e=>by
               have:=h.1.2
               rw[e] at this
               simp at this
             show(K4 (List.drop 1 (c::r))).2+2≤_
             omega
         · unfold a60
           split
           · rename_i h
             simp only[Bool.and_eq_true,decide_eq_true_eq] at h
             exact h.1
           · split
             · show 1≤_
               omega
             · exact Nat.zero_le _
def a6M (r:B):Nat→Tok × Nat
 | 0=>(zeroK,0)
 | k+1=>if sym (r.take (k+1)) then (⟨5,0,r.take (k+1),0⟩,k+1) else a6M r k
theorem b6f (r:B):a60 r=a6M r (min 2 r.length):=by
 match r with
 | []=>rfl
 | [a]=>rfl
 | a::b::s=>
   rw[show min 2 (a::b::s).length=2 by simp]
   unfold a60 a6M a6M a6M
   simp
theorem G7:∀ (n k1 k2:Nat) (r:B) (p:Nat),r.length≤n→n≤k1→n≤k2→a6r k1 r p=a6r k2 r p
 | _,k1,k2,[],p,_,_,_=>by cases k1 <;> cases k2 <;> rfl
 | 0,_,_,c::r,p,h,_,_=>by simp at h
 | n+1,k1,k2,c::r,p,h,h1,h2=>by
   obtain⟨j1,rfl⟩:∃ j,k1=j+1:=⟨k1 - 1,by omega⟩
   obtain⟨j2,rfl⟩:∃ j,k2=j+1:=⟨k2 - 1,by omega⟩
   have hr:r.length≤n:=by simpa using h
   unfold a6r
   rw[G7 n j1 j2 r (p+1) hr (by omega) (by omega)]
   by_cases hn:(tok (c::r)).2==0
   · simp only[hn,if_true]
   · have hn':(tok (c::r)).2≠0:=by simpa using hn
     rw[G7 n j1 j2 ((c::r).drop (tok (c::r)).2) (p+(tok (c::r)).2) (by rw[List.length_drop,List.length_cons];omega) (by omega) (by omega)]
def lx (r:B) (p:Nat):Except Nat (List Tok):=a6r r.length r p
def a4O (l:List Tok):Except Nat (List Tok)→Except Nat (List Tok)
 | .ok m=>.ok (l++m)
 | .error e=>.error e
theorem b8Q (x:Except Nat (List Tok)):a4O [] x=x:=by cases x <;> rfl
theorem b7Q (l m:List Tok) (x:Except Nat (List Tok)):a4O l (a4O m x)=a4O (l++m) x:=by
 cases x with
 | error e=>rfl
 | ok k=>simp[a4O]
theorem c1L (p:Nat):lx [] p=.ok []:=rfl
theorem a6U (r:B) (p:Nat):lx (32::r) p=lx r (p+1):=by
 show a6r (r.length+1) (32::r) p=_
 unfold a6r
 rw[if_pos (by decide)]
 rfl
theorem lx_bad {c:UInt8} {r:B} {p:Nat} (hc:c≠32) (hn:(tok (c::r)).2=0):lx (c::r) p=.error p:=by
 have e:((c.toNat:Int)==32)=false:=by
   cases h:(c.toNat:Int)==32 with
   | false=>rfl
   | true => exact absurd (UInt8.toNat.inj (by have := eq_of_beq h; have e : c.toNat = 32 := by exact_mod_cast this
                                               rw[e];rfl)) hc
 show(if (c.toNat:Int)==32 then _ else if (tok (c::r)).2==0 then Except.error p else _)=_
 rw[e,hn]
 rfl
theorem lx_tok {c:UInt8} {r:B} {p:Nat} (hc:c≠32) (hn:(tok (c::r)).2≠0):lx (c::r) p=a4O [{ (tok (c::r)).1 with at_:=p }] (lx ((c::r).drop (tok (c::r)).2) (p+(tok (c::r)).2)):=by
 have e:((c.toNat:Int)==32)=false:=by
   cases h:(c.toNat:Int)==32 with
   | false=>rfl
   | true => exact absurd (UInt8.toNat.inj (by have := eq_of_beq h; have e : c.toNat = 32 := by exact_mod_cast this
                                               rw[e];rfl)) hc
 have e2:((tok (c::r)).2==0)=false:=by simpa using hn
 show(if (c.toNat:Int)==32 then _ else if (tok (c::r)).2==0 then Except.error p else match a6r r.length ((c::r).drop (tok (c::r)).2) (p+(tok (c::r)).2) with
     | .ok l=>.ok ({ (tok (c::r)).1 with at_:=p }::l)
     | .error e=>.error e)=_
 rw[e,e2]
 simp only[Bool.false_eq_true,if_false]
 rw[G7 ((c::r).drop (tok (c::r)).2).length r.length ((c::r).drop (tok (c::r)).2).length _ _ (Nat.le_refl _) (by rw[List.length_drop,List.length_cons];omega) (Nat.le_refl _)]
 unfold lx
 cases a6r ((c::r).drop (tok (c::r)).2).length ((c::r).drop (tok (c::r)).2) (p+(tok (c::r)).2) <;> rfl
def c4I:Except Nat (List Tok)→List Tok × Int × Int
 | .ok l=>(l,0,0)
 | .error a=>([],a,80)
theorem a4i {s:B} (h:decide ((s.length:Int) > 256)=true):lexO s=([],0,3):=by unfold lexO;rw[h];rfl
theorem a4G {s:B} (h:decide ((s.length:Int) > 256)=false):lexO s=c4I (lx s 0):=by
 unfold lexO lx
 rw[h]
 cases a6r s.length s 0 <;> rfl
theorem Z6 {s:B} {p:Nat} {c:UInt8} (h:s[p]?=some c):s.drop p=c::s.drop (p+1):=by
 have h1:p < s.length:=(List.getElem?_eq_some_iff.1 h).1
 rw[List.drop_eq_getElem_cons h1,(List.getElem?_eq_some_iff.1 h).2]
theorem b3o {s:B} {p:Nat} {l:List Tok} (h:s[p]?=some 32) (hJ:lx s 0=a4O l (lx (s.drop p) p)):lx s 0=a4O l (lx (s.drop (p+1)) (p+1)):=by
 rw[Z6 h,a6U] at hJ
 exact hJ
theorem b6x {s:B} {p:Nat} {c:UInt8} {l:List Tok} (h:s[p]?=some c) (hc:c≠32) (hn:(tok (s.drop p)).2=0) (hJ:lx s 0=a4O l (lx (s.drop p) p)):lx s 0=.error p:=by
 rw[Z6 h] at hn hJ
 rw[lx_bad hc hn] at hJ
 exact hJ
theorem b8S {s:B} {p:Nat} {c:UInt8} {l:List Tok} (h:s[p]?=some c) (hc:c≠32) (hn:(tok (s.drop p)).2≠0) (hJ:lx s 0=a4O l (lx (s.drop p) p)) :
   lx s 0=a4O (l++[{ (tok (s.drop p)).1 with at_:=p }]) (lx (s.drop (p+(tok (s.drop p)).2)) (p+(tok (s.drop p)).2)):=by
 have e:=Z6 h
 rw[e] at hn hJ ⊢
 rw[lx_tok hc hn,b7Q,← e,List.drop_drop] at hJ
 rw[e] at hJ
 exact hJ
theorem b4w (c:UInt8):((c.toNat:Int)==32)=(c==32):=by simpa using Y0 (p:=fun c=>((c.toNat:Int)==32)==(c==32)) (by decide +kernel) c
end Go.Lx
end
section
namespace Go.Lx
open Go.Ty
def a0f (u:Nat):Nat→B
 | 0=>[]
 | i+1=>O0.getD (u / 16 ^ i % 16) 0::a0f u i
theorem a4A (u:Nat):∀ i,(a0f u i).length=i
 | 0=>rfl
 | i+1=>by show(a0f u i).length+1=_;rw[a4A u i]
def a1t (v:Int) (hex:Bool):B:=if hex then 35::a0f (IntKind.u32.wrap v).toNat 8 else Lib.itoa v
def c2D:B:=[13,10,9,39,42]
def b0r:B:=[99,110,116,39,42]
def shI (v:Nat):Int:=Lib.indexByte c2D (UInt8.ofNat v)
def a4y (v:Nat):B:=
 if decide (shI v ≥ 0) then [42,b0r.getD (shI v).toNat 0]
 else if decide ((v:Int) < 32)||decide ((v:Int) > 126) then [42,35,O0.getD (v / 16) 0,O0.getD (v % 16) 0]
 else [UInt8.ofNat v]
def a0M (t:Tok):B:=if t.kind==3 then a1t t.n (decide (t.n < 0)) else if t.kind==4 then [39]++a4y t.n.toNat++[39] else t.text
def a9L (t:Tok) (s:B):Bool:=(t.kind==5)&&Lib.contains s t.text
def b7M:B:=[44,59,58,41,93]
def b3C:B:=[40,91]
def gap (p t:Tok):Bool:=!a9L t b7M&&!a9L p b3C&&((p.kind != 1)||!a9L t b3C)
def a8w:Option Tok→Tok→Bool
 | none,_=>false
 | some p,t=>gap p t
def sep (b:Bool):B:=if b then [32] else []
def textL:Option Tok→List Tok→B
 | _,[]=>[]
 | p,t::l=>sep (a8w p t)++a0M t++textL (some t) l
def a3r (p:Option Tok):List Tok→Option Tok
 | []=>p
 | t::l=>a3r (some t) l
theorem a5E:∀ (l m:List Tok) (p:Option Tok),textL p (l++m)=textL p l++textL (a3r p l) m
 | [],m,p=>rfl
 | t::l,m,p=>by
   show sep (a8w p t)++a0M t++textL (some t) (l++m)=sep (a8w p t)++a0M t++textL (some t) l++textL (a3r (some t) l) m
   rw[a5E l m (some t)]
   simp
theorem a6H:∀ (l:List Tok) (i:Nat) (p:Option Tok) (t:Tok),l[i]?=some t→a3r p (l.take (i+1))=some t
 | [],i,p,t,h=>by cases i <;> cases h
 | x::l,0,p,t,h=>by cases h;cases l <;> rfl
 | x::l,i+1,p,t,h=>by
   show a3r (some x) (l.take (i+1))=some t
   exact a6H l i (some x) t (by simpa using h)
theorem b3j {l:List Tok} {i:Nat} {t:Tok} (p:Option Tok) (h:l[i]?=some t):textL p (l.take (i+1))=textL p (l.take i)++(sep (a8w (a3r p (l.take i)) t)++a0M t):=by
 have h1:i < l.length:=(List.getElem?_eq_some_iff.1 h).1
 have e:l.take (i+1)=l.take i++[t]:=by
   rw[List.take_add_one,h]
   rfl
 rw[e,a5E]
 show textL p (l.take i)++(sep _++a0M t++[])=_
 simp
def textO (l:List Tok):B × Int:=
 if l.any fun t=>!J8 t then ([],2) else if decide (((textL none l).length:Int) > 256) then ([],3) else (textL none l,0)
theorem b4z {l:List Tok} (h:l.any (fun t=>!J8 t)=true):textO l=([],2):=by unfold textO;rw[h];rfl
theorem b2j {l:List Tok} (h:l.any (fun t=>!J8 t)=false) {i:Nat} (hi:256 < (textL none (l.take i)).length):textO l=([],3):=by
 unfold textO
 rw[h]
 have:decide (((textL none l).length:Int) > 256)=true:=by
   have e:textL none l=textL none (l.take i)++textL (a3r none (l.take i)) (l.drop i):=by rw[← a5E,List.take_append_drop]
   rw[e,List.length_append]
   simp
   omega
 rw[this]
 rfl
theorem b8V {l:List Tok} (h:l.any (fun t=>!J8 t)=false) (hl:(textL none l).length≤256):textO l=(textL none l,0):=by
 unfold textO
 rw[h]
 have:decide (((textL none l).length:Int) > 256)=false:=by simp;omega
 rw[this]
 rfl
theorem a8L (v:Nat):(a4y v).length≤4:=by
 unfold a4y
 split
 · simp
 · split <;> simp
theorem a9M:∀ (n u:Nat),u≤n→(Lib.decDigits u).length≤u+1
 | n,u,h=>by
   unfold Lib.decDigits
   split
   · simp
   · rename_i h10
     cases n with
     | zero=>omega
     | succ n=>
       have:=a9M n (u / 10) (by omega)
       rw[List.length_append,List.length_singleton]
       omega
theorem b5z {v:Int} (b:Bool) (h:-2147483648≤v∧v≤2147483647):(a1t v b).length≤3000000000:=by
 unfold a1t
 split
 · rw[List.length_cons,a4A];omega
 · unfold Lib.itoa
   split
   · have:=a9M _ v.natAbs (Nat.le_refl _);rw[List.length_cons];omega
   · have:=a9M _ v.toNat (Nat.le_refl _);omega
theorem b4C {t:Tok} (h:-2147483648≤t.n∧t.n≤2147483647) (hs:t.text.length≤140737488355328):(a0M t).length≤140737488355328:=by
 unfold a0M
 split
 · have:=b5z (decide (t.n < 0)) h;omega
 · split
   · have:=a8L t.n.toNat
     simp only[List.length_append,List.length_singleton]
     omega
   · exact hs
theorem b2Z (u:Nat) (i:Nat):a0f u (i+1)=O0.getD (u / 16 ^ i % 16) 0::a0f u i:=rfl
end Go.Lx
end
section
namespace Go.Lx
open Go.Ty
set_option maxRecDepth 100000
def c3o (t:Tok) (n:Nat) (c:UInt8):Bool:=
 if t.kind==4 then true else if t.kind==5 then (n==2)||!sym (t.text++[c]) else !wch c
def stop (t:Tok) (n:Nat) (y:B):Prop:=∀ c,y[n]?=some c→c3o t n c=true
theorem b2Q {x:B} {t:Tok} {n:Nat} (h:a2R x=(t,n)) (hn:n≠0):run x=n∧(t.kind=1∨t.kind=2)∧t.text=x.take n∧t.n=0∧t.at_=0:=by
 unfold a2R at h
 split at h
 · cases h;exact⟨rfl,.inr rfl,rfl,rfl,rfl⟩
 · split at h
   · cases h;exact absurd rfl hn
   · cases h;exact⟨rfl,.inl rfl,rfl,rfl,rfl⟩
theorem b8d {x:B} {t:Tok} {n:Nat} (h:a8m x=(t,n)) (hn:n≠0):run x=n∧t.kind=3∧t.text=[]∧t.at_=0:=by
 unfold a8m at h
 split at h
 · cases h;exact absurd rfl hn
 · split at h
   · cases h;exact absurd rfl hn
   · split at h
     · cases h;exact absurd rfl hn
     · cases h;exact⟨rfl,rfl,rfl,rfl⟩
theorem b7l {x:B} {t:Tok} {n:Nat} (h:a9Q x=(t,n)) (hn:n≠0):1+run (x.drop 1)=n∧t.kind=3∧t.text=[]∧t.at_=0:=by
 unfold a9Q at h
 split at h
 · cases h;exact absurd rfl hn
 · split at h
   · cases h;exact absurd rfl hn
   · cases h;exact⟨rfl,rfl,rfl,rfl⟩
theorem b56 {x:B} {t:Tok} {n:Nat} (h:a00 x=(t,n)) (hn:n≠0):noQ (x.drop 1) (K4 (x.drop 1)).2=false∧t=⟨4,0,[],(K4 (x.drop 1)).1⟩∧n=(K4 (x.drop 1)).2+2:=by
 unfold a00 at h
 split at h
 · cases h;exact absurd rfl hn
 · rename_i hq;cases h;exact⟨by simpa using hq,rfl,rfl⟩
theorem b5F {x:B} {t:Tok} {n:Nat} (h:a60 x=(t,n)) (hn:n≠0):t=⟨5,0,x.take n,0⟩∧sym (x.take n)=true∧n≤x.length∧(n=2∨n=1∧(2≤x.length→sym (x.take 2)=false)):=by
 unfold a60 at h
 split at h
 · rename_i hc
   simp only[Bool.and_eq_true,decide_eq_true_eq] at hc
   cases h
   exact⟨rfl,hc.2,hc.1,.inl rfl⟩
 · rename_i h2
   split at h
   · rename_i hc
     simp only[Bool.and_eq_true,decide_eq_true_eq] at hc
     cases h
     refine⟨rfl,hc.2,hc.1,.inr ⟨rfl,fun hl=>?_⟩⟩
     cases hb:sym (x.take 2) with
     | false=>rfl
     | true=>exact absurd (by rw[hb];simpa using hl) h2
   · cases h;exact absurd rfl hn
end Go.Lx

namespace Go.Lx
open Go.Ty
set_option maxRecDepth 100000
theorem b0y {P:B→Prop} (h0:P []) (h1:∀ r,P r→P (32::r)) (h2:∀ c r,c≠32→(tok (c::r)).2=0→P (c::r))
   (h3:∀ c r,c≠32→(tok (c::r)).2≠0→P ((c::r).drop (tok (c::r)).2)→P (c::r)):∀ r,P r:=by
 have key:∀ n,∀ r:B,r.length≤n→P r:=by
   intro n
   induction n with
   | zero=>intro r hr;cases r with
     | nil=>exact h0
     | cons c r=>simp at hr
   | succ n ih=>
     intro r hr
     cases r with
     | nil=>exact h0
     | cons c r=>
       by_cases hc:c=32
       · subst hc;exact h1 r (ih r (by simpa using hr))
       · by_cases hn:(tok (c::r)).2=0
         · exact h2 c r hc hn
         · exact h3 c r hc hn (ih _ (by rw[List.length_drop];simp only[List.length_cons] at hr ⊢;omega))
 exact fun r=>key r.length r (Nat.le_refl _)
theorem b3x {l:List Tok} {x:Except Nat (List Tok)} {m:List Tok} (h:a4O l x=.ok m):∃ k,x=.ok k∧m=l++k:=by
 cases x with
 | error e=>cases h
 | ok k=>cases h;exact⟨k,rfl,rfl⟩
end Go.Lx

namespace Go.Lx
open Go.Ty
set_option maxRecDepth 100000
theorem b5K {t:Tok} (h:J8 t=true):(t.kind=1∧t.n=0∧name t.text=true)∨(t.kind=2∧t.n=0∧key t.text=true)∨(t.kind=5∧t.n=0∧sym t.text=true)∨(t.kind=4∧t.text=[]∧0≤t.n∧t.n < 256)∨(t.kind=3∧t.text=[]):=by
 unfold J8 at h
 split at h
 · cases h
 · split at h
   · rename_i hk;simp at h hk;exact .inl ⟨hk,h.1,h.2⟩
   · split at h
     · rename_i hk;simp at h hk;exact .inr (.inl ⟨hk,h.1,h.2⟩)
     · split at h
       · rename_i hk;simp at h hk;exact .inr (.inr (.inl ⟨hk,h.1,h.2⟩))
       · split at h
         · rename_i hk;simp at h hk;exact .inr (.inr (.inr (.inl ⟨hk,h.1.1,h.1.2,h.2⟩)))
         · simp at h;exact .inr (.inr (.inr (.inr h)))
end Go.Lx

namespace Go.Lx
open Go.Ty
set_option maxRecDepth 100000
def c4l:Option Tok→Nat→List Tok→List Tok
 | _,_,[]=>[]
 | p,q,t::l=>{ t with at_:=(q+(sep (a8w p t)).length:Nat) }::c4l (some t) (q+(sep (a8w p t)).length+(a0M t).length) l
theorem a8f (v:Int):-2147483648≤IntKind.i32.wrap v∧IntKind.i32.wrap v≤2147483647:=by
 unfold IntKind.wrap
 simp[IntKind.bits,IntKind.signed]
 omega
theorem c1C (c:UInt8):chB a1l (esc c).toNat < 256∧0≤chB a1l (esc c).toNat:=by
 unfold chB
 have:=(a1l.getD (esc c).toNat 0).toNat_lt
 omega
theorem b59 (s:B):0≤(K4 s).1∧(K4 s).1 < 256:=by
 unfold K4
 split
 · exact⟨Int.le_refl 0,show(0:Int) < 256 by decide⟩
 · split
   · have:=(s.getD 0 0).toNat_lt
     show 0≤chB s 0∧chB s 0 < 256
     unfold chB
     omega
   · split
     · exact⟨Int.le_refl 0,show(0:Int) < 256 by decide⟩
     · split
       · have:=c1C (s.getD 1 0)
         exact⟨this.2,this.1⟩
       · split
         · exact⟨Int.le_refl 0,show(0:Int) < 256 by decide⟩
         · split
           · exact⟨Int.le_refl 0,show(0:Int) < 256 by decide⟩
           · show 0≤(a0b _).1∧(a0b _).1 < 256
             unfold a0b
             rw[a3n]
             cases hv:a6s 16 ((s.drop 2).take 2) 0 with
             | none=>exact⟨Int.le_refl 0,show(0:Int) < 256 by decide⟩
             | some v=>
               have hb:=a1x (by decide) a4h _ 0 v (by decide) hv
               have hl:((s.drop 2).take 2).length≤2:=by rw[List.length_take];omega
               have hp:(16:Int) ^ ((s.drop 2).take 2).length≤16 ^ 2:=by exact_mod_cast Nat.pow_le_pow_right (by decide) hl
               simp only
               omega
theorem c0W {c:UInt8} {r:B} {t:Tok} {n:Nat} (h:tok (c::r)=(t,n)) (hn:n≠0) {z:Int} (hz:0≤z∧z < 256):J8 { t with at_:=z }=true∧(-2147483648≤t.n∧t.n≤2147483647):=by
 have h0:(decide (z < 0)||decide (z ≥ 256))=false:=by simp;omega
 unfold tok at h
 rw[a2y] at h
 split at h
 · rename_i hl
   obtain⟨hr,_⟩:=b2Q h hn
   unfold a2R at h
   split at h
   · rename_i hk
     cases h
     refine⟨?_,by show(-2147483648:Int)≤0∧(0:Int)≤2147483647;omega⟩
     unfold J8
     simp only[h0,hk]
     rfl
   · rename_i hk
     split at h
     · cases h;exact absurd rfl hn
     · rename_i h32
       cases h
       refine⟨?_,by show(-2147483648:Int)≤0∧(0:Int)≤2147483647;omega⟩
       unfold J8
       simp only[h0,b5Z hl (by simpa using hk)]
       simpa using h32
 · split at h
   · obtain⟨_,hk,htx,_⟩:=b8d h hn
     refine⟨?_,?_⟩
     · unfold J8
       simp only[h0,hk,htx]
       rfl
     · unfold a8m at h
       split at h
       · cases h;exact absurd rfl hn
       · split at h
         · cases h;exact absurd rfl hn
         · split at h
           · cases h;exact absurd rfl hn
           · cases h;exact a8f _
   · split at h
     · obtain⟨_,hk,htx,_⟩:=b7l h hn
       refine⟨?_,?_⟩
       · unfold J8
         simp only[h0,hk,htx]
         rfl
       · unfold a9Q at h
         split at h
         · cases h;exact absurd rfl hn
         · split at h
           · cases h;exact absurd rfl hn
           · cases h;exact a8f _
     · split at h
       · obtain⟨_,htk,_⟩:=b56 h hn
         have hv:=b59 r
         subst htk
         refine⟨?_,by show -2147483648≤(K4 r).1∧(K4 r).1≤2147483647;omega⟩
         unfold J8
         simp only[h0]
         simp
         omega
       · obtain⟨htk,hsy,_,_⟩:=b5F h hn
         subst htk
         refine⟨?_,by show(-2147483648:Int)≤0∧(0:Int)≤2147483647;omega⟩
         unfold J8
         simp only[h0,hsy]
         rfl
theorem c0h:∀ s ∈ b3r,s.length≤32:=by decide +kernel
theorem b9W:∀ s ∈ b1b,s.length≤32:=by decide +kernel
theorem may_len {t:Tok} (h:J8 t=true):t.text.length≤32:=by
 rcases b5K h with ⟨_,_,h3⟩ | ⟨_,_,h3⟩ | ⟨_,_,h3⟩ | ⟨_,h3,_⟩ | ⟨_,h3⟩
 · unfold name at h3
   simp only[Bool.and_eq_true,decide_eq_true_eq] at h3
   have:=h3.1.1.1.2
   omega
 · exact c0h _ ((a1i _ _).1 (by rw[c2H] at h3;exact h3))
 · exact b9W _ ((a1i _ _).1 (by rw[c1H] at h3;exact h3))
 · rw[h3];exact Nat.zero_le _
 · rw[h3];exact Nat.zero_le _
theorem lx_may:∀ (r:B) (p:Nat) (l:List Tok),lx r p=.ok l→p+r.length≤256→∀ x,x ∈ l→J8 x=true∧(-2147483648≤x.n∧x.n≤2147483647):=by
 refine b0y ?_ ?_ ?_ ?_
 · intro p l h _ x hx;cases h;cases hx
 · intro r ih p l h hp x hx
   rw[a6U] at h
   exact ih _ _ h (by simp only[List.length_cons] at hp;omega) x hx
 · intro c r hc hn p l h
   rw[lx_bad hc hn] at h
   cases h
 · intro c r hc hn ih p l h hp x hx
   rw[lx_tok hc hn] at h
   obtain⟨k,hk,rfl⟩:=b3x h
   have hle:=b2m (c::r)
   rcases List.mem_append.1 hx with hx | hx
   · cases List.mem_singleton.1 hx
     exact c0W (show tok (c::r)=((tok (c::r)).1,(tok (c::r)).2) from rfl) hn (z:=(p:Int)) (by simp only[List.length_cons] at hp;omega)
   · exact ih _ _ hk (by rw[List.length_drop];omega) x hx
end Go.Lx

namespace Go.Lx
open Go.Ty
set_option maxRecDepth 100000
theorem lx_len:∀ (r:B) (p:Nat) (l:List Tok),lx r p=.ok l→l.length≤r.length:=by
 refine b0y ?_ ?_ ?_ ?_
 · intro p l h;cases h;exact Nat.le_refl _
 · intro r ih p l h
   rw[a6U] at h
   have:=ih _ _ h
   simp only[List.length_cons]
   omega
 · intro c r hc hn p l h
   rw[lx_bad hc hn] at h
   cases h
 · intro c r hc hn ih p l h
   rw[lx_tok hc hn] at h
   obtain⟨k,hk,rfl⟩:=b3x h
   have:=ih _ _ hk
   have hle:=b2m (c::r)
   rw[List.length_drop] at this
   simp only[List.length_append,List.length_singleton]
   omega
theorem lexO_ok {s:B} {l:List Tok} {z:Int} (h:lexO s=(l,z,0)):s.length≤256∧lx s 0=.ok l∧z=0:=by
 cases hd:decide ((s.length:Int) > 256) with
 | true=>rw[a4i hd] at h;cases h
 | false=>
   rw[a4G hd] at h
   cases hx:lx s 0 with
   | error e=>rw[hx] at h;cases h
   | ok m=>
     rw[hx] at h
     cases h
     have:=of_decide_eq_false hd
     exact⟨by omega,rfl,rfl⟩
theorem lexO_no {s:B} {l:List Tok} {z e:Int} (h:lexO s=(l,z,e)) (he:e≠0):l=[]:=by
 cases hd:decide ((s.length:Int) > 256) with
 | true=>rw[a4i hd] at h;cases h;rfl
 | false=>
   rw[a4G hd] at h
   cases hx:lx s 0 with
   | error e=>rw[hx] at h;cases h;rfl
   | ok m=>rw[hx] at h;cases h;exact absurd rfl he
end Go.Lx
end
section
namespace Go.Xp
open Go.Eng Go
open Go.Ty (Tok B4)
open Go.Lx (J8)
set_option maxRecDepth 100000
def a74 (ts:List Tok):Prop:=C9 ts≠C3 [91]
def b06 (ts:List Tok):Prop:=opF (C9 ts) 22 1=0
theorem G4 {t:Tok} {r:List Tok} (h:J8 t=true) (ha:t.at_=0):C9 (t::r)=t:=by
 rw[a3V,if_pos h]
 cases t
 cases ha
 rfl
theorem M7 {ins:B→B→List Tok→a0a} {ts:List Tok} {t:Tok} (h:C9 ts=t):Q0 ins ts=if t.kind=3 then .ok (sx 1 0 0 t.n [] [],ts.tail) else if t.kind=4 then .ok (sx 2 0 0 t.n [] [],ts.tail)
 else if t=C7 [70,65,76,83,69] then .ok (sx 3 0 0 0 [] [],ts.tail) else if t=C7 [84,82,85,69] then .ok (sx 3 0 0 1 [] [],ts.tail)
 else if t.kind=1 then (if C9 ts.tail=C3 [91] then (match ins [91] [93] ts.tail with
     | .ok (x,r)=>.ok (sx 5 0 0 0 t.text [x],r)
     | .error e=>.error e) else .ok (sx 4 0 0 0 t.text [],ts.tail))
 else if t=C3 [40] then ins [40] [41] ts else .error 100:=by subst h;rfl
theorem V9 {ins:B→B→List Tok→a0a} {ts:List Tok} {t:Tok} (h:C9 ts=t):a0w ins ts=if t=C7 [83,73,90,69] then (if (C9 ts.tail).kind=1 then .ok (sx 9 0 0 0 (C9 ts.tail).text [],ts.tail.tail) else .error 100)
 else if a05 t≠0 then unQ (fun x=>sx 8 0 (a05 t) 0 [] [x]) (Q0 ins ts.tail)
 else if opF t 4 23≠0 then unQ (fun x=>sx 6 (opF t 4 23) 0 0 [] [x]) (Q0 ins ts.tail)
 else match Q0 ins ts with
   | .error e=>.error e
   | .ok (a,r)=>if opF (C9 r) 22 1≠0 then unQ (fun b=>sx 7 (opF (C9 r) 22 1) 0 0 [] [a,b]) (Q0 ins r.tail) else .ok (a,r):=by subst h;rfl
inductive Dp:Nat→Ex→Prop
 | mk {n:Nat} {e:Ex} (h:∀ x ∈ e.l,Dp n x):Dp (n+1) e
theorem Dp.part {n:Nat} {e x:Ex} (d:Dp (n+1) e) (hx:x ∈ e.l):Dp n x:=by cases d with | mk h=>exact h x hx
theorem Dp.pos {n:Nat} {e:Ex} (d:Dp n e):∃ k,n=k+1:=by cases d;exact⟨_,rfl⟩
theorem Dp.up {e:Ex}:∀ {n:Nat},Dp n e→Dp (n+1) e:=by
 refine Ex.ind (p:=fun e=>∀ {n:Nat},Dp n e→Dp (n+1) e) (fun e ih n d=>?_) e
 obtain⟨k,rfl⟩:=d.pos
 exact .mk fun x hx=>ih x hx (d.part hx)
def b6m (t:Tok):Prop:=t.kind=1∨t.kind=3∨t.kind=4∨t=C7 [70,65,76,83,69]∨t=C7 [84,82,85,69]∨t=C3 [40]
theorem b7t {t:Tok} (h:b6m t):t≠C7 [83,73,90,69]∧a05 t=0∧opF t 4 23=0:=by
 have key:t.kind=1∨t.kind=3∨t.kind=4→t≠C7 [83,73,90,69]∧a05 t=0∧opF t 4 23=0:=by
   intro hk
   have hm:∀ s,t≠C7 s:=by
     rintro s rfl
     have:=U5 s
     omega
   have ho:∀ o,t≠J6 o:=fun o=>hm _
   refine⟨hm _,?_,?_⟩
   · unfold a05
     rw[if_neg (hm _),if_neg (hm _),if_neg (hm _)]
   · simp only[opF,if_neg (ho _)]
 rcases h with h | h | h | rfl | rfl | rfl
 · exact key (.inl h)
 · exact key (.inr (.inl h))
 · exact key (.inr (.inr h))
 · decide +kernel
 · decide +kernel
 · decide +kernel
theorem a9B (n:Int):J8 (a6q n)=true:=rfl
theorem a7H {n:Int} (h:0≤n∧n≤255):J8 (a2A n)=true:=by
 unfold J8 a2A
 simp
 omega
theorem a2q {s:B} (h:Go.Lx.name s=true):J8 (E5 s)=true:=by
 unfold J8 E5
 simp[h]
theorem b8U:∀ o,o < 27→1≤o→J8 (J6 (o:Nat))=true:=by decide +kernel
theorem a3U {o:Int} (h:1≤o∧o≤26):J8 (J6 o)=true:=by
 have:=b8U o.toNat (by omega) (by omega)
 rwa [show((o.toNat:Nat):Int)=o by omega] at this
theorem b4o (o:Int):(J6 o).at_=0:=a2U _
theorem c2v:∀ o,o < 27→23≤o→(J6 (o:Nat)≠C7 [83,73,90,69])∧a05 (J6 (o:Nat))=0∧opF (J6 (o:Nat)) 4 23=o:=by decide +kernel
theorem c2p:∀ o,o < 23→1≤o→opF (J6 (o:Nat)) 22 1=o∧J6 (o:Nat)≠C3 [91]:=by decide +kernel
theorem b4j:∀ k,k < 4→1≤k→J8 (C7 (K3 (k:Nat)))=true∧C7 (K3 (k:Nat))≠C7 [83,73,90,69]∧a05 (C7 (K3 (k:Nat)))=k:=by decide +kernel
theorem b1I {s:B} {r:List Tok} (h:J8 (C3 s)=true) (hs:s≠[91]):a74 (C3 s::r):=by
 unfold a74
 rw[G4 h rfl]
 intro q
 exact hs (congrArg Tok.text q)
theorem c0H (r:List Tok):b06 (C3 [93]::r):=by
 unfold b06
 rw[G4 (by decide +kernel) rfl]
 decide +kernel
theorem b9O (r:List Tok):b06 (C3 [41]::r):=by
 unfold b06
 rw[G4 (by decide +kernel) rfl]
 decide +kernel
theorem b7I {f:Nat} {o s:B} {ts r:List Tok} {x:Ex} (ho:J8 (C3 o)=true) (hs:J8 (C3 s)=true) (h:a0w (S9 f) ts=.ok (x,C3 s::r)):S9 (f+1) o s (C3 o::ts)=.ok (x,r):=by
 unfold S9
 rw[G4 ho rfl,if_pos rfl]
 show(match a0w (S9 f) ts with | .error e=>.error e | .ok (x,r)=>if C9 r=C3 s then .ok (x,r.tail) else .error 100:a0a)=_
 rw[h]
 show(if C9 (C3 s::r)=C3 s then .ok (x,(C3 s::r).tail) else .error 100:a0a)=_
 rw[G4 hs rfl,if_pos rfl]
 rfl
section
variable {e:Ex} (hF:Fine e)
include hF
theorem a5w (hn:-2147483648≤e.n∧e.n≤2147483647) (h:e.k=2):0≤e.n∧e.n≤255:=by
 have h1:=hF.ok
 unfold D6 at h1
 simp only[h] at h1
 by_cases hb:a5t .i32 e.n 8=0
 · exact(c4E hn).1 hb
 · simp[hb] at h1
theorem a1d (h:e.k=4∨e.k=5∨e.k=9):Go.Lx.name e.s=true:=by
 have h1:=hF.ok
 unfold D6 at h1
 cases hb:Go.Lx.name e.s with
 | true=>rfl
 | false=>rcases h with h | h | h <;> simp[h,hb] at h1
theorem b0W (ho:0≤e.o∧e.o≤255) (h:e.k=6):23≤e.o∧e.o≤26:=by
 have h1:=hF.ok
 unfold D6 at h1
 simp only[h] at h1
 by_cases h2:e.o < 23
 · simp[h2] at h1
 · have h3:=b89 (o:=e.o) (by omega)
   rw[h3] at h1
   by_cases h4:e.o - 23 ≥ 4
   · simp[h2,h4] at h1
   · omega
theorem b1k (h:e.k=7):1≤e.o∧e.o≤22:=by
 have h1:=hF.ok
 unfold D6 at h1
 simp only[h] at h1
 by_cases h2:e.o < 1
 · simp[h2] at h1
 · by_cases h4:e.o > 22
   · simp[h2,h4] at h1
   · omega
theorem a8E (h:e.k=8):1≤e.t∧e.t≤3:=by
 have h1:=hF.ok
 unfold D6 at h1
 simp only[h] at h1
 by_cases h2:e.t=1
 · omega
 by_cases h3:e.t=2
 · omega
 by_cases h4:e.t=3
 · omega
 simp[K3,h2,h3,h4] at h1
theorem b4B (h:e.k=1∨e.k=2∨e.k=3∨e.k=4∨e.k=9):e.l=[]:=by
 have h1:=hF.ok
 have h2:=hF.num
 have:(D6 e).1=0:=by
   unfold D6 at h1 ⊢
   rcases h with h | h | h | h | h <;> simp only[h] at h1 ⊢ <;> (revert h1;simp) <;> split <;> simp
 rw[this] at h2
 match hl:e.l with
 | []=>rfl
 | _::_=>rw[hl] at h2;simp at h2;omega
end
theorem b2z {e:Ex} (hF:Fine e):C0 e=(if e.k=1 then sx 1 0 0 e.n [] [] else if e.k=2 then sx 2 0 0 e.n [] [] else if e.k=3 then sx 3 0 0 e.n [] [] else if e.k=4 then sx 4 0 0 0 e.s []
   else if e.k=9 then sx 9 0 0 0 e.s [] else if e.k=5 then sx 5 0 0 0 e.s (e.l.map C0) else if e.k=6 then sx 6 e.o 0 0 [] (e.l.map C0) else if e.k=7 then sx 7 e.o 0 0 [] (e.l.map C0) else sx 8 0 e.t 0 [] (e.l.map C0)):=by
 have h1:=hF.ok
 have hl:=b4B hF
 rw[V6]
 unfold D6 at h1
 rcases a1c hF with h | h | h | h | h | h | h | h | h
 · simp only[h] at h1 ⊢
   rw[hl (by omega)]
   simp[fin] at h1
   simp[sx,h1]
 · simp only[h] at h1 ⊢
   rw[hl (by omega)]
   revert h1
   simp only[show ¬ ((2:Int)=1) by decide,if_false,if_true]
   split
   · intro h1;cases h1
   · intro h1
     simp[fin] at h1
     simp[sx,h1]
 · simp only[h] at h1 ⊢
   rw[hl (by omega)]
   revert h1
   simp only[show ¬ ((3:Int)=1) by decide,show ¬ ((3:Int)=2) by decide,if_false,if_true]
   split
   · intro h1;cases h1
   · intro h1
     simp[fin] at h1
     simp[sx,h1]
 · simp only[h] at h1 ⊢
   rw[hl (by omega)]
   revert h1
   cases Go.Lx.name e.s
   · simp
   · intro h1
     simp[fin] at h1
     simp[sx,h1]
 · simp only[h] at h1 ⊢
   rw[hl (by omega)]
   revert h1
   cases Go.Lx.name e.s
   · simp
   · intro h1
     simp[fin] at h1
     simp[sx,h1]
 · simp only[h] at h1 ⊢
   revert h1
   cases Go.Lx.name e.s
   · simp
   · intro h1
     simp[fin] at h1
     simp[sx,h1]
 · simp only[h] at h1 ⊢
   revert h1
   simp only[show ¬ ((6:Int)=1) by decide,show ¬ ((6:Int)=2) by decide,show ¬ ((6:Int)=3) by decide,show ¬ ((6:Int)=4) by decide,show ¬ ((6:Int)=9) by decide,show ¬ ((6:Int)=5) by decide,if_false,if_true]
   split
   · intro h1;cases h1
   · intro h1
     simp[fin] at h1
     simp[sx,h1]
 · simp only[h] at h1 ⊢
   revert h1
   simp only[show ¬ ((7:Int)=1) by decide,show ¬ ((7:Int)=2) by decide,show ¬ ((7:Int)=3) by decide,show ¬ ((7:Int)=4) by decide,show ¬ ((7:Int)=9) by decide,show ¬ ((7:Int)=5) by decide,show ¬ ((7:Int)=6) by decide,if_false,if_true]
   split
   · intro h1;cases h1
   · intro h1
     simp[fin] at h1
     simp[sx,h1]
 · simp only[h] at h1 ⊢
   revert h1
   simp only[show ¬ ((8:Int)=1) by decide,show ¬ ((8:Int)=2) by decide,show ¬ ((8:Int)=3) by decide,show ¬ ((8:Int)=4) by decide,show ¬ ((8:Int)=9) by decide,show ¬ ((8:Int)=5) by decide,show ¬ ((8:Int)=6) by decide,show ¬ ((8:Int)=7) by decide,if_false,if_true]
   split
   · intro h1;cases h1
   · intro h1
     simp[fin] at h1
     simp[sx,h1]
theorem a7a {e:Ex} (hF:Fine e) (hn:-2147483648≤e.n∧e.n≤2147483647) (rest:List Tok):b6m (C9 (C6 e++rest)):=by
 rcases a1c hF with h | h | h | h | h | h | h | h | h
 · rw[show C6 e++rest=a6q e.n::rest by unfold C6 L4 par;rw[E8];simp[wr,h],G4 (a9B _) rfl]
   exact .inr (.inl rfl)
 · rw[show C6 e++rest=a2A e.n::rest by unfold C6 L4 par;rw[E8];simp[wr,h],G4 (a7H (a5w hF hn h)) rfl]
   exact .inr (.inr (.inl rfl))
 · rcases a5S hn hF h with h0 | h0
   · rw[show C6 e++rest=C7 [70,65,76,83,69]::rest by unfold C6 L4 par;rw[E8];simp[wr,h,h0],G4 (by decide +kernel) (a2U _)]
     exact .inr (.inr (.inr (.inl rfl)))
   · rw[show C6 e++rest=C7 [84,82,85,69]::rest by unfold C6 L4 par;rw[E8];simp[wr,h,h0],G4 (by decide +kernel) (a2U _)]
     exact .inr (.inr (.inr (.inr (.inl rfl))))
 · rw[show C6 e++rest=E5 e.s::rest by unfold C6 L4 par;rw[E8];simp[wr,h],G4 (a2q (a1d hF (.inl h))) rfl]
   exact .inl rfl
 · rw[show C6 e++rest=C3 [40]::((B1 e++[C3 [41]])++rest) by unfold C6 L4 par;simp[h],G4 (by decide +kernel) rfl]
   exact .inr (.inr (.inr (.inr (.inr rfl))))
 · obtain⟨x,hx⟩:=Q1 hF (.inl h)
   rw[show C6 e++rest=E5 e.s::(C3 [91]::(B1 x++[C3 [93]])++rest) by unfold C6 L4 par;rw[E8];simp[wr,h,hx,N8],G4 (a2q (a1d hF (.inr (.inl h)))) rfl]
   exact .inl rfl
 · rw[show C6 e++rest=C3 [40]::((B1 e++[C3 [41]])++rest) by unfold C6 L4 par;simp[h],G4 (by decide +kernel) rfl]
   exact .inr (.inr (.inr (.inr (.inr rfl))))
 · rw[show C6 e++rest=C3 [40]::((B1 e++[C3 [41]])++rest) by unfold C6 L4 par;simp[h],G4 (by decide +kernel) rfl]
   exact .inr (.inr (.inr (.inr (.inr rfl))))
 · rw[show C6 e++rest=C3 [40]::((B1 e++[C3 [41]])++rest) by unfold C6 L4 par;simp[h],G4 (by decide +kernel) rfl]
   exact .inr (.inr (.inr (.inr (.inr rfl))))
abbrev RdE (e:Ex):Prop:=∀ f,Dp (f+1) e→∀ rest,a74 rest→b06 rest→a0w (S9 f) (B1 e++rest)=.ok (C0 e,rest)
abbrev RdO (e:Ex):Prop:=∀ f,Dp (f+1) e→(par e.k=true→Dp f e)→∀ rest,a74 rest→Q0 (S9 f) (C6 e++rest)=.ok (C0 e,rest)
theorem a7Z {f:Nat} {ts r:List Tok} {x:Ex} (hs:b6m (C9 ts)) (ho:Q0 (S9 f) ts=.ok (x,r)):a0w (S9 f) ts=if opF (C9 r) 22 1≠0 then unQ (fun b=>sx 7 (opF (C9 r) 22 1) 0 0 [] [x,b]) (Q0 (S9 f) r.tail) else .ok (x,r):=by
 obtain⟨h1,h2,h3⟩:=b7t hs
 unfold a0w
 simp only[if_neg h1,h2,h3,ho,ne_eq,not_true,if_false]
theorem c1G {f:Nat} {ts r:List Tok} {x:Ex} (h:S9 f [40] [41] (C3 [40]::ts)=.ok (x,r)):Q0 (S9 f) (C3 [40]::ts)=.ok (x,r):=by
 rw[M7 (G4 (by decide +kernel) rfl),if_neg (by decide),if_neg (by decide),if_neg (by decide +kernel),if_neg (by decide +kernel),if_neg (by decide),if_pos rfl]
 exact h
theorem b70 {e:Ex} (h:par e.k=true) (hE:RdE e):RdO e:=by
 intro f hd hp rest hb
 obtain⟨k,rfl⟩:=(hp h).pos
 have he:=hE k (hp h) (C3 [41]::rest) (b1I (by decide +kernel) (by decide)) (b9O rest)
 rw[show C6 e++rest=C3 [40]::(B1 e++C3 [41]::rest) by unfold C6 L4;rw[h];simp]
 exact c1G (b7I (by decide +kernel) (by decide +kernel) he)
theorem b8X {e:Ex} (hp:par e.k=false) (hF:Fine e) (hn:-2147483648≤e.n∧e.n≤2147483647) (hO:RdO e):RdE e:=by
 intro f hd rest hb ho
 have h1:=hO f hd (fun q=>by rw[hp] at q;cases q) rest hb
 have hs:=a7a hF hn rest
 rw[show B1 e=C6 e by unfold C6 L4;rw[hp];rfl,a7Z hs h1,if_neg (fun q=>q ho)]
theorem c4n (e:Ex):Fine e→Wf e→RdE e∧RdO e:=by
 refine Ex.ind (p:=fun e=>Fine e→Wf e→RdE e∧RdO e) (fun e ih hF hW=>?_) e
 obtain⟨⟨hk,hor,ht⟩,hn,hs⟩:=hW.spec
 have fs:=b2z hF
 have lit (hp:par e.k=false) (hO:RdO e):RdE e∧RdO e:=⟨b8X hp hF hn hO,hO⟩
 have brk (hp:par e.k=true) (hE:RdE e):RdE e∧RdO e:=⟨hE,b70 hp hE⟩
 rcases a1c hF with h | h | h | h | h | h | h | h | h
 · refine lit (by simp[par,h]) fun f _ _ rest hb=>?_
   rw[show C6 e++rest=a6q e.n::rest by unfold C6 L4 par;rw[E8];simp[wr,h]]
   rw[M7 (G4 (a9B _) rfl),if_pos (show(a6q e.n).kind=3 from rfl),fs]
   simp[h]
   rfl
 · refine lit (by simp[par,h]) fun f _ _ rest hb=>?_
   rw[show C6 e++rest=a2A e.n::rest by unfold C6 L4 par;rw[E8];simp[wr,h]]
   rw[M7 (G4 (a7H (a5w hF hn h)) rfl),if_neg (by show ¬ (4:Int)=3;decide),if_pos (show(a2A e.n).kind=4 from rfl),fs]
   simp[h]
   rfl
 · refine lit (by simp[par,h]) fun f _ _ rest hb=>?_
   rcases a5S hn hF h with h0 | h0
   · rw[show C6 e++rest=C7 [70,65,76,83,69]::rest by unfold C6 L4 par;rw[E8];simp[wr,h,h0]]
     rw[M7 (G4 (by decide +kernel) (a2U _)),if_neg (by decide +kernel),if_neg (by decide +kernel),if_pos rfl,fs]
     simp[h,h0]
   · rw[show C6 e++rest=C7 [84,82,85,69]::rest by unfold C6 L4 par;rw[E8];simp[wr,h,h0]]
     rw[M7 (G4 (by decide +kernel) (a2U _)),if_neg (by decide +kernel),if_neg (by decide +kernel),if_neg (by decide +kernel),if_pos rfl,fs]
     simp[h,h0]
 · refine lit (by simp[par,h]) fun f _ _ rest hb=>?_
   have hnm:∀ s,E5 e.s≠C7 s:=fun s q=>by
     have:=U5 s
     rw[← q] at this
     rcases this with h | h <;> cases h
   rw[show C6 e++rest=E5 e.s::rest by unfold C6 L4 par;rw[E8];simp[wr,h]]
   rw[M7 (G4 (a2q (a1d hF (.inl h))) rfl),if_neg (by show ¬ (1:Int)=3;decide),if_neg (by show ¬ (1:Int)=4;decide),if_neg (hnm _),if_neg (hnm _),if_pos (show(E5 e.s).kind=1 from rfl),List.tail_cons,if_neg hb,fs]
   simp[h]
   rfl
 · refine brk (by simp[par,h]) fun f _ rest hb ho=>?_
   rw[show B1 e++rest=C7 [83,73,90,69]::E5 e.s::rest by rw[E8];simp[wr,h]]
   rw[V9 (G4 (by decide +kernel) (a2U _)),if_pos rfl,List.tail_cons,G4 (a2q (a1d hF (.inr (.inr h)))) rfl,if_pos (show(E5 e.s).kind=1 from rfl),fs]
   simp[h]
   rfl
 · obtain⟨x,hx⟩:=Q1 hF (.inl h)
   have hxm:x ∈ e.l:=by rw[hx];exact List.Mem.head _
   obtain⟨iE,_⟩:=ih x hxm (hF.part hxm) (hW.part hxm)
   have hnm:∀ s,E5 e.s≠C7 s:=fun s q=>by
     have:=U5 s
     rw[← q] at this
     rcases this with h | h <;> cases h
   refine lit (by simp[par,h]) fun f hd _ rest hb=>?_
   obtain⟨k,rfl⟩:=(hd.part hxm).pos
   have he:=iE k (hd.part hxm) (C3 [93]::rest) (b1I (by decide +kernel) (by decide)) (c0H rest)
   have hi:S9 (k+1) [91] [93] (C3 [91]::(B1 x++C3 [93]::rest))=.ok (C0 x,rest):=b7I (by decide +kernel) (by decide +kernel) he
   rw[show C6 e++rest=E5 e.s::C3 [91]::(B1 x++C3 [93]::rest) by unfold C6 L4 par;rw[E8];simp[wr,h,hx,N8]]
   rw[M7 (G4 (a2q (a1d hF (.inr (.inl h)))) rfl),if_neg (by show ¬ (1:Int)=3;decide),if_neg (by show ¬ (1:Int)=4;decide),if_neg (hnm _),if_neg (hnm _),if_pos (show(E5 e.s).kind=1 from rfl),List.tail_cons,G4 (by decide +kernel) rfl,if_pos rfl,hi,fs]
   simp[h,hx]
   rfl
 · obtain⟨x,hx⟩:=Q1 hF (.inr (.inl h))
   have hxm:x ∈ e.l:=by rw[hx];exact List.Mem.head _
   obtain⟨_,iO⟩:=ih x hxm (hF.part hxm) (hW.part hxm)
   have hm:=b0W hF hor h
   obtain⟨o,ho⟩:∃ o:Nat,e.o=o:=⟨e.o.toNat,by omega⟩
   obtain⟨q1,q2,q3⟩:=c2v o (by omega) (by omega)
   refine brk (by simp[par,h]) fun f hd rest hb _=>?_
   have he:=iO f (hd.part hxm).up (fun _=>hd.part hxm) rest hb
   rw[show B1 e++rest=J6 e.o::(C6 x++rest) by rw[E8];simp[wr,h,hx,N8,C6]]
   rw[V9 (G4 (a3U (by omega)) (b4o _)),ho]
   simp only[if_neg q1,q2,q3,List.tail_cons,he,ne_eq,not_true,if_false]
   rw[if_pos (by omega),fs]
   simp[h,hx,ho,unQ]
 · obtain⟨x,y,hx⟩:=a4b hF h
   have hxm:x ∈ e.l:=by rw[hx];exact List.Mem.head _
   have hym:y ∈ e.l:=by rw[hx];exact List.Mem.tail _ (List.Mem.head _)
   obtain⟨_,iO⟩:=ih x hxm (hF.part hxm) (hW.part hxm)
   obtain⟨_,jO⟩:=ih y hym (hF.part hym) (hW.part hym)
   have hm:=b1k hF h
   obtain⟨o,ho⟩:∃ o:Nat,e.o=o:=⟨e.o.toNat,by omega⟩
   obtain⟨q1,q2⟩:=c2p o (by omega) (by omega)
   refine brk (by simp[par,h]) fun f hd rest hb _=>?_
   have hnx:∀ r,C9 (J6 e.o::r)=J6 e.o:=fun r=>G4 (a3U (by omega)) (b4o _)
   have he:=iO f (hd.part hxm).up (fun _=>hd.part hxm) (J6 e.o::(C6 y++rest)) (by unfold a74;rw[hnx,ho];exact q2)
   have hf:=jO f (hd.part hym).up (fun _=>hd.part hym) rest hb
   have hst:=a7a (hF.part hxm) (hW.part hxm).spec.2.1 (J6 e.o::(C6 y++rest))
   rw[show B1 e++rest=C6 x++(J6 e.o::(C6 y++rest)) by rw[E8];simp[wr,h,hx,N8,C6],a7Z hst he,hnx,ho,q1,if_pos (by omega),List.tail_cons,hf,fs]
   simp[h,hx,ho,unQ]
 · obtain⟨x,hx⟩:=Q1 hF (.inr (.inr h))
   have hxm:x ∈ e.l:=by rw[hx];exact List.Mem.head _
   obtain⟨_,iO⟩:=ih x hxm (hF.part hxm) (hW.part hxm)
   have hm:=a8E hF h
   obtain⟨o,ho⟩:∃ o:Nat,e.t=o:=⟨e.t.toNat,by omega⟩
   obtain⟨q0,q1,q2⟩:=b4j o (by omega) (by omega)
   refine brk (by simp[par,h]) fun f hd rest hb _=>?_
   have he:=iO f (hd.part hxm).up (fun _=>hd.part hxm) rest hb
   rw[show B1 e++rest=C7 (K3 e.t)::(C6 x++rest) by rw[E8];simp[wr,h,hx,N8,C6]]
   rw[ho,V9 (G4 q0 (a2U _))]
   simp only[if_neg q1,q2,List.tail_cons,he,ne_eq]
   rw[if_pos (by omega),fs]
   simp[h,hx,ho,unQ]
abbrev a1X (u:Tok):Prop:=J8 u=true∧(-2147483648≤u.n∧u.n≤2147483647)
theorem z0:(-2147483648:Int)≤0∧(0:Int)≤2147483647:=by decide
theorem a1j {s:B} (h:J8 (C7 s)=true):a1X (C7 s):=⟨h,by unfold C7;split <;> exact z0⟩
theorem a5j {s:B} (h:J8 (C3 s)=true):a1X (C3 s):=⟨h,z0⟩
theorem a4j {p:Bool × List Tok} (h:∀ u ∈ p.2,a1X u):∀ u ∈ L4 p,a1X u:=by
 unfold L4
 split
 · intro u hu
   rcases List.mem_cons.1 hu with rfl | hu
   · exact a5j (by decide +kernel)
   · rcases List.mem_append.1 hu with hu | hu
     · exact h u hu
     · rw[List.mem_singleton] at hu
       subst hu
       exact a5j (by decide +kernel)
 · exact h
theorem N6 {t:Tok} {l:List Tok} (h:a1X t) (hl:∀ u ∈ l,a1X u):∀ u ∈ t::l,a1X u:=fun u hu=>by
 rcases List.mem_cons.1 hu with rfl | hu
 · exact h
 · exact hl u hu
theorem b1c {k l:List Tok} (h:∀ u ∈ k,a1X u) (hl:∀ u ∈ l,a1X u):∀ u ∈ k++l,a1X u:=fun u hu=>by
 rcases List.mem_append.1 hu with hu | hu
 · exact h u hu
 · exact hl u hu
theorem a1v:∀ u ∈ ([]:List Tok),a1X u:=fun _ hu=>(List.not_mem_nil hu).elim
theorem a9j (e:Ex):Fine e→Wf e→∀ u ∈ B1 e,a1X u:=by
 refine Ex.ind (p:=fun e=>Fine e→Wf e→∀ u ∈ B1 e,a1X u) (fun e ih hF hW=>?_) e
 obtain⟨⟨hk,hor,ht⟩,hn,hs⟩:=hW.spec
 have nm (h:e.k=4∨e.k=5∨e.k=9):a1X (E5 e.s):=⟨a2q (a1d hF h),z0⟩
 rcases a1c hF with h | h | h | h | h | h | h | h | h
 · rw[show B1 e=[a6q e.n] by rw[E8];simp[wr,h]]
   exact N6 ⟨a9B _,hn⟩ a1v
 · rw[show B1 e=[a2A e.n] by rw[E8];simp[wr,h]]
   exact N6 ⟨a7H (a5w hF hn h),hn⟩ a1v
 · rcases a5S hn hF h with h0 | h0
   · rw[show B1 e=[C7 [70,65,76,83,69]] by rw[E8];simp[wr,h,h0]]
     exact N6 (a1j (by decide +kernel)) a1v
   · rw[show B1 e=[C7 [84,82,85,69]] by rw[E8];simp[wr,h,h0]]
     exact N6 (a1j (by decide +kernel)) a1v
 · rw[show B1 e=[E5 e.s] by rw[E8];simp[wr,h]]
   exact N6 (nm (.inl h)) a1v
 · rw[show B1 e=[C7 [83,73,90,69],E5 e.s] by rw[E8];simp[wr,h]]
   exact N6 (a1j (by decide +kernel)) (N6 (nm (.inr (.inr h))) a1v)
 · obtain⟨x,hx⟩:=Q1 hF (.inl h)
   have hxm:x ∈ e.l:=by rw[hx];exact List.Mem.head _
   rw[show B1 e=E5 e.s::C3 [91]::(B1 x++[C3 [93]]) by rw[E8];simp[wr,h,hx,N8]]
   exact N6 (nm (.inr (.inl h))) (N6 (a5j (by decide +kernel)) (b1c (ih x hxm (hF.part hxm) (hW.part hxm)) (N6 (a5j (by decide +kernel)) a1v)))
 · obtain⟨x,hx⟩:=Q1 hF (.inr (.inl h))
   have hxm:x ∈ e.l:=by rw[hx];exact List.Mem.head _
   have hm:=b0W hF hor h
   rw[show B1 e=J6 e.o::L4 (par x.k,B1 x) by rw[E8];simp[wr,h,hx,N8]]
   exact N6 (a1j (a3U (by omega))) (a4j (ih x hxm (hF.part hxm) (hW.part hxm)))
 · obtain⟨x,y,hx⟩:=a4b hF h
   have hxm:x ∈ e.l:=by rw[hx];exact List.Mem.head _
   have hym:y ∈ e.l:=by rw[hx];exact List.Mem.tail _ (List.Mem.head _)
   have hm:=b1k hF h
   rw[show B1 e=L4 (par x.k,B1 x)++J6 e.o::L4 (par y.k,B1 y) by rw[E8];simp[wr,h,hx,N8]]
   exact b1c (a4j (ih x hxm (hF.part hxm) (hW.part hxm))) (N6 (a1j (a3U (by omega))) (a4j (ih y hym (hF.part hym) (hW.part hym))))
 · obtain⟨x,hx⟩:=Q1 hF (.inr (.inr h))
   have hxm:x ∈ e.l:=by rw[hx];exact List.Mem.head _
   have hm:=a8E hF h
   obtain⟨o,ho⟩:∃ o:Nat,e.t=o:=⟨e.t.toNat,by omega⟩
   rw[show B1 e=C7 (K3 e.t)::L4 (par x.k,B1 x) by rw[E8];simp[wr,h,hx,N8],ho]
   exact N6 (a1j (b4j o (by omega) (by omega)).1) (a4j (ih x hxm (hF.part hxm) (hW.part hxm)))
end Go.Xp
end
section
namespace Go.Xp
open Go.Eng Go
open Go.Ty (Tok B4)
open Go.Lx (J8)
set_option maxRecDepth 100000
def c2g (rd:List Tok→a0a) (ok:List Tok→Prop) (sz:Ex→Nat):Prop:=
 ∀ ts x r,rd ts=.ok (x,r)→∃ p,(ts=p++r∧1≤p.length)∧sz x≤p.length∧∀ r',ok r'→rd (p++r')=.ok (x,r')
abbrev wl (x:Ex):Nat:=(B1 x).length
abbrev ol (x:Ex):Nat:=(C6 x).length
abbrev c1F (ins:B→B→List Tok→a0a):Prop:=∀ o s,s=[93]∨s=[41]→c2g (ins o s) (fun _=>True) (fun x=>wl x+2)
theorem c4a (x:Ex):ol x≤wl x+2:=a2p (par x.k,B1 x)
theorem b7d {x:Ex} (h:par x.k=false):ol x=wl x:=by
 unfold ol wl C6 L4
 rw[h]
 rfl
theorem c3L (x:Ex):wl x≤ol x:=by
 unfold wl ol C6 L4
 split
 · simp only[List.length_cons,List.length_append]
   omega
 · exact Nat.le_refl _
theorem b1N:C9 []=zeroT:=rfl
theorem a08 (s:B):zeroT≠C7 s:=fun e=>by
 have hk:(0:Int)=(C7 s).kind:=congrArg Tok.kind e
 rcases U5 s with h | h
 · have:=hk.trans h;omega
 · have:=hk.trans h;omega
theorem b21 {ins:B→B→List Tok→a0a}:Q0 ins []=.error 100:=by
 rw[M7 b1N,if_neg (by decide),if_neg (by decide),if_neg (a08 _),if_neg (a08 _),if_neg (by decide),if_neg (by decide)]
theorem b4L {ins:B→B→List Tok→a0a} (hi:c1F ins):c2g (Q0 ins) a74 ol:=by
 intro ts x r h
 cases ts with
 | nil=>rw[b21] at h;cases h
 | cons t q=>
   obtain⟨u,hu⟩:∃ u,∀ q',C9 (t::q')=u:=⟨_,fun _=>rfl⟩
   rw[M7 (hu q),List.tail_cons] at h
   have one:∀ {x:Ex},wl x=1→par x.k=false→ol x≤[t].length:=fun h1 h2=>by rw[b7d h2,h1];exact Nat.le_refl 1
   by_cases k3:u.kind=3
   · rw[if_pos k3] at h
     cases h
     exact⟨[t],⟨rfl,Nat.le_refl 1⟩,one rfl rfl,fun r' _=>by rw[List.singleton_append,M7 (hu r'),if_pos k3];rfl⟩
   rw[if_neg k3] at h
   by_cases k4:u.kind=4
   · rw[if_pos k4] at h
     cases h
     exact⟨[t],⟨rfl,Nat.le_refl 1⟩,one rfl rfl,fun r' _=>by rw[List.singleton_append,M7 (hu r'),if_neg k3,if_pos k4];rfl⟩
   rw[if_neg k4] at h
   by_cases f:u=C7 [70,65,76,83,69]
   · rw[if_pos f] at h
     cases h
     exact⟨[t],⟨rfl,Nat.le_refl 1⟩,one rfl rfl,fun r' _=>by rw[List.singleton_append,M7 (hu r'),if_neg k3,if_neg k4,if_pos f];rfl⟩
   rw[if_neg f] at h
   by_cases g:u=C7 [84,82,85,69]
   · rw[if_pos g] at h
     cases h
     exact⟨[t],⟨rfl,Nat.le_refl 1⟩,one rfl rfl,fun r' _=>by rw[List.singleton_append,M7 (hu r'),if_neg k3,if_neg k4,if_neg f,if_pos g];rfl⟩
   rw[if_neg g] at h
   by_cases k1:u.kind=1
   · rw[if_pos k1] at h
     by_cases b:C9 q=C3 [91]
     · rw[if_pos b] at h
       cases hq:ins [91] [93] q with
       | error e=>rw[hq] at h;cases h
       | ok w=>
         obtain⟨y,r1⟩:=w
         rw[hq] at h
         cases h
         obtain⟨p,⟨hp,hp1⟩,hs,hf⟩:=hi [91] [93] (.inl rfl) q y _ hq
         refine⟨t::p,⟨by rw[hp];rfl,Nat.succ_le_succ (Nat.zero_le _)⟩,?_,fun r' _=>?_⟩
         · rw[b7d rfl]
           show(E5 u.text::C3 [91]::(B1 y++[C3 [93]])).length≤(t::p).length
           simp only[List.length_cons,List.length_append,List.length_nil]
           simp only[wl] at hs
           omega
         · have hb:C9 (p++r')=C3 [91]:=by
             rw[hp] at b
             cases p with
             | nil=>exact absurd hp1 (by decide)
             | cons v w=>exact b
           rw[List.cons_append,M7 (hu _),if_neg k3,if_neg k4,if_neg f,if_neg g,if_pos k1,List.tail_cons,if_pos hb,hf r' trivial]
     · rw[if_neg b] at h
       cases h
       exact⟨[t],⟨rfl,Nat.le_refl 1⟩,one rfl rfl,fun r' hr=>by rw[List.singleton_append,M7 (hu r'),if_neg k3,if_neg k4,if_neg f,if_neg g,if_pos k1,List.tail_cons,if_neg hr]⟩
   rw[if_neg k1] at h
   by_cases o:u=C3 [40]
   · rw[if_pos o] at h
     obtain⟨p,⟨hp,hp1⟩,hs,hf⟩:=hi [40] [41] (.inr rfl) _ x r h
     refine⟨p,⟨hp,hp1⟩,Nat.le_trans (c4a x) hs,fun r' _=>?_⟩
     cases p with
     | nil=>exact absurd hp1 (by decide)
     | cons v w=>
       have hv:v=t:=(List.cons.inj hp).1.symm
       subst hv
       rw[List.cons_append,M7 (hu _),if_neg k3,if_neg k4,if_neg f,if_neg g,if_neg k1,if_pos o]
       exact hf r' trivial
   · rw[if_neg o] at h
     cases h
theorem b3i {mk:Ex→Ex} {p:a0a} {x:Ex} {r:List Tok} (h:unQ mk p=.ok (x,r)):∃ y,p=.ok (y,r)∧x=mk y:=by
 cases p with
 | error e=>cases h
 | ok q=>
   obtain⟨y,z⟩:=q
   cases h
   exact⟨y,rfl,rfl⟩
theorem a5T:∀ n o:Nat,opF zeroT n o=0
 | 0,_=>rfl
 | n+1,o=>by
   unfold opF
   rw[if_neg (show zeroT≠J6 o from a08 _)]
   exact a5T n (o+1)
theorem b8x {ins:B→B→List Tok→a0a}:a0w ins []=.error 100:=by
 rw[V9 b1N,if_neg (a08 _),if_neg (by unfold a05;rw[if_neg (a08 _),if_neg (a08 _),if_neg (a08 _)];decide),if_neg (by rw[a5T];decide),b21]
theorem b6N {p:List Tok} (hp:1≤p.length) (r r':List Tok):C9 (p++r)=C9 (p++r'):=by
 cases p with
 | nil=>exact absurd hp (by decide)
 | cons t q=>rfl
theorem a9a {ins:B→B→List Tok→a0a} (hi:c1F ins):c2g (a0w ins) (fun r=>a74 r∧b06 r) wl:=by
 have hO:=b4L hi
 intro ts x r h
 cases ts with
 | nil=>rw[b8x] at h;cases h
 | cons t q=>
   obtain⟨u,hu⟩:∃ u,∀ q',C9 (t::q')=u:=⟨_,fun _=>rfl⟩
   rw[V9 (hu q),List.tail_cons] at h
   by_cases k1:u=C7 [83,73,90,69]
   · rw[if_pos k1] at h
     by_cases k2:(C9 q).kind=1
     · rw[if_pos k2] at h
       cases q with
       | nil=>cases k2
       | cons v w=>
         cases h
         refine⟨[t,v],⟨rfl,Nat.succ_le_succ (Nat.zero_le _)⟩,Nat.le_refl 2,fun r' _=>?_⟩
         rw[show[t,v]++r'=t::v::r' from rfl,V9 (hu _),List.tail_cons,if_pos k1,if_pos (show(C9 (v::r')).kind=1 from k2)]
         rfl
     · rw[if_neg k2] at h
       cases h
   rw[if_neg k1] at h
   by_cases k2:a05 u≠0
   · rw[if_pos k2] at h
     obtain⟨y,hy,rfl⟩:=b3i h
     obtain⟨p,⟨hp,hp1⟩,hs,hf⟩:=hO q y r hy
     refine⟨t::p,⟨by rw[hp];rfl,Nat.succ_le_succ (Nat.zero_le _)⟩,?_,fun r' hr=>?_⟩
     · show(C7 (K3 (a05 u))::C6 y).length≤(t::p).length
       exact Nat.succ_le_succ hs
     · rw[List.cons_append,V9 (hu _),List.tail_cons,if_neg k1,if_pos k2,hf r' hr.1]
       rfl
   rw[if_neg k2] at h
   by_cases k3:opF u 4 23≠0
   · rw[if_pos k3] at h
     obtain⟨y,hy,rfl⟩:=b3i h
     obtain⟨p,⟨hp,hp1⟩,hs,hf⟩:=hO q y r hy
     refine⟨t::p,⟨by rw[hp];rfl,Nat.succ_le_succ (Nat.zero_le _)⟩,?_,fun r' hr=>?_⟩
     · show(J6 (opF u 4 23)::C6 y).length≤(t::p).length
       exact Nat.succ_le_succ hs
     · rw[List.cons_append,V9 (hu _),List.tail_cons,if_neg k1,if_neg k2,if_pos k3,hf r' hr.1]
       rfl
   rw[if_neg k3] at h
   cases hq:Q0 ins (t::q) with
   | error e=>rw[hq] at h;cases h
   | ok w=>
     obtain⟨a,r1⟩:=w
     rw[hq] at h
     obtain⟨p,⟨hp,hp1⟩,hs,hf⟩:=hO _ a r1 hq
     have hd:∀ r',a0w ins (p++r')=match Q0 ins (p++r') with
         | .error e=>.error e
         | .ok (a,r)=>if opF (C9 r) 22 1≠0 then unQ (fun b=>sx 7 (opF (C9 r) 22 1) 0 0 [] [a,b]) (Q0 ins r.tail) else .ok (a,r):=fun r'=>by
       have hn:C9 (p++r')=u:=by rw[b6N hp1 r' r1,← hp];exact hu q
       rw[V9 hn,if_neg k1,if_neg k2,if_neg k3] <;> rfl
     by_cases k4:opF (C9 r1) 22 1≠0
     · replace h:=(if_pos k4).symm.trans h
       obtain⟨y,hy,rfl⟩:=b3i h
       cases r1 with
       | nil=>exact absurd (a5T 22 1) k4
       | cons v w=>
         obtain⟨p2,⟨hp2,hp21⟩,hs2,hf2⟩:=hO w y r hy
         have hv:∀ w',C9 (v::w')=C9 (v::w):=fun _=>rfl
         have hb:∀ w',a74 (v::w'):=fun w' e=>by
           rw[hv,] at e
           rw[e] at k4
           exact k4 (by decide +kernel)
         refine⟨p++v::p2,⟨by rw[hp,hp2];simp,by rw[List.length_append];omega⟩,?_,fun r' hr=>?_⟩
         · show(C6 a++J6 (opF (C9 (v::w)) 22 1)::C6 y).length≤_
           simp only[List.length_append,List.length_cons]
           simp only[ol] at hs hs2
           omega
         · rw[List.append_assoc,List.cons_append,hd,hf _ (hb _)]
           show(if opF (C9 (v::(p2++r'))) 22 1≠0 then unQ (fun b=>sx 7 (opF (C9 (v::(p2++r'))) 22 1) 0 0 [] [a,b]) (Q0 ins (v::(p2++r')).tail) else .ok (a,v::(p2++r')))=_
           rw[hv,if_pos k4,List.tail_cons,hf2 r' hr.1]
           rfl
     · replace h:=(if_neg k4).symm.trans h
       cases h
       refine⟨p,⟨hp,hp1⟩,?_,fun r' hr=>?_⟩
       · exact Nat.le_trans (c3L _) hs
       · rw[hd,hf r' hr.1]
         exact if_neg (fun k=>k hr.2)
theorem b0v:∀ f,c1F (S9 f)
 | 0=>fun _ _ _ _ _ _ h=>by cases h
 | f+1=>fun o s ho ts x r h=>by
   unfold S9 at h
   by_cases k1:C9 ts=C3 o
   · rw[if_pos k1] at h
     cases ts with
     | nil=>cases congrArg Tok.kind k1
     | cons t q=>
       rw[List.tail_cons] at h
       cases hq:a0w (S9 f) q with
       | error e=>rw[hq] at h;cases h
       | ok w=>
         obtain⟨y,r1⟩:=w
         rw[hq] at h
         by_cases k2:C9 r1=C3 s
         · replace h:=(if_pos k2).symm.trans h
           cases r1 with
           | nil=>cases congrArg Tok.kind k2
           | cons v w=>
             cases h
             obtain⟨p,⟨hp,hp1⟩,hs,hf⟩:=a9a (b0v f) q _ _ hq
             have hv:∀ w',C9 (v::w')=C3 s:=fun _=>k2
             refine⟨t::(p++[v]),⟨by rw[hp];simp,Nat.succ_le_succ (Nat.zero_le _)⟩,?_,fun r' _=>?_⟩
             · simp only[List.length_cons,List.length_append,List.length_nil]
               simp only[wl] at hs ⊢
               omega
             · have hno:a74 (v::r')∧b06 (v::r'):=by
                 unfold a74 b06
                 rw[hv]
                 rcases ho with rfl | rfl <;> exact⟨by decide +kernel,by decide +kernel⟩
               rw[show t::(p++[v])++r'=t::(p++v::r') by simp]
               unfold S9
               rw[if_pos (show C9 (t::(p++v::r'))=C3 o from k1),List.tail_cons,hf _ hno]
               exact if_pos k2
         · replace h:=(if_neg k2).symm.trans h
           cases h
   · rw[if_neg k1] at h
     cases h
abbrev Er (rd:List Tok→a0a):Prop:=∀ ts e,rd ts=.error e→e=100∨e=3
abbrev c2j (ins:B→B→List Tok→a0a):Prop:=∀ o s,Er (ins o s)
theorem b9o {ins:B→B→List Tok→a0a} (hi:c2j ins):Er (Q0 ins):=by
 intro ts e h
 rw[M7 rfl] at h
 repeat' split at h
 all_goals first | (cases h;done) | (cases h;rename_i h2;exact hi _ _ _ _ h2) | exact hi _ _ _ _ h | (cases h;exact .inl rfl)
theorem c2t {mk:Ex→Ex} {p:a0a} {e:Int} (h:unQ mk p=.error e):p=.error e:=by
 cases p with
 | error f=>cases h;rfl
 | ok q=>cases h
theorem b4a {ins:B→B→List Tok→a0a} (hi:c2j ins):Er (a0w ins):=by
 intro ts e h
 have hO:=b9o hi
 rw[V9 rfl] at h
 repeat' split at h
 all_goals first | (cases h;done) | exact hO _ _ (c2t h) | (cases h;rename_i h2;exact hO _ _ h2) | (cases h;exact .inl rfl)
theorem b7J:∀ f,c2j (S9 f)
 | 0=>fun _ _ _ _ h=>by cases h;exact .inr rfl
 | f+1=>fun o s ts e h=>by
   unfold S9 at h
   repeat' split at h
   all_goals first | (cases h;done) | (cases h;rename_i h2;exact b4a (b7J f) _ _ h2) | (cases h;exact .inl rfl)
theorem b6X {ts:List Tok} {x:Ex} {k:Nat} (h:P9 ts=.ok (x,k)):((1≤k∧k≤ts.length)∧M3 x=true)∧(B1 x).length≤k∧P9 (ts.take k)=.ok (x,k):=by
 unfold P9 at h
 cases hq:a8K ts with
 | error e=>rw[hq] at h;cases h
 | ok w=>
   obtain⟨y,r⟩:=w
   rw[hq] at h
   by_cases hm:M3 y=true
   · replace h:=(if_pos hm).symm.trans h
     cases h
     obtain⟨p,⟨hp,hp1⟩,hs,hf⟩:=a9a (b0v 32) ts _ _ hq
     have hl:ts.length - r.length=p.length:=by rw[hp,List.length_append];omega
     have ht:ts.take (ts.length - r.length)=p:=by rw[hl,hp,List.take_left]
     have he:=hf [] ⟨by unfold a74;decide +kernel,by unfold b06;decide +kernel⟩
     rw[List.append_nil] at he
     refine⟨⟨⟨by omega,by omega⟩,hm⟩,by rw[hl];exact hs,?_⟩
     rw[ht]
     unfold P9 a8K
     rw[he]
     show(if M3 _ then Except.ok (_,p.length - 0) else .error 3)=_
     rw[if_pos hm,hl,Nat.sub_zero]
   · replace h:=(if_neg hm).symm.trans h
     cases h
theorem b1f {ts:List Tok} {e:Int} (h:P9 ts=.error e):e=100∨e=3:=by
 unfold P9 at h
 cases hq:a8K ts with
 | error f=>
   rw[hq] at h
   cases h
   exact b4a (b7J 32) ts _ hq
 | ok w=>
   obtain⟨y,r⟩:=w
   rw[hq] at h
   by_cases hm:M3 y=true
   · replace h:=(if_pos hm).symm.trans h
     cases h
   · replace h:=(if_neg hm).symm.trans h
     cases h
     exact .inr rfl
theorem b1H {ts:List Tok}:Z0 ts≤ts.length:=by
 unfold Z0
 cases h:P9 ts with
 | error e=>exact Nat.zero_le _
 | ok w=>exact(b6X h).1.1.2
end Go.Xp
end
section
namespace Go.Ty
open Go.Lx
theorem a8g {t:Ty} (h:may t=true) (h4:(t.kind != 4)=false):(t.item=0∧name t.proto=true)∨(is t.item=true∧t.proto=[]):=by
 have h4':t.kind=4:=by simpa using h4
 unfold may at h
 split at h
 · cases h
 · rw[h4'] at h
   rw[if_neg (by decide),if_neg (by decide)] at h
   split at h
   · rename_i h0;exact .inl ⟨by simpa using h0,h⟩
   · simp at h;exact .inr h
end Go.Ty
end
section
namespace Go.Ty
open Go.Lx
def C0 (x:Tok):Tok:={ x with at_:=0 }
def M (l:List Tok) (i:Nat) (y:Tok):Prop:=∃ x,l[i]?=some x∧C0 x=y
def a1W (l:List Tok):Nat→List Tok→Prop
 | _,[]=>True
 | i,y::w=>M l i y∧a1W l (i+1) w
theorem M.lt {l:List Tok} {i:Nat} {y:Tok} (a:M l i y):i < l.length:=by
 obtain⟨x,hx,_⟩:=a
 exact(List.getElem?_eq_some_iff.1 hx).1
theorem U4 (l:List Tok):∀ (u w:List Tok) (i:Nat),a1W l i (u++w)↔a1W l i u∧a1W l (i+u.length) w
 | [],w,i=>by simp[a1W]
 | y::u,w,i=>by
   show(M l i y∧a1W l (i+1) (u++w))↔(M l i y∧a1W l (i+1) u)∧a1W l (i+(u.length+1)) w
   rw[U4 l u w (i+1),and_assoc,show i+1+u.length=i+(u.length+1) by omega]
theorem a4W {l:List Tok} {i:Nat} {y:Tok}:M l i y↔i < l.length∧C0 (I7 l i)=y:=by
 constructor
 · intro m
   have h:=m.lt
   obtain⟨x,hx,e⟩:=m
   rw[a1b h] at hx
   cases hx
   exact⟨h,e⟩
 · rintro ⟨h,e⟩;exact⟨_,a1b h,e⟩
theorem L7 {l:List Tok} {i:Nat} {kd:Int} {s:B} (h3:kd≠3):next l i kd s=true↔M l i ⟨kd,0,s,0⟩:=by
 rw[a4W]
 unfold next a2P C0
 generalize I7 l i=x
 cases x
 simp[h3]
 constructor
 · rintro ⟨⟨⟨a,b⟩,c⟩,d⟩;exact⟨a,b,c,d⟩
 · rintro ⟨a,b,c,d⟩;exact⟨⟨⟨a,b⟩,c⟩,d⟩
theorem b7x {l:List Tok} {i:Nat} {s:B}:next l i 3 s=true↔M l i ⟨3,0,s,(I7 l i).n⟩:=by
 rw[a4W]
 unfold next a2P C0
 generalize I7 l i=x
 cases x
 simp
 constructor
 · rintro ⟨⟨a,b⟩,c⟩;exact⟨a,b,c⟩
 · rintro ⟨a,b,c⟩;exact⟨⟨a,b⟩,c⟩
theorem a1R {l:List Tok} {i:Nat} {kd:Int} {s:B} {y:Tok} (m:M l i y) (h:y.kind≠kd∨y.text≠s):next l i kd s=false:=by
 cases hn:next l i kd s with
 | false=>rfl
 | true=>
   exfalso
   obtain⟨_,e⟩:=a4W.1 m
   subst e
   unfold next a2P at hn
   simp at hn
   rcases h with h | h
   · exact h hn.1.1.2
   · exact h hn.1.2
theorem a7Q (l:List Tok) (i:Nat):named l i=if next l i 2 c0v then some 1 else if next l i 2 b3G then some 2 else if next l i 2 b3P then some 3 else none:=rfl
theorem is_three {k:Int} (h:is k=true):k=1∨k=2∨k=3:=by
 rw[c4q] at h
 unfold prim at h
 simp at h
 omega
theorem a6R {l:List Tok} {i:Nat} {k:Int} (h:named l i=some k):is k=true∧M l i (a0H (wordS k).1):=by
 rw[a7Q] at h
 split at h
 · cases h;rename_i hn;exact⟨by decide,(L7 (by decide)).1 hn⟩
 · split at h
   · cases h;rename_i hn;exact⟨by decide,(L7 (by decide)).1 hn⟩
   · split at h
     · cases h;rename_i hn;exact⟨by decide,(L7 (by decide)).1 hn⟩
     · cases h
theorem b1p {l:List Tok} {i:Nat} {k:Int} (h:is k=true) (m:M l i (a0H (wordS k).1)):named l i=some k:=by
 rw[a7Q]
 rcases is_three h with rfl | rfl | rfl
 · have m':M l i (a0H c0v):=m
   rw[if_pos ((L7 (by decide)).2 m')]
 · have m':M l i (a0H b3G):=m
   rw[if_neg (by rw[a1R m' (.inr (by decide))];decide),if_pos ((L7 (by decide)).2 m')]
 · have m':M l i (a0H b3P):=m
   rw[if_neg (by rw[a1R m' (.inr (by decide))];decide),if_neg (by rw[a1R m' (.inr (by decide))];decide),if_pos ((L7 (by decide)).2 m')]
theorem a7z {l:List Tok} {i:Nat} {y:Tok} (m:M l i y) (h:y.kind≠2∨(y.text≠c0v∧y.text≠b3G∧y.text≠b3P)):named l i=none:=by
 rw[a7Q]
 rw[if_neg (by rw[a1R m (h.imp_right fun h=>h.1)];decide),if_neg (by rw[a1R m (h.imp_right fun h=>h.2.1)];decide),if_neg (by rw[a1R m (h.imp_right fun h=>h.2.2)];decide)]
inductive Shape (t:Ty):Prop where
 | plain (k d:Int) (hk:is k=true) (e:t=⟨k,d,0,[]⟩)
 | timer (e:t=⟨5,0,0,[]⟩)
 | item (k d:Int) (hk:is k=true) (e:t=⟨4,d,k,[]⟩)
 | proto (s:B) (d:Int) (hs:name s=true) (e:t=⟨4,d,0,s⟩)
theorem may_shape {t:Ty} (h:may t=true):Shape t:=by
 obtain⟨k,d,i,s⟩:=t
 by_cases hk:is k=true
 · unfold may at h
   split at h
   · cases h
   · simp only[Bool.and_eq_true,beq_iff_eq] at h
     obtain⟨rfl,rfl⟩:=h
     exact .plain k d hk rfl
 · by_cases h4:k=4
   · subst h4
     rcases a8g h (by simp) with ⟨h0,hn⟩ | ⟨hi,h0⟩
     · simp only at h0 hn;subst h0;exact .proto s d hn rfl
     · simp only at h0 hi;subst h0;exact .item i d hi rfl
   · unfold may at h
     split at h
     · cases h
     · rw[if_pos (by simpa using h4),eqT_iff] at h
       exact .timer h
theorem b2X (k d:Int) (hk:is k=true):toks ⟨k,d,0,[]⟩=dimT ⟨k,d,0,[]⟩++[a0H (wordS k).1]:=by
 unfold toks
 rw[List.append_assoc]
 rcases is_three hk with rfl | rfl | rfl <;> rfl
theorem b3q (k d:Int) (hk:is k=true):toks ⟨4,d,k,[]⟩=dimT ⟨4,d,k,[]⟩++[a0H a1M,a0H cOF,a0H (wordS k).1]:=by
 unfold toks
 rw[List.append_assoc]
 rcases is_three hk with rfl | rfl | rfl <;> rfl
theorem c0n {s:B} (h:name s=true):s≠[]:=by rintro rfl;cases h
theorem b2s (s:B) (d:Int) (hs:name s=true):toks ⟨4,d,0,s⟩=dimT ⟨4,d,0,s⟩++[a0H a1M,a0H cOF,⟨1,0,s,0⟩]:=by
 unfold toks
 rw[List.append_assoc]
 unfold lastT
 have:(s==[])=false:=by simpa using c0n hs
 simp only[this]
 rfl
theorem b6u {t:Ty} (h:may t=true):∃ s w,toks t=dimT t++a0H s::w:=by
 cases may_shape h with
 | plain k d hk e=>subst e;exact⟨_,_,b2X k d hk⟩
 | timer e=>subst e;exact⟨_,_,rfl⟩
 | item k d hk e=>subst e;exact⟨_,_,b3q k d hk⟩
 | proto s d hs e=>subst e;exact⟨_,_,b2s s d hs⟩
theorem c1W {t:Ty} (l:List Tok) (h:may t=true) (hb:a1W l 0 (toks t)):pre l=(true,t.dim,(dimT t).length):=by
 have hd:=may_dim h
 obtain⟨s,w,e⟩:=b6u h
 rw[e,U4] at hb
 by_cases h0:t.dim=0
 · have ed:dimT t=[]:=by unfold dimT;rw[h0];rfl
   rw[ed] at hb ⊢
   rw[b8R (a1R hb.2.1 (.inl (show(2:Int)≠5 by decide))),h0]
   rfl
 · have ed:dimT t=[C3 lb,⟨3,0,[],t.dim⟩,C3 rb]:=by unfold dimT;rw[if_pos (by simp;omega)]
   rw[ed] at hb ⊢
   obtain⟨⟨m0,m1,m2,_⟩,_⟩:=hb
   have en:(I7 l 1).n=t.dim:=by
     obtain⟨_,e1⟩:=a4W.1 m1
     exact congrArg Tok.n e1
   rw[b2l ((L7 (by decide)).2 m0) (b7x.2 (by rw[en];exact m1)),en,(L7 (by decide)).2 m2]
   have:decide (t.dim > 0)=true:=by simp;omega
   rw[this]
   rfl
theorem a8D {l:List Tok} {d:Int} {n:Nat} {k:Int} (hP:pre l=(true,d,n)) (hn:named l n=some k):mid l=(true,⟨k,d,0,[]⟩,n+1):=by
 unfold mid;rw[hP];simp only[hn]
theorem a8i {l : List Tok} {d : Int} {n : Nat} (hP : pre l = (true, d, n)) (m0 : M l n (a0H a1M)) (m1 : M l (n + 1) (a0H cOF)) : mid l = (match named l (n + 2) with
          | some k=>(true,⟨4,d,k,[]⟩,n+3)
          | none=>if decide ((n+2:Nat) < (l.length:Int))&&next l (n+2) 1 (I7 l (n+2)).text then (true,⟨4,d,0,(I7 l (n+2)).text⟩,n+3) else (true,⟨4,d,0,[]⟩,n+2)):=by
 unfold mid
 rw[hP]
 simp only[a7z m0 (.inr (by decide)),(L7 (show(2:Int)≠3 by decide)).2 m0,(L7 (show(2:Int)≠3 by decide)).2 m1,if_true]
 cases named l (n+2) <;> rfl
theorem a6S {t:Ty} {l:List Tok} (h:may t=true) (hb:a1W l 0 (toks t)):front l=(t,(toks t).length,0):=by
 have hP:=c1W l h hb
 have hM:mid l=(true,t,(toks t).length):=by
   cases may_shape h with
   | plain k d hk e=>
     subst e
     rw[b2X k d hk] at hb ⊢
     rw[U4,Nat.zero_add] at hb
     rw[a8D hP (b1p hk hb.2.1),List.length_append]
     rfl
   | timer e=>
     subst e
     have m:M l 0 (a0H a3M):=hb.1
     exact a9K hP (a7z m (.inr (by decide))) (a1R m (.inr (by decide))) ((L7 (by decide)).2 m)
   | item k d hk e=>
     subst e
     rw[b3q k d hk] at hb ⊢
     rw[U4,Nat.zero_add] at hb
     obtain⟨_,m0,m1,m2,_⟩:=hb
     rw[a8i hP m0 m1,b1p hk m2,List.length_append]
     rfl
   | proto s d hs e=>
     subst e
     rw[b2s s d hs] at hb ⊢
     rw[U4,Nat.zero_add] at hb
     obtain⟨_,m0,m1,m2,_⟩:=hb
     have m2':M l ((dimT ⟨4,d,0,s⟩).length+2) ⟨1,0,s,0⟩:=m2
     have et:(I7 l ((dimT ⟨4,d,0,s⟩).length+2)).text=s:=congrArg Tok.text (a4W.1 m2').2
     have hlt:=m2'.lt
     rw[a8i hP m0 m1,a7z m2' (.inl (show(1:Int)≠2 by decide)),et]
     have c:(decide ((((dimT ⟨4,d,0,s⟩).length+2:Nat):Int) < (l.length:Int))&&next l ((dimT ⟨4,d,0,s⟩).length+2) 1 s)=true:=by
       rw[(L7 (by decide)).2 m2',Bool.and_true]
       exact decide_eq_true (by omega)
     simp only[c,if_true,List.length_append]
     rfl
 exact a8R hM (by rw[h];rfl)
theorem b0j {l:List Tok} {d:Int} {n:Nat} (h:pre l=(true,d,n)) (t:Ty) (e:t.dim=d):n=(dimT t).length∧a1W l 0 (dimT t):=by
 by_cases h0:next l 0 5 lb=true
 · by_cases h1:next l 1 3 []=true
   · rw[b2l h0 h1] at h
     simp only[Prod.mk.injEq] at h
     obtain⟨hc,hd,hn⟩:=h
     rw[hc] at hn
     simp only[Bool.and_eq_true,decide_eq_true_eq] at hc
     have ed:dimT t=[C3 lb,⟨3,0,[],t.dim⟩,C3 rb]:=by unfold dimT;rw[if_pos (by simp;omega)]
     rw[ed]
     refine⟨hn.symm,(L7 (by decide)).1 h0,?_,(L7 (by decide)).1 hc.2,trivial⟩
     rw[e,← hd]
     exact b7x.1 h1
   · rw[b7g h0 (by simpa using h1)] at h
     cases h
 · rw[b8R (by simpa using h0)] at h
   cases h
   have ed:dimT t=[]:=by unfold dimT;rw[e];rfl
   rw[ed]
   exact⟨rfl,trivial⟩
theorem c2x {l:List Tok} {t:Ty} {n:Nat} (h:mid l=(true,t,n)) (hm:may t=true):a1W l 0 (toks t):=by
 obtain⟨⟨b,d,n0⟩,hP⟩:∃ p,pre l=p:=⟨_,rfl⟩
 cases b with
 | false=>unfold mid at h;rw[hP] at h;cases h
 | true=>
   cases hn:named l n0 with
   | some k=>
     rw[a8D hP hn] at h
     cases h
     obtain⟨hk,m⟩:=a6R hn
     obtain⟨e,hb⟩:=b0j hP ⟨k,d,0,[]⟩ rfl
     rw[b2X k d hk,U4]
     subst e
     exact⟨hb,by rw[Nat.zero_add];exact m,trivial⟩
   | none=>
     cases hc:next l n0 2 a1M with
     | true=>
       have m0:M l n0 (a0H a1M):=(L7 (by decide)).1 hc
       cases ho:next l (n0+1) 2 cOF with
       | false=>
         unfold mid at h
         rw[hP] at h
         simp only[hn,hc,ho,if_true,Bool.false_eq_true,if_false] at h
         cases h
       | true=>
         have m1:M l (n0+1) (a0H cOF):=(L7 (by decide)).1 ho
         rw[a8i hP m0 m1] at h
         cases hk:named l (n0+2) with
         | some k=>
           rw[hk] at h
           cases h
           obtain⟨hk,m2⟩:=a6R hk
           obtain⟨e,hb⟩:=b0j hP ⟨4,d,k,[]⟩ rfl
           rw[b3q k d hk,U4]
           subst e
           rw[Nat.zero_add]
           exact⟨hb,m0,m1,m2,trivial⟩
         | none=>
           rw[hk] at h
           simp only at h
           split at h
           · rename_i hx
             simp only[Bool.and_eq_true] at hx
             have m2:=(L7 (show(1:Int)≠3 by decide)).1 hx.2
             cases h
             have hs:name (I7 l (n0+2)).text=true:=by
               rcases a8g hm rfl with ⟨_,hs⟩ | ⟨hi,_⟩
               · exact hs
               · cases hi
             obtain⟨e,hb⟩:=b0j hP ⟨4,d,0,(I7 l (n0+2)).text⟩ rfl
             rw[b2s _ d hs,U4]
             rw[← e,Nat.zero_add]
             exact⟨hb,m0,m1,m2,trivial⟩
           · cases h
             rcases a8g hm rfl with ⟨_,hs⟩ | ⟨hi,_⟩
             · cases hs
             · cases hi
     | false=>
       cases ht:next l n0 2 a3M with
       | true=>
         rw[a9K hP hn hc ht] at h
         cases h
         have e5:(⟨5,d,0,[]⟩:Ty)=timer:=by
           cases may_shape hm with
           | plain k d hk e=>cases e;cases hk
           | timer e=>exact e
           | item k d hk e=>cases e
           | proto s d hs e=>cases e
         rw[e5]
         cases e5
         obtain⟨e,_⟩:=b0j hP timer rfl
         subst e
         exact⟨(L7 (by decide)).1 ht,trivial⟩
       | false=>
         rw[b3Q hP hn hc ht] at h
         cases h
         cases may_shape hm with
         | plain k d hk e=>cases e;cases hk
         | timer e=>cases e
         | item k d hk e=>cases e
         | proto s d hs e=>cases e
theorem front_to (l:List Tok):front l=(zeroT,0,90)∨∃ t,may t=true∧a1W l 0 (toks t)∧front l=(t,(toks t).length,0):=by
 obtain⟨⟨ok,t,n⟩,hM⟩:∃ p,mid l=p:=⟨_,rfl⟩
 by_cases hc:(!ok||!may t)=true
 · exact .inl (b1q hM hc)
 · simp at hc
   obtain⟨rfl,hm⟩:=hc
   have hb:=c2x hM hm
   exact .inr ⟨t,hm,hb,a6S hm hb⟩
end Go.Ty
end
section
namespace Go.Sx
open Go.Eng Go.Pc Go
open Go.Xp hiding B
open Go.Ty (Ty Vr Tok)
def stL (s:Sli Ex):Sli Ex:=sl (s.l.map C0)
def stR (r:Rp):Rp:=⟨r.name,C0 r.base,C0 r.count⟩
def W4 (x:Vr):Vr:=vrM x.tag x.items
mutual
def stP:Pr→Pr
 | .mk k n ch tg ex rep _ _ gl _ _ ll pn sp=>.mk k n (C0 ch) (stL tg) (stL ex) (stR rep) none 0 (c0U gl) none 0 (b4Z ll) (sl pn.l) (stS sp)
def b4Z:List Pr→List Pr
 | []=>[]
 | x::r=>stP x::b4Z r
def stG:Gu→Gu
 | .mk k n cond ch tg vl time _ _ bl=>.mk k n (C0 cond) (C0 ch) (stL tg) (stL vl) (C0 time) none 0 (b4Z bl)
def c0U:List Gu→List Gu
 | []=>[]
 | x::r=>stG x::c0U r
def stS:Sp→Sp
 | .mk k ty names e cs vs fs _ _ bl=>.mk k ty (sl names.l) (C0 e) cs (sl (vs.l.map W4)) (sl fs.l) none 0 (b4Z bl)
end
theorem a3G:∀ l:List Pr,b4Z l=l.map stP
 | []=>rfl
 | x::r=>by rw[b4Z,a3G r];rfl
theorem a7O:∀ l:List Gu,c0U l=l.map stG
 | []=>rfl
 | x::r=>by rw[c0U,a7O r];rfl
theorem W9 (e:Ex):O2 (C0 e)=O2 e:=by unfold O2;rw[Q3];cases e;rfl
theorem b7e {k:Int} {s:B} {ts:List Tok} (h:isM k s ts=true):∃ t r,ts=t::r∧t.kind=k∧t.text=s:=by
 cases ts with
 | nil=>cases h
 | cons t r=>
   have h':((t.kind==k)&&(t.text==s))=true:=h
   simp only[Bool.and_eq_true,beq_iff_eq] at h'
   exact⟨t,r,rfl,h'.1,h'.2⟩
theorem c0J {k:Int} {s:B} {ts:List Tok} (h:isM k s ts=true):0 < ts.length:=by
 obtain⟨t,r,rfl,_⟩:=b7e h
 exact Nat.succ_pos _
theorem b0t (ts:List Tok):V0 ts=if (ts.getD 0 Go.Ty.zeroK).kind=1 then .ok ((ts.getD 0 Go.Ty.zeroK).text,ts.tail) else .error 110:=by
 cases ts with
 | nil=>rfl
 | cons t r=>rfl
theorem b1B (ts:List Tok):M1 ts=if a4B ts=0 then .ok (a7d ts,ts.drop (Z0 ts)) else .error 110:=by
 unfold M1 a4B a7d Z0
 cases hf:P9 ts with
 | ok x=>obtain⟨x,k⟩:=x;rfl
 | error e=>
   rcases b1f hf with rfl | rfl <;> rfl
theorem a5Z (ts:List Tok):L3 ts=if (ts.getD 0 Go.Ty.zeroK).kind=1 then O5 (M1 ts) fun x r=>if O2 x then .ok (x,r) else .error 110 else .error 110:=by
 cases ts <;> rfl
open Go.Ty in
theorem b0s (l:List Tok):∀ (w:List Tok) (i:Nat),a1W l i w→i≤l.length→i+w.length≤l.length
 | [],i,_,hi=>hi
 | y::w,i,h,_=>by
   obtain⟨h1,h2⟩:=(U4 l [y] w i).1 h
   have h3:=b0s l w (i+1) h2 (by
     have:=M.lt h1.1
     omega)
   simp only[List.length_cons]
   omega
theorem c3c (ts:List Tok):(Go.Ty.front ts).2.1≤ts.length:=by
 rcases Go.Ty.front_to ts with h | ⟨t,hm,hb,h⟩
 · rw[h];exact Nat.zero_le _
 · rw[h]
   have:=b0s ts _ 0 hb (Nat.zero_le _)
   simpa using this
theorem b3X {t:Ty} (h:Go.Ty.may t=true):TyW t:=by
 have hd:=Go.Ty.may_dim h
 cases Go.Ty.may_shape h with
 | plain k d hk e=>
   subst e
   have:=Go.Ty.is_three hk
   exact⟨by simp only;omega,by simp only;omega,by simp only at hd ⊢;omega,Nat.zero_le _⟩
 | timer e=>
   subst e
   exact⟨by decide,by decide,by decide,Nat.zero_le _⟩
 | item k d hk e=>
   subst e
   have:=Go.Ty.is_three hk
   exact⟨by simp only;omega,by simp only;omega,by simp only at hd ⊢;omega,Nat.zero_le _⟩
 | proto s d hs e=>
   subst e
   refine⟨by simp only;omega,by simp only;omega,by simp only at hd ⊢;omega,?_⟩
   unfold Go.Lx.name at hs
   simp only[Bool.and_eq_true,decide_eq_true_eq] at hs
   have:=hs.1.1.1.2
   show s.length≤Big
   unfold Big
   omega
theorem c3u (ts:List Tok):TyW (Go.Ty.front ts).1:=by
 rcases Go.Ty.front_to ts with h | ⟨t,hm,hb,h⟩
 · rw[h];exact⟨by decide,by decide,by decide,Nat.zero_le _⟩
 · rw[h];exact b3X hm
end Go.Sx
end
section
namespace Go.Eng
open Go Go.RowKit

def a9S (P:Program) (l:Nat) (v v2:Value) (w:World) (R:Bool→World→Prop):Prop:=
 ∃ fn tmps assign body,(Instr.yield l #[v,v2]).run P w=.ok (.round l fn tmps assign body) w ∧
   RoundIn (fen none) 0 P l fn tmps assign body w fun e w'=>∃ b,e=.returned (.bool b)∧R b w'
section
variable {P:Program} {ops:Array Oper} {Q:Exit→Act→World→Prop} {n:Cx} {F:Fm} {h h':List Res} {m:View} {rest:List Oper}
variable {op:Op} {ty:TypeId} {pos:String} {after:Array Edge} {d:Nat} {v v2:Value}

theorem a9S.mono {l:Nat} {w:World} {R R':Bool→World→Prop} (h:a9S P l v v2 w R) (hr:∀ b w',R b w'→R' b w'):a9S P l v v2 w R':=by
 obtain⟨fn,tmps,assign,body,h1,h2⟩:=h
 exact⟨fn,tmps,assign,body,h1,h2.mono fun e w' ⟨b,e1,e2⟩=>⟨b,e1,hr b w' e2⟩⟩
end
end Go.Eng
end
section
namespace Go.Eng
open Go Go.RowKit
section
variable {P:Program} {m m':View} {h h':List Res} {w w':World}
theorem c0P (s:St m h w):m.le (G9 w):=⟨s.os,s.out,s.tape,fun b o hb=>s.blk b o hb⟩
theorem St.grow {m2:View} {h2:List Res} (s:St m h w) (hle:(G9 w).le m2) (s2:St m2 h2 w'):St m h w'∧∀ r ∈ h,∀ b,r.fp=some b→∃ o,m2.blk b=some o:=by
 have same:∀ b,b < w.heap.size→w'.heap[b]?=w.heap[b]?:=fun b hb=>by
   have e:w.heap[b]?=some w.heap[b]:=Array.getElem?_eq_getElem hb
   rw[e]
   exact s2.blk b _ (hle.blk b _ e)
 have hm:=c0P s
 refine⟨⟨s2.os.trans (hle.os.trans s.os),s2.out.trans (hle.out.trans s.out),s2.tape.trans (hle.tape.trans s.tape),fun b o hb=>s2.blk b o (hle.blk b o (hm.blk b o hb)),
   fun r hr=>Res.ok_of_block (s.ok r hr) fun b hb=>same b (Res.lt (s.ok r hr) b hb),s.nd,s.fr⟩,fun r hr b hb=>?_⟩
 have hlt:=Res.lt (s.ok r hr) b hb
 exact⟨_,hle.blk b _ (show w.heap[b]?=some w.heap[b] from Array.getElem?_eq_getElem hlt)⟩
theorem CT.swap {f:FuncId} {args:List Value} {R:List Res→Value→Prop} (c:CT P f args h m (fun v _ h'=>∃ hs,h'=hs++h∧R hs v)):CT P f args h m (fun v _ h'=>∃ hs,h'=h++hs∧R hs v):=
 c.conv fun v m2 h2 w2 _ st hR=>by
   obtain⟨hs,rfl,hR⟩:=hR
   exact⟨m2,h++hs,View.le.refl _,st.perm List.perm_append_comm,hs,rfl,hR⟩
end
section
variable {P:Program} {ops:Array Oper} {Q:Exit→Act→World→Prop} {n:Cx} {F:Fm} {h h':List Res} {m:View} {rest:List Oper}
variable {ty:TypeId} {pos:String} {after:Array Edge} {dst:Option Tmp} {g:Option (Nat × Bool)} {d:Nat}
theorem c3Q (a:Option Addr) (cap sz:Nat) (h:a=none∨∃ b off,a=some ⟨b,off,none⟩):sl1 a 0 cap sz=a:=by
 unfold sl1
 split
 · rfl
 · rcases h with rfl | ⟨b,off,rfl⟩
   · rfl
   · simp[Addr.add_lit]
theorem Rd.sub0 {a:Option Addr} {k c sz:Nat} {xs:List Value} (s:Rd m h a k c sz xs) (q:Nat) (h1:k≤q) (h2:q≤c):Rd m h (sl1 a 0 q sz) k q sz xs:=
 ⟨s.len,h1,Nat.le_trans h2 s.mx,fun w st j u hj=>by
   obtain⟨b,off,rfl,hc⟩:=s.at_ w st j u hj
   refine⟨b,off,?_,hc⟩
   unfold sl1
   split
   · rfl
   · simp[Addr.add_lit]⟩
theorem CT.know {f:FuncId} {args:List Value} {R:Value→View→List Res→Prop} {A:Prop} (he:∀ as w,(callFunc f as).run P w=.ok (.enter f as) w) (ha:∀ w,St m h w→A) (k:A→CT P f args h m R):CT P f args h m R:=
 ⟨he,fun w hs=>(k (ha w hs)).calls w hs⟩
theorem CT.knowRow {f:FuncId} {args:List Value} {R:Value→View→List Res→Prop} {a:Option Addr} {k cap sz:Nat} {e:TypeId} {ys:List Value} (he:∀ as w,(callFunc f as).run P w=.ok (.enter f as) w) (hm:Res.row (.slice a k cap) e sz k ys ∈ h)
   (kk:k≤cap→cap≤9223372036854775807→ys.length=k * sz→CT P f args h m R):CT P f args h m R:=
 CT.know he (fun _ st=>a7y (st.ok _ hm)) fun ⟨h1,h2,h3⟩=>kk h1 h2 h3
end
end Go.Eng
end
section
namespace Go.Eng
open Go Go.RowKit
theorem a9f (a b:ByteArray):(a==b)=(a.data==b.data):=rfl
theorem b9Q {n k:List UInt8} (h:¬ n=k):((⟨n.toArray⟩:ByteArray)==⟨k.toArray⟩)=false:=by
 rw[a9f]
 exact beq_eq_false_iff_ne.2 fun e=>h (by simpa using e)
theorem a9R (n:List UInt8):((⟨n.toArray⟩:ByteArray)==⟨n.toArray⟩)=true:=by
 rw[a9f]
 exact beq_self_eq_true _

structure MapS (es:Array MapEntry) (ks:List (List UInt8)):Prop where
 a:∀ e ∈ es.toList,∃ n,e.key=str n∧e.val=.bool true∧n ∈ ks
 b:∀ n ∈ ks,∃ e ∈ es.toList,e.key=str n
theorem MapS.nil:MapS #[] []:=⟨fun e h=>by simp at h,fun n h=>by cases h⟩

section
variable {P:Program} {ops:Array Oper} {Q:Exit→Act→World→Prop} {n:Cx} {F:Fm} {h h':List Res} {m:View} {rest:List Oper}
variable {ty:TypeId} {pos:String} {after:Array Edge} {dst:Option Tmp} {g:Option (Nat × Bool)} {d:Nat}

end

section
variable {P:Program} {ops:Array Oper} {Q:Exit→Act→World→Prop} {n:Cx} {F:Fm} {m:View} {eff:List Nat} {t:Tl} {hs hp:List Res}
variable {ty:TypeId} {pos:String} {after:Array Edge} {d:Nat}
abbrev b1y (e:TypeId) (sz:Nat):Res:=.row (.slice none 0 0) e sz 0 []
theorem St.insNil (e:TypeId) (sz:Nat) {fr l1 l2 hs:List Res} {w:World} (s:St m (fr++((l1++l2)++hs)) w):St m (fr++((l1++b1y e sz::l2)++hs)) w:=by
 refine(s.addNil e sz).perm ?_
 have h1:(fr++((l1++b1y e sz::l2)++hs)).Perm (b1y e sz::(fr++((l1++l2)++hs))):=by
   refine(List.Perm.append_left fr ((List.perm_middle (l₁:=l1) (l₂:=l2)).append_right hs)).trans ?_
   exact List.perm_middle
 exact h1.symm
theorem a4U (e:TypeId) (sz:Nat) {l1 l2:List Res}:∀ (r:List Fl) {F:Fm} {fr:List Res},a1y P ops Q n t r F (fr++((l1++b1y e sz::l2)++hs)) m→a1y P ops Q n t r F (fr++((l1++l2)++hs)) m
 | [],_,_,h=>WL.mk fun a w ha st=>h.e a w ha (st.insNil e sz)
 | (_,_,_)::r,_,fr,h=>fun b=>a4U e sz r (fr:=_::fr) (h b)
theorem a3q.imp {r:Result Next} {R R':Value→World→Prop} {X:List PanicEntry→World→Prop} (h:a3q P r R X) (k:∀ v w,R v w→R' v w):a3q P r R' X:=by
 cases r with
 | ok x w=>
   cases x with
   | value v=>exact k _ _ h
   | skip=>exact k _ _ h
   | enter f args=>
     refine Calls.mono h fun e w' q=>?_
     rcases q with ⟨v,rfl,hv⟩ | q
     · exact .inl ⟨v,rfl,k v w' hv⟩
     · exact .inr q
   | _=>exact h
 | halt _ _=>exact h
theorem SRr.insNil (e:TypeId) (sz:Nat) {l1 l2:List Res}:∀ (T:Tr) {F:Fm},SRr P ops Q n eff t hs T F (l1++b1y e sz::l2) m→SRr P ops Q n eff t hs T F (l1++l2) m
 | .nil,_,h=>a4U e sz t.fl (fr:=[]) h
 | .alt a b,_,h=>⟨SRr.insNil e sz a h.1,SRr.insNil e sz b h.2⟩
 | .op i s,_,h=>by
   obtain⟨o,ho,hd,h⟩:=h
   refine⟨o,ho,hd,?_⟩
   have hsub:(l1++l2).Sublist (l1++b1y e sz::l2):=(List.sublist_cons_self _ _).append_left l1
   cases he:eff.contains i with
   | false=>
     rw[he] at h
     obtain⟨v,pg,hk⟩:=h
     exact⟨v,pg,SRr.insNil e sz s hk⟩
   | true=>
     rw[he] at h
     dsimp only at h ⊢
     cases hr:a4v o with
     | true=>
       rw[hr] at h
       obtain⟨v,pg,hk⟩:=h
       exact⟨v,⟨fun a w ha st=>pg.e a w ha (St.insNil e sz (fr:=[]) st)⟩,SRr.insNil e sz s hk⟩
     | false=>
       rw[hr] at h
       dsimp only at h ⊢
       have sat:∀ {G:Fm} {l:List Res},Sat n hs G (l++l2) m→Sat n hs G (l++b1y e sz::l2) m:=fun ⟨fr,a,w,ha,st⟩=>⟨fr,a,w,ha,st.insNil e sz⟩
       cases hmk:a2M o&&eff.contains 4096 with
       | true=>
         rw[hmk] at h
         exact⟨fun s a ha=>h.ex (sat s) a ha,fun a ha k cs el hout b s'=>SRr.insNil e sz (l1:=_::l1) s (h.k a ha k cs el hout b (sat (l:=_::l1) s'))⟩
       | false=>
       rw[hmk] at h
       dsimp only at h ⊢
       refine⟨fun fr a w ha st=>?_⟩
       obtain⟨h1,h2⟩:=h.e fr a w ha (St.insNil e sz st)
       refine⟨fun hw=>(h1 hw).imp fun v w' q=>?_,fun hw=>?_⟩
       · obtain⟨m',hp',q1,q2,q3,q4⟩:=q
         exact⟨m',hp',q1,q2,fun ha=>hsub.trans (q3 ha),q4⟩
       · exact⟨fun _=>List.Sublist.refl _,SRr.insNil e sz s (h2 hw).2⟩
theorem Z1 {q:Nat} {s:Tr} {tt e k:Nat} {sz by_:Nat} {ps:List (Nat × Operand)} {vs:List (Nat × Value)} {z:Value} {zs cs:List Value} {gd:Nat × Bool} {c:Bool}
   (ho:ops[q]?=some ⟨some d,.buildSlice tt k ps.toArray,ty,pos,after,some gd⟩) (he:eff.contains q=true) (hg:GU ops n F gd c) (E:EL P tt e sz by_) (hz:(P.info? e).bind (·.zero)=some z) (ev:c=true→EvP n F ps vs)
   (hzs:a6Z z k=some zs) (hf:a3t (fun i=>some (i * sz,sz)) zs vs=some cs) (hk:k * sz≤16777216) (h0:Nat.beq (k * sz) 0=false) (hd:d < n.num)
   (kk:∀ b r,(c=true→r=.pt b (.cells cs.toArray e (0,0)))→SR P ops Q n eff t hs s ((d,gv c (.slice (some ⟨b,0,none⟩) k k))::F) (r::hp) m) :
   SR P ops Q n eff t hs (.op q s) F hp m:=⟨_,ho,fun y hy=>by cases hy;exact hd,by
 rw[he]
 simp only[a7x,a7e,Bool.false_and]
 refine⟨fun fr f w hf' st=>?_⟩
 have hy:=hg.wanted (dst:=some d) (op:=.buildSlice tt k ps.toArray) (ty:=ty) (pos:=pos) (after:=after) hf'
 cases c with
 | true=>
   refine⟨fun _=>?_,fun h=>by rw[hy] at h;cases h⟩
   have hrun:=S8 (P:=P) w (dst:=some d) (ty:=ty) (pos:=pos) (after:=after) (g:=some gd) E hz (ev rfl) hzs hf hk h0 hf'
   rw[hrun]
   exact⟨m,.pt w.heap.size (.cells cs.toArray e)::hp,View.le.refl m,(st.alloc _).perm List.perm_middle.symm,fun _=>List.sublist_cons_self _ _,(kk w.heap.size _ (fun _=>rfl)).e⟩
 | false=>
   refine⟨fun h=>(by rw[hy] at h;cases h),fun _=>⟨fun _=>List.Sublist.refl _,?_⟩⟩
   exact SRr.insNil e sz (l1:=[]) s (kk 0 (b1y e sz) (fun h=>by cases h)).e⟩
end

section
variable {P:Program} {n:Cx} {F:Fm} {h:List Res} {m:View}
variable {ty:TypeId} {pos:String} {after:Array Edge} {dst:Option Tmp} {g:Option (Nat × Bool)}
def eqP (P:Program) (o:TypeId) (t:TypeId) (xs ys:List Value) (off:Nat):Option Bool:=match P.underlying t with
 | some (.struct gs)=>match Nat.beq t o with
   | true=>match (P.info? t).map (·.size) with
     | some k=>match seg xs off k with
       | some as=>match seg ys off k with
         | some bs=>b2i P as bs gs.toList
         | none=>none
       | none=>none
     | none=>none
   | false=>none
 | some d=>match M8 d with
   | true=>match xs[off]? with
     | some a=>match ys[off]? with
       | some b=>eqC d a b
       | none=>none
     | none=>none
   | false=>none
 | none=>none
def b3T (P:Program) (o:TypeId) (xs ys:List Value):List Field→Option Bool
 | []=>some true
 | f::fs=>match eqP P o f.type xs ys f.offset with
   | some r=>match b3T P o xs ys fs with
     | some q => match (f.name != "_") with
       | true=>some (r&&q)
       | false=>none
     | none=>none
   | none=>none
theorem b0N {xs as:List Value} {off k:Nat} (h:seg xs off k=some as):(xs.drop off).take k=as:=by
 obtain⟨h1,h2⟩:=a4R h
 subst h1
 refine List.ext_getElem? fun i=>?_
 rcases Nat.lt_or_ge i as.length with hi | hi
 · have:=h2 i _ (List.getElem?_eq_getElem hi)
   rw[List.getElem?_take_of_lt hi,List.getElem?_drop,this,List.getElem?_eq_getElem hi]
 · rw[List.getElem?_eq_none hi,List.getElem?_eq_none (by rw[List.length_take];omega)]
theorem c00 (w:World) (d:Nat) {o t:TypeId} (ho:P.stoodInHeld o=false) {xs ys:List Value} {off:Nat} {r:Bool} (he:eqP P o t xs ys off=some r):∃ a b,(part t xs.toArray off).run P w=.ok a w∧(part t ys.toArray off).run P w=.ok b w∧(Op.equalIn (d+2) t a b).run P w=.ok r w:=by
 unfold eqP at he
 split at he
 · rename_i gs ht
   split at he
   · rename_i hto
     have hto:=Nat.eq_of_beq_eq_true hto
     subst hto
     have hs:=ho
     split at he
     · rename_i k hk
       split at he
       · rename_i as ha
         split at he
         · rename_i bs hb
           cases hi:P.info? t with
           | none=>rw[hi] at hk;cases hk
           | some i0=>
             have hsz:i0.size=k:=by rw[hi] at hk;simpa using hk
             have hf:P.fieldsOf t=gs:=by simp[Program.fieldsOf,ht]
             have hag:=a2f (P:=P) w ht rfl
             refine⟨.agg as.toArray,.agg bs.toArray,?_,?_,?_⟩
             · simp[part,hag,sizeOf,typeInfo,hi,hsz,b0N ha]
             · simp[part,hag,sizeOf,typeInfo,hi,hsz,b0N hb]
             · rw[run_equalIn_struct (P:=P) w (d+1) t as.toArray bs.toArray (by rw[hf];exact ht) hs,hf]
               exact a5a w d as bs he
         · cases he
       · cases he
     · cases he
   · cases he
 · rename_i ds _ ht
   split at he
   · rename_i hp
     split at he
     · rename_i a ha
       split at he
       · rename_i b hb
         refine⟨a,b,?_,?_,b3z w (d:=d+1) ht he⟩
         · simp[part,L5 w ht hp,ha]
         · simp[part,L5 w ht hp,hb]
       · cases he
     · cases he
   · cases he
 · cases he
theorem a9g (w:World) (d:Nat) {o:TypeId} (ho:P.stoodInHeld o=false) (xs ys:List Value):∀ {fs:List Field} {r:Bool},b3T P o xs ys fs=some r→(Op.eqFields (d+2) xs.toArray ys.toArray fs).run P w=.ok r w
 | [],r,he=>by cases he;simp[Op.eqFields]
 | f::fs,r,he=>by
   unfold b3T at he
   split at he
   · rename_i c hc
     split at he
     · rename_i q hq
       split at he
       · rename_i h7
         cases he
         have h8 : f.name ≠ "_" := by simpa using h7
         have ih:=a9g w d ho xs ys hq
         obtain⟨a,b,ea,eb,e5⟩:=c00 (P:=P) w d ho hc
         simp only[Op.eqFields,if_pos h8,Sem.run_bind]
         rw[ea,Result.andThen_ok,eb,Result.andThen_ok,e5,Result.andThen_ok]
         cases c
         · simp
         · simpa using ih
       · cases he
     · cases he
   · cases he
theorem b0A {o:TypeId} {x y:Operand} {t t':TypeId} {fs:Array Field} {as bs:List Value} {r:Bool} (ht:P.underlying t=some (.struct fs)) (hs:P.stoodInHeld t=false) (hm:P.eqGuardType P.depth t=false) (ex:Ev n F x (.agg as.toArray)) (ey:Ev n F y (.agg bs.toArray))
   (ho:P.stoodInHeld o=false) (hr:b3T P o as bs fs.toList=some r):PO P ⟨dst,.binOp .neq t x y t',ty,pos,after,g⟩ n F h m (.bool (!r)):=.mk fun a w ha _=>by
 have hf:P.fieldsOf t=fs:=by simp[Program.fieldsOf,ht]
 have e1:=run_equalIn_struct (P:=P) w 9999 t as.toArray bs.toArray (by rw[hf];exact ht) hs
 rw[hf,a9g w 9997 ho as bs hr] at e1
 simp[execOp,ex a ha,ey a ha,run_eqGuard_agg w _ t _ _ _ _ hm,run_neq_struct,e1]
end
end Go.Eng
end
section
namespace Go.Sx
open Go.Eng Go.Pc Go
open Go.Xp hiding B
open Go.Ty (Ty Vr Tok)
open Go.Ly (Rw Q6)
open Go.Lx (lexO J8)
theorem a84 (s:B):(lexO s).1.length≤256∧∀ x ∈ (lexO s).1,J8 x=true∧(-2147483648≤x.n∧x.n≤2147483647):=by
 obtain⟨l,z,e,h⟩:∃ l z e,lexO s=(l,z,e):=⟨_,_,_,rfl⟩
 rw[h]
 by_cases he:e=0
 · subst he
   obtain⟨h1,h2,-⟩:=Go.Lx.lexO_ok h
   have h3:=Go.Lx.lx_len s 0 l h2
   exact⟨by show l.length≤256;omega,Go.Lx.lx_may s 0 l h2 (by omega)⟩
 · have h1:=Go.Lx.lexO_no h he
   subst h1
   exact⟨Nat.zero_le _,fun x hx=>(List.not_mem_nil hx).elim⟩
theorem b9y (s:B):∀ t ∈ (lexO s).1,t.text.length≤140737488355328:=fun t ht=>by have:=Go.Lx.may_len ((a84 s).2 t ht).1;omega
structure Pz where
 bp:Nat
 ra:Option Addr
 rc:Nat
 R:List Rw
structure Pok (m:View) (z:Pz):Prop where
 rd:Rd m [] z.ra z.R.length z.rc 3 (fl Q6 z.R)
 ok:z.R.length≤2048∧∀ x ∈ z.R,0≤x.depth∧x.depth≤32∧x.text.length≤256
 ne:∀ x ∈ z.R,(lexO x.text).2.2=0→(lexO x.text).1≠[]
theorem a8I (q:UInt8→Bool):∀ (l:B) {c:UInt8} {r:B},l.dropWhile q=c::r→q c=false
 | x::l,c,r,h=>by
   unfold List.dropWhile at h
   split at h
   · exact a8I q l h
   · cases h;assumption
theorem c3b {s:B} (h:Go.Ly.validP s=true) (he:(lexO s).2.2=0):(lexO s).1≠[]:=by
 obtain⟨h1,-,h2,-⟩:=Go.Ly.validP_spec h
 obtain⟨l,z,e,hl⟩:∃ l z e,lexO s=(l,z,e):=⟨_,_,_,rfl⟩
 rw[hl] at he ⊢
 obtain rfl:e=0:=he
 obtain⟨-,h3,-⟩:=Go.Lx.lexO_ok hl
 cases s with
 | nil=>exact absurd rfl h1
 | cons c r=>
   have hc:c≠32:=by
     have h4:=a8I (·==32) (Lib.trimRightB (c::r) 32) (c:=c) (r:=r) h2
     simpa using h4
   rintro rfl
   by_cases hn:(Go.Lx.tok (c::r)).2=0
   · rw[Go.Lx.lx_bad hc hn] at h3;cases h3
   · rw[Go.Lx.lx_tok hc hn] at h3
     cases hx:Go.Lx.lx ((c::r).drop (Go.Lx.tok (c::r)).2) (0+(Go.Lx.tok (c::r)).2) with
     | ok m=>rw[hx] at h3;cases h3
     | error e=>rw[hx] at h3;cases h3
theorem Pok.of {m:View} {z:Pz} (hr:Rd m [] z.ra z.R.length z.rc 3 (fl Q6 z.R)) (h:Go.Ly.mayP z.R=true):Pok m z:=
 ⟨hr,Go.Ly.mayP_all h,fun x hx=>by
   unfold Go.Ly.mayP at h
   split at h
   · cases h
   · exact c3b (Go.Ly.mayA_all h x hx).2.2⟩
theorem I5 {α β:Type} (x:α) (ts:List Tok) (i:Nat) (f:α→List Tok→PE β):I2 (.ok (x,ts)) i f=f x ts:=rfl
theorem O4 {α β:Type} (x:α) (i:Nat) (f:α→Nat→PE β):P8 (.ok (x,i)) f=f x i:=rfl
theorem M2 {β:Type} {ts:List Tok} {i:Nat} {f:Nat→PE β} (h:ts=[]):F4 ts i f=f (i+1):=by subst h;rfl
theorem M4 {β:Type} {ts:List Tok} {i:Nat} {f:Nat→PE β} (h:ts≠[]):F4 ts i f=.error (110,i):=by cases ts with | nil=>exact absurd rfl h | cons=>rfl
theorem a1U {β:Type} {k:Int} {s:B} {ts:List Tok} {i:Nat} {f:List Tok→PE β} (h:isM k s ts=true):V1 k s ts i f=f ts.tail:=by unfold V1;rw[h];rfl
theorem a2d {β:Type} {k:Int} {s:B} {ts:List Tok} {i:Nat} {f:List Tok→PE β} (h:isM k s ts=false):V1 k s ts i f=.error (110,i):=by unfold V1;rw[h];rfl
theorem a3k {β:Type} {R:List Rw} {d:Int} {i:Nat} {ts:List Tok} {f:List Tok→PE β} (h:a0q R d i=.ok ts):a0N R d i f=f ts:=by unfold a0N;rw[h]
theorem J0 {β:Type} {R:List Rw} {d:Int} {i:Nat} {e:Int × Nat} {f:List Tok→PE β} (h:a0q R d i=.error e):a0N R d i f=.error e:=by unfold a0N;rw[h]
theorem a1g {m:View} {z:Pz} {d:Int} {i:Nat} {ts:List Tok} (hz:Pok m z) (h:a0q z.R d i=.ok ts):(i < z.R.length∧0≤d∧d≤32)∧∃ x,z.R[i]?=some x∧x.depth=d∧ts=(lexO x.text).1:=by
 unfold a0q at h
 cases hx:z.R[i]? with
 | none=>rw[hx] at h;cases h
 | some x=>
   rw[hx] at h
   simp only at h
   split at h
   · cases h
   · split at h
     · cases h
     · rename_i hd
       have hd:x.depth=d:=Decidable.byContradiction hd
       cases h
       have h1:=hz.ok.2 x (List.mem_of_getElem? hx)
       exact⟨⟨(List.getElem?_eq_some_iff.1 hx).1,by omega,by omega⟩,x,rfl,hd,rfl⟩
theorem b99 {m:View} {z:Pz} {d:Int} {i:Nat} {ts:List Tok} (hz:Pok m z) (h:a0q z.R d i=.ok ts):0 < ts.length:=by
 unfold a0q at h
 cases hx:z.R[i]? with
 | none=>rw[hx] at h;cases h
 | some x=>
   rw[hx] at h
   simp only at h
   split at h
   · cases h
   · rename_i he
     split at h
     · cases h
     · cases h
       have h1:=hz.ne x (List.mem_of_getElem? hx) (Decidable.byContradiction he)
       exact List.length_pos_iff.2 h1
theorem a2D {R:List Rw} {d:Int} {i:Nat} (h:R.length≤i):a0q R d i=.error (110,i):=by
 unfold a0q;rw[List.getElem?_eq_none h]
theorem a6E {R:List Rw} {d:Int} {i:Nat} (h:O6 R d i=true):i < R.length:=by
 unfold O6 at h
 cases hx:R[i]? with
 | none=>rw[hx] at h;cases h
 | some x=>exact(List.getElem?_eq_some_iff.1 hx).1
theorem b5u {R:List Rw} {rec:Int→Bool→Nat→PE Pr} {row:List Tok→E Gu} {least most:Nat} {d:Int} {k:Nat} {acc:List Gu} {i:Nat} (hk:R.length≤i+k) (hc:acc.length < least∨(acc.length < most∧O6 R d i=true)) :
   Z3 R rec row least most d k acc i=a0N R d i fun ts=>I2 (row ts) i fun g r=>F4 r i fun i=>P8 (rec (d+1) false i) fun x i=>Z3 R rec row least most d (k - 1) (acc++[b3U g x]) i:=by
 cases k with
 | zero=>
   have hl:acc.length < least:=hc.elim id fun h=>absurd (a6E h.2) (by omega)
   rw[J0 (a2D (by omega))]
   unfold Z3
   rw[if_pos hl]
 | succ k=>
   conv=>lhs;unfold Z3
   rw[if_pos hc]
   rfl
theorem b1D {R:List Rw} {rec:Int→Bool→Nat→PE Pr} {row:List Tok→E Gu} {least most:Nat} {d:Int} {k:Nat} {acc:List Gu} {i:Nat} (hc:¬ (acc.length < least∨(acc.length < most∧O6 R d i=true))) :
   Z3 R rec row least most d k acc i=.ok (acc,i):=by
 cases k with
 | zero=>
   unfold Z3
   rw[if_neg fun h=>hc (.inl h)]
 | succ k=>
   unfold Z3
   rw[if_neg hc]
theorem b7C {R:List Rw} {rec:Int→Bool→Nat→PE Pr} {d:Int} {k:Nat} {acc:List Pr} {i:Nat} (hk:R.length≤i+k) (hc:O6 R d i=true) :
   a2l R rec d k acc i=P8 (rec d false i) fun x i=>a2l R rec d (k - 1) (acc++[x]) i:=by
 cases k with
 | zero=>exact absurd (a6E hc) (by omega)
 | succ k=>
   conv=>lhs;unfold a2l
   rw[if_pos hc]
   rfl
theorem b2v {R:List Rw} {rec:Int→Bool→Nat→PE Pr} {d:Int} {k:Nat} {acc:List Pr} {i:Nat} (hc:O6 R d i=false):a2l R rec d k acc i=.ok (acc,i):=by
 cases k with
 | zero=>rfl
 | succ k=>unfold a2l;rw[if_neg (by rw[hc];decide)]
theorem b4X {R:List Rw} {rec:Int→Bool→Nat→PE Pr} {d:Int} {k:Nat} {ns:List Int} {acc:List Pr} {i:Nat} (hk:R.length≤i+k) (hc:acc.length=0∨(acc.length < 8∧O6 R (d+1) i=true)) :
   W6 R rec d k ns acc i=a0N R (d+1) i fun ts=>V1 2 [80,82,79,67,69,83,83,79,82] ts i fun r=>match b3Z r with
     | some n=>P8 (rec (d+2) false (i+1)) fun x i=>W6 R rec d (k - 1) (ns++[n]) (acc++[x]) i
     | none=>.error (110,i):=by
 cases k with
 | zero=>
   have hl:acc.length=0:=hc.elim id fun h=>absurd (a6E h.2) (by omega)
   rw[J0 (a2D (by omega))]
   unfold W6
   rw[if_pos hl]
 | succ k=>
   conv=>lhs;unfold W6
   rw[if_pos hc]
   rfl
theorem b1R {R:List Rw} {rec:Int→Bool→Nat→PE Pr} {d:Int} {k:Nat} {ns:List Int} {acc:List Pr} {i:Nat} (hc:¬ (acc.length=0∨(acc.length < 8∧O6 R (d+1) i=true))) :
   W6 R rec d k ns acc i=.ok ((ns,acc),i):=by
 cases k with
 | zero=>
   unfold W6
   rw[if_neg fun h=>hc (.inl h)]
 | succ k=>
   unfold W6
   rw[if_neg hc]
theorem b7f {R:List Rw} {d:Int} {k:Nat} {acc:List Vr} {i:Nat} (hk:R.length≤i+k) (hc:acc.length=0∨O6 R (d+2) i=true) :
   a0L R d k acc i=a0N R (d+2) i fun ts=>I2 (a1w ts) i fun v r=>if Go.Ty.mayPr true (acc++[v]) then F4 r i fun i=>a0L R d (k - 1) (acc++[v]) i else .error (110,i):=by
 cases k with
 | zero=>
   have hl:acc.length=0:=hc.elim id fun h=>absurd (a6E h) (by omega)
   rw[J0 (a2D (by omega))]
   unfold a0L
   rw[if_pos hl]
 | succ k=>
   conv=>lhs;unfold a0L
   rw[if_pos hc]
   rfl
theorem b2W {R:List Rw} {d:Int} {k:Nat} {acc:List Vr} {i:Nat} (hc:¬ (acc.length=0∨O6 R (d+2) i=true)):a0L R d k acc i=.ok (acc,i):=by
 cases k with
 | zero=>
   unfold a0L
   rw[if_neg fun h=>hc (.inl h)]
 | succ k=>
   unfold a0L
   rw[if_neg hc]
theorem b4W {R:List Rw} {rec:Int→Bool→Nat→PE Pr} {d:Int} {top:Bool} {ts:List Tok} {i:Nat} {t:Tok} {f:Int→List Tok→Nat→PE Pr} (h0:ts[0]?=some t) (hw:a3h R rec t.text=some f) (hc:t.kind=2∧(top=true∨t.text≠[80,76,65,67,69,68])):a6h R rec d top ts i=f d ts.tail i:=by
 cases ts with
 | nil=>cases h0
 | cons u r=>
   cases h0
   unfold a6h
   simp only[hw]
   rw[if_pos hc]
   rfl
theorem b1S {R:List Rw} {rec:Int→Bool→Nat→PE Pr} {d:Int} {top:Bool} {ts:List Tok} {i:Nat} {t:Tok} (h0:ts[0]?=some t) (hc:a3h R rec t.text=none∨¬ (t.kind=2∧(top=true∨t.text≠[80,76,65,67,69,68]))):a6h R rec d top ts i=a3R R rec d ts i:=by
 cases ts with
 | nil=>cases h0
 | cons u r=>
   cases h0
   unfold a6h
   cases hw:a3h R rec t.text with
   | none=>simp only[hw]
   | some f=>
     simp only[hw]
     rcases hc with hc | hc
     · rw[hc] at hw;cases hw
     · rw[if_neg hc]
structure Gs (m:View) (h:List Res) (a:Option Addr) (c:Nat) (l:List Gu):Prop where
 rd:Rd m h a l.length c 23 (fl guE l)
 ok:∀ g ∈ l,GOk m h g
 sub:∀ g ∈ l,∀ x ∈ g.bl,POk m h x
structure Ls (m:View) (h:List Res) (a:Option Addr) (c:Nat) (l:List Pr):Prop where
 rd:Rd m h a l.length c 42 (fl prE l)
 ok:∀ x ∈ l,POk m h x
structure Ns (m:View) (h:List Res) (s:Sli Int):Prop where
 rd:Rd m h s.a s.l.length s.c 1 (fl a2e s.l)
 ok:∀ x ∈ s.l,-9223372036854775808≤x∧x≤9223372036854775807
structure Ss (m:View) (h:List Res) (s:Sp):Prop where
 ok:SOk m h s
 sub:∀ x ∈ s.bl,POk m h x
structure Rs (m:View) (h:List Res) (r:Rp):Prop where
 n:r.name.length≤Big
 b:EOk m h r.base
 c:EOk m h r.count
variable {m:View} {h h':List Res}
theorem Gs.mono {a:Option Addr} {c:Nat} {l:List Gu} (q:Gs m h a c l) (s:h.Sublist h'):Gs m h' a c l:=⟨q.rd.mono (View.le.refl m) s,fun g hg=>(q.ok g hg).mono s,fun g hg x hx=>(q.sub g hg x hx).mono s⟩
theorem Ls.mono {a:Option Addr} {c:Nat} {l:List Pr} (q:Ls m h a c l) (s:h.Sublist h'):Ls m h' a c l:=⟨q.rd.mono (View.le.refl m) s,fun g hg=>(q.ok g hg).mono s⟩
theorem Ns.mono {l:Sli Int} (q:Ns m h l) (s:h.Sublist h'):Ns m h' l:=⟨q.rd.mono (View.le.refl m) s,q.ok⟩
theorem Ss.mono {x:Sp} (q:Ss m h x) (s:h.Sublist h'):Ss m h' x:=⟨q.ok.mono s,fun y hy=>(q.sub y hy).mono s⟩
theorem Rs.mono {r:Rp} (q:Rs m h r) (s:h.Sublist h'):Rs m h' r:=⟨q.n,q.b.mono s,q.c.mono s⟩
theorem a0h (m:View) (h:List Res):Gs m h none 0 []:=⟨Rd.nilF guE 23 m h,fun _ hx=>(List.not_mem_nil hx).elim,fun _ hx=>(List.not_mem_nil hx).elim⟩
theorem a2L (m:View) (h:List Res):Ls m h none 0 []:=⟨Rd.nilF prE 42 m h,fun _ hx=>(List.not_mem_nil hx).elim⟩
theorem X3 (m:View) (h:List Res):Ns m h B9:=⟨Rd.nilF a2e 1 m h,fun _ hx=>(List.not_mem_nil hx).elim⟩
theorem F8 (m:View) (h:List Res):LOk m h B9:=⟨Rd.nilF exE 6 m h,fun _ hx=>(List.not_mem_nil hx).elim⟩
theorem b5f (m:View) (h:List Res):TOk m h A4:=.mk (Rd.nilF exE 6 m h) (fun _ hx=>by cases hx)
theorem a5z (m:View) (h:List Res):EOk m h A4:=⟨b5f m h,.mk (by decide) (by decide) (by decide) (by decide) (Nat.zero_le _) fun _ hx=>(List.not_mem_nil hx).elim⟩
theorem U7 (m:View) (h:List Res):Rs m h D3:=⟨Nat.zero_le _,a5z m h,a5z m h⟩
theorem a7A (m:View) (h:List Res):Go.Ty.PrOk m h none 0 0 []:=⟨Rd.nilF Go.Ty.encV 2 m h,fun _ hx=>(List.not_mem_nil hx).elim,fun _ hx=>(List.not_mem_nil hx).elim⟩
theorem Q8 (m:View) (h:List Res):Ss m h D4:=
 ⟨⟨by decide,⟨by decide,by decide,by decide,Nat.zero_le _⟩,Rd.nilF Go.Lx.encB 1 m h,fun _ hx=>(List.not_mem_nil hx).elim,a5z m h,a7A m h,fun _ hx=>(List.not_mem_nil hx).elim,Rd.nilF foE 6 m h,fun _ hx=>(List.not_mem_nil hx).elim,Rd.nilF prE 42 m h⟩,fun _ hx=>(List.not_mem_nil hx).elim⟩
theorem a4p {k:Int} {nm:B} {ch:Ex} {tg ex:Sli Ex} {rep:Rp} {ga:Option Addr} {gc:Nat} {gl:List Gu} {la:Option Addr} {lc:Nat} {ll:List Pr} {pn:Sli Int} {sp:Sp} (hk:0≤k∧k≤255) (hn:nm.length≤Big) (hch:EOk m h ch) (ht:LOk m h tg) (he:LOk m h ex)
   (hr:Rs m h rep) (hg:Gs m h ga gc gl) (hl:Ls m h la lc ll) (hp:Ns m h pn) (hs:Ss m h sp):POk m h (.mk k nm ch tg ex rep ga gc gl la lc ll pn sp):=
 .mk ⟨hk,hn,hch,ht,he,hr.n,hr.b,hr.c,hg.rd,hg.ok,hl.rd,hp.rd,hp.ok,hs.ok⟩ fun x hx=>by
   cases hx with
   | l hx=>exact hl.ok x hx
   | s hx=>exact hs.sub x hx
   | g hq hx=>exact hg.sub _ hq x hx
end Go.Sx
end
section
namespace Go.Sx
open Go.Eng Go.Pc Go
open Go.Xp hiding B
open Go.Ty (Ty Vr Tok)
theorem b7n (e:Ex):C0 (C0 e)=C0 e:=by
 refine Ex.ind (p:=fun e=>C0 (C0 e)=C0 e) (fun e ih=>?_) e
 rw[V6 e,V6]
 show Ex.mk _ _ _ _ _ _ _ ((e.l.map C0).map C0)=_
 rw[List.map_map]
 congr 1
 exact List.map_congr_left fun x hx=>ih x hx
theorem a0i (x w:Ex):D8 (C0 x) w=D8 x w:=by rw[Bool.eq_iff_iff,X6,X6,b7n]
theorem c2U (x w:Ex):D8 x (C0 w)=D8 x w:=by rw[Bool.eq_iff_iff,X6,X6,b7n]
theorem a2W (e:Ex):Y3 (C0 e)=Y3 e:=a0i e A4
theorem b0B:∀ (l pre:List Vr),Go.Ty.mayIn (pre.map W4) (l.map W4)=Go.Ty.mayIn pre l
 | [],_=>rfl
 | v::r,pre=>by
   have h1:Go.Ty.badV (pre.map W4) (W4 v)=Go.Ty.badV pre v:=by
     unfold Go.Ty.badV Go.Ty.tagIn
     rw[List.any_map]
     rfl
   have h2:=b0B r (pre++[v])
   rw[List.map_append] at h2
   show(if Go.Ty.badV (pre.map W4) (W4 v) then false else Go.Ty.mayIn (pre.map W4++[W4 v]) (r.map W4))=if Go.Ty.badV pre v then false else Go.Ty.mayIn (pre++[v]) r
   rw[h1,← h2]
   rfl
theorem a7P (cs:Bool) (l:List Vr):Go.Ty.mayPr cs (l.map W4)=Go.Ty.mayPr cs l:=by
 unfold Go.Ty.mayPr
 rw[List.length_map]
 have h0:(Go.Ty.hdV (l.map W4)).tag=(Go.Ty.hdV l).tag∧(Go.Ty.hdV (l.map W4)).items=(Go.Ty.hdV l).items:=by cases l <;> exact⟨rfl,rfl⟩
 rw[h0.1,h0.2]
 have h1:=b0B l []
 rw[List.map_nil] at h1
 rw[h1]
theorem a3H {α β:Type} (l:List α) (f:α→β) (a b:Int) (q:β→Bool) (r:α→Bool) (h:∀ x,q (f x)=r x):a0X (l.map f) a b q=a0X l a b r:=by
 unfold a0X
 rw[List.length_map,List.any_map]
 congr 2
 congr 1
 funext x
 simp[h]
theorem b3u {α:Type} (q:α→α→Bool) (f:α→α) (h:∀ x y,q (f x) (f y)=q x y):∀ (l r:List α),eqL q (l.map f) (r.map f)=eqL q l r
 | [],[]=>rfl
 | [],_::_=>rfl
 | _::_,[]=>rfl
 | x::l,y::r=>by
   show(q (f x) (f y)&&eqL q (l.map f) (r.map f))=_
   rw[h,b3u q f h l r]
   rfl
theorem S0 (s:Sp):stS s=spM s.k s.ty s.names.l (C0 s.e) s.cs (s.vs.l.map W4) s.fs.l (s.bl.map stP):=by
 cases s
 rw[stS,a3G]
 rfl
theorem a9p (a b:Sp):V5 (stS a) (stS b)=V5 a b:=by
 rw[S0,S0]
 unfold V5
 show((((((((a.k==b.k)&&Go.Ty.eqT a.ty b.ty)&&(a.names.l==b.names.l))&&D8 (C0 a.e) (C0 b.e))&&(a.cs==b.cs))&&eqL R1 (a.vs.l.map W4) (b.vs.l.map W4))&&eqL a0R a.fs.l b.fs.l)&&(((a.bl.map stP).length:Int)==(b.bl.map stP).length))=_
 rw[a0i,c2U,b3u R1 W4 (fun _ _=>rfl),List.length_map,List.length_map]
theorem c0b (s:Sp):a3a (stS s)=stS (a3a s):=by
 rw[S0 s]
 unfold a3a
 show(if s.k=1 then _ else if s.k=2 then _ else if s.k=3 then _ else if s.k=4 then _ else _)=_
 split
 · rw[S0];rfl
 · split
   · rw[S0];rfl
   · split
     · rw[S0];rfl
     · split
       · rw[S0];rfl
       · rw[S0];rfl
theorem c0a (s:Sp):a2x (stS s)=a2x s:=by
 rw[S0 s]
 unfold a2x
 show(if s.k=1 then Go.Ty.may s.ty else if s.k=2 then a1K s.ty&&M3 (C0 s.e) else if s.k=3 then a1K s.ty&&O2 (C0 s.e) else if s.k=4 then Go.Ty.mayPr s.cs (s.vs.l.map W4) else (((s.bl.map stP).length:Int)==1)&&a0X s.fs.l 0 8 foP)=_
 rw[Q3,W9,a7P,List.length_map]
theorem c1p (s:Sp):spP (stS s)=spP s:=by
 have h1:(stS s).k=s.k:=by rw[S0];rfl
 have h2:(stS s).names.l=s.names.l:=by rw[S0];rfl
 unfold spP
 rw[h1,h2,c0a,c0b,a9p]
end Go.Sx
end
section
namespace Go.Eng
open Go Go.RowKit
def a7V (es:Array MapEntry) (kv:List (List UInt8 × Value)):Prop:=es.toList.map (fun x=>(x.key,x.val))=kv.map fun p=>(str p.1,p.2)
theorem a7V.nil:a7V #[] []:=rfl
def a0O (n:List UInt8):List (List UInt8 × Value)→Option Value
 | []=>none
 | (k,v)::r=>if n=k then some v else a0O n r
theorem b2H {n:List UInt8}:∀ (l:List MapEntry) (kv:List (List UInt8 × Value)) (i:Nat),l.map (fun x=>(x.key,x.val))=kv.map (fun p=>(str p.1,p.2)) →
   (a0O n kv=none∧Instr.findNow .string (str n) l i=some none)∨∃ j v,a0O n kv=some v∧Instr.findNow .string (str n) l i=some (some (i+j,v))
 | [],[],_,_=>.inl ⟨rfl,rfl⟩
 | [],_::_,_,h=>by cases h
 | _::_,[],_,h=>by cases h
 | e::l,(k,v)::kv,i,h=>by
   simp only[List.map_cons,List.cons.injEq,Prod.mk.injEq] at h
   obtain⟨⟨hk,hv⟩,h⟩:=h
   by_cases hn:n=k
   · subst hn
     refine .inr ⟨0,v,by simp[a0O],?_⟩
     simp[Instr.findNow,hk,Instr.sameNow,a9R,hv]
   · have hb:((⟨n.toArray⟩:ByteArray)==⟨k.toArray⟩)=false:=b9Q hn
     have e1:Instr.findNow .string (str n) (e::l) i=Instr.findNow .string (str n) l (i+1):=by
       simp[Instr.findNow,hk,Instr.sameNow,hb]
     have e2:a0O n ((k,v)::kv)=a0O n kv:=by simp[a0O,hn]
     rw[e1,e2]
     rcases b2H l kv (i+1) h with h1 | ⟨j,v,h1,h2⟩
     · exact .inl h1
     · exact .inr ⟨j+1,v,h1,by rw[h2];congr 3;omega⟩
section
variable {P:Program} {ops:Array Oper} {Q:Exit→Act→World→Prop} {n:Cx} {F:Fm} {h h':List Res} {m:View} {rest:List Oper}
variable {ty:TypeId} {pos:String} {after:Array Edge} {dst:Option Tmp} {g:Option (Nat × Bool)} {d:Nat}
theorem b1n (w:World) {t kt et:TypeId} {b:Nat} {es:Array MapEntry} {clock:Nat} {kv:List (List UInt8 × Value)} {x:List UInt8} {v:Value} (ht:P.underlying t=some (.map kt et)) (hk:P.underlying kt=some (.string)) (hM:a7V es kv) (hx:a0O x kv=none)
   (hb:w.heap[b]?=some (.map es clock)):∃ es' clock',a7V es' (kv++[(x,v)])∧(Instr.mapUpdate t (.map (some b)) (str x) v).run P w=.ok () { w with heap:=w.heap.setIfInBounds b (.map es' clock') }:=by
 have hck:(Instr.checkKey false 10000 kt (str x)).run P w=.ok () w:=by
   unfold Instr.checkKey
   simp[run_underlying hk]
 have hget:(getObj b).run P w=.ok (.map es clock) w:=by simp[getObj,Sem.run,hb]
 have hset:∀ o,(setObj b o).run P w=.ok () { w with heap:=w.heap.setIfInBounds b o }:=fun o=>by simp[setObj,Sem.run,hb]
 rcases b2H (n:=x) es.toList kv 0 hM with ⟨h1,h2⟩ | ⟨j,v,h1,h2⟩
 · refine⟨es.push { key:=str x,val:=v,born:=clock },clock+1,?_,?_⟩
   · unfold a7V at hM ⊢
     simp[hM]
   · simp[Instr.mapUpdate,run_underlying ht,hget,hck,Instr.findKey,run_underlying hk,h2,hset]
 · rw[hx] at h1;cases h1
theorem P2 {op:Op} {x y z:Operand} {t kt et:TypeId} {b:Nat} {es:Array MapEntry} {clock:Nat} {kv:List (List UInt8 × Value)} {i:List UInt8} {v:Value} {hq:Array MapEntry→Nat→List Res} (hop:op=.mapUpdate t x y z∨op=.insert t x y z) (ht:P.underlying t=some (.map kt et)) (hk:P.underlying kt=some (.string)) (hM:a7V es kv) (hi:a0O i kv=none)
   (ex:Ev n F x (.map (some b))) (ey:Ev n F y (str i)) (ez:Ev n F z v) (u:∀ es' c',Upd h (.pt b (.map es clock)) (.pt b (.map es' c')) (hq es' c')) (k:∀ es' c',a7V es' (kv++[(i,v)])→WL P ops Q n rest F (hq es' c') m) :
   WL P ops Q n (⟨none,op,ty,pos,after,none⟩::rest) F h m:=.mk fun a w ha hs=>by
 obtain⟨es',c',h1,h2⟩:=b1n (P:=P) w (x:=i) (v:=v) ht hk hM hi (hs.ok _ (u es clock).mem)
 have hrun:(execOp a.eval ⟨none,op,ty,pos,after,none⟩).run P w=.ok .skip { w with heap:=w.heap.setIfInBounds b (.map es' c') }:=by
   rcases hop with rfl | rfl <;> simp[execOp,ex a ha,ey a ha,ez a ha,h2]
 exact E9 rfl (a6N hrun (k es' c' h1 _ _ ha (hs.setObj (u es' c'))))
theorem b2A {x y:Operand} {t kt et:TypeId} {b:Nat} {es:Array MapEntry} {clock:Nat} {kv:List (List UInt8 × Value)} {i:List UInt8} {z:Value} (ht:P.underlying t=some (.map kt et)) (hk:P.underlying kt=some (.string)) (hz:(P.info? et).bind (·.zero)=some z) (hM:a7V es kv)
   (ex:Ev n F x (.map (some b))) (ey:Ev n F y (str i)) (hm:Res.pt b (.map es clock) ∈ h):PO P ⟨dst,.lookup t x y true,ty,pos,after,g⟩ n F h m (.tuple #[(a0O i kv).getD z,.bool (a0O i kv).isSome]):=.mk fun a w ha hs=>by
 have hb:w.heap[b]?=some (.map es clock):=hs.ok _ hm
 have hck:(Instr.checkKey es.isEmpty 10000 kt (str i)).run P w=.ok () w:=by
   unfold Instr.checkKey
   simp[run_underlying hk]
 have hget:(getObj b).run P w=.ok (.map es clock) w:=by simp[getObj,Sem.run,hb]
 have hzr:(zeroValue et).run P w=.ok z w:=by
   cases hi:P.info? et with
   | none=>simp[hi] at hz
   | some j=>
     have:j.zero=some z:=by simpa [hi] using hz
     simp[zeroValue,typeInfo,hi,this]
 rcases b2H (n:=i) es.toList kv 0 hM with ⟨h1,h2⟩ | ⟨j,v,h1,h2⟩
 · simp[execOp,ex a ha,ey a ha,Instr.lookup,run_underlying ht,hget,hck,Instr.findKey,run_underlying hk,h1,h2,hzr]
 · simp[execOp,ex a ha,ey a ha,Instr.lookup,run_underlying ht,hget,hck,Instr.findKey,run_underlying hk,h1,h2]
theorem c4d {fn:Func} {ex:Exit} {m0:View} {R:Value→View→List Res→Prop} {r r':ResultVar} {v v':Value} {q:FuncId} {cap:List Value} (hex:ex=.ret∨ex=.normal) (hds:n.ds=[a8n q cap]) (he:∀ as w,(callFunc q as).run P w=.ok (.enter q as) w)
   (hd:a8l P q cap .returning m h h) (hfn:fn.results=#[r,r']) (x1:RV P n F h m r v) (x2:RV P n F h m r' v') (hle:m0.le m) (hsub:h'.Sublist h) (hR:R (.tuple #[v,v']) m h') :
   ∀ a w,Fr n F a→St m h w→bodyPostD P fn (RQ m0 R) ex a w:=fun a w ha hs=>by
 have key:Leaves P fn a.tmps (RQ m0 R) a.defers .returning w:=by
   rw[ha.d,hds]
   refine a9T he (by simp) hd hs fun w' hs'=>⟨.tuple #[v,v'],?_,_,m,h',rfl,hle,hs'.sub hsub,hR⟩
   have h1:=x1.e a w' ha hs'
   have h2:=x2.e a w' ha hs'
   simp[X1,hfn,h1,h2]
 rcases hex with rfl | rfl <;> exact key
theorem c3n {fn:Func} {m0:View} {R:Value→View→List Res→Prop} {r r':ResultVar} {v v' u:Value} {q:FuncId} {cap:List Value} {h2:List Res} (hds:n.ds=[a8n q cap]) (he:∀ as w,(callFunc q as).run P w=.ok (.enter q as) w)
   (hd:a8l P q cap (.panicking [{ v:=u,recovered:=false }]) m h h2) (hfn:fn.results=#[r,r']) (x1:RV P n F h2 m r v) (x2:RV P n F h2 m r' v') (hle:m0.le m) (hsub:h'.Sublist h2) (hR:R (.tuple #[v,v']) m h') :
   ∀ a w,Fr n F a→St m h w→bodyPostD P fn (RQ m0 R) (.panic [{ v:=u,recovered:=false }]) a w:=fun a w ha hs=>by
 show Leaves P fn a.tmps (RQ m0 R) a.defers (.panicking [{ v:=u,recovered:=false }]) w
 rw[ha.d,hds]
 refine a9T he (by simp) hd hs fun w' hs'=>⟨.tuple #[v,v'],?_,_,m,h',rfl,hle,hs'.sub hsub,hR⟩
 have h1:=x1.e a w' ha hs'
 have h2:=x2.e a w' ha hs'
 simp[X1,hfn,h1,h2]
end
end Go.Eng
end
section
namespace Go.Sx
open Go.Eng Go.Pc Go
open Go.Xp hiding B
open Go.Ty (Ty Vr Tok)
open Go.Ly (Rw)
def Er {α:Type} (r:E α):Prop:=∀ e,r=.error e→e=110
theorem V2 {α:Type} {x:α × List Tok}:Er (.ok x):=nofun
theorem a4s {α:Type}:Er (.error 110:E α):=fun e h=>by cases h;rfl
theorem Q2 {α β:Type} {r:E α} {f:α→List Tok→E β} (h:Er r) (hf:∀ x ts,Er (f x ts)):Er (O5 r f):=by
 cases r with
 | ok x=>exact hf x.1 x.2
 | error e=>rw[h e rfl];exact a4s
theorem a4f {β:Type} {k:Int} {s:B} {ts:List Tok} {f:List Tok→E β} (h:∀ r,Er (f r)):Er (Y4 k s ts f):=by
 unfold Y4
 split
 · exact h _
 · exact a4s
theorem a0r {α:Type} {c:Prop} [Decidable c] {a b:E α} (ha:Er a) (hb:Er b):Er (if c then a else b):=by
 split
 · exact ha
 · exact hb
theorem a0S (ts:List Tok):Er (V0 ts):=by rw[b0t];exact a0r V2 a4s
theorem S5 (ts:List Tok):Er (M1 ts):=by rw[b1B];exact a0r V2 a4s
theorem a4a (ts:List Tok):Er (L3 ts):=by rw[a5Z];exact a0r (Q2 (S5 ts) fun _ _=>a0r V2 a4s) a4s
theorem b00 (ts:List Tok):Er (a7w ts):=a0r V2 a4s
theorem b4s (ts:List Tok):Er (a5n ts):=Q2 (b00 ts) fun _ _=>a0r V2 a4s
theorem b4K (ts:List Tok):Er (a4m ts):=Q2 (b00 _) fun _ _=>Q2 (a0S _) fun _ _=>a0r V2 a4s
theorem b4e {α:Type} {take:List Tok→E α} {sep:B} (h:∀ ts,Er (take ts)):∀ (n:Nat) (acc:List α) (ts:List Tok),Er (a2j take sep n acc ts)
 | 0,_,_=>a0r a4s V2
 | n+1,_,_=>a0r (Q2 (h _) fun _ _=>b4e h n _ _) V2
theorem a1o {α:Type} {take:List Tok→E α} {sep:B} {most:Nat} {ts:List Tok} (h:∀ ts,Er (take ts)):Er (P4 take sep most ts):=Q2 (h _) fun _ _=>b4e h _ _ _
theorem c1u {α:Type} {take:List Tok→E α} {ts:List Tok} (h:∀ ts,Er (take ts)):Er (brM take ts):=a4f fun _=>a0r V2 (Q2 (a1o h) fun _ _=>a4f fun _=>V2)
theorem b8E (ts:List Tok):Er (b2F ts):=a0r V2 (Q2 (a0S _) fun _ _=>a4f fun _=>Q2 (S5 _) fun _ _=>a4f fun _=>Q2 (S5 _) fun _ _=>V2)
theorem c2I (ts:List Tok):Er (ifM ts):=Q2 (S5 _) fun _ _=>V2
theorem b3t (c:Ex) (ts:List Tok):Er (a8H c ts):=Q2 (a4a _) fun _ _=>a4f fun _=>a0r (Q2 (S5 _) fun _ _=>V2) (Q2 (a1o a4a) fun _ _=>V2)
theorem b6F (ts:List Tok):Er (a71 ts):=a0r (Q2 (S5 _) fun _ _=>a4f fun _=>a0r V2 (b3t _ _)) (b3t _ _)
theorem c1A (ts:List Tok):Er (b5a ts):=a0r V2 (Q2 (a1o S5) fun _ _=>V2)
theorem c2a (ts:List Tok):Er (b3c ts):=Q2 (a0S _) fun _ _=>a0r (Q2 (a1o a4a) fun _ _=>V2) V2
theorem b3a (ts:List Tok):Er (a1w ts):=Q2 (a0S _) fun _ _=>a0r (Q2 (a1o b4s) fun _ _=>V2) V2
def Ep {α:Type} (r:PE α):Prop:=∀ e j,r=.error (e,j)→e≠0
theorem O3 {α:Type} {x:α × Nat}:Ep (.ok x):=nofun
theorem a1V {α:Type} {i:Nat}:Ep (.error (110,i):PE α):=fun e j h=>by cases h;decide
theorem S3 {α β:Type} {r:PE α} {f:α→Nat→PE β} (h:Ep r) (hf:∀ x i,Ep (f x i)):Ep (P8 r f):=by
 cases r with
 | ok x=>exact hf x.1 x.2
 | error e=>exact fun a j q=>h a j (by cases q;rfl)
theorem K6 {α β:Type} {r:E α} {i:Nat} {f:α→List Tok→PE β} (h:Er r) (hf:∀ x ts,Ep (f x ts)):Ep (I2 r i f):=by
 cases r with
 | ok x=>exact hf x.1 x.2
 | error e=>rw[h e rfl];exact a1V
theorem Q5 {α:Type} {c:Prop} [Decidable c] {a b:PE α} (ha:Ep a) (hb:Ep b):Ep (if c then a else b):=by
 split
 · exact ha
 · exact hb
theorem J4 {β:Type} {ts:List Tok} {i:Nat} {f:Nat→PE β} (h:∀ i,Ep (f i)):Ep (F4 ts i f):=Q5 (h _) a1V
theorem a1J {β:Type} {k:Int} {s:B} {ts:List Tok} {i:Nat} {f:List Tok→PE β} (h:∀ r,Ep (f r)):Ep (V1 k s ts i f):=Q5 (h _) a1V
variable {R:List Rw}
theorem a5e {β:Type} {d:Int} {i:Nat} {f:List Tok→PE β} (h:∀ r,Ep (f r)):Ep (a0N R d i f):=by
 unfold a0N a0q
 cases hx:R[i]? with
 | none=>exact a1V
 | some x=>
   simp only
   split
   · rename_i h1
     split at h1
     · cases h1
     · split at h1
       · cases h1
       · exact h _
   · rename_i h1
     split at h1
     · rename_i he
       cases h1
       exact fun a j q=>by cases q;exact he
     · split at h1
       · cases h1;exact a1V
       · cases h1
theorem a9J {β:Type} {d k:Int} {s:B} {i:Nat} {f:Nat→PE β} (h:∀ i,Ep (f i)):Ep (a2t R d k s i f):=a5e fun _=>a1J fun _=>J4 h
variable {rec:Int→Bool→Nat→PE Pr} (hr:∀ d t i,Ep (rec d t i))
include hr
theorem a3W {row:List Tok→E Gu} (hw:∀ ts,Er (row ts)) {least most:Nat} {d:Int}:∀ (k:Nat) (acc:List Gu) (i:Nat),Ep (Z3 R rec row least most d k acc i)
 | 0,_,_=>Q5 a1V O3
 | k+1,_,_=>Q5 (a5e fun _=>K6 (hw _) fun _ _=>J4 fun _=>S3 (hr _ _ _) fun _ _=>a3W hw k _ _) O3
theorem b1A {d:Int}:∀ (k:Nat) (acc:List Pr) (i:Nat),Ep (a2l R rec d k acc i)
 | 0,_,_=>O3
 | k+1,_,_=>Q5 (S3 (hr _ _ _) fun _ _=>b1A k _ _) O3
theorem a8P {d:Int}:∀ (k:Nat) (ns:List Int) (acc:List Pr) (i:Nat),Ep (W6 R rec d k ns acc i)
 | 0,_,_,_=>Q5 a1V O3
 | k+1,_,_,_=>Q5 (a5e fun _=>a1J fun r=>by
     cases b3Z r with
     | none=>exact a1V
     | some n=>exact S3 (hr _ _ _) fun _ _=>a8P k _ _ _) O3
omit hr in
theorem a9k {d:Int}:∀ (k:Nat) (acc:List Vr) (i:Nat),Ep (a0L R d k acc i)
 | 0,_,_=>Q5 a1V O3
 | k+1,_,_=>Q5 (a5e fun _=>K6 (b3a _) fun _ _=>Q5 (J4 fun _=>a9k k _ _) a1V) O3
omit hr in
theorem b6R {d:Int} {ts:List Tok} {i:Nat}:Ep (a5G R d ts i):=
 Q5 (K6 (a1o b4s) fun _ _=>a1J fun _=>J4 fun _=>O3) (J4 fun _=>a9J fun _=>S3 (a9k _ _ _) fun _ _=>a9J fun _=>O3)
omit hr in
theorem a9A {s:Sp} {ts:List Tok} {i:Nat}:Ep (b0w s ts i):=a1J fun _=>Q5 (J4 fun _=>O3) a1V
theorem c0d {d:Int} {ts:List Tok} {i:Nat}:Ep (a5Y R rec d ts i):=
 Q5 (K6 (a0S _) fun _ _=>S3 b6R fun _ _=>O3)
   (Q5 (K6 (a0S _) fun _ _=>K6 (c1u b4K) fun _ _=>J4 fun _=>S3 (hr _ _ _) fun _ _=>a9J fun _=>O3)
     (Q5 (K6 (b00 _) fun _ _=>K6 (a0S _) fun _ _=>a1J fun _=>K6 (S5 _) fun _ _=>a9A)
       (Q5 (K6 (b00 _) fun _ _=>K6 (a1o a0S) fun _ _=>Q5 (K6 (a4a _) fun _ _=>a9A) a9A) O3)))
theorem a9r {k:Int} {d:Int} {ts:List Tok} {i:Nat}:Ep (a3L R rec k d ts i):=
 K6 (b8E _) fun _ _=>J4 fun _=>Q5 (S3 (hr _ _ _) fun _ _=>O3) (S3 (b1A hr _ _ _) fun _ _=>O3)
theorem a5I {k:Int} {row:List Tok→E Gu} (hw:∀ ts,Er (row ts)) {d:Int} {ts:List Tok} {i:Nat}:Ep (a0Y R rec k row d ts i):=
 K6 (b8E _) fun _ _=>J4 fun _=>S3 (a3W hr hw _ _ _) fun _ _=>O3
theorem a8Y {d:Int} {ts:List Tok} {i:Nat}:Ep (a3R R rec d ts i):=
 Q5 (K6 (a0S _) fun _ _=>K6 (c1u S5) fun _ _=>J4 fun _=>O3)
   (K6 (a1o a4a) fun _ _=>Q5 (K6 (a1o S5) fun _ _=>J4 fun _=>O3) (Q5 a1V (Q5 (K6 (a1o S5) fun _ _=>J4 fun _=>O3)
     (a1J fun _=>Q5 (J4 fun _=>S3 (a3W hr c2a _ _ _) fun _ _=>O3) (Q5 (K6 (S5 _) fun _ _=>J4 fun _=>O3) (K6 (a1o a4a) fun _ _=>J4 fun _=>O3))))))
theorem b9E {s:B} {f:Int→List Tok→Nat→PE Pr} (h:a3h R rec s=some f) (d:Int) (ts:List Tok) (i:Nat):Ep (f d ts i):=by
 unfold a3h at h
 split at h
 · cases h;exact J4 fun _=>O3
 split at h
 · cases h;exact J4 fun _=>O3
 split at h
 · cases h;exact a9r hr
 split at h
 · cases h;exact a9r hr
 split at h
 · cases h;exact Q5 (J4 fun _=>S3 (hr _ _ _) fun _ _=>S3 (hr _ _ _) fun _ _=>O3) (a1J fun _=>a5I hr b6F)
 split at h
 · cases h;exact a5I hr b6F
 split at h
 · cases h;exact a5I hr c2I
 split at h
 · cases h;exact K6 (S5 _) fun _ _=>J4 fun _=>S3 (a3W hr c1A _ _ _) fun _ _=>O3
 split at h
 · cases h;exact K6 (S5 _) fun _ _=>J4 fun _=>S3 (hr _ _ _) fun _ _=>O3
 split at h
 · cases h;exact a1J fun _=>J4 fun _=>S3 (a8P hr _ _ _ _) fun _ _=>O3
 · cases h
theorem c02 {d:Int} {top:Bool} {ts:List Tok} {i:Nat}:Ep (a6h R rec d top ts i):=by
 cases ts with
 | nil=>exact a1V
 | cons t r=>
   unfold a6h
   cases hw:a3h R rec t.text with
   | none=>simp only[hw];exact a8Y hr
   | some f=>simp only[hw];exact Q5 (b9E hr hw _ _ _) (a8Y hr)
theorem c0j {d:Int} {top:Bool} {i:Nat}:Ep (c1i R rec d top i):=a5e fun _=>S3 (c0d hr) fun so _=>by
 cases so with
 | none=>exact c02 hr
 | some s=>exact S3 (hr _ _ _) fun _ _=>O3
omit hr in
theorem a8c:∀ (n:Nat) (d:Int) (t:Bool) (i:Nat),Ep (C1 R n d t i)
 | 0,_,_,_=>a1V
 | n+1,_,_,_=>c0j (a8c n)
omit hr in
theorem c2P:Ep (b0d R):=S3 (a8c _ _ _ _) fun _ i=>by
 cases R[i]? with
 | none=>exact O3
 | some y=>
   show Ep (.error (if (Go.Lx.lexO y.text).2.2≠0 then (Go.Lx.lexO y.text).2.2 else 110,i))
   intro e j h
   cases h
   split
   · assumption
   · decide
end Go.Sx
end
section
namespace Go.Sx
open Go.Eng Go.Pc Go
open Go.Xp hiding B
open Go.Ty (Ty Vr Tok)
open Go.Ly (Rw)
def A2 (s:B):Tok:=if Go.Lx.key s then ⟨2,0,s,0⟩ else ⟨5,0,s,0⟩
def O1 (s:B):Tok:=⟨1,0,s,0⟩
def K5 (t:Ty):List Tok:=(Go.Ty.tokens t).1
def a0D (k:Int):List Tok:=K5 ⟨k,0,0,[]⟩
def D1 {α:Type} (sep:B) (f:α→List Tok):List α→List Tok
 | []=>[]
 | [x]=>f x
 | x::y::r=>f x++⟨5,0,sep,0⟩::D1 sep f (y::r)
theorem a1u {α:Type} (sep:B) (f:α→List Tok):∀ (l:List α) (x:α),l≠[]→D1 sep f (l++[x])=D1 sep f l++(⟨5,0,sep,0⟩::f x)
 | [],_,h=>absurd rfl h
 | [y],x,_=>rfl
 | y::z::r,x,_=>by
   show f y++⟨5,0,sep,0⟩::D1 sep f (z::r++[x])=(f y++⟨5,0,sep,0⟩::D1 sep f (z::r))++(⟨5,0,sep,0⟩::f x)
   rw[a1u sep f (z::r) x (by simp)]
   simp
def a2c (s:B) (l:List Tok):List Tok:=if l.length=0 then [] else A2 s::l
def a1E (r:Rp):List Tok:=if r.name=[] then [] else ((([O1 r.name]++[A2 [61]])++E7 r.base)++[A2 [70,79,82]])++E7 r.count
def P5 (f:Fo):List Tok:=((if f.val then [A2 [86,65,76]] else [])++K5 f.ty)++[O1 f.name]
abbrev Ln:=Int × List Tok
def B0 (k:Int) (n:B) (ch:Ex) (tg ex:List Ex) (rep:Rp):List Tok:=
 if k=1 then [A2 [83,75,73,80]]
 else if k=2 then [A2 [83,84,79,80]]
 else if k=3 then (D1 [44] E7 tg++[A2 [58,61]])++D1 [44] E7 ex
 else if k=4 then (E7 ch++[A2 [63]])++D1 [59] E7 tg
 else if k=5 then (E7 ch++[A2 [33]])++D1 [59] E7 ex
 else if k=6 then (E7 ch++[A2 [63],A2 [65,70,84,69,82]])++D1 [] E7 ex
 else if k=7 then E7 ch++[A2 [63],A2 [67,65,83,69]]
 else if k=8 then [A2 [83,69,81]]++a1E rep
 else if k=9 then [A2 [80,65,82]]++a1E rep
 else if k=10 then [A2 [80,82,73],A2 [80,65,82]]
 else if k=11 then [A2 [80,76,65,67,69,68],A2 [80,65,82]]
 else if k=12 then [A2 [65,76,84]]++a1E rep
 else if k=13 then [A2 [80,82,73],A2 [65,76,84]]++a1E rep
 else if k=14 then [A2 [73,70]]++a1E rep
 else if k=15 then [A2 [67,65,83,69]]++D1 [] E7 ex
 else if k=16 then [A2 [87,72,73,76,69]]++D1 [] E7 ex
 else (([O1 n]++[A2 [40]])++D1 [44] E7 ex)++[A2 [41]]
def a06 (c:Ex):List Tok:=if Y3 c then [] else E7 c++[⟨5,0,[38],0⟩]
def H2 (k:Int) (n:B) (cond ch:Ex) (tg vl:List Ex) (time:Ex):List Tok:=
 if k=1 then E7 cond
 else if k=2 then a06 cond++[A2 [83,75,73,80]]
 else if k=3 then ((a06 cond++E7 ch)++[A2 [63]])++D1 [59] E7 tg
 else if k=4 then ((a06 cond++E7 ch)++[A2 [63],A2 [65,70,84,69,82]])++E7 time
 else if k=5 then D1 [44] E7 vl
 else if k=6 then [A2 [69,76,83,69]]
 else [O1 n]++a2c [59] (D1 [59] E7 tg)
def J2 (l:List B):List Tok:=D1 [44] (fun s=>[O1 s]) l
def J5 (v:Vr):List Tok:=[O1 v.tag]++a2c [59] (D1 [59] a0D v.items)
mutual
def I9:Pr→Int→List Ln
 | .mk k n ch tg ex rep _ _ gl _ _ ll pn sp,d=>if k=18 then K1 sp d++a1D ll d else (d,B0 k n ch tg.l ex.l rep)::(F2 k pn.l ll d++J7 gl (d+1))
def a1D:List Pr→Int→List Ln
 | [],_=>[]
 | x::_,d=>I9 x d
def F2 (k:Int):List Int→List Pr→Int→List Ln
 | _,[],_=>[]
 | ns,x::r,d=>(if k=11 then (d+1,[A2 [80,82,79,67,69,83,83,79,82],⟨3,0,[],IntKind.i32.wrap (ns.headD 0)⟩])::I9 x (d+2) else I9 x (d+1))++F2 k ns.tail r d
def W8:Gu→Int→List Ln
 | .mk k n cond ch tg vl time _ _ bl,d=>(d,H2 k n cond ch tg.l vl.l time)::a1D bl (d+1)
def J7:List Gu→Int→List Ln
 | [],_=>[]
 | g::r,d=>W8 g d++J7 r d
def K1:Sp→Int→List Ln
 | .mk k ty ns e cs vs fs _ _ bl,d=>
   if k=1 then [(d,(K5 ty++J2 ns.l)++[A2 [58]])]
   else if k=2 then [(d,(((([A2 [86,65,76]]++K5 ty)++J2 ns.l)++[A2 [73,83]])++E7 e)++[A2 [58]])]
   else if k=3 then [(d,(((K5 ty++J2 ns.l)++[A2 [73,83]])++E7 e)++[A2 [58]])]
   else if k=5 then (d,((([A2 [80,82,79,67]]++J2 ns.l)++[A2 [40]])++D1 [44] P5 fs.l)++[A2 [41]])::(a1D bl (d+1)++[(d,[A2 [58]])])
   else if cs=false then [(d,((([A2 [80,82,79,84,79,67,79,76]]++J2 ns.l)++[A2 [73,83]])++D1 [59] a0D (Go.Ty.hdV vs.l).items)++[A2 [58]])]
   else (d,[A2 [80,82,79,84,79,67,79,76]]++J2 ns.l)::(d+1,[A2 [67,65,83,69]])::(vs.l.map (fun v=>((d+2,J5 v):Ln))++[(d,[A2 [58]])])
end
abbrev Ps:=List Rw × Bool
def C5 (st:Ps) (x:Ln):Ps:=if (Go.Lx.textO x.2).2≠0∨st.1.length > 2048 then (st.1,true) else (st.1++[⟨st.1.length+1,x.1,(Go.Lx.textO x.2).1⟩],st.2)
def B8 (st:Ps) (l:List Ln):Ps:=l.foldl C5 st
theorem Y2 (st:Ps) (a b:List Ln):B8 st (a++b)=B8 (B8 st a) b:=List.foldl_append
theorem a0j (st:Ps) (x:Ln) (b:List Ln):B8 st (x::b)=B8 (C5 st x) b:=rfl
def a0c (p:Pr):List Rw × Int:=if mayP p then (if (B8 ([],false) (I9 p 0)).2||!Go.Ly.mayP (B8 ([],false) (I9 p 0)).1 then ([],3) else ((B8 ([],false) (I9 p 0)).1,0)) else ([],2)
end Go.Sx
end
section
namespace Go.Eng
open Go Go.RowKit
section
variable {P:Program} {ops:Array Oper} {Q:Exit→Act→World→Prop} {n:Cx} {F:Fm} {h h':List Res} {m:View} {rest:List Oper}
variable {ty:TypeId} {pos:String} {after:Array Edge} {d:Nat}
theorem b86 {x y:Operand} {t tn e:TypeId} {sz by_ q:Nat} {kn kq:IntKind} {j:Int} (E:EL P t e sz by_) (htn:P.underlying tn=some (.int kn)) (ex:Ev n F x (.slice none 0 0)) (ey:Ev n F y (.int kq j)) (hj:j=(q:Int)) (h0:0 < q) (hb:q * by_≤140737488355328) (h63:q≤4611686018427387904) (hd:d < n.num)
   (kk:∀ b cap,q≤cap→cap≤9223372036854775807→WL P ops Q n rest ((d,.slice (some ⟨b,0,none⟩) q cap)::F) (.row (.slice (some ⟨b,0,none⟩) 0 cap) e sz 0 []::h) m) :
   WL P ops Q n (⟨some d,.call ⟨.builtin .append,#[x,y],#[t,tn]⟩,ty,pos,after,none⟩::rest) F h m:=.mk fun f w hf hs=>by
 subst hj
 obtain⟨i,z,ht,hi,hz,hsize,hby,hzs,hsz⟩:=E.ex
 subst hsize hby
 have hr:=Lib.run_append_grow_zeros (P:=P) w t tn ty e i z kq kn ht htn hi hz none 0 0 [] (run_firstCells_none w.drew i.size 0 0 0) q h0 hsz (by omega) (by omega) (by omega) (growslice_fits (by omega) (by rw[Nat.zero_add];exact hb))
 simp only[Nat.zero_add] at hr
 have hge:=grownCap_ge w q 0 e
 have hcm:grownCap w q 0 e≤maxLen:=grownCap_le_maxLen w q 0 e (by unfold maxLen;omega)
 refine E9 rfl (L9 (v:=.slice (some ⟨w.heap.size,0,none⟩) q (grownCap w q 0 e)) (w':=w.drew.alloc (.cells (([]:List Value).toArray++Builtin.zeroCells z.cells q++Builtin.zeroCells z.cells (grownCap w q 0 e - q)) e)) ?_ (kk w.heap.size (grownCap w q 0 e) hge (by unfold maxLen at hcm;omega) _ _ (hf.put hd _) ?_))
 · simp at hr
   simp[execOp,resolve,invoke,builtin,ex f hf,ey f hf,hr]
 · refine(hs.drew.alloc (.cells (([]:List Value).toArray++Builtin.zeroCells z.cells q++Builtin.zeroCells z.cells (grownCap w q 0 e - q)) e)).conv (r':=.row (.slice (some ⟨w.heap.size,0,none⟩) 0 (grownCap w q 0 e)) e i.size 0 []) Upd.here rfl fun hh=>?_
   have:=a2G (sz:=i.size) (n:=0) (cap:=grownCap w q 0 e) hh (Nat.zero_le _) hcm (by
     simp only[Array.size_append,List.size_toArray,size_zeroCells,hzs,List.length_nil,Nat.zero_add,← Nat.add_mul]
     congr 1
     omega)
   rw[Nat.zero_mul,List.take_zero] at this
   exact this
theorem b0x {x:Operand} {t:TypeId} {e:TypeId} {a:Option Addr} {l c:Nat} {dst:Option Tmp} {g:Option (Nat × Bool)} (ht:P.underlying t=some (.slice e)) (ex:Ev n F x (.slice a l c)) :
   PO P ⟨dst,.call ⟨.builtin .cap,#[x],#[t]⟩,ty,pos,after,g⟩ n F h m (.int .i64 c):=.mk fun b w ha _=>by
 simp[execOp,resolve,invoke,builtin,ex b ha,Builtin.cap_,run_underlying ht,goInt]
end
end Go.Eng
end
section
namespace Go.Sx
open Go.Eng Go.Pc Go
open Go.Xp hiding B E5
open Go.Ty (Ty Vr Tok)
theorem a7t (p:Pr):(stP p).k=p.k∧(stP p).name=p.name∧(stP p).ch=C0 p.ch∧(stP p).tg.l=p.tg.l.map C0∧(stP p).ex.l=p.ex.l.map C0∧(stP p).rep=stR p.rep∧(stP p).gl=p.gl.map stG∧(stP p).ll=p.ll.map stP∧(stP p).pn.l=p.pn.l∧(stP p).sp=stS p.sp:=by
 cases p
 refine⟨rfl,rfl,rfl,rfl,rfl,rfl,?_,?_,rfl,rfl⟩
 · exact a7O _
 · exact a3G _
theorem b1d (g:Gu):(stG g).k=g.k∧(stG g).name=g.name∧(stG g).cond=C0 g.cond∧(stG g).ch=C0 g.ch∧(stG g).tg.l=g.tg.l.map C0∧(stG g).vl.l=g.vl.l.map C0∧(stG g).time=C0 g.time∧(stG g).bl=g.bl.map stP:=by
 cases g
 exact⟨rfl,rfl,rfl,rfl,rfl,rfl,rfl,a3G _⟩
theorem b3K (s:Sp):(stS s).k=s.k∧(stS s).ty=s.ty∧(stS s).names.l=s.names.l∧(stS s).e=C0 s.e∧(stS s).cs=s.cs∧(stS s).vs.l=s.vs.l.map W4∧(stS s).fs.l=s.fs.l∧(stS s).bl=s.bl.map stP:=by
 rw[S0]
 exact⟨rfl,rfl,rfl,rfl,rfl,rfl,rfl,rfl⟩
theorem c3E (g:Gu):guP (stG g)=guP g:=by
 obtain⟨h1,h2,h3,h4,h5,h6,h7,h8⟩:=b1d g
 unfold guP a7s
 rw[h1,h2,h3,h4,h5,h6,h7,h8,List.length_map,a2W,a2W,a2W,Q3,Q3,W9,a3H _ C0 _ _ O2 O2 W9,a3H _ C0 _ _ M3 M3 Q3]
theorem c3m (u:Us) (g:Gu):inG u (stG g)=inG u g:=by
 unfold inG
 rw[c3E,(b1d g).1]
theorem c3J:stS D4=D4:=by
 rw[S0]
 have:C0 A4=A4:=by rw[V6];rfl
 show spM 0 Go.Ty.zeroT [] (C0 A4) false [] [] []=D4
 rw[this]
 rfl
theorem a9v (p:Pr) (u:Us):V3 (stP p) u=V3 p u:=by
 obtain⟨h1,h2,h3,h4,h5,h6,h7,h8,h9,h10⟩:=a7t p
 unfold V3
 rw[h2,h3,h4,h5,h7,h8,h9,h10,List.length_map,a2W,W9,a3H _ C0 _ _ O2 O2 W9,a3H _ C0 _ _ M3 M3 Q3,a3H _ stG _ _ (inG u) (inG u) (c3m u),c1p]
 have:V5 (stS p.sp) D4=V5 p.sp D4:=by
   have:=a9p p.sp D4
   rwa [c3J] at this
 rw[this]
theorem b7L (p:Pr):Q7 (stP p)=Q7 p:=by
 obtain⟨h1,h2,h3,h4,h5,h6,h7,h8,h9,h10⟩:=a7t p
 unfold Q7
 have hr:a5b (stP p).rep=a5b p.rep:=by
   rw[h6]
   unfold a5b stR
   show(if p.rep.name==[] then Y3 (C0 p.rep.base)&&Y3 (C0 p.rep.count) else Go.Lx.name p.rep.name&&M3 (C0 p.rep.base)&&M3 (C0 p.rep.count))=_
   rw[a2W,a2W,Q3,Q3]
 have hn:(stP p).rep.name=p.rep.name:=by rw[h6];rfl
 rw[h1,hr,hn,a9v,a9v]
theorem c0k (p:Pr) (d:Int) (pl:Bool) (q:Int):a0o (stP p) d pl q=a0o p d pl q:=by
 unfold a0o
 rw[b7L,(a7t p).1]
abbrev b1o (p:Pr):Prop:=∀ d pl q,K2 (stP p) d pl q=K2 p d pl q
theorem b3D {d:Int} {pl:Bool}:∀ {l:List Pr} {q:Int},(∀ x ∈ l,b1o x)→X5 (l.map stP) d pl q=X5 l d pl q
 | [],_,_=>rfl
 | x::r,q,h=>by
   have h1:=h x (List.Mem.head _) d pl q
   show(if (K2 (stP x) d pl q).1 then X5 (r.map stP) d pl (K2 (stP x) d pl q).2 else K2 (stP x) d pl q)=(if (K2 x d pl q).1 then X5 r d pl (K2 x d pl q).2 else K2 x d pl q)
   rw[h1,b3D fun y hy=>h y (List.Mem.tail _ hy)]
theorem b3H {d:Int} {l:List Pr} {q:Int} (h:∀ x ∈ l,b1o x):a4q (l.map stP) d q=a4q l d q:=by
 cases l with
 | nil=>rfl
 | cons x r=>exact h x (List.Mem.head _) d false q
theorem b3A {d:Int}:∀ {l:List Gu} {q:Int},(∀ g ∈ l,∀ x ∈ g.bl,b1o x)→a2n (l.map stG) d q=a2n l d q
 | [],_,_=>rfl
 | g::r,q,h=>by
   have h1:a1G (stG g) d q=a1G g d q:=by
     rw[a5s,a5s,(b1d g).2.2.2.2.2.2.2]
     exact b3H (h g (List.Mem.head _))
   show(if (a1G (stG g) d q).1 then a2n (r.map stG) d (a1G (stG g) d q).2 else a1G (stG g) d q)=(if (a1G g d q).1 then a2n r d (a1G g d q).2 else a1G g d q)
   rw[h1,b3A fun y hy=>h y (List.Mem.tail _ hy)]
theorem c07 (p:Pr):b1o p:=by
 refine Pr.ind (q:=b1o) (fun p ih d pl q=>?_) p
 obtain⟨h1,h2,h3,h4,h5,h6,h7,h8,h9,h10⟩:=a7t p
 have hs:∀ a b,a03 (stS p.sp) a b=a03 p.sp a b:=fun a b=>by
   rw[a6z,a6z,(b3K p.sp).2.2.2.2.1,(b3K p.sp).2.2.2.2.2.2.2,b3H fun x hx=>ih x (.s hx)]
 have hl:∀ a b c,X5 (p.ll.map stP) a b c=X5 p.ll a b c:=fun a b c=>b3D fun x hx=>ih x (.l hx)
 have hg:∀ a b,a2n (p.gl.map stG) a b=a2n p.gl a b:=fun a b=>b3A fun g hg x hx=>ih x (.g hg hx)
 rw[a6C (stP p),a6C p,c0k,h1,h7,h8,h10,hs,hl,hl,hg,hg]
theorem b9d (p:Pr):mayP (stP p)=mayP p:=by unfold mayP;rw[c07]
theorem a9t {α β:Type} (sep:B) (f:β→List Tok) (g:α→β) (e:α→List Tok) (h:∀ x,f (g x)=e x):∀ l:List α,D1 sep f (l.map g)=D1 sep e l
 | []=>rfl
 | [x]=>h x
 | x::y::r=>by
   show f (g x)++⟨5,0,sep,0⟩::D1 sep f ((y::r).map g)=e x++⟨5,0,sep,0⟩::D1 sep e (y::r)
   rw[h,a9t sep f g e h (y::r)]
theorem a1m (sep:B) (l:List Ex):D1 sep E7 (l.map C0)=D1 sep E7 l:=a9t sep E7 C0 E7 U2 l
theorem c2V (r:Rp):a1E (stR r)=a1E r:=by
 unfold a1E stR
 show(if r.name=[] then [] else ((([O1 r.name]++[A2 [61]])++E7 (C0 r.base))++[A2 [70,79,82]])++E7 (C0 r.count))=_
 rw[U2,U2]
theorem b9V (e:Ex):a06 (C0 e)=a06 e:=by
 unfold a06
 rw[a2W,U2]
abbrev a7m (p:Pr):Prop:=∀ d,I9 (stP p) d=I9 p d
theorem a8C {k d:Int}:∀ {l:List Pr} {ns:List Int},(∀ x ∈ l,a7m x)→F2 k ns (l.map stP) d=F2 k ns l d
 | [],ns,_=>by cases ns <;> rfl
 | x::r,ns,h=>by
   have h1:=h x (List.Mem.head _)
   show(if k=11 then _::I9 (stP x) (d+2) else I9 (stP x) (d+1))++F2 k ns.tail (r.map stP) d=_
   rw[h1,h1,a8C fun y hy=>h y (List.Mem.tail _ hy)]
   rfl
theorem a5F {d:Int} {l:List Pr} (h:∀ x ∈ l,a7m x):a1D (l.map stP) d=a1D l d:=by
 cases l with
 | nil=>rfl
 | cons x r=>exact h x (List.Mem.head _) d
theorem b0z (g:Gu) (d:Int):W8 g d=(d,H2 g.k g.name g.cond g.ch g.tg.l g.vl.l g.time)::a1D g.bl (d+1):=by cases g;rfl
theorem b5k {d:Int} {g:Gu} (h:∀ x ∈ g.bl,a7m x):W8 (stG g) d=W8 g d:=by
 obtain⟨h1,h2,h3,h4,h5,h6,h7,h8⟩:=b1d g
 rw[b0z,b0z,h1,h2,h3,h4,h5,h6,h7,h8,a5F h]
 unfold H2
 rw[U2,U2,U2,b9V,a1m,a1m]
theorem a7r {d:Int}:∀ {l:List Gu},(∀ g ∈ l,∀ x ∈ g.bl,a7m x)→J7 (l.map stG) d=J7 l d
 | [],_=>rfl
 | g::r,h=>by
   show W8 (stG g) d++J7 (r.map stG) d=W8 g d++J7 r d
   rw[b5k (h g (List.Mem.head _)),a7r fun y hy=>h y (List.Mem.tail _ hy)]
theorem b1u (s:Sp) (d:Int):K1 s d=if s.k=1 then [(d,(K5 s.ty++J2 s.names.l)++[A2 [58]])]
   else if s.k=2 then [(d,(((([A2 [86,65,76]]++K5 s.ty)++J2 s.names.l)++[A2 [73,83]])++E7 s.e)++[A2 [58]])]
   else if s.k=3 then [(d,(((K5 s.ty++J2 s.names.l)++[A2 [73,83]])++E7 s.e)++[A2 [58]])]
   else if s.k=5 then (d,((([A2 [80,82,79,67]]++J2 s.names.l)++[A2 [40]])++D1 [44] P5 s.fs.l)++[A2 [41]])::(a1D s.bl (d+1)++[(d,[A2 [58]])])
   else if s.cs=false then [(d,((([A2 [80,82,79,84,79,67,79,76]]++J2 s.names.l)++[A2 [73,83]])++D1 [59] a0D (Go.Ty.hdV s.vs.l).items)++[A2 [58]])]
   else (d,[A2 [80,82,79,84,79,67,79,76]]++J2 s.names.l)::(d+1,[A2 [67,65,83,69]])::(s.vs.l.map (fun v=>((d+2,J5 v):Ln))++[(d,[A2 [58]])]):=by cases s;rfl
theorem b4E {d:Int} {s:Sp} (h:∀ x ∈ s.bl,a7m x):K1 (stS s) d=K1 s d:=by
 obtain⟨h1,h2,h3,h4,h5,h6,h7,h8⟩:=b3K s
 have hv:(Go.Ty.hdV (s.vs.l.map W4)).items=(Go.Ty.hdV s.vs.l).items:=by cases s.vs.l <;> rfl
 rw[b1u,b1u,h1,h2,h3,h4,h5,h6,h7,h8,a5F h,U2,hv,List.map_map]
 rfl
theorem b1a (p:Pr) (d:Int):I9 p d=if p.k=18 then K1 p.sp d++a1D p.ll d else (d,B0 p.k p.name p.ch p.tg.l p.ex.l p.rep)::(F2 p.k p.pn.l p.ll d++J7 p.gl (d+1)):=by cases p;rfl
theorem b6L (p:Pr):a7m p:=by
 refine Pr.ind (q:=a7m) (fun p ih d=>?_) p
 obtain⟨h1,h2,h3,h4,h5,h6,h7,h8,h9,h10⟩:=a7t p
 have hf:B0 p.k p.name (C0 p.ch) (p.tg.l.map C0) (p.ex.l.map C0) (stR p.rep)=B0 p.k p.name p.ch p.tg.l p.ex.l p.rep:=by
   unfold B0
   rw[U2,a1m,a1m,a1m,a1m,a1m,c2V]
 rw[b1a,b1a,h1,h2,h3,h4,h5,h6,h7,h8,h9,h10,hf,b4E fun x hx=>ih x (.s hx),a5F fun x hx=>ih x (.l hx),a8C fun x hx=>ih x (.l hx),a7r fun g hg x hx=>ih x (.g hg hx)]
theorem b6B (p:Pr):a0c (stP p)=a0c p:=by
 unfold a0c
 rw[b9d,b6L]
def L6 (s:B):List B:=Lib.splitK [47] 0 (Lib.count s [47]) s
def a4S (i:Nat) (x:B):Go.Ly.Rw:=⟨(i:Int)+1,(x.length:Int) - ((Lib.trimLeftB x 46).length:Int),Lib.trimLeftB x 46⟩
def a5l:Nat→List B→List Go.Ly.Rw
 | _,[]=>[]
 | i,x::l=>a4S i x::a5l (i+1) l
theorem a7u:∀ {i j:Nat} {l:List B} {x:B},l[j]?=some x→a5l i (l.take (j+1))=a5l i (l.take j)++[a4S (i+j) x]
 | _,_,[],_,h=>by cases h
 | i,0,y::l,x,h=>by cases h;rfl
 | i,j+1,y::l,x,h=>by
   have ih:=a7u (i:=i+1) (j:=j) (l:=l) (x:=x) (by simpa using h)
   show a4S i y::a5l (i+1) (l.take (j+1))=a4S i y::(a5l (i+1) (l.take j)++[a4S (i+(j+1)) x])
   rw[ih,show i+1+j=i+(j+1) by omega]
def X8 (s:B):List Go.Ly.Rw:=a5l 0 (L6 s)
def a2Q (s:B) (k:Int):Bool:=(((((S2 (X8 s)).1.k==k)&&(((S2 (X8 s)).2.1:Int)==0))&&((S2 (X8 s)).2.2==0))&&((a0c (S2 (X8 s)).1).2==0))&&eqL Go.Ly.eqR (a0c (S2 (X8 s)).1).1 (X8 s)
end Go.Sx
end
section
namespace Go.Pc
open Go.Eng Go.Xp Go
open Go.Ty (Ty Vr)
def a2V (r s:Rp):Bool:=((r.name==s.name)&&D8 r.base s.base)&&D8 r.count s.count
def Y9 (c:Bool) (l:List Vr) (d:Bool) (s:List Vr):Bool:=(c==d)&&eqL R1 l s
mutual
def H1:Pr→Pr→Bool
 | .mk k nm ch tg ex rp _ _ gl _ _ ll pn sp=>fun q=>eqL (fun a b:Int=>a==b) pn.l q.pn.l&&((((((((((k==q.k)&&(nm==q.name))&&a2V rp q.rep)&&D8 ch q.ch)&&eqL D8 tg.l q.tg.l)&&eqL D8 ex.l q.ex.l)&&a9x gl q.gl)&&a0F ll q.ll)&&a0s sp q.sp))
def a0F:List Pr→List Pr→Bool
 | []=>fun s=>match s with
   | []=>true
   | _::_=>false
 | x::r=>fun s=>match s with
   | []=>false
   | y::t=>H1 x y&&a0F r t
def S4:Gu→Gu→Bool
 | .mk k nm c ch tg vl tm _ _ bl=>fun g=>(((((((k==g.k)&&(nm==g.name))&&D8 c g.cond)&&D8 ch g.ch)&&D8 tm g.time)&&eqL D8 tg.l g.tg.l)&&eqL D8 vl.l g.vl.l)&&a0F bl g.bl
def a9x:List Gu→List Gu→Bool
 | []=>fun s=>match s with
   | []=>true
   | _::_=>false
 | x::r=>fun s=>match s with
   | []=>false
   | y::t=>S4 x y&&a9x r t
def a0s:Sp→Sp→Bool
 | .mk k ty nms e cs vs fs _ _ bl=>fun s=>((((k==s.k)&&Go.Ty.eqT ty s.ty)&&eqL a0R fs.l s.fs.l))&&(((eqL (fun a b:B=>a==b) nms.l s.names.l&&D8 e s.e)&&Y9 cs vs.l s.cs s.vs.l)&&a0F bl s.bl)
end
theorem a1F:∀ l s:List Pr,a0F l s=eqL H1 l s
 | [],[]=>rfl
 | x::r,y::s=>by show(H1 x y&&a0F r s)=(H1 x y&&eqL H1 r s);rw[a1F r s]
 | [],_::_=>rfl
 | _::_,[]=>rfl
theorem a5H:∀ l s:List Gu,a9x l s=eqL S4 l s
 | [],[]=>rfl
 | x::r,y::s=>by show(S4 x y&&a9x r s)=(S4 x y&&eqL S4 r s);rw[a5H r s]
 | [],_::_=>rfl
 | _::_,[]=>rfl
theorem a3s (p q:Pr):H1 p q=(eqL (fun a b:Int=>a==b) p.pn.l q.pn.l&&((((((((((p.k==q.k)&&(p.name==q.name))&&a2V p.rep q.rep)&&D8 p.ch q.ch)&&eqL D8 p.tg.l q.tg.l)&&eqL D8 p.ex.l q.ex.l)&&eqL S4 p.gl q.gl)&&eqL H1 p.ll q.ll)&&a0s p.sp q.sp))):=by
 rw[← a5H,← a1F]
 cases p
 rfl
theorem a3f (p g:Gu):S4 p g=((((((((p.k==g.k)&&(p.name==g.name))&&D8 p.cond g.cond)&&D8 p.ch g.ch)&&D8 p.time g.time)&&eqL D8 p.tg.l g.tg.l)&&eqL D8 p.vl.l g.vl.l)&&eqL H1 p.bl g.bl):=by
 rw[← a1F]
 cases p
 rfl
theorem a2z (p s:Sp):a0s p s=(((((p.k==s.k)&&Go.Ty.eqT p.ty s.ty)&&eqL a0R p.fs.l s.fs.l))&&(((eqL (fun a b:B=>a==b) p.names.l s.names.l&&D8 p.e s.e)&&Y9 p.cs p.vs.l s.cs s.vs.l)&&eqL H1 p.bl s.bl)):=by
 rw[← a1F]
 cases p
 rfl
theorem b5r {x y:Sp} (h:(((x.k != y.k)||!(Go.Ty.eqT x.ty y.ty))||((x.fs.l.length:Int) != (y.fs.l.length:Int)))=true):a0s x y=false:=by
 rw[a2z]
 simp only[Bool.or_eq_true,bne_iff_ne,Bool.not_eq_true'] at h
 rcases h with (h | h) | h
 · have:(x.k==y.k)=false:=by simpa using h
   simp[this]
 · simp[h]
 · rw[M9 a0R x.fs.l y.fs.l (by omega)]
   simp
theorem b3n {x y:Sp} (h:(((x.k != y.k)||!(Go.Ty.eqT x.ty y.ty))||((x.fs.l.length:Int) != (y.fs.l.length:Int)))=false) :
   x.fs.l.length=y.fs.l.length∧a0s x y=(eqL a0R x.fs.l y.fs.l&&(((eqL (fun a b:B=>a==b) x.names.l y.names.l&&D8 x.e y.e)&&Y9 x.cs x.vs.l y.cs y.vs.l)&&eqL H1 x.bl y.bl)):=by
 rw[a2z]
 simp only[Bool.or_eq_false_iff,bne_eq_false_iff_eq,Bool.not_eq_false'] at h
 obtain⟨⟨h1,h2⟩,h3⟩:=h
 refine⟨by omega,?_⟩
 have h4:(x.k==y.k)=true:=by simpa using h1
 rw[h4,h2,Bool.true_and,Bool.true_and]
end Go.Pc
end
section
namespace Go.Eng
open Go Go.RowKit
section
variable {P:Program} {m m':View} {h h':List Res} {w w':World}
def Vw (m':View) (h':List Res) (m:View) (h:List Res):Prop:=∀ (a:Option Addr) (n cap sz:Nat) (xs:List Value),Rd m' h' a n cap sz xs→Rd m h a n cap sz xs
theorem b8M {m:View} {g:Nat} {cur:Array Value} {e:TypeId} {fz:Nat × Nat} {n cap sz:Nat} {xs:List Value} (hl:xs.length=n * sz) (h1:n≤cap) (h2:cap≤9223372036854775807) (ht:cur.toList.take (n * sz)=xs):Rd (m.add g (.cells cur e fz)) [] (some ⟨g,0,none⟩) n cap sz xs:=
 ⟨hl,h1,h2,fun w s j u hj=>by
   refine⟨g,0,rfl,?_⟩
   have hb:=s.blk g _ (View.add_blk m g (.cells cur e fz))
   rw[← ht,List.getElem?_take] at hj
   split at hj
   · simp[World.cell?,hb];simpa using hj
   · simp at hj⟩
theorem b8s {m:View} {g:Nat} {o:Obj} {h2:List Res}:Vw (m.add g o) h2 m (.pt g o::h2):=fun a n cap sz xs r=>
 ⟨r.len,r.le,r.mx,fun w s=>r.at_ w ⟨s.os,s.out,s.tape,fun b o' hb=>by
   unfold View.add at hb
   simp only at hb
   split at hb
   · rename_i e
     cases hb
     rw[e]
     exact s.ok _ (List.Mem.head _)
   · exact s.blk b o' hb,fun r hr=>s.ok r (List.Mem.tail _ hr),(List.pairwise_cons.1 s.nd).2,fun x hx b hb=>by
   unfold View.add
   simp only
   split
   · rename_i e
     exact((List.pairwise_cons.1 s.nd).1 x hx b (by rw[e];rfl) hb).elim
   · exact s.fr x (List.Mem.tail _ hx) b hb⟩⟩
theorem CT.lendRow {f:FuncId} {args:List Value} {a:Option Addr} {n cap sz:Nat} {e:TypeId} {xs:List Value} {R:View→Value→List Res→Prop} (he:∀ as w,(callFunc f as).run P w=.ok (.enter f as) w)
   (c:∀ m',m.le m'→Rd m' [] a n cap sz xs→CT P f args h m' (fun v _ h'=>R m' v h')) :
   CT P f args (.row (.slice a n cap) e sz n xs::h) m (fun v _ h'=>∃ m' hx h2,R m' v h2∧h'=hx++h2∧Vw m' h2 m (hx++h2)∧Rd m hx a n cap sz xs):=
 ⟨he,fun w s=>by
   have hrow:w.ownsRow 0 e sz (.slice a n cap) n xs:=s.ok _ (List.Mem.head _)
   obtain⟨k1,k2,k3⟩:=a7y hrow
   obtain⟨hl,hn | ⟨g,cp,cur,hv,_,hh,hnc,hcm,hsz,ht⟩⟩:=hrow
   · obtain⟨_,rfl⟩:=hn
     have hx0:xs=[]:=List.eq_nil_of_length_eq_zero (by simpa using k3)
     subst hx0
     have s2:St m h w:=⟨s.os,s.out,s.tape,s.blk,fun r hr=>s.ok r (List.Mem.tail _ hr),(List.pairwise_cons.1 s.nd).2,fun r hr=>s.fr r (List.Mem.tail _ hr)⟩
     have r0:∀ {q:View},Rd q [] a 0 cap sz []:=⟨k3,k1,k2,fun _ _ j u hj=>by cases hj⟩
     refine Calls.mono ((c m (View.le.refl m) r0).calls w s2) ?_
     rintro e' w' ⟨v,m2,h2,rfl,hle,s3,hR⟩
     exact⟨v,m2,h2,rfl,hle,s3,m,[],h2,hR,rfl,fun _ _ _ _ _ r=>r,r0⟩
   · simp only[Value.slice.injEq] at hv
     obtain⟨rfl,_,rfl⟩:=hv
     have hfp:(Res.row (.slice (some ⟨g,0,none⟩) n cap) e sz n xs).fp=some g:=rfl
     have hmg:m.blk g=none:=s.fr _ (List.Mem.head _) g hfp
     have s2:St (m.add g (.cells cur e (0,0))) h w:=⟨s.os,s.out,s.tape,fun b o' hb=>by
       unfold View.add at hb
       simp only at hb
       split at hb
       · rename_i e
         cases hb
         rw[e]
         exact hh
       · exact s.blk b o' hb,fun r hr=>s.ok r (List.Mem.tail _ hr),(List.pairwise_cons.1 s.nd).2,fun r hr b hb=>by
       unfold View.add
       simp only
       split
       · rename_i e
         exact((List.pairwise_cons.1 s.nd).1 r hr b (e ▸ hfp) hb).elim
       · exact s.fr r (List.Mem.tail _ hr) b hb⟩
     refine Calls.mono ((c _ (View.le_add hmg) (b8M k3 k1 k2 ht)).calls w s2) ?_
     rintro e' w' ⟨v,m2,h2,rfl,hle,s3,hR⟩
     have hml:=(View.le_add (o:=.cells cur e (0,0)) hmg).trans hle
     have hg2:m2.blk g=some (.cells cur e (0,0)):=hle.blk _ _ (View.add_blk m g _)
     refine⟨v,m,.pt g (.cells cur e (0,0))::h2,rfl,View.le.refl m,⟨s3.os.trans hml.os,s3.out.trans hml.out,s3.tape.trans hml.tape,fun b o hb=>s3.blk b o (hml.blk b o hb),fun r hr=>?_,?_,fun r hr b hb=>?_⟩,_,[.pt g (.cells cur e (0,0))],h2,hR,rfl,b8s,?_⟩
     · rcases List.mem_cons.1 hr with rfl | hr
       · exact s3.blk g _ hg2
       · exact s3.ok r hr
     · refine List.pairwise_cons.2 ⟨fun r hr b h1 h3=>?_,s3.nd⟩
       cases h1
       have:=s3.fr r hr _ h3
       rw[hg2] at this
       cases this
     · rcases List.mem_cons.1 hr with rfl | hr
       · cases hb
         exact hmg
       · have h1:=s3.fr r hr b hb
         cases hm:m.blk b with
         | none=>rfl
         | some o=>
           rw[hml.blk b o hm] at h1
           cases h1
     · exact b8s _ _ _ _ _ (b8M k3 k1 k2 ht)⟩
end
end Go.Eng
end
section
namespace Go.Pc
open Go.Eng Go.Xp Go
open Go.Ty (Ty Vr)
set_option linter.unusedSimpArgs false
def b0l:Rp:=⟨[],A4,A4⟩
def a9y:Pr:=.mk 0 [] A4 B9 B9 b0l none 0 [] none 0 [] B9 D4
def c4A (nm:B) (ch:Ex) (tg ex:Sli Ex) (pn:Sli Int) (sp:Sp):Pr:=.mk 0 nm ch tg ex b0l none 0 [] none 0 [] pn sp
end Go.Pc
end
section
namespace Go.Sx
open Go.Eng Go.Pc Go
open Go.Xp hiding B E5
open Go.Ty (Ty Vr Tok)
theorem a2g {α:Type} (q:α→α→Bool) (f:α→α):∀ (l r:List α),(∀ x ∈ l,∀ y,q (f x) y=q x y)→eqL q (l.map f) r=eqL q l r
 | [],[],_=>rfl
 | [],_::_,_=>rfl
 | _::_,[],_=>rfl
 | x::l,y::r,h=>by
   show(q (f x) y&&eqL q (l.map f) r)=(q x y&&eqL q l r)
   rw[h x (List.Mem.head _),a2g q f l r fun z hz=>h z (List.Mem.tail _ hz)]
theorem b4m (p q:Pr):H1 p q=(eqL (fun a b:Int=>a==b) p.pn.l q.pn.l&&((((((((((p.k==q.k)&&(p.name==q.name))&&a2V p.rep q.rep)&&D8 p.ch q.ch)&&eqL D8 p.tg.l q.tg.l)&&eqL D8 p.ex.l q.ex.l)&&eqL S4 p.gl q.gl)&&eqL H1 p.ll q.ll)&&a0s p.sp q.sp))):=by
 rw[← a5H,← a1F]
 cases p
 rfl
theorem b3J (p q:Gu):S4 p q=((((((((p.k==q.k)&&(p.name==q.name))&&D8 p.cond q.cond)&&D8 p.ch q.ch)&&D8 p.time q.time)&&eqL D8 p.tg.l q.tg.l)&&eqL D8 p.vl.l q.vl.l)&&eqL H1 p.bl q.bl):=by
 rw[← a1F]
 cases p
 rfl
theorem b4i (p q:Sp):a0s p q=(((((p.k==q.k)&&Go.Ty.eqT p.ty q.ty)&&eqL a0R p.fs.l q.fs.l))&&(((eqL (fun a b:B=>a==b) p.names.l q.names.l&&D8 p.e q.e)&&Y9 p.cs p.vs.l q.cs q.vs.l)&&eqL H1 p.bl q.bl)):=by
 rw[← a1F]
 cases p
 rfl
theorem b9D (r s:Rp):a2V (stR r) s=a2V r s:=by
 unfold a2V
 show(((r.name==s.name)&&D8 (C0 r.base) s.base)&&D8 (C0 r.count) s.count)=_
 rw[a0i,a0i]
theorem c0z (p:Pr):∀ q,H1 (stP p) q=H1 p q:=by
 refine Pr.ind (q:=fun p=>∀ q,H1 (stP p) q=H1 p q) (fun p ih q=>?_) p
 obtain⟨h1,h2,h3,h4,h5,h6,h7,h8,h9,h10⟩:=a7t p
 have hs:a0s (stS p.sp) q.sp=a0s p.sp q.sp:=by
   obtain⟨s1,s2,s3,s4,s5,s6,s7,s8⟩:=b3K p.sp
   have hv:Y9 p.sp.cs (p.sp.vs.l.map W4) q.sp.cs q.sp.vs.l=Y9 p.sp.cs p.sp.vs.l q.sp.cs q.sp.vs.l:=by
     unfold Y9
     rw[a2g R1 W4 _ _ fun _ _ _=>rfl]
   rw[b4i,b4i,s1,s2,s3,s4,s5,s6,s7,s8,a0i,hv,a2g H1 stP _ _ fun x hx y=>ih x (.s hx) y]
 have hg:eqL S4 (p.gl.map stG) q.gl=eqL S4 p.gl q.gl:=by
   refine a2g S4 stG _ _ fun g hgm y=>?_
   obtain⟨g1,g2,g3,g4,g5,g6,g7,g8⟩:=b1d g
   rw[b3J,b3J,g1,g2,g3,g4,g5,g6,g7,g8,a0i,a0i,a0i,a2g D8 C0 _ _ (fun x _ y=>a0i x y),a2g D8 C0 _ _ (fun x _ y=>a0i x y),a2g H1 stP _ _ fun x hx y=>ih x (.g hgm hx) y]
 rw[b4m,b4m,h1,h2,h3,h4,h5,h6,h7,h8,h9,h10,hs,hg,a0i,b9D,a2g D8 C0 _ _ (fun x _ y=>a0i x y),a2g D8 C0 _ _ (fun x _ y=>a0i x y),a2g H1 stP _ _ fun x hx y=>ih x (.l hx) y]
def a2i (s:B) (n e:Int):Bool:=H1 (S2 (X8 s)).1 a9y&&((((S2 (X8 s)).2.1:Nat):Int)==n)&&((S2 (X8 s)).2.2==e)
end Go.Sx
end
section
namespace Go.Pc
open Go.Eng Go.Xp Go
open Go.Ty (Ty Vr)
set_option linter.unusedSimpArgs false
end Go.Pc
end

import Derived.Test.YtmhkeomphdddaaaGreatDoorLListsY2
import Derived.Lib.AppendZerosOnto
namespace Go.Ty
section
open Go.Lx
def B8 (x:Tok):Tok:={ x with at_:=0 }
def M (l:List Tok) (i:Nat) (y:Tok):Prop:=∃ x,l[i]?=some x/\B8 x=y
def a1F (l:List Tok):Nat->List Tok->Prop
 | _,[]=>True
 | i,y::w=>M l i y/\a1F l (i+1) w
theorem M.lt {l:List Tok} {i:Nat} {y:Tok} (a:M l i y):i < l.length:=by
 obtain⟨x,hx,_⟩:=a;exact(List.getElem?_eq_some_iff.1 hx).1
theorem U3 (l:List Tok):∀ (u w:List Tok) (i:Nat),a1F l i (u++w)↔a1F l i u/\a1F l (i+u.length) w
 | [],w,i=>by simp[a1F]
 | y::u,w,i=>by
  show(M l i y/\a1F l (i+1) (u++w))↔(M l i y/\a1F l (i+1) u)/\a1F l (i+(u.length+1)) w;rw[U3 l u w (i+1),and_assoc,show i+1+u.length=i+(u.length+1) by omega]
theorem a4J {l:List Tok} {i:Nat} {y:Tok}:M l i y↔i < l.length/\B8 (I2 l i)=y:=by
 constructor
 ·intro m
  have h:=m.lt;obtain⟨x,hx,e⟩:=m;rw[a0S h] at hx;cases hx;exact⟨h,e⟩
 ·rintro ⟨h,e⟩;exact⟨_,a0S h,e⟩
theorem L4 {l:List Tok} {i:Nat} {kd:Int} {s:B} (h3:kd≠3):next l i kd s=true↔M l i ⟨kd,0,s,0⟩:=by
 rw[a4J];unfold next a2q B8;generalize I2 l i=x;cases x;simp[h3];constructor
 ·rintro ⟨⟨⟨a,b⟩,c⟩,d⟩;exact⟨a,b,c,d⟩
 ·rintro ⟨a,b,c,d⟩;exact⟨⟨⟨a,b⟩,c⟩,d⟩
theorem b8m {l:List Tok} {i:Nat} {s:B}:next l i 3 s=true↔M l i ⟨3,0,s,(I2 l i).n⟩:=by
 rw[a4J];unfold next a2q B8;generalize I2 l i=x;cases x;simp;constructor
 ·rintro ⟨⟨a,b⟩,c⟩;exact⟨a,b,c⟩
 ·rintro ⟨a,b,c⟩;exact⟨⟨a,b⟩,c⟩
theorem a1L {l:List Tok} {i:Nat} {kd:Int} {s:B} {y:Tok} (m:M l i y) (h:y.kind≠kd\/y.text≠s):next l i kd s=false:=by
 cases hn:next l i kd s with
 | false=>rfl
 | true=>
  exfalso;obtain⟨_,e⟩:=a4J.1 m;subst e;unfold next a2q at hn;simp at hn;rcases h with h | h
  ·exact h hn.1.1.2
  ·exact h hn.1.2
theorem a7W (l:List Tok) (i:Nat):named l i=if next l i 2 b9W then some 1 else if next l i 2 b2Z then some 2 else if next l i 2 b3B then some 3 else none:=rfl
theorem is_three {k:Int} (h:is k=true):k=1\/k=2\/k=3:=by
 rw[c3a] at h;unfold prim at h;simp at h;omega
theorem a7l {l:List Tok} {i:Nat} {k:Int} (h:named l i=some k):is k=true/\M l i (a0x (wordS k).1):=by
 rw[a7W] at h;split at h
 ·cases h;rename_i hn;exact⟨by decide,(L4 (by decide)).1 hn⟩
 ·split at h
  ·cases h;rename_i hn;exact⟨by decide,(L4 (by decide)).1 hn⟩
  ·split at h
   ·cases h;rename_i hn;exact⟨by decide,(L4 (by decide)).1 hn⟩
   ·cases h
theorem b1A {l:List Tok} {i:Nat} {k:Int} (h:is k=true) (m:M l i (a0x (wordS k).1)):named l i=some k:=by
 rw[a7W];rcases is_three h with rfl | rfl | rfl
 ·have m':M l i (a0x b9W):=m
  rw[if_pos ((L4 (by decide)).2 m')]
 ·have m':M l i (a0x b2Z):=m
  rw[if_neg (by rw[a1L m' (.inr (by decide))];decide),if_pos ((L4 (by decide)).2 m')]
 ·have m':M l i (a0x b3B):=m
  rw[if_neg (by rw[a1L m' (.inr (by decide))];decide),if_neg (by rw[a1L m' (.inr (by decide))];decide),if_pos ((L4 (by decide)).2 m')]
theorem a6z {l:List Tok} {i:Nat} {y:Tok} (m:M l i y) (h:y.kind≠2\/(y.text≠b9W/\y.text≠b2Z/\y.text≠b3B)):named l i=none:=by
 rw[a7W];rw[if_neg (by rw[a1L m (h.imp_right fun h=>h.1)];decide),if_neg (by rw[a1L m (h.imp_right fun h=>h.2.1)];decide),if_neg (by rw[a1L m (h.imp_right fun h=>h.2.2)];decide)]
inductive Shape (t:Ty):Prop where
 | plain (k d:Int) (hk:is k=true) (e:t=⟨k,d,0,[]⟩)
 | timer (e:t=⟨5,0,0,[]⟩)
 | item (k d:Int) (hk:is k=true) (e:t=⟨4,d,k,[]⟩)
 | proto (s:B) (d:Int) (hs:name s=true) (e:t=⟨4,d,0,s⟩)
theorem may_shape {t:Ty} (h:may t=true):Shape t:=by
 obtain⟨k,d,i,s⟩:=t;by_cases hk:is k=true
 ·unfold may at h
  split at h
  ·cases h
  ·simp only[Bool.and_eq_true,beq_iff_eq] at h
   obtain⟨rfl,rfl⟩:=h;exact .plain k d hk rfl
 ·by_cases h4:k=4
  ·subst h4
   rcases a6P h (by simp) with ⟨h0,hn⟩ | ⟨hi,h0⟩
   ·simp only at h0 hn;subst h0;exact .proto s d hn rfl
   ·simp only at h0 hi;subst h0;exact .item i d hi rfl
  ·unfold may at h
   split at h
   ·cases h
   ·rw[if_pos (by simpa using h4),eqT_iff] at h
    exact .timer h
theorem b2y (k d:Int) (hk:is k=true):toks ⟨k,d,0,[]⟩=dimT ⟨k,d,0,[]⟩++[a0x (wordS k).1]:=by
 unfold toks;rw[List.append_assoc];rcases is_three hk with rfl | rfl | rfl <;> rfl
theorem b2C (k d:Int) (hk:is k=true):toks ⟨4,d,k,[]⟩=dimT ⟨4,d,k,[]⟩++[a0x a1z,a0x cOF,a0x (wordS k).1]:=by
 unfold toks;rw[List.append_assoc];rcases is_three hk with rfl | rfl | rfl <;> rfl
theorem c01 {s:B} (h:name s=true):s≠[]:=by rintro rfl;cases h
theorem b2L (s:B) (d:Int) (hs:name s=true):toks ⟨4,d,0,s⟩=dimT ⟨4,d,0,s⟩++[a0x a1z,a0x cOF,⟨1,0,s,0⟩]:=by
 unfold toks;rw[List.append_assoc];unfold lastT;have:(s==[])=false:=by simpa using c01 hs
 simp only[this];rfl
theorem b61 {t:Ty} (h:may t=true):∃ s w,toks t=dimT t++a0x s::w:=by
 cases may_shape h with
 | plain k d hk e=>subst e;exact⟨_,_,b2y k d hk⟩
 | timer e=>subst e;exact⟨_,_,rfl⟩
 | item k d hk e=>subst e;exact⟨_,_,b2C k d hk⟩
 | proto s d hs e=>subst e;exact⟨_,_,b2L s d hs⟩
theorem c2b {t:Ty} (l:List Tok) (h:may t=true) (hb:a1F l 0 (toks t)):pre l=(true,t.dim,(dimT t).length):=by
 have hd:=may_dim h;obtain⟨s,w,e⟩:=b61 h;rw[e,U3] at hb;by_cases h0:t.dim=0
 ·have ed:dimT t=[]:=by unfold dimT;rw[h0];rfl
  rw[ed] at hb ⊢;rw[b6r (a1L hb.2.1 (.inl (show(2:Int)≠5 by decide))),h0];rfl
 ·have ed:dimT t=[C1 lb,⟨3,0,[],t.dim⟩,C1 rb]:=by unfold dimT;rw[if_pos (by simp;omega)]
  rw[ed] at hb ⊢;obtain⟨⟨m0,m1,m2,_⟩,_⟩:=hb;have en:(I2 l 1).n=t.dim:=by
   obtain⟨_,e1⟩:=a4J.1 m1;exact congrArg Tok.n e1
  rw[b2j ((L4 (by decide)).2 m0) (b8m.2 (by rw[en];exact m1)),en,(L4 (by decide)).2 m2];have:decide (t.dim > 0)=true:=by simp;omega
  rw[this];rfl
theorem a8p {l:List Tok} {d:Int} {n:Nat} {k:Int} (hP:pre l=(true,d,n)) (hn:named l n=some k):mid l=(true,⟨k,d,0,[]⟩,n+1):=by
 unfold mid;rw[hP];simp only[hn]
theorem a7I {l:List Tok} {d:Int} {n:Nat} (hP:pre l=(true,d,n)) (m0:M l n (a0x a1z)) (m1:M l (n+1) (a0x cOF)):mid l=(match named l (n+2) with
 | some k=>(true,⟨4,d,k,[]⟩,n+3)
 | none=>if decide ((n+2:Nat) < (l.length:Int))&&next l (n+2) 1 (I2 l (n+2)).text then (true,⟨4,d,0,(I2 l (n+2)).text⟩,n+3) else (true,⟨4,d,0,[]⟩,n+2)):=by
 unfold mid;rw[hP];simp only[a6z m0 (.inr (by decide)),(L4 (show(2:Int)≠3 by decide)).2 m0,(L4 (show(2:Int)≠3 by decide)).2 m1,if_true];cases named l (n+2) <;> rfl
theorem a7R {t:Ty} {l:List Tok} (h:may t=true) (hb:a1F l 0 (toks t)):front l=(t,(toks t).length,0):=by
 have hP:=c2b l h hb;have hM:mid l=(true,t,(toks t).length):=by
  cases may_shape h with
  | plain k d hk e=>
   subst e;rw[b2y k d hk] at hb ⊢;rw[U3,Nat.zero_add] at hb;rw[a8p hP (b1A hk hb.2.1),List.length_append];rfl
  | timer e=>
   subst e;have m:M l 0 (a0x a2O):=hb.1;exact a9u hP (a6z m (.inr (by decide))) (a1L m (.inr (by decide))) ((L4 (by decide)).2 m)
  | item k d hk e=>
   subst e;rw[b2C k d hk] at hb ⊢;rw[U3,Nat.zero_add] at hb;obtain⟨_,m0,m1,m2,_⟩:=hb;rw[a7I hP m0 m1,b1A hk m2,List.length_append];rfl
  | proto s d hs e=>
   subst e;rw[b2L s d hs] at hb ⊢;rw[U3,Nat.zero_add] at hb;obtain⟨_,m0,m1,m2,_⟩:=hb;have m2':M l ((dimT ⟨4,d,0,s⟩).length+2) ⟨1,0,s,0⟩:=m2;have et:(I2 l ((dimT ⟨4,d,0,s⟩).length+2)).text=s:=congrArg Tok.text (a4J.1 m2').2;have hlt:=m2'.lt;rw[a7I hP m0 m1,a6z m2' (.inl (show(1:Int)≠2 by decide)),et];have c:(decide ((((dimT ⟨4,d,0,s⟩).length+2:Nat):Int) < (l.length:Int))&&next l ((dimT ⟨4,d,0,s⟩).length+2) 1 s)=true:=by
    rw[(L4 (by decide)).2 m2',Bool.and_true];exact decide_eq_true (by omega)
   simp only[c,if_true,List.length_append];rfl
 exact a8L hM (by rw[h];rfl)
theorem a9H {l:List Tok} {d:Int} {n:Nat} (h:pre l=(true,d,n)) (t:Ty) (e:t.dim=d):n=(dimT t).length/\a1F l 0 (dimT t):=by
 by_cases h0:next l 0 5 lb=true
 ·by_cases h1:next l 1 3 []=true
  ·rw[b2j h0 h1] at h
   simp only[Prod.mk.injEq] at h;obtain⟨hc,hd,hn⟩:=h;rw[hc] at hn;simp only[Bool.and_eq_true,decide_eq_true_eq] at hc;have ed:dimT t=[C1 lb,⟨3,0,[],t.dim⟩,C1 rb]:=by unfold dimT;rw[if_pos (by simp;omega)]
   rw[ed];refine⟨hn.symm,(L4 (by decide)).1 h0,?_,(L4 (by decide)).1 hc.2,trivial⟩;rw[e,<- hd];exact b8m.1 h1
  ·rw[b6c h0 (by simpa using h1)] at h
   cases h
 ·rw[b6r (by simpa using h0)] at h
  cases h;have ed:dimT t=[]:=by unfold dimT;rw[e];rfl
  rw[ed];exact⟨rfl,trivial⟩
theorem c2F {l:List Tok} {t:Ty} {n:Nat} (h:mid l=(true,t,n)) (hm:may t=true):a1F l 0 (toks t):=by
 obtain⟨⟨b,d,n0⟩,hP⟩:∃ p,pre l=p:=⟨_,rfl⟩;cases b with
 | false=>unfold mid at h;rw[hP] at h;cases h
 | true=>
  cases hn:named l n0 with
  | some k=>
   rw[a8p hP hn] at h;cases h;obtain⟨hk,m⟩:=a7l hn;obtain⟨e,hb⟩:=a9H hP ⟨k,d,0,[]⟩ rfl;rw[b2y k d hk,U3];subst e;exact⟨hb,by rw[Nat.zero_add];exact m,trivial⟩
  | none=>
   cases hc:next l n0 2 a1z with
   | true=>
    have m0:M l n0 (a0x a1z):=(L4 (by decide)).1 hc;cases ho:next l (n0+1) 2 cOF with
    | false=>
     unfold mid at h;rw[hP] at h;simp only[hn,hc,ho,if_true,Bool.false_eq_true,if_false] at h;cases h
    | true=>
     have m1:M l (n0+1) (a0x cOF):=(L4 (by decide)).1 ho;rw[a7I hP m0 m1] at h;cases hk:named l (n0+2) with
     | some k=>
      rw[hk] at h;cases h;obtain⟨hk,m2⟩:=a7l hk;obtain⟨e,hb⟩:=a9H hP ⟨4,d,k,[]⟩ rfl;rw[b2C k d hk,U3];subst e;rw[Nat.zero_add];exact⟨hb,m0,m1,m2,trivial⟩
     | none=>
      rw[hk] at h;simp only at h;split at h
      ·rename_i hx
       simp only[Bool.and_eq_true] at hx;have m2:=(L4 (show(1:Int)≠3 by decide)).1 hx.2;cases h;have hs:name (I2 l (n0+2)).text=true:=by
        rcases a6P hm rfl with ⟨_,hs⟩ | ⟨hi,_⟩
        ·exact hs
        ·cases hi
       obtain⟨e,hb⟩:=a9H hP ⟨4,d,0,(I2 l (n0+2)).text⟩ rfl;rw[b2L _ d hs,U3];rw[<- e,Nat.zero_add];exact⟨hb,m0,m1,m2,trivial⟩
      ·cases h
       rcases a6P hm rfl with ⟨_,hs⟩ | ⟨hi,_⟩
       ·cases hs
       ·cases hi
   | false=>
    cases ht:next l n0 2 a2O with
    | true=>
     rw[a9u hP hn hc ht] at h;cases h;have e5:(⟨5,d,0,[]⟩:Ty)=timer:=by
      cases may_shape hm with
      | plain k d hk e=>cases e;cases hk
      | timer e=>exact e
      | item k d hk e=>cases e
      | proto s d hs e=>cases e
     rw[e5];cases e5;obtain⟨e,_⟩:=a9H hP timer rfl;subst e;exact⟨(L4 (by decide)).1 ht,trivial⟩
    | false=>
     rw[b3R hP hn hc ht] at h;cases h;cases may_shape hm with
     | plain k d hk e=>cases e;cases hk
     | timer e=>cases e
     | item k d hk e=>cases e
     | proto s d hs e=>cases e
theorem front_to (l:List Tok):front l=(zeroT,0,90)\/∃ t,may t=true/\a1F l 0 (toks t)/\front l=(t,(toks t).length,0):=by
 obtain⟨⟨ok,t,n⟩,hM⟩:∃ p,mid l=p:=⟨_,rfl⟩;by_cases hc:(!ok||!may t)=true
 ·exact .inl (b1a hM hc)
 ·simp at hc
  obtain⟨rfl,hm⟩:=hc;have hb:=c2F hM hm;exact .inr ⟨t,hm,hb,a7R hm hb⟩
end
end Go.Ty
namespace Go.Sx
section
open Go.Eng Go.Pc Go
open Go.Xp hiding B
open Go.Ty (Ty Vr Tok)
def stL (s:Sli Ex):Sli Ex:=sl (s.l.map B8)
def stR (r:Rp):Rp:=⟨r.name,B8 r.base,B8 r.count⟩
def V1 (x:Vr):Vr:=vrM x.tag x.items
mutual
def stP:Pr->Pr
 | .mk k n ch tg ex rep _ _ gl _ _ ll pn sp=>.mk k n (B8 ch) (stL tg) (stL ex) (stR rep) none 0 (b96 gl) none 0 (b4O ll) (sl pn.l) (stS sp)
def b4O:List Pr->List Pr
 | []=>[]
 | x::r=>stP x::b4O r
def stG:Gu->Gu
 | .mk k n cond ch tg vl time _ _ bl=>.mk k n (B8 cond) (B8 ch) (stL tg) (stL vl) (B8 time) none 0 (b4O bl)
def b96:List Gu->List Gu
 | []=>[]
 | x::r=>stG x::b96 r
def stS:Sp->Sp
 | .mk k ty names e cs vs fs _ _ bl=>.mk k ty (sl names.l) (B8 e) cs (sl (vs.l.map V1)) (sl fs.l) none 0 (b4O bl)
end
theorem a3c:∀ l:List Pr,b4O l=l.map stP
 | []=>rfl
 | x::r=>by rw[b4O,a3c r];rfl
theorem a7N:∀ l:List Gu,b96 l=l.map stG
 | []=>rfl
 | x::r=>by rw[b96,a7N r];rfl
theorem X2 (e:Ex):N7 (B8 e)=N7 e:=by unfold N7;rw[P7];cases e;rfl
theorem b7k {k:Int} {s:B} {ts:List Tok} (h:isM k s ts=true):∃ t r,ts=t::r/\t.kind=k/\t.text=s:=by
 cases ts with
 | nil=>cases h
 | cons t r=>
  have h':((t.kind==k)&&(t.text==s))=true:=h;simp only[Bool.and_eq_true,beq_iff_eq] at h';exact⟨t,r,rfl,h'.1,h'.2⟩
theorem b99 {k:Int} {s:B} {ts:List Tok} (h:isM k s ts=true):0 < ts.length:=by
 obtain⟨t,r,rfl,_⟩:=b7k h;exact Nat.succ_pos _
theorem b0r (ts:List Tok):U6 ts=if (ts.getD 0 Go.Ty.zeroK).kind=1 then .ok ((ts.getD 0 Go.Ty.zeroK).text,ts.tail) else .error 110:=by
 cases ts with
 | nil=>rfl
 | cons t r=>rfl
theorem b0v (ts:List Tok):L6 ts=if a4x ts=0 then .ok (a7M ts,ts.drop (Y3 ts)) else .error 110:=by
 unfold L6 a4x a7M Y3;cases hf:Q0 ts with
 | ok x=>obtain⟨x,k⟩:=x;rfl
 | error e=>
  rcases b0G hf with rfl | rfl <;> rfl
theorem a6b (ts:List Tok):K6 ts=if (ts.getD 0 Go.Ty.zeroK).kind=1 then O2 (L6 ts) fun x r=>if N7 x then .ok (x,r) else .error 110 else .error 110:=by
 cases ts <;> rfl
open Go.Ty in
theorem b1m (l:List Tok):∀ (w:List Tok) (i:Nat),a1F l i w->i<=l.length->i+w.length<=l.length
 | [],i,_,hi=>hi
 | y::w,i,h,_=>by
  obtain⟨h1,h2⟩:=(U3 l [y] w i).1 h;have h3:=b1m l w (i+1) h2 (by
   have:=M.lt h1.1;omega)
  simp only[List.length_cons];omega
theorem c1H (ts:List Tok):(Go.Ty.front ts).2.1<=ts.length:=by
 rcases Go.Ty.front_to ts with h | ⟨t,hm,hb,h⟩
 ·rw[h];exact Nat.zero_le _
 ·rw[h]
  have:=b1m ts _ 0 hb (Nat.zero_le _);simpa using this
theorem b3f {t:Ty} (h:Go.Ty.may t=true):TyW t:=by
 have hd:=Go.Ty.may_dim h;cases Go.Ty.may_shape h with
 | plain k d hk e=>
  subst e;have:=Go.Ty.is_three hk;exact⟨by simp only;omega,by simp only;omega,by simp only at hd ⊢;omega,Nat.zero_le _⟩
 | timer e=>
  subst e;exact⟨by decide,by decide,by decide,Nat.zero_le _⟩
 | item k d hk e=>
  subst e;have:=Go.Ty.is_three hk;exact⟨by simp only;omega,by simp only;omega,by simp only at hd ⊢;omega,Nat.zero_le _⟩
 | proto s d hs e=>
  subst e;refine⟨by simp only;omega,by simp only;omega,by simp only at hd ⊢;omega,?_⟩;unfold Go.Lx.name at hs;simp only[Bool.and_eq_true,decide_eq_true_eq] at hs;have:=hs.1.1.1.2;show s.length<=Big;unfold Big;omega
theorem c3R (ts:List Tok):TyW (Go.Ty.front ts).1:=by
 rcases Go.Ty.front_to ts with h | ⟨t,hm,hb,h⟩
 ·rw[h];exact⟨by decide,by decide,by decide,Nat.zero_le _⟩
 ·rw[h];exact b3f hm
end
end Go.Sx
namespace Go.Eng
section
open Go Go.RowKit
def a9D (P:Program) (l:Nat) (v v2:Value) (w:World) (R:Bool->World->Prop):Prop:=
 ∃ fn tmps assign body,(Instr.yield l #[v,v2]).run P w=.ok (.round l fn tmps assign body) w /\
  RoundIn (fen none) 0 P l fn tmps assign body w fun e w'=>∃ b,e=.returned (.bool b)/\R b w'
section
variable {P:Program} {ops:Array Oper} {Q:Exit->Act->World->Prop} {n:Cx} {F:Fm} {h h':List Res} {m:View} {rest:List Oper}
variable {op:Op} {ty:TypeId} {pos:String} {after:Array Edge} {d:Nat} {v v2:Value}
theorem a9D.mono {l:Nat} {w:World} {R R':Bool->World->Prop} (h:a9D P l v v2 w R) (hr:∀ b w',R b w'->R' b w'):a9D P l v v2 w R':=by
 obtain⟨fn,tmps,assign,body,h1,h2⟩:=h;exact⟨fn,tmps,assign,body,h1,h2.mono fun e w' ⟨b,e1,e2⟩=>⟨b,e1,hr b w' e2⟩⟩
end
end
section
open Go Go.RowKit
section
variable {P:Program} {m m':View} {h h':List Res} {w w':World}
end
section
variable {P:Program} {ops:Array Oper} {Q:Exit->Act->World->Prop} {n:Cx} {F:Fm} {h h':List Res} {m:View} {rest:List Oper}
variable {ty:TypeId} {pos:String} {after:Array Edge} {dst:Option Tmp} {g:Option (Nat × Bool)} {d:Nat}
theorem c2P (a:Option Addr) (cap sz:Nat) (h:a=none\/∃ b off,a=some ⟨b,off,none⟩):sl1 a 0 cap sz=a:=by
 unfold sl1;split
 ·rfl
 ·rcases h with rfl | ⟨b,off,rfl⟩
  ·rfl
  ·simp[Addr.add_lit]
theorem CT.know {f:FuncId} {args:List Value} {R:Value->View->List Res->Prop} {A:Prop} (he:∀ as w,(callFunc f as).run P w=.ok (.enter f as) w) (ha:∀ w,St m h w->A) (k:A->CT P f args h m R):CT P f args h m R:=
 ⟨he,fun w hs=>(k (ha w hs)).calls w hs⟩
theorem CT.knowRow {f:FuncId} {args:List Value} {R:Value->View->List Res->Prop} {a:Option Addr} {k cap sz:Nat} {e:TypeId} {ys:List Value} (he:∀ as w,(callFunc f as).run P w=.ok (.enter f as) w) (hm:Res.row (.slice a k cap) e sz k ys ∈ h)
 (kk:k<=cap->cap<=9223372036854775807->ys.length=k * sz->CT P f args h m R):CT P f args h m R:=
 CT.know he (fun _ st=>a6B (st.ok _ hm)) fun ⟨h1,h2,h3⟩=>kk h1 h2 h3
end
end
section
open Go Go.RowKit
theorem a8Y (a b:ByteArray):(a==b)=(a.data==b.data):=rfl
theorem b9y {n k:List UInt8} (h:¬ n=k):((⟨n.toArray⟩:ByteArray)==⟨k.toArray⟩)=false:=by
 rw[a8Y];exact beq_eq_false_iff_ne.2 fun e=>h (by simpa using e)
theorem a9q (n:List UInt8):((⟨n.toArray⟩:ByteArray)==⟨n.toArray⟩)=true:=by
 rw[a8Y];exact beq_self_eq_true _
structure MapS (es:Array MapEntry) (ks:List (List UInt8)):Prop where
 a:∀ e ∈ es.toList,∃ n,e.key=str n/\e.val=.bool true/\n ∈ ks
 b:∀ n ∈ ks,∃ e ∈ es.toList,e.key=str n
theorem MapS.nil:MapS #[] []:=⟨fun e h=>by simp at h,fun n h=>by cases h⟩
section
variable {P:Program} {ops:Array Oper} {Q:Exit->Act->World->Prop} {n:Cx} {F:Fm} {h h':List Res} {m:View} {rest:List Oper}
variable {ty:TypeId} {pos:String} {after:Array Edge} {dst:Option Tmp} {g:Option (Nat × Bool)} {d:Nat}
end
section
variable {P:Program} {ops:Array Oper} {Q:Exit->Act->World->Prop} {n:Cx} {F:Fm} {m:View} {eff:List Nat} {t:Tl} {hs hp:List Res}
variable {ty:TypeId} {pos:String} {after:Array Edge} {d:Nat}
abbrev b0k (e:TypeId) (sz:Nat):Res:=.row (.slice none 0 0) e sz 0 []
theorem St.insNil (e:TypeId) (sz:Nat) {fr l1 l2 hs:List Res} {w:World} (s:St m (fr++((l1++l2)++hs)) w):St m (fr++((l1++b0k e sz::l2)++hs)) w:=by
 refine(s.addNil e sz).perm ?_;have h1:(fr++((l1++b0k e sz::l2)++hs)).Perm (b0k e sz::(fr++((l1++l2)++hs))):=by
  refine(List.Perm.append_left fr ((List.perm_middle (l₁:=l1) (l₂:=l2)).append_right hs)).trans ?_;exact List.perm_middle
 exact h1.symm
theorem a4C (e:TypeId) (sz:Nat) {l1 l2:List Res}:∀ (r:List Fl) {F:Fm} {fr:List Res},a1h P ops Q n t r F (fr++((l1++b0k e sz::l2)++hs)) m->a1h P ops Q n t r F (fr++((l1++l2)++hs)) m
 | [],_,_,h=>WL.mk fun a w ha st=>h.e a w ha (st.insNil e sz)
 | (_,_,_)::r,_,fr,h=>fun b=>a4C e sz r (fr:=_::fr) (h b)
theorem a3f.imp {r:Result Next} {R R':Value->World->Prop} {X:List PanicEntry->World->Prop} (h:a3f P r R X) (k:∀ v w,R v w->R' v w):a3f P r R' X:=by
 cases r with
 | ok x w=>
  cases x with
  | value v=>exact k _ _ h
  | skip=>exact k _ _ h
  | enter f args=>
   refine Calls.mono h fun e w' q=>?_
   rcases q with ⟨v,rfl,hv⟩ | q
   ·exact .inl ⟨v,rfl,k v w' hv⟩
   ·exact .inr q
  | _=>exact h
 | halt _ _=>exact h
theorem SRr.insNil (e:TypeId) (sz:Nat) {l1 l2:List Res}:∀ (T:Tr) {F:Fm},SRr P ops Q n eff t hs T F (l1++b0k e sz::l2) m->SRr P ops Q n eff t hs T F (l1++l2) m
 | .nil,_,h=>a4C e sz t.fl (fr:=[]) h
 | .alt a b,_,h=>⟨SRr.insNil e sz a h.1,SRr.insNil e sz b h.2⟩
 | .op i s,_,h=>by
  obtain⟨o,ho,hd,h⟩:=h;refine⟨o,ho,hd,?_⟩;have hsub:(l1++l2).Sublist (l1++b0k e sz::l2):=(List.sublist_cons_self _ _).append_left l1;cases he:eff.contains i with
  | false=>
   rw[he] at h;obtain⟨v,pg,hk⟩:=h;exact⟨v,pg,SRr.insNil e sz s hk⟩
  | true=>
   rw[he] at h;dsimp only at h ⊢;cases hr:a4o o with
   | true=>
    rw[hr] at h;obtain⟨v,pg,hk⟩:=h;exact⟨v,⟨fun a w ha st=>pg.e a w ha (St.insNil e sz (fr:=[]) st)⟩,SRr.insNil e sz s hk⟩
   | false=>
    rw[hr] at h;dsimp only at h ⊢;have sat:∀ {G:Fm} {l:List Res},Sat n hs G (l++l2) m->Sat n hs G (l++b0k e sz::l2) m:=fun ⟨fr,a,w,ha,st⟩=>⟨fr,a,w,ha,st.insNil e sz⟩
    cases hmk:a2s o&&eff.contains 4096 with
    | true=>
     rw[hmk] at h;exact⟨fun s a ha=>h.ex (sat s) a ha,fun a ha k cs el hout b s'=>SRr.insNil e sz (l1:=_::l1) s (h.k a ha k cs el hout b (sat (l:=_::l1) s'))⟩
    | false=>
    rw[hmk] at h;dsimp only at h ⊢;refine⟨fun fr a w ha st=>?_⟩;obtain⟨h1,h2⟩:=h.e fr a w ha (St.insNil e sz st);refine⟨fun hw=>(h1 hw).imp fun v w' q=>?_,fun hw=>?_⟩
    ·obtain⟨m',hp',q1,q2,q3,q4⟩:=q
     exact⟨m',hp',q1,q2,fun ha=>hsub.trans (q3 ha),q4⟩
    ·exact⟨fun _=>List.Sublist.refl _,SRr.insNil e sz s (h2 hw).2⟩
theorem Y7 {q:Nat} {s:Tr} {tt e k:Nat} {sz by_:Nat} {ps:List (Nat × Operand)} {vs:List (Nat × Value)} {z:Value} {zs cs:List Value} {gd:Nat × Bool} {c:Bool}
 (ho:ops[q]?=some ⟨some d,.buildSlice tt k ps.toArray,ty,pos,after,some gd⟩) (he:eff.contains q=true) (hg:GU ops n F gd c) (E:EL P tt e sz by_) (hz:(P.info? e).bind (·.zero)=some z) (ev:c=true->EvP n F ps vs)
 (hzs:a5O z k=some zs) (hf:a2J (fun i=>some (i * sz,sz)) zs vs=some cs) (hk:k * sz<=16777216) (h0:Nat.beq (k * sz) 0=false) (hd:d < n.num)
 (kk:∀ b r,(c=true->r=.pt b (.cells cs.toArray e (0,0)))->SR P ops Q n eff t hs s ((d,gv c (.slice (some ⟨b,0,none⟩) k k))::F) (r::hp) m) :
 SR P ops Q n eff t hs (.op q s) F hp m:=⟨_,ho,fun y hy=>by cases hy;exact hd,by
 rw[he];simp only[a7y,a7w,Bool.false_and];refine⟨fun fr f w hf' st=>?_⟩;have hy:=hg.wanted (dst:=some d) (op:=.buildSlice tt k ps.toArray) (ty:=ty) (pos:=pos) (after:=after) hf';cases c with
 | true=>
  refine⟨fun _=>?_,fun h=>by rw[hy] at h;cases h⟩;have hrun:=S5 (P:=P) w (dst:=some d) (ty:=ty) (pos:=pos) (after:=after) (g:=some gd) E hz (ev rfl) hzs hf hk h0 hf';rw[hrun];exact⟨m,.pt w.heap.size (.cells cs.toArray e)::hp,Vl,(st.alloc _).perm List.perm_middle.symm,fun _=>List.sublist_cons_self _ _,(kk w.heap.size _ (fun _=>rfl)).e⟩
 | false=>
  refine⟨fun h=>(by rw[hy] at h;cases h),fun _=>⟨fun _=>List.Sublist.refl _,?_⟩⟩;exact SRr.insNil e sz (l1:=[]) s (kk 0 (b0k e sz) (fun h=>by cases h)).e⟩
end
section
variable {P:Program} {n:Cx} {F:Fm} {h:List Res} {m:View}
variable {ty:TypeId} {pos:String} {after:Array Edge} {dst:Option Tmp} {g:Option (Nat × Bool)}
def eqP (P:Program) (o:TypeId) (t:TypeId) (xs ys:List Value) (off:Nat):Option Bool:=match P.underlying t with
 | some (.struct gs)=>match Nat.beq t o with
  | true=>match (P.info? t).map (·.size) with
   | some k=>match seg xs off k with
    | some as=>match seg ys off k with
     | some bs=>b2D P as bs gs.toList
     | none=>none
    | none=>none
   | none=>none
  | false=>none
 | some d=>match L5 d with
  | true=>match xs[off]? with
   | some a=>match ys[off]? with
    | some b=>eqC d a b
    | none=>none
   | none=>none
  | false=>none
 | none=>none
def b3C (P:Program) (o:TypeId) (xs ys:List Value):List Field->Option Bool
 | []=>some true
 | f::fs=>match eqP P o f.type xs ys f.offset with
  | some r=>match b3C P o xs ys fs with
   | some q => match (f.name != "_") with
    | true=>some (r&&q)
    | false=>none
   | none=>none
  | none=>none
theorem b0i {xs as:List Value} {off k:Nat} (h:seg xs off k=some as):(xs.drop off).take k=as:=by
 obtain⟨h1,h2⟩:=a4Z h;subst h1;refine List.ext_getElem? fun i=>?_
 rcases Nat.lt_or_ge i as.length with hi | hi
 ·have:=h2 i _ (List.getElem?_eq_getElem hi)
  rw[List.getElem?_take_of_lt hi,List.getElem?_drop,this,List.getElem?_eq_getElem hi]
 ·rw[List.getElem?_eq_none hi,List.getElem?_eq_none (by rw[List.length_take];omega)]
theorem b9V (w:World) (d:Nat) {o t:TypeId} (ho:P.stoodInHeld o=false) {xs ys:List Value} {off:Nat} {r:Bool} (he:eqP P o t xs ys off=some r):∃ a b,(part t xs.toArray off).run P w=.ok a w/\(part t ys.toArray off).run P w=.ok b w/\(Op.equalIn (d+2) t a b).run P w=.ok r w:=by
 unfold eqP at he;split at he
 ·rename_i gs ht
  split at he
  ·rename_i hto
   have hto:=Nat.eq_of_beq_eq_true hto;subst hto;have hs:=ho;split at he
   ·rename_i k hk
    split at he
    ·rename_i as ha
     split at he
     ·rename_i bs hb
      cases hi:P.info? t with
      | none=>rw[hi] at hk;cases hk
      | some i0=>
       have hsz:i0.size=k:=by rw[hi] at hk;simpa using hk
       have hf:P.fieldsOf t=gs:=by simp[Program.fieldsOf,ht]
       have hag:=a1R (P:=P) w ht rfl;refine⟨.agg as.toArray,.agg bs.toArray,?_,?_,?_⟩
       ·simp[part,hag,sizeOf,typeInfo,hi,hsz,b0i ha]
       ·simp[part,hag,sizeOf,typeInfo,hi,hsz,b0i hb]
       ·rw[run_equalIn_struct (P:=P) w (d+1) t as.toArray bs.toArray (by rw[hf];exact ht) hs,hf]
        exact a4W w d as bs he
     ·cases he
    ·cases he
   ·cases he
  ·cases he
 ·rename_i ds _ ht
  split at he
  ·rename_i hp
   split at he
   ·rename_i a ha
    split at he
    ·rename_i b hb
     refine⟨a,b,?_,?_,b4d w (d:=d+1) ht he⟩
     ·simp[part,L0 w ht hp,ha]
     ·simp[part,L0 w ht hp,hb]
    ·cases he
   ·cases he
  ·cases he
 ·cases he
theorem a8U (w:World) (d:Nat) {o:TypeId} (ho:P.stoodInHeld o=false) (xs ys:List Value):∀ {fs:List Field} {r:Bool},b3C P o xs ys fs=some r->(Op.eqFields (d+2) xs.toArray ys.toArray fs).run P w=.ok r w
 | [],r,he=>by cases he;simp[Op.eqFields]
 | f::fs,r,he=>by
  unfold b3C at he;split at he
  ·rename_i c hc
   split at he
   ·rename_i q hq
    split at he
    ·rename_i h7
     cases he;have h8 : f.name ≠ "_" := by simpa using h7
     have ih:=a8U w d ho xs ys hq;obtain⟨a,b,ea,eb,e5⟩:=b9V (P:=P) w d ho hc;simp only[Op.eqFields,if_pos h8,Sem.run_bind];rw[ea,Result.andThen_ok,eb,Result.andThen_ok,e5,Result.andThen_ok];cases c
     ·simp
     ·simpa using ih
    ·cases he
   ·cases he
  ·cases he
theorem b1o {o:TypeId} {x y:Operand} {t t':TypeId} {fs:Array Field} {as bs:List Value} {r:Bool} (ht:P.underlying t=some (.struct fs)) (hs:P.stoodInHeld t=false) (hm:P.eqGuardType P.depth t=false) (ex:Ev n F x (.agg as.toArray)) (ey:Ev n F y (.agg bs.toArray))
 (ho:P.stoodInHeld o=false) (hr:b3C P o as bs fs.toList=some r):PO P ⟨dst,.binOp .neq t x y t',ty,pos,after,g⟩ n F h m (.bool (!r)):=.mk fun a w ha _=>by
 have hf:P.fieldsOf t=fs:=by simp[Program.fieldsOf,ht]
 have e1:=run_equalIn_struct (P:=P) w 9999 t as.toArray bs.toArray (by rw[hf];exact ht) hs;rw[hf,a8U w 9997 ho as bs hr] at e1;simp[execOp,ex a ha,ey a ha,run_eqGuard_agg w _ t _ _ _ _ hm,run_neq_struct,e1]
end
end
end Go.Eng
namespace Go.Sx
section
open Go.Eng Go.Pc Go
open Go.Xp hiding B
open Go.Ty (Ty Vr Tok)
open Go.Ly (Rw O6)
open Go.Lx (lexO J4)
theorem a6C (s:B):(lexO s).1.length<=256/\∀ x ∈ (lexO s).1,J4 x=true/\(-2147483648<=x.n/\x.n<=2147483647):=by
 obtain⟨l,z,e,h⟩:∃ l z e,lexO s=(l,z,e):=⟨_,_,_,rfl⟩;rw[h];by_cases he:e=0
 ·subst he
  obtain⟨h1,h2,-⟩:=Go.Lx.lexO_ok h;have h3:=Go.Lx.lx_len s 0 l h2;exact⟨by show l.length<=256;omega,Go.Lx.lx_may s 0 l h2 (by omega)⟩
 ·have h1:=Go.Lx.lexO_no h he
  subst h1;exact⟨Nat.zero_le _,fun x hx=>(List.not_mem_nil hx).elim⟩
theorem b91 (s:B):∀ t ∈ (lexO s).1,t.text.length<=140737488355328:=fun t ht=>by have:=Go.Lx.may_len ((a6C s).2 t ht).1;omega
structure Pz where
 bp:Nat
 ra:Option Addr
 rc:Nat
 R:List Rw
structure Pok (m:View) (z:Pz):Prop where
 rd:Rd m [] z.ra z.R.length z.rc 3 (fl O6 z.R)
 ok:z.R.length<=2048/\∀ x ∈ z.R,0<=x.depth/\x.depth<=32/\x.text.length<=256
 ne:∀ x ∈ z.R,(lexO x.text).2.2=0->(lexO x.text).1≠[]
theorem a8G (q:UInt8->Bool):∀ (l:B) {c:UInt8} {r:B},l.dropWhile q=c::r->q c=false
 | x::l,c,r,h=>by
  unfold List.dropWhile at h;split at h
  ·exact a8G q l h
  ·cases h;assumption
theorem c1t {s:B} (h:Go.Ly.validP s=true) (he:(lexO s).2.2=0):(lexO s).1≠[]:=by
 obtain⟨h1,-,h2,-⟩:=Go.Ly.validP_spec h;obtain⟨l,z,e,hl⟩:∃ l z e,lexO s=(l,z,e):=⟨_,_,_,rfl⟩;rw[hl] at he ⊢;obtain rfl:e=0:=he;obtain⟨-,h3,-⟩:=Go.Lx.lexO_ok hl;cases s with
 | nil=>exact absurd rfl h1
 | cons c r=>
  have hc:c≠32:=by
   have h4:=a8G (·==32) (Lib.trimRightB (c::r) 32) (c:=c) (r:=r) h2;simpa using h4
  rintro rfl;by_cases hn:(Go.Lx.tok (c::r)).2=0
  ·rw[Go.Lx.lx_bad hc hn] at h3;cases h3
  ·rw[Go.Lx.lx_tok hc hn] at h3
   cases hx:Go.Lx.lx ((c::r).drop (Go.Lx.tok (c::r)).2) (0+(Go.Lx.tok (c::r)).2) with
   | ok m=>rw[hx] at h3;cases h3
   | error e=>rw[hx] at h3;cases h3
theorem Pok.of {m:View} {z:Pz} (hr:Rd m [] z.ra z.R.length z.rc 3 (fl O6 z.R)) (h:Go.Ly.mayP z.R=true):Pok m z:=
 ⟨hr,Go.Ly.mayP_all h,fun x hx=>by
  unfold Go.Ly.mayP at h;split at h
  ·cases h
  ·exact c1t (Go.Ly.mayA_all h x hx).2.2⟩
theorem I0 {α β:Type} (x:α) (ts:List Tok) (i:Nat) (f:α->List Tok->PE β):H6 (.ok (x,ts)) i f=f x ts:=rfl
theorem O1 {α β:Type} (x:α) (i:Nat) (f:α->Nat->PE β):P8 (.ok (x,i)) f=f x i:=rfl
theorem L9 {β:Type} {ts:List Tok} {i:Nat} {f:Nat->PE β} (h:ts=[]):F1 ts i f=f (i+1):=by subst h;rfl
theorem L8 {β:Type} {ts:List Tok} {i:Nat} {f:Nat->PE β} (h:ts≠[]):F1 ts i f=.error (110,i):=by cases ts with | nil=>exact absurd rfl h | cons=>rfl
theorem a1u {β:Type} {k:Int} {s:B} {ts:List Tok} {i:Nat} {f:List Tok->PE β} (h:isM k s ts=true):U8 k s ts i f=f ts.tail:=by unfold U8;rw[h];rfl
theorem a1J {β:Type} {k:Int} {s:B} {ts:List Tok} {i:Nat} {f:List Tok->PE β} (h:isM k s ts=false):U8 k s ts i f=.error (110,i):=by unfold U8;rw[h];rfl
theorem a3k {β:Type} {R:List Rw} {d:Int} {i:Nat} {ts:List Tok} {f:List Tok->PE β} (h:a0p R d i=.ok ts):a0C R d i f=f ts:=by unfold a0C;rw[h]
theorem I5 {β:Type} {R:List Rw} {d:Int} {i:Nat} {e:Int × Nat} {f:List Tok->PE β} (h:a0p R d i=.error e):a0C R d i f=.error e:=by unfold a0C;rw[h]
theorem a0O {m:View} {z:Pz} {d:Int} {i:Nat} {ts:List Tok} (hz:Pok m z) (h:a0p z.R d i=.ok ts):(i < z.R.length/\0<=d/\d<=32)/\∃ x,z.R[i]?=some x/\x.depth=d/\ts=(lexO x.text).1:=by
 unfold a0p at h;cases hx:z.R[i]? with
 | none=>rw[hx] at h;cases h
 | some x=>
  rw[hx] at h;simp only at h;split at h
  ·cases h
  ·split at h
   ·cases h
   ·rename_i hd
    have hd:x.depth=d:=Decidable.byContradiction hd;cases h;have h1:=hz.ok.2 x (List.mem_of_getElem? hx);exact⟨⟨(List.getElem?_eq_some_iff.1 hx).1,by omega,by omega⟩,x,rfl,hd,rfl⟩
theorem c0w {m:View} {z:Pz} {d:Int} {i:Nat} {ts:List Tok} (hz:Pok m z) (h:a0p z.R d i=.ok ts):0 < ts.length:=by
 unfold a0p at h;cases hx:z.R[i]? with
 | none=>rw[hx] at h;cases h
 | some x=>
  rw[hx] at h;simp only at h;split at h
  ·cases h
  ·rename_i he
   split at h
   ·cases h
   ·cases h
    have h1:=hz.ne x (List.mem_of_getElem? hx) (Decidable.byContradiction he);exact List.length_pos_iff.2 h1
theorem a2k {R:List Rw} {d:Int} {i:Nat} (h:R.length<=i):a0p R d i=.error (110,i):=by
 unfold a0p;rw[List.getElem?_eq_none h]
theorem a6s {R:List Rw} {d:Int} {i:Nat} (h:O3 R d i=true):i < R.length:=by
 unfold O3 at h;cases hx:R[i]? with
 | none=>rw[hx] at h;cases h
 | some x=>exact(List.getElem?_eq_some_iff.1 hx).1
theorem b4T {R:List Rw} {rec:Int->Bool->Nat->PE Pr} {row:List Tok->E Gu} {least most:Nat} {d:Int} {k:Nat} {acc:List Gu} {i:Nat} (hk:R.length<=i+k) (hc:acc.length < least\/(acc.length < most/\O3 R d i=true)) :
 Z3 R rec row least most d k acc i=a0C R d i fun ts=>H6 (row ts) i fun g r=>F1 r i fun i=>P8 (rec (d+1) false i) fun x i=>Z3 R rec row least most d (k - 1) (acc++[b3l g x]) i:=by
 cases k with
 | zero=>
  have hl:acc.length < least:=hc.elim id fun h=>absurd (a6s h.2) (by omega)
  rw[I5 (a2k (by omega))];unfold Z3;rw[if_pos hl]
 | succ k=>
  conv=>lhs;unfold Z3
  rw[if_pos hc];rfl
theorem b0U {R:List Rw} {rec:Int->Bool->Nat->PE Pr} {row:List Tok->E Gu} {least most:Nat} {d:Int} {k:Nat} {acc:List Gu} {i:Nat} (hc:¬ (acc.length < least\/(acc.length < most/\O3 R d i=true))) :
 Z3 R rec row least most d k acc i=.ok (acc,i):=by
 cases k with
 | zero=>
  unfold Z3;rw[if_neg fun h=>hc (.inl h)]
 | succ k=>
  unfold Z3;rw[if_neg hc]
theorem b6X {R:List Rw} {rec:Int->Bool->Nat->PE Pr} {d:Int} {k:Nat} {acc:List Pr} {i:Nat} (hk:R.length<=i+k) (hc:O3 R d i=true) :
 a1U R rec d k acc i=P8 (rec d false i) fun x i=>a1U R rec d (k - 1) (acc++[x]) i:=by
 cases k with
 | zero=>exact absurd (a6s hc) (by omega)
 | succ k=>
  conv=>lhs;unfold a1U
  rw[if_pos hc];rfl
theorem b2P {R:List Rw} {rec:Int->Bool->Nat->PE Pr} {d:Int} {k:Nat} {acc:List Pr} {i:Nat} (hc:O3 R d i=false):a1U R rec d k acc i=.ok (acc,i):=by
 cases k with
 | zero=>rfl
 | succ k=>unfold a1U;rw[if_neg (by rw[hc];decide)]
theorem b59 {R:List Rw} {rec:Int->Bool->Nat->PE Pr} {d:Int} {k:Nat} {ns:List Int} {acc:List Pr} {i:Nat} (hk:R.length<=i+k) (hc:acc.length=0\/(acc.length < 8/\O3 R (d+1) i=true)) :
 W0 R rec d k ns acc i=a0C R (d+1) i fun ts=>U8 2 [80,82,79,67,69,83,83,79,82] ts i fun r=>match b3a r with
  | some n=>P8 (rec (d+2) false (i+1)) fun x i=>W0 R rec d (k - 1) (ns++[n]) (acc++[x]) i
  | none=>.error (110,i):=by
 cases k with
 | zero=>
  have hl:acc.length=0:=hc.elim id fun h=>absurd (a6s h.2) (by omega)
  rw[I5 (a2k (by omega))];unfold W0;rw[if_pos hl]
 | succ k=>
  conv=>lhs;unfold W0
  rw[if_pos hc];rfl
theorem b1v {R:List Rw} {rec:Int->Bool->Nat->PE Pr} {d:Int} {k:Nat} {ns:List Int} {acc:List Pr} {i:Nat} (hc:¬ (acc.length=0\/(acc.length < 8/\O3 R (d+1) i=true))) :
 W0 R rec d k ns acc i=.ok ((ns,acc),i):=by
 cases k with
 | zero=>
  unfold W0;rw[if_neg fun h=>hc (.inl h)]
 | succ k=>
  unfold W0;rw[if_neg hc]
theorem b5V {R:List Rw} {d:Int} {k:Nat} {acc:List Vr} {i:Nat} (hk:R.length<=i+k) (hc:acc.length=0\/O3 R (d+2) i=true) :
 a0w R d k acc i=a0C R (d+2) i fun ts=>H6 (a0Y ts) i fun v r=>if Go.Ty.mayPr true (acc++[v]) then F1 r i fun i=>a0w R d (k - 1) (acc++[v]) i else .error (110,i):=by
 cases k with
 | zero=>
  have hl:acc.length=0:=hc.elim id fun h=>absurd (a6s h) (by omega)
  rw[I5 (a2k (by omega))];unfold a0w;rw[if_pos hl]
 | succ k=>
  conv=>lhs;unfold a0w
  rw[if_pos hc];rfl
theorem b2c {R:List Rw} {d:Int} {k:Nat} {acc:List Vr} {i:Nat} (hc:¬ (acc.length=0\/O3 R (d+2) i=true)):a0w R d k acc i=.ok (acc,i):=by
 cases k with
 | zero=>
  unfold a0w;rw[if_neg fun h=>hc (.inl h)]
 | succ k=>
  unfold a0w;rw[if_neg hc]
theorem b4M {R:List Rw} {rec:Int->Bool->Nat->PE Pr} {d:Int} {top:Bool} {ts:List Tok} {i:Nat} {t:Tok} {f:Int->List Tok->Nat->PE Pr} (h0:ts[0]?=some t) (hw:a3n R rec t.text=some f) (hc:t.kind=2/\(top=true\/t.text≠[80,76,65,67,69,68])):a5W R rec d top ts i=f d ts.tail i:=by
 cases ts with
 | nil=>cases h0
 | cons u r=>
  cases h0;unfold a5W;simp only[hw];rw[if_pos hc];rfl
theorem b0W {R:List Rw} {rec:Int->Bool->Nat->PE Pr} {d:Int} {top:Bool} {ts:List Tok} {i:Nat} {t:Tok} (h0:ts[0]?=some t) (hc:a3n R rec t.text=none\/¬ (t.kind=2/\(top=true\/t.text≠[80,76,65,67,69,68]))):a5W R rec d top ts i=a3y R rec d ts i:=by
 cases ts with
 | nil=>cases h0
 | cons u r=>
  cases h0;unfold a5W;cases hw:a3n R rec t.text with
  | none=>simp only[hw]
  | some f=>
   simp only[hw];rcases hc with hc | hc
   ·rw[hc] at hw;cases hw
   ·rw[if_neg hc]
structure Gs (m:View) (h:List Res) (a:Option Addr) (c:Nat) (l:List Gu):Prop where
 rd:Rd m h a l.length c 23 (fl guE l)
 ok:∀ g ∈ l,GOk m h g
 sub:∀ g ∈ l,∀ x ∈ g.bl,POk m h x
structure Ls (m:View) (h:List Res) (a:Option Addr) (c:Nat) (l:List Pr):Prop where
 rd:Rd m h a l.length c 42 (fl prE l)
 ok:∀ x ∈ l,POk m h x
structure Ns (m:View) (h:List Res) (s:Sli Int):Prop where
 rd:Rd m h s.a s.l.length s.c 1 (fl a3e s.l)
 ok:∀ x ∈ s.l,-9223372036854775808<=x/\x<=9223372036854775807
structure Ss (m:View) (h:List Res) (s:Sp):Prop where
 ok:SOk m h s
 sub:∀ x ∈ s.bl,POk m h x
structure Rs (m:View) (h:List Res) (r:Rp):Prop where
 n:r.name.length<=Big
 b:EOk m h r.base
 c:EOk m h r.count
variable {m:View} {h h':List Res}
theorem Gs.mono {a:Option Addr} {c:Nat} {l:List Gu} (q:Gs m h a c l) (s:h.Sublist h'):Gs m h' a c l:=⟨q.rd.mono Vl s,fun g hg=>(q.ok g hg).mono s,fun g hg x hx=>(q.sub g hg x hx).mono s⟩
theorem Ls.mono {a:Option Addr} {c:Nat} {l:List Pr} (q:Ls m h a c l) (s:h.Sublist h'):Ls m h' a c l:=⟨q.rd.mono Vl s,fun g hg=>(q.ok g hg).mono s⟩
theorem Ns.mono {l:Sli Int} (q:Ns m h l) (s:h.Sublist h'):Ns m h' l:=⟨q.rd.mono Vl s,q.ok⟩
theorem Ss.mono {x:Sp} (q:Ss m h x) (s:h.Sublist h'):Ss m h' x:=⟨q.ok.mono s,fun y hy=>(q.sub y hy).mono s⟩
theorem Rs.mono {r:Rp} (q:Rs m h r) (s:h.Sublist h'):Rs m h' r:=⟨q.n,q.b.mono s,q.c.mono s⟩
theorem a0b (m:View) (h:List Res):Gs m h none 0 []:=⟨Rd.nilF guE 23 m h,fun _ hx=>(List.not_mem_nil hx).elim,fun _ hx=>(List.not_mem_nil hx).elim⟩
theorem a2w (m:View) (h:List Res):Ls m h none 0 []:=⟨Rd.nilF prE 42 m h,fun _ hx=>(List.not_mem_nil hx).elim⟩
theorem W7 (m:View) (h:List Res):Ns m h B7:=⟨Rd.nilF a3e 1 m h,fun _ hx=>(List.not_mem_nil hx).elim⟩
theorem F5 (m:View) (h:List Res):LOk m h B7:=⟨Rd.nilF exE 6 m h,fun _ hx=>(List.not_mem_nil hx).elim⟩
theorem b4v (m:View) (h:List Res):TOk m h A2:=.mk (Rd.nilF exE 6 m h) (fun _ hx=>by cases hx)
theorem a5I (m:View) (h:List Res):EOk m h A2:=⟨b4v m h,.mk (by decide) (by decide) (by decide) (by decide) (Nat.zero_le _) fun _ hx=>(List.not_mem_nil hx).elim⟩
theorem U1 (m:View) (h:List Res):Rs m h D1:=⟨Nat.zero_le _,a5I m h,a5I m h⟩
theorem a74 (m:View) (h:List Res):Go.Ty.PrOk m h none 0 0 []:=⟨Rd.nilF Go.Ty.encV 2 m h,fun _ hx=>(List.not_mem_nil hx).elim,fun _ hx=>(List.not_mem_nil hx).elim⟩
theorem Q5 (m:View) (h:List Res):Ss m h D2:=
 ⟨⟨by decide,⟨by decide,by decide,by decide,Nat.zero_le _⟩,Rd.nilF Go.Lx.encB 1 m h,fun _ hx=>(List.not_mem_nil hx).elim,a5I m h,a74 m h,fun _ hx=>(List.not_mem_nil hx).elim,Rd.nilF foE 6 m h,fun _ hx=>(List.not_mem_nil hx).elim,Rd.nilF prE 42 m h⟩,fun _ hx=>(List.not_mem_nil hx).elim⟩
theorem a4a {k:Int} {nm:B} {ch:Ex} {tg ex:Sli Ex} {rep:Rp} {ga:Option Addr} {gc:Nat} {gl:List Gu} {la:Option Addr} {lc:Nat} {ll:List Pr} {pn:Sli Int} {sp:Sp} (hk:0<=k/\k<=255) (hn:nm.length<=Big) (hch:EOk m h ch) (ht:LOk m h tg) (he:LOk m h ex)
 (hr:Rs m h rep) (hg:Gs m h ga gc gl) (hl:Ls m h la lc ll) (hp:Ns m h pn) (hs:Ss m h sp):POk m h (.mk k nm ch tg ex rep ga gc gl la lc ll pn sp):=
 .mk ⟨hk,hn,hch,ht,he,hr.n,hr.b,hr.c,hg.rd,hg.ok,hl.rd,hp.rd,hp.ok,hs.ok⟩ fun x hx=>by
  cases hx with
  | l hx=>exact hl.ok x hx
  | s hx=>exact hs.sub x hx
  | g hq hx=>exact hg.sub _ hq x hx
end
section
open Go.Eng Go.Pc Go
open Go.Xp hiding B
open Go.Ty (Ty Vr Tok)
theorem b6i (e:Ex):B8 (B8 e)=B8 e:=by
 refine Ex.ind (p:=fun e=>B8 (B8 e)=B8 e) (fun e ih=>?_) e;rw[V8 e,V8];show Ex.mk _ _ _ _ _ _ _ ((e.l.map B8).map B8)=_;rw[List.map_map];congr 1
 exact List.map_congr_left fun x hx=>ih x hx
theorem a08 (x w:Ex):E5 (B8 x) w=E5 x w:=by rw[Bool.eq_iff_iff,a09,a09,b6i]
theorem b8K (x w:Ex):E5 x (B8 w)=E5 x w:=by rw[Bool.eq_iff_iff,a09,a09,b6i]
theorem a2r (e:Ex):Y0 (B8 e)=Y0 e:=a08 e A2
theorem b0Q:∀ (l pre:List Vr),Go.Ty.mayIn (pre.map V1) (l.map V1)=Go.Ty.mayIn pre l
 | [],_=>rfl
 | v::r,pre=>by
  have h1:Go.Ty.badV (pre.map V1) (V1 v)=Go.Ty.badV pre v:=by
   unfold Go.Ty.badV Go.Ty.tagIn;rw[List.any_map];rfl
  have h2:=b0Q r (pre++[v]);rw[List.map_append] at h2;show(if Go.Ty.badV (pre.map V1) (V1 v) then false else Go.Ty.mayIn (pre.map V1++[V1 v]) (r.map V1))=if Go.Ty.badV pre v then false else Go.Ty.mayIn (pre++[v]) r
  rw[h1,<- h2];rfl
theorem a6S (cs:Bool) (l:List Vr):Go.Ty.mayPr cs (l.map V1)=Go.Ty.mayPr cs l:=by
 unfold Go.Ty.mayPr;rw[List.length_map];have h0:(Go.Ty.hdV (l.map V1)).tag=(Go.Ty.hdV l).tag/\(Go.Ty.hdV (l.map V1)).items=(Go.Ty.hdV l).items:=by cases l <;> exact⟨rfl,rfl⟩
 rw[h0.1,h0.2];have h1:=b0Q l [];rw[List.map_nil] at h1;rw[h1]
theorem a2T {α β:Type} (l:List α) (f:α->β) (a b:Int) (q:β->Bool) (r:α->Bool) (h:∀ x,q (f x)=r x):a0G (l.map f) a b q=a0G l a b r:=by
 unfold a0G;rw[List.length_map,List.any_map];congr 2
 congr 1
 funext x
 simp[h]
theorem b4e {α:Type} (q:α->α->Bool) (f:α->α) (h:∀ x y,q (f x) (f y)=q x y):∀ (l r:List α),eqL q (l.map f) (r.map f)=eqL q l r
 | [],[]=>rfl
 | [],_::_=>rfl
 | _::_,[]=>rfl
 | x::l,y::r=>by
  show(q (f x) (f y)&&eqL q (l.map f) (r.map f))=_;rw[h,b4e q f h l r];rfl
theorem R6 (s:Sp):stS s=spM s.k s.ty s.names.l (B8 s.e) s.cs (s.vs.l.map V1) s.fs.l (s.bl.map stP):=by
 cases s;rw[stS,a3c];rfl
theorem a8O (a b:Sp):Y8 (stS a) (stS b)=Y8 a b:=by
 rw[R6,R6];unfold Y8;show((((((((a.k==b.k)&&Go.Ty.eqT a.ty b.ty)&&(a.names.l==b.names.l))&&E5 (B8 a.e) (B8 b.e))&&(a.cs==b.cs))&&eqL R5 (a.vs.l.map V1) (b.vs.l.map V1))&&eqL a1p a.fs.l b.fs.l)&&(((a.bl.map stP).length:Int)==(b.bl.map stP).length))=_;rw[a08,b8K,b4e R5 V1 (fun _ _=>rfl),List.length_map,List.length_map]
theorem b9G (s:Sp):a2K (stS s)=stS (a2K s):=by
 rw[R6 s];unfold a2K;show(if s.k=1 then _ else if s.k=2 then _ else if s.k=3 then _ else if s.k=4 then _ else _)=_;split
 ·rw[R6];rfl
 ·split
  ·rw[R6];rfl
  ·split
   ·rw[R6];rfl
   ·split
    ·rw[R6];rfl
    ·rw[R6];rfl
theorem c0v (s:Sp):a2j (stS s)=a2j s:=by
 rw[R6 s];unfold a2j;show(if s.k=1 then Go.Ty.may s.ty else if s.k=2 then a1A s.ty&&M0 (B8 s.e) else if s.k=3 then a1A s.ty&&N7 (B8 s.e) else if s.k=4 then Go.Ty.mayPr s.cs (s.vs.l.map V1) else (((s.bl.map stP).length:Int)==1)&&a0G s.fs.l 0 8 foP)=_;rw[P7,X2,a6S,List.length_map]
theorem c1c (s:Sp):spP (stS s)=spP s:=by
 have h1:(stS s).k=s.k:=by rw[R6];rfl
 have h2:(stS s).names.l=s.names.l:=by rw[R6];rfl
 unfold spP;rw[h1,h2,c0v,b9G,a8O]
end
end Go.Sx
namespace Go.Eng
section
open Go Go.RowKit
def a7j (es:Array MapEntry) (kv:List (List UInt8 × Value)):Prop:=es.toList.map (fun x=>(x.key,x.val))=kv.map fun p=>(str p.1,p.2)
theorem a7j.nil:a7j #[] []:=rfl
def a0B (n:List UInt8):List (List UInt8 × Value)->Option Value
 | []=>none
 | (k,v)::r=>if n=k then some v else a0B n r
theorem b2f {n:List UInt8}:∀ (l:List MapEntry) (kv:List (List UInt8 × Value)) (i:Nat),l.map (fun x=>(x.key,x.val))=kv.map (fun p=>(str p.1,p.2)) ->
 (a0B n kv=none/\Instr.findNow .string (str n) l i=some none)\/∃ j v,a0B n kv=some v/\Instr.findNow .string (str n) l i=some (some (i+j,v))
 | [],[],_,_=>.inl ⟨rfl,rfl⟩
 | [],_::_,_,h=>by cases h
 | _::_,[],_,h=>by cases h
 | e::l,(k,v)::kv,i,h=>by
  simp only[List.map_cons,List.cons.injEq,Prod.mk.injEq] at h;obtain⟨⟨hk,hv⟩,h⟩:=h;by_cases hn:n=k
  ·subst hn
   refine .inr ⟨0,v,by simp[a0B],?_⟩;simp[Instr.findNow,hk,Instr.sameNow,a9q,hv]
  ·have hb:((⟨n.toArray⟩:ByteArray)==⟨k.toArray⟩)=false:=b9y hn
   have e1:Instr.findNow .string (str n) (e::l) i=Instr.findNow .string (str n) l (i+1):=by
    simp[Instr.findNow,hk,Instr.sameNow,hb]
   have e2:a0B n ((k,v)::kv)=a0B n kv:=by simp[a0B,hn]
   rw[e1,e2];rcases b2f l kv (i+1) h with h1 | ⟨j,v,h1,h2⟩
   ·exact .inl h1
   ·exact .inr ⟨j+1,v,h1,by rw[h2];congr 3;omega⟩
section
variable {P:Program} {ops:Array Oper} {Q:Exit->Act->World->Prop} {n:Cx} {F:Fm} {h h':List Res} {m:View} {rest:List Oper}
variable {ty:TypeId} {pos:String} {after:Array Edge} {dst:Option Tmp} {g:Option (Nat × Bool)} {d:Nat}
theorem b0Y (w:World) {t kt et:TypeId} {b:Nat} {es:Array MapEntry} {clock:Nat} {kv:List (List UInt8 × Value)} {x:List UInt8} {v:Value} (ht:P.underlying t=some (.map kt et)) (hk:P.underlying kt=some (.string)) (hM:a7j es kv) (hx:a0B x kv=none)
 (hb:w.heap[b]?=some (.map es clock)):∃ es' clock',a7j es' (kv++[(x,v)])/\(Instr.mapUpdate t (.map (some b)) (str x) v).run P w=.ok () { w with heap:=w.heap.setIfInBounds b (.map es' clock') }:=by
 have hck:(Instr.checkKey false 10000 kt (str x)).run P w=.ok () w:=by
  unfold Instr.checkKey;simp[run_underlying hk]
 have hget:(getObj b).run P w=.ok (.map es clock) w:=by simp[getObj,Sem.run,hb]
 have hset:∀ o,(setObj b o).run P w=.ok () { w with heap:=w.heap.setIfInBounds b o }:=fun o=>by simp[setObj,Sem.run,hb]
 rcases b2f (n:=x) es.toList kv 0 hM with ⟨h1,h2⟩ | ⟨j,v,h1,h2⟩
 ·refine⟨es.push { key:=str x,val:=v,born:=clock },clock+1,?_,?_⟩
  ·unfold a7j at hM ⊢
   simp[hM]
  ·simp[Instr.mapUpdate,run_underlying ht,hget,hck,Instr.findKey,run_underlying hk,h2,hset]
 ·rw[hx] at h1;cases h1
theorem O9 {op:Op} {x y z:Operand} {t kt et:TypeId} {b:Nat} {es:Array MapEntry} {clock:Nat} {kv:List (List UInt8 × Value)} {i:List UInt8} {v:Value} {hq:Array MapEntry->Nat->List Res} (hop:op=.mapUpdate t x y z\/op=.insert t x y z) (ht:P.underlying t=some (.map kt et)) (hk:P.underlying kt=some (.string)) (hM:a7j es kv) (hi:a0B i kv=none)
 (ex:Ev n F x (.map (some b))) (ey:Ev n F y (str i)) (ez:Ev n F z v) (u:∀ es' c',Upd h (.pt b (.map es clock)) (.pt b (.map es' c')) (hq es' c')) (k:∀ es' c',a7j es' (kv++[(i,v)])->WL P ops Q n rest F (hq es' c') m) :
 WL P ops Q n (⟨none,op,ty,pos,after,none⟩::rest) F h m:=.mk fun a w ha hs=>by
 obtain⟨es',c',h1,h2⟩:=b0Y (P:=P) w (x:=i) (v:=v) ht hk hM hi (hs.ok _ (u es clock).mem);have hrun:(execOp a.eval ⟨none,op,ty,pos,after,none⟩).run P w=.ok .skip { w with heap:=w.heap.setIfInBounds b (.map es' c') }:=by
  rcases hop with rfl | rfl <;> simp[execOp,ex a ha,ey a ha,ez a ha,h2]
 exact E8 rfl (a4v hrun (k es' c' h1 _ _ ha (hs.setObj (u es' c'))))
theorem b2s {x y:Operand} {t kt et:TypeId} {b:Nat} {es:Array MapEntry} {clock:Nat} {kv:List (List UInt8 × Value)} {i:List UInt8} {z:Value} (ht:P.underlying t=some (.map kt et)) (hk:P.underlying kt=some (.string)) (hz:(P.info? et).bind (·.zero)=some z) (hM:a7j es kv)
 (ex:Ev n F x (.map (some b))) (ey:Ev n F y (str i)) (hm:Res.pt b (.map es clock) ∈ h):PO P ⟨dst,.lookup t x y true,ty,pos,after,g⟩ n F h m (.tuple #[(a0B i kv).getD z,.bool (a0B i kv).isSome]):=.mk fun a w ha hs=>by
 have hb:w.heap[b]?=some (.map es clock):=hs.ok _ hm;have hck:(Instr.checkKey es.isEmpty 10000 kt (str i)).run P w=.ok () w:=by
  unfold Instr.checkKey;simp[run_underlying hk]
 have hget:(getObj b).run P w=.ok (.map es clock) w:=by simp[getObj,Sem.run,hb]
 have hzr:(zeroValue et).run P w=.ok z w:=by
  cases hi:P.info? et with
  | none=>simp[hi] at hz
  | some j=>
   have:j.zero=some z:=by simpa [hi] using hz
   simp[zeroValue,typeInfo,hi,this]
 rcases b2f (n:=i) es.toList kv 0 hM with ⟨h1,h2⟩ | ⟨j,v,h1,h2⟩
 ·simp[execOp,ex a ha,ey a ha,Instr.lookup,run_underlying ht,hget,hck,Instr.findKey,run_underlying hk,h1,h2,hzr]
 ·simp[execOp,ex a ha,ey a ha,Instr.lookup,run_underlying ht,hget,hck,Instr.findKey,run_underlying hk,h1,h2]
theorem c3k {fn:Func} {ex:Exit} {m0:View} {R:Value->View->List Res->Prop} {r r':ResultVar} {v v':Value} {q:FuncId} {cap:List Value} (hex:ex=.ret\/ex=.normal) (hds:n.ds=[a84 q cap]) (he:∀ as w,(callFunc q as).run P w=.ok (.enter q as) w)
 (hd:a8m P q cap .returning m h h) (hfn:fn.results=#[r,r']) (x1:RV P n F h m r v) (x2:RV P n F h m r' v') (hle:m0.le m) (hsub:h'.Sublist h) (hR:R (.tuple #[v,v']) m h') :
 ∀ a w,Fr n F a->St m h w->bodyPostD P fn (RQ m0 R) ex a w:=fun a w ha hs=>by
 have key:Leaves P fn a.tmps (RQ m0 R) a.defers .returning w:=by
  rw[ha.d,hds];refine a9k he (by simp) hd hs fun w' hs'=>⟨.tuple #[v,v'],?_,_,m,h',rfl,hle,hs'.sub hsub,hR⟩
  have h1:=x1.e a w' ha hs';have h2:=x2.e a w' ha hs';simp[W9,hfn,h1,h2]
 rcases hex with rfl | rfl <;> exact key
theorem c3W {fn:Func} {m0:View} {R:Value->View->List Res->Prop} {r r':ResultVar} {v v' u:Value} {q:FuncId} {cap:List Value} {h2:List Res} (hds:n.ds=[a84 q cap]) (he:∀ as w,(callFunc q as).run P w=.ok (.enter q as) w)
 (hd:a8m P q cap (.panicking [{ v:=u,recovered:=false }]) m h h2) (hfn:fn.results=#[r,r']) (x1:RV P n F h2 m r v) (x2:RV P n F h2 m r' v') (hle:m0.le m) (hsub:h'.Sublist h2) (hR:R (.tuple #[v,v']) m h') :
 ∀ a w,Fr n F a->St m h w->bodyPostD P fn (RQ m0 R) (.panic [{ v:=u,recovered:=false }]) a w:=fun a w ha hs=>by
 show Leaves P fn a.tmps (RQ m0 R) a.defers (.panicking [{ v:=u,recovered:=false }]) w;rw[ha.d,hds];refine a9k he (by simp) hd hs fun w' hs'=>⟨.tuple #[v,v'],?_,_,m,h',rfl,hle,hs'.sub hsub,hR⟩
 have h1:=x1.e a w' ha hs';have h2:=x2.e a w' ha hs';simp[W9,hfn,h1,h2]
end
end
end Go.Eng
namespace Go.Sx
section
open Go.Eng Go.Pc Go
open Go.Xp hiding B
open Go.Ty (Ty Vr Tok)
open Go.Ly (Rw)
def Er {α:Type} (r:E α):Prop:=∀ e,r=.error e->e=110
theorem U7 {α:Type} {x:α × List Tok}:Er (.ok x):=nofun
theorem a4c {α:Type}:Er (.error 110:E α):=fun e h=>by cases h;rfl
theorem P9 {α β:Type} {r:E α} {f:α->List Tok->E β} (h:Er r) (hf:∀ x ts,Er (f x ts)):Er (O2 r f):=by
 cases r with
 | ok x=>exact hf x.1 x.2
 | error e=>rw[h e rfl];exact a4c
theorem a3T {β:Type} {k:Int} {s:B} {ts:List Tok} {f:List Tok->E β} (h:∀ r,Er (f r)):Er (X6 k s ts f):=by
 unfold X6;split
 ·exact h _
 ·exact a4c
theorem a0n {α:Type} {c:Prop} [Decidable c] {a b:E α} (ha:Er a) (hb:Er b):Er (if c then a else b):=by
 split
 ·exact ha
 ·exact hb
theorem a0J (ts:List Tok):Er (U6 ts):=by rw[b0r];exact a0n U7 a4c
theorem R9 (ts:List Tok):Er (L6 ts):=by rw[b0v];exact a0n U7 a4c
theorem a3z (ts:List Tok):Er (K6 ts):=by rw[a6b];exact a0n (P9 (R9 ts) fun _ _=>a0n U7 a4c) a4c
theorem a9W (ts:List Tok):Er (a6G ts):=a0n U7 a4c
theorem b3V (ts:List Tok):Er (a5b ts):=P9 (a9W ts) fun _ _=>a0n U7 a4c
theorem b5n (ts:List Tok):Er (a3J ts):=P9 (a9W _) fun _ _=>P9 (a0J _) fun _ _=>a0n U7 a4c
theorem b3O {α:Type} {take:List Tok->E α} {sep:B} (h:∀ ts,Er (take ts)):∀ (n:Nat) (acc:List α) (ts:List Tok),Er (a1S take sep n acc ts)
 | 0,_,_=>a0n a4c U7
 | n+1,_,_=>a0n (P9 (h _) fun _ _=>b3O h n _ _) U7
theorem a1r {α:Type} {take:List Tok->E α} {sep:B} {most:Nat} {ts:List Tok} (h:∀ ts,Er (take ts)):Er (P0 take sep most ts):=P9 (h _) fun _ _=>b3O h _ _ _
theorem c0L {α:Type} {take:List Tok->E α} {ts:List Tok} (h:∀ ts,Er (take ts)):Er (brM take ts):=a3T fun _=>a0n U7 (P9 (a1r h) fun _ _=>a3T fun _=>U7)
theorem b8I (ts:List Tok):Er (b2w ts):=a0n U7 (P9 (a0J _) fun _ _=>a3T fun _=>P9 (R9 _) fun _ _=>a3T fun _=>P9 (R9 _) fun _ _=>U7)
theorem c1D (ts:List Tok):Er (ifM ts):=P9 (R9 _) fun _ _=>U7
theorem b3P (c:Ex) (ts:List Tok):Er (a9c c ts):=P9 (a3z _) fun _ _=>a3T fun _=>a0n (P9 (R9 _) fun _ _=>U7) (P9 (a1r a3z) fun _ _=>U7)
theorem b7n (ts:List Tok):Er (a6Z ts):=a0n (P9 (R9 _) fun _ _=>a3T fun _=>a0n U7 (b3P _ _)) (b3P _ _)
theorem c1V (ts:List Tok):Er (b4k ts):=a0n U7 (P9 (a1r R9) fun _ _=>U7)
theorem c1O (ts:List Tok):Er (b1S ts):=P9 (a0J _) fun _ _=>a0n (P9 (a1r a3z) fun _ _=>U7) U7
theorem b2F (ts:List Tok):Er (a0Y ts):=P9 (a0J _) fun _ _=>a0n (P9 (a1r b3V) fun _ _=>U7) U7
def Ep {α:Type} (r:PE α):Prop:=∀ e j,r=.error (e,j)->e≠0
theorem N5 {α:Type} {x:α × Nat}:Ep (.ok x):=nofun
theorem a1I {α:Type} {i:Nat}:Ep (.error (110,i):PE α):=fun e j h=>by cases h;decide
theorem R7 {α β:Type} {r:PE α} {f:α->Nat->PE β} (h:Ep r) (hf:∀ x i,Ep (f x i)):Ep (P8 r f):=by
 cases r with
 | ok x=>exact hf x.1 x.2
 | error e=>exact fun a j q=>h a j (by cases q;rfl)
theorem J9 {α β:Type} {r:E α} {i:Nat} {f:α->List Tok->PE β} (h:Er r) (hf:∀ x ts,Ep (f x ts)):Ep (H6 r i f):=by
 cases r with
 | ok x=>exact hf x.1 x.2
 | error e=>rw[h e rfl];exact a1I
theorem Q3 {α:Type} {c:Prop} [Decidable c] {a b:PE α} (ha:Ep a) (hb:Ep b):Ep (if c then a else b):=by
 split
 ·exact ha
 ·exact hb
theorem J1 {β:Type} {ts:List Tok} {i:Nat} {f:Nat->PE β} (h:∀ i,Ep (f i)):Ep (F1 ts i f):=Q3 (h _) a1I
theorem a1N {β:Type} {k:Int} {s:B} {ts:List Tok} {i:Nat} {f:List Tok->PE β} (h:∀ r,Ep (f r)):Ep (U8 k s ts i f):=Q3 (h _) a1I
variable {R:List Rw}
theorem a5a {β:Type} {d:Int} {i:Nat} {f:List Tok->PE β} (h:∀ r,Ep (f r)):Ep (a0C R d i f):=by
 unfold a0C a0p;cases hx:R[i]? with
 | none=>exact a1I
 | some x=>
  simp only;split
  ·rename_i h1
   split at h1
   ·cases h1
   ·split at h1
    ·cases h1
    ·exact h _
  ·rename_i h1
   split at h1
   ·rename_i he
    cases h1;exact fun a j q=>by cases q;exact he
   ·split at h1
    ·cases h1;exact a1I
    ·cases h1
theorem a9G {β:Type} {d k:Int} {s:B} {i:Nat} {f:Nat->PE β} (h:∀ i,Ep (f i)):Ep (a2g R d k s i f):=a5a fun _=>a1N fun _=>J1 h
variable {rec:Int->Bool->Nat->PE Pr} (hr:∀ d t i,Ep (rec d t i))
include hr
theorem a3F {row:List Tok->E Gu} (hw:∀ ts,Er (row ts)) {least most:Nat} {d:Int}:∀ (k:Nat) (acc:List Gu) (i:Nat),Ep (Z3 R rec row least most d k acc i)
 | 0,_,_=>Q3 a1I N5
 | k+1,_,_=>Q3 (a5a fun _=>J9 (hw _) fun _ _=>J1 fun _=>R7 (hr _ _ _) fun _ _=>a3F hw k _ _) N5
theorem b0y {d:Int}:∀ (k:Nat) (acc:List Pr) (i:Nat),Ep (a1U R rec d k acc i)
 | 0,_,_=>N5
 | k+1,_,_=>Q3 (R7 (hr _ _ _) fun _ _=>b0y k _ _) N5
theorem a8H {d:Int}:∀ (k:Nat) (ns:List Int) (acc:List Pr) (i:Nat),Ep (W0 R rec d k ns acc i)
 | 0,_,_,_=>Q3 a1I N5
 | k+1,_,_,_=>Q3 (a5a fun _=>a1N fun r=>by
  cases b3a r with
  | none=>exact a1I
  | some n=>exact R7 (hr _ _ _) fun _ _=>a8H k _ _ _) N5
omit hr in
theorem a8C {d:Int}:∀ (k:Nat) (acc:List Vr) (i:Nat),Ep (a0w R d k acc i)
 | 0,_,_=>Q3 a1I N5
 | k+1,_,_=>Q3 (a5a fun _=>J9 (b2F _) fun _ _=>Q3 (J1 fun _=>a8C k _ _) a1I) N5
omit hr in
theorem b5W {d:Int} {ts:List Tok} {i:Nat}:Ep (a5j R d ts i):=
 Q3 (J9 (a1r b3V) fun _ _=>a1N fun _=>J1 fun _=>N5) (J1 fun _=>a9G fun _=>R7 (a8C _ _ _) fun _ _=>a9G fun _=>N5)
omit hr in
theorem a9P {s:Sp} {ts:List Tok} {i:Nat}:Ep (b0M s ts i):=a1N fun _=>Q3 (J1 fun _=>N5) a1I
theorem c0k {d:Int} {ts:List Tok} {i:Nat}:Ep (a6a R rec d ts i):=
 Q3 (J9 (a0J _) fun _ _=>R7 b5W fun _ _=>N5)
  (Q3 (J9 (a0J _) fun _ _=>J9 (c0L b5n) fun _ _=>J1 fun _=>R7 (hr _ _ _) fun _ _=>a9G fun _=>N5)
   (Q3 (J9 (a9W _) fun _ _=>J9 (a0J _) fun _ _=>a1N fun _=>J9 (R9 _) fun _ _=>a9P)
    (Q3 (J9 (a9W _) fun _ _=>J9 (a1r a0J) fun _ _=>Q3 (J9 (a3z _) fun _ _=>a9P) a9P) N5)))
theorem a8J {k:Int} {d:Int} {ts:List Tok} {i:Nat}:Ep (a3u R rec k d ts i):=
 J9 (b8I _) fun _ _=>J1 fun _=>Q3 (R7 (hr _ _ _) fun _ _=>N5) (R7 (b0y hr _ _ _) fun _ _=>N5)
theorem a5u {k:Int} {row:List Tok->E Gu} (hw:∀ ts,Er (row ts)) {d:Int} {ts:List Tok} {i:Nat}:Ep (a0E R rec k row d ts i):=
 J9 (b8I _) fun _ _=>J1 fun _=>R7 (a3F hr hw _ _ _) fun _ _=>N5
theorem a8x {d:Int} {ts:List Tok} {i:Nat}:Ep (a3y R rec d ts i):=
 Q3 (J9 (a0J _) fun _ _=>J9 (c0L R9) fun _ _=>J1 fun _=>N5)
  (J9 (a1r a3z) fun _ _=>Q3 (J9 (a1r R9) fun _ _=>J1 fun _=>N5) (Q3 a1I (Q3 (J9 (a1r R9) fun _ _=>J1 fun _=>N5)
   (a1N fun _=>Q3 (J1 fun _=>R7 (a3F hr c1O _ _ _) fun _ _=>N5) (Q3 (J9 (R9 _) fun _ _=>J1 fun _=>N5) (J9 (a1r a3z) fun _ _=>J1 fun _=>N5))))))
theorem b9E {s:B} {f:Int->List Tok->Nat->PE Pr} (h:a3n R rec s=some f) (d:Int) (ts:List Tok) (i:Nat):Ep (f d ts i):=by
 unfold a3n at h;split at h
 ·cases h;exact J1 fun _=>N5
 split at h
 ·cases h;exact J1 fun _=>N5
 split at h
 ·cases h;exact a8J hr
 split at h
 ·cases h;exact a8J hr
 split at h
 ·cases h;exact Q3 (J1 fun _=>R7 (hr _ _ _) fun _ _=>R7 (hr _ _ _) fun _ _=>N5) (a1N fun _=>a5u hr b7n)
 split at h
 ·cases h;exact a5u hr b7n
 split at h
 ·cases h;exact a5u hr c1D
 split at h
 ·cases h;exact J9 (R9 _) fun _ _=>J1 fun _=>R7 (a3F hr c1V _ _ _) fun _ _=>N5
 split at h
 ·cases h;exact J9 (R9 _) fun _ _=>J1 fun _=>R7 (hr _ _ _) fun _ _=>N5
 split at h
 ·cases h;exact a1N fun _=>J1 fun _=>R7 (a8H hr _ _ _ _) fun _ _=>N5
 ·cases h
theorem b8R {d:Int} {top:Bool} {ts:List Tok} {i:Nat}:Ep (a5W R rec d top ts i):=by
 cases ts with
 | nil=>exact a1I
 | cons t r=>
  unfold a5W;cases hw:a3n R rec t.text with
  | none=>simp only[hw];exact a8x hr
  | some f=>simp only[hw];exact Q3 (b9E hr hw _ _ _) (a8x hr)
theorem c03 {d:Int} {top:Bool} {i:Nat}:Ep (c0R R rec d top i):=a5a fun _=>R7 (c0k hr) fun so _=>by
 cases so with
 | none=>exact b8R hr
 | some s=>exact R7 (hr _ _ _) fun _ _=>N5
omit hr in
theorem a7x:∀ (n:Nat) (d:Int) (t:Bool) (i:Nat),Ep (B9 R n d t i)
 | 0,_,_,_=>a1I
 | n+1,_,_,_=>c03 (a7x n)
omit hr in
theorem c1v:Ep (a9O R):=R7 (a7x _ _ _ _) fun _ i=>by
 cases R[i]? with
 | none=>exact N5
 | some y=>
  show Ep (.error (if (Go.Lx.lexO y.text).2.2≠0 then (Go.Lx.lexO y.text).2.2 else 110,i));intro e j h;cases h;split
  ·assumption
  ·decide
end
section
open Go.Eng Go.Pc Go
open Go.Xp hiding B
open Go.Ty (Ty Vr Tok)
open Go.Ly (Rw)
def A1 (s:B):Tok:=if Go.Lx.key s then ⟨2,0,s,0⟩ else ⟨5,0,s,0⟩
def N6 (s:B):Tok:=⟨1,0,s,0⟩
def K1 (t:Ty):List Tok:=(Go.Ty.tokens t).1
def a0j (k:Int):List Tok:=K1 ⟨k,0,0,[]⟩
def C9 {α:Type} (sep:B) (f:α->List Tok):List α->List Tok
 | []=>[]
 | [x]=>f x
 | x::y::r=>f x++⟨5,0,sep,0⟩::C9 sep f (y::r)
theorem a1g {α:Type} (sep:B) (f:α->List Tok):∀ (l:List α) (x:α),l≠[]->C9 sep f (l++[x])=C9 sep f l++(⟨5,0,sep,0⟩::f x)
 | [],_,h=>absurd rfl h
 | [y],x,_=>rfl
 | y::z::r,x,_=>by
  show f y++⟨5,0,sep,0⟩::C9 sep f (z::r++[x])=(f y++⟨5,0,sep,0⟩::C9 sep f (z::r))++(⟨5,0,sep,0⟩::f x);rw[a1g sep f (z::r) x (by simp)];simp
def a1E (s:B) (l:List Tok):List Tok:=if l.length=0 then [] else A1 s::l
def a1q (r:Rp):List Tok:=if r.name=[] then [] else ((([N6 r.name]++[A1 [61]])++D8 r.base)++[A1 [70,79,82]])++D8 r.count
def P4 (f:Fo):List Tok:=((if f.val then [A1 [86,65,76]] else [])++K1 f.ty)++[N6 f.name]
abbrev Ln:=Int × List Tok
def A8 (k:Int) (n:B) (ch:Ex) (tg ex:List Ex) (rep:Rp):List Tok:=
 if k=1 then [A1 [83,75,73,80]]
 else if k=2 then [A1 [83,84,79,80]]
 else if k=3 then (C9 [44] D8 tg++[A1 [58,61]])++C9 [44] D8 ex
 else if k=4 then (D8 ch++[A1 [63]])++C9 [59] D8 tg
 else if k=5 then (D8 ch++[A1 [33]])++C9 [59] D8 ex
 else if k=6 then (D8 ch++[A1 [63],A1 [65,70,84,69,82]])++C9 [] D8 ex
 else if k=7 then D8 ch++[A1 [63],A1 [67,65,83,69]]
 else if k=8 then [A1 [83,69,81]]++a1q rep
 else if k=9 then [A1 [80,65,82]]++a1q rep
 else if k=10 then [A1 [80,82,73],A1 [80,65,82]]
 else if k=11 then [A1 [80,76,65,67,69,68],A1 [80,65,82]]
 else if k=12 then [A1 [65,76,84]]++a1q rep
 else if k=13 then [A1 [80,82,73],A1 [65,76,84]]++a1q rep
 else if k=14 then [A1 [73,70]]++a1q rep
 else if k=15 then [A1 [67,65,83,69]]++C9 [] D8 ex
 else if k=16 then [A1 [87,72,73,76,69]]++C9 [] D8 ex
 else (([N6 n]++[A1 [40]])++C9 [44] D8 ex)++[A1 [41]]
def a00 (c:Ex):List Tok:=if Y0 c then [] else D8 c++[⟨5,0,[38],0⟩]
def G9 (k:Int) (n:B) (cond ch:Ex) (tg vl:List Ex) (time:Ex):List Tok:=
 if k=1 then D8 cond
 else if k=2 then a00 cond++[A1 [83,75,73,80]]
 else if k=3 then ((a00 cond++D8 ch)++[A1 [63]])++C9 [59] D8 tg
 else if k=4 then ((a00 cond++D8 ch)++[A1 [63],A1 [65,70,84,69,82]])++D8 time
 else if k=5 then C9 [44] D8 vl
 else if k=6 then [A1 [69,76,83,69]]
 else [N6 n]++a1E [59] (C9 [59] D8 tg)
def I6 (l:List B):List Tok:=C9 [44] (fun s=>[N6 s]) l
def J0 (v:Vr):List Tok:=[N6 v.tag]++a1E [59] (C9 [59] a0j v.items)
mutual
def I3:Pr->Int->List Ln
 | .mk k n ch tg ex rep _ _ gl _ _ ll pn sp,d=>if k=18 then J6 sp d++a0W ll d else (d,A8 k n ch tg.l ex.l rep)::(E7 k pn.l ll d++J2 gl (d+1))
def a0W:List Pr->Int->List Ln
 | [],_=>[]
 | x::_,d=>I3 x d
def E7 (k:Int):List Int->List Pr->Int->List Ln
 | _,[],_=>[]
 | ns,x::r,d=>(if k=11 then (d+1,[A1 [80,82,79,67,69,83,83,79,82],⟨3,0,[],IntKind.i32.wrap (ns.headD 0)⟩])::I3 x (d+2) else I3 x (d+1))++E7 k ns.tail r d
def W6:Gu->Int->List Ln
 | .mk k n cond ch tg vl time _ _ bl,d=>(d,G9 k n cond ch tg.l vl.l time)::a0W bl (d+1)
def J2:List Gu->Int->List Ln
 | [],_=>[]
 | g::r,d=>W6 g d++J2 r d
def J6:Sp->Int->List Ln
 | .mk k ty ns e cs vs fs _ _ bl,d=>
  if k=1 then [(d,(K1 ty++I6 ns.l)++[A1 [58]])]
  else if k=2 then [(d,(((([A1 [86,65,76]]++K1 ty)++I6 ns.l)++[A1 [73,83]])++D8 e)++[A1 [58]])]
  else if k=3 then [(d,(((K1 ty++I6 ns.l)++[A1 [73,83]])++D8 e)++[A1 [58]])]
  else if k=5 then (d,((([A1 [80,82,79,67]]++I6 ns.l)++[A1 [40]])++C9 [44] P4 fs.l)++[A1 [41]])::(a0W bl (d+1)++[(d,[A1 [58]])])
  else if cs=false then [(d,((([A1 [80,82,79,84,79,67,79,76]]++I6 ns.l)++[A1 [73,83]])++C9 [59] a0j (Go.Ty.hdV vs.l).items)++[A1 [58]])]
  else (d,[A1 [80,82,79,84,79,67,79,76]]++I6 ns.l)::(d+1,[A1 [67,65,83,69]])::(vs.l.map (fun v=>((d+2,J0 v):Ln))++[(d,[A1 [58]])])
end
abbrev Ps:=List Rw × Bool
def C3 (st:Ps) (x:Ln):Ps:=if (Go.Lx.textO x.2).2≠0\/st.1.length > 2048 then (st.1,true) else (st.1++[⟨st.1.length+1,x.1,(Go.Lx.textO x.2).1⟩],st.2)
def B5 (st:Ps) (l:List Ln):Ps:=l.foldl C3 st
theorem Y1 (st:Ps) (a b:List Ln):B5 st (a++b)=B5 (B5 st a) b:=List.foldl_append
theorem a0d (st:Ps) (x:Ln) (b:List Ln):B5 st (x::b)=B5 (C3 st x) b:=rfl
def S6 (p:Pr):List Rw × Int:=if mayP p then (if (B5 ([],false) (I3 p 0)).2||!Go.Ly.mayP (B5 ([],false) (I3 p 0)).1 then ([],3) else ((B5 ([],false) (I3 p 0)).1,0)) else ([],2)
end
end Go.Sx
namespace Go.Eng
section
open Go Go.RowKit
section
variable {P:Program} {ops:Array Oper} {Q:Exit->Act->World->Prop} {n:Cx} {F:Fm} {h h':List Res} {m:View} {rest:List Oper}
variable {ty:TypeId} {pos:String} {after:Array Edge} {d:Nat}
theorem b8H {x y:Operand} {t tn e:TypeId} {sz by_ q:Nat} {kn kq:IntKind} {j:Int} (E:EL P t e sz by_) (htn:P.underlying tn=some (.int kn)) (ex:Ev n F x (.slice none 0 0)) (ey:Ev n F y (.int kq j)) (hj:j=(q:Int)) (h0:0 < q) (hb:q * by_<=140737488355328) (h63:q<=4611686018427387904) (hd:d < n.num)
 (kk:∀ b cap,q<=cap->cap<=9223372036854775807->WL P ops Q n rest ((d,.slice (some ⟨b,0,none⟩) q cap)::F) (.row (.slice (some ⟨b,0,none⟩) 0 cap) e sz 0 []::h) m) :
 WL P ops Q n (⟨some d,.call ⟨.builtin .append,#[x,y],#[t,tn]⟩,ty,pos,after,none⟩::rest) F h m:=.mk fun f w hf hs=>by
 subst hj;obtain⟨i,z,ht,hi,hz,hsize,hby,hzs,hsz⟩:=E.ex;subst hsize hby
 have hr:=Lib.run_append_grow_zeros (P:=P) w t tn ty e i z kq kn ht htn hi hz none 0 0 [] (run_firstCells_none w.drew i.size 0 0 0) q h0 hsz (by omega) (by omega) (by omega) (growslice_fits (by omega) (by rw[Nat.zero_add];exact hb));simp only[Nat.zero_add] at hr;have hge:=grownCap_ge w q 0 e;have hcm:grownCap w q 0 e<=maxLen:=grownCap_le_maxLen w q 0 e (by unfold maxLen;omega);refine E8 rfl (M5 (v:=.slice (some ⟨w.heap.size,0,none⟩) q (grownCap w q 0 e)) (w':=w.drew.alloc (.cells (([]:List Value).toArray++Builtin.zeroCells z.cells q++Builtin.zeroCells z.cells (grownCap w q 0 e - q)) e)) ?_ (kk w.heap.size (grownCap w q 0 e) hge (by unfold maxLen at hcm;omega) _ _ (hf.put hd _) ?_))
 ·simp at hr
  simp[execOp,resolve,invoke,builtin,ex f hf,ey f hf,hr]
 ·refine(hs.drew.alloc (.cells (([]:List Value).toArray++Builtin.zeroCells z.cells q++Builtin.zeroCells z.cells (grownCap w q 0 e - q)) e)).conv (r':=.row (.slice (some ⟨w.heap.size,0,none⟩) 0 (grownCap w q 0 e)) e i.size 0 []) Upd.here rfl fun hh=>?_
  have:=a2H (sz:=i.size) (n:=0) (cap:=grownCap w q 0 e) hh (Nat.zero_le _) hcm (by
   simp only[Array.size_append,List.size_toArray,size_zeroCells,hzs,List.length_nil,Nat.zero_add,<- Nat.add_mul];congr 1
   omega)
  rw[Nat.zero_mul,List.take_zero] at this;exact this
theorem b0p {x:Operand} {t:TypeId} {e:TypeId} {a:Option Addr} {l c:Nat} {dst:Option Tmp} {g:Option (Nat × Bool)} (ht:P.underlying t=some (.slice e)) (ex:Ev n F x (.slice a l c)) :
 PO P ⟨dst,.call ⟨.builtin .cap,#[x],#[t]⟩,ty,pos,after,g⟩ n F h m (.int .i64 c):=.mk fun b w ha _=>by
 simp[execOp,resolve,invoke,builtin,ex b ha,Builtin.cap_,run_underlying ht,goInt]
end
end
end Go.Eng
namespace Go.Sx
section
open Go.Eng Go.Pc Go
open Go.Xp hiding B D5
open Go.Ty (Ty Vr Tok)
theorem a7T (p:Pr):(stP p).k=p.k/\(stP p).name=p.name/\(stP p).ch=B8 p.ch/\(stP p).tg.l=p.tg.l.map B8/\(stP p).ex.l=p.ex.l.map B8/\(stP p).rep=stR p.rep/\(stP p).gl=p.gl.map stG/\(stP p).ll=p.ll.map stP/\(stP p).pn.l=p.pn.l/\(stP p).sp=stS p.sp:=by
 cases p;refine⟨rfl,rfl,rfl,rfl,rfl,rfl,?_,?_,rfl,rfl⟩
 ·exact a7N _
 ·exact a3c _
theorem b0B (g:Gu):(stG g).k=g.k/\(stG g).name=g.name/\(stG g).cond=B8 g.cond/\(stG g).ch=B8 g.ch/\(stG g).tg.l=g.tg.l.map B8/\(stG g).vl.l=g.vl.l.map B8/\(stG g).time=B8 g.time/\(stG g).bl=g.bl.map stP:=by
 cases g;exact⟨rfl,rfl,rfl,rfl,rfl,rfl,rfl,a3c _⟩
theorem b3T (s:Sp):(stS s).k=s.k/\(stS s).ty=s.ty/\(stS s).names.l=s.names.l/\(stS s).e=B8 s.e/\(stS s).cs=s.cs/\(stS s).vs.l=s.vs.l.map V1/\(stS s).fs.l=s.fs.l/\(stS s).bl=s.bl.map stP:=by
 rw[R6];exact⟨rfl,rfl,rfl,rfl,rfl,rfl,rfl,rfl⟩
theorem c3g (g:Gu):guP (stG g)=guP g:=by
 obtain⟨h1,h2,h3,h4,h5,h6,h7,h8⟩:=b0B g;unfold guP a7P;rw[h1,h2,h3,h4,h5,h6,h7,h8,List.length_map,a2r,a2r,a2r,P7,P7,X2,a2T _ B8 _ _ N7 N7 X2,a2T _ B8 _ _ M0 M0 P7]
theorem c3n (u:Us) (g:Gu):inG u (stG g)=inG u g:=by
 unfold inG;rw[c3g,(b0B g).1]
theorem c3C:stS D2=D2:=by
 rw[R6];have:B8 A2=A2:=by rw[V8];rfl
 show spM 0 Go.Ty.zeroT [] (B8 A2) false [] [] []=D2;rw[this];rfl
theorem a9b (p:Pr) (u:Us):V0 (stP p) u=V0 p u:=by
 obtain⟨h1,h2,h3,h4,h5,h6,h7,h8,h9,h10⟩:=a7T p;unfold V0;rw[h2,h3,h4,h5,h7,h8,h9,h10,List.length_map,a2r,X2,a2T _ B8 _ _ N7 N7 X2,a2T _ B8 _ _ M0 M0 P7,a2T _ stG _ _ (inG u) (inG u) (c3n u),c1c];have:Y8 (stS p.sp) D2=Y8 p.sp D2:=by
  have:=a8O p.sp D2;rwa [c3C] at this
 rw[this]
theorem b7K (p:Pr):Q7 (stP p)=Q7 p:=by
 obtain⟨h1,h2,h3,h4,h5,h6,h7,h8,h9,h10⟩:=a7T p;unfold Q7;have hr:a4D (stP p).rep=a4D p.rep:=by
  rw[h6];unfold a4D stR;show(if p.rep.name==[] then Y0 (B8 p.rep.base)&&Y0 (B8 p.rep.count) else Go.Lx.name p.rep.name&&M0 (B8 p.rep.base)&&M0 (B8 p.rep.count))=_;rw[a2r,a2r,P7,P7]
 have hn:(stP p).rep.name=p.rep.name:=by rw[h6];rfl
 rw[h1,hr,hn,a9b,a9b]
theorem b9b (p:Pr) (d:Int) (pl:Bool) (q:Int):a0g (stP p) d pl q=a0g p d pl q:=by
 unfold a0g;rw[b7K,(a7T p).1]
abbrev b1M (p:Pr):Prop:=∀ d pl q,J8 (stP p) d pl q=J8 p d pl q
theorem b3U {d:Int} {pl:Bool}:∀ {l:List Pr} {q:Int},(∀ x ∈ l,b1M x)->X3 (l.map stP) d pl q=X3 l d pl q
 | [],_,_=>rfl
 | x::r,q,h=>by
  have h1:=h x (List.Mem.head _) d pl q;show(if (J8 (stP x) d pl q).1 then X3 (r.map stP) d pl (J8 (stP x) d pl q).2 else J8 (stP x) d pl q)=(if (J8 x d pl q).1 then X3 r d pl (J8 x d pl q).2 else J8 x d pl q);rw[h1,b3U fun y hy=>h y (List.Mem.tail _ hy)]
theorem b4c {d:Int} {l:List Pr} {q:Int} (h:∀ x ∈ l,b1M x):a46 (l.map stP) d q=a46 l d q:=by
 cases l with
 | nil=>rfl
 | cons x r=>exact h x (List.Mem.head _) d false q
theorem b40 {d:Int}:∀ {l:List Gu} {q:Int},(∀ g ∈ l,∀ x ∈ g.bl,b1M x)->a1T (l.map stG) d q=a1T l d q
 | [],_,_=>rfl
 | g::r,q,h=>by
  have h1:a1n (stG g) d q=a1n g d q:=by
   rw[a5i,a5i,(b0B g).2.2.2.2.2.2.2];exact b4c (h g (List.Mem.head _))
  show(if (a1n (stG g) d q).1 then a1T (r.map stG) d (a1n (stG g) d q).2 else a1n (stG g) d q)=(if (a1n g d q).1 then a1T r d (a1n g d q).2 else a1n g d q);rw[h1,b40 fun y hy=>h y (List.Mem.tail _ hy)]
theorem b8S (p:Pr):b1M p:=by
 refine Pr.ind (q:=b1M) (fun p ih d pl q=>?_) p;obtain⟨h1,h2,h3,h4,h5,h6,h7,h8,h9,h10⟩:=a7T p;have hs:∀ a b,Z9 (stS p.sp) a b=Z9 p.sp a b:=fun a b=>by
  rw[a6u,a6u,(b3T p.sp).2.2.2.2.1,(b3T p.sp).2.2.2.2.2.2.2,b4c fun x hx=>ih x (.s hx)]
 have hl:∀ a b c,X3 (p.ll.map stP) a b c=X3 p.ll a b c:=fun a b c=>b3U fun x hx=>ih x (.l hx)
 have hg:∀ a b,a1T (p.gl.map stG) a b=a1T p.gl a b:=fun a b=>b40 fun g hg x hx=>ih x (.g hg hx)
 rw[a6n (stP p),a6n p,b9b,h1,h7,h8,h10,hs,hl,hl,hg,hg]
theorem c0b (p:Pr):mayP (stP p)=mayP p:=by unfold mayP;rw[b8S]
theorem a8Z {α β:Type} (sep:B) (f:β->List Tok) (g:α->β) (e:α->List Tok) (h:∀ x,f (g x)=e x):∀ l:List α,C9 sep f (l.map g)=C9 sep e l
 | []=>rfl
 | [x]=>h x
 | x::y::r=>by
  show f (g x)++⟨5,0,sep,0⟩::C9 sep f ((y::r).map g)=e x++⟨5,0,sep,0⟩::C9 sep e (y::r);rw[h,a8Z sep f g e h (y::r)]
theorem a0Z (sep:B) (l:List Ex):C9 sep D8 (l.map B8)=C9 sep D8 l:=a8Z sep D8 B8 D8 T8 l
theorem c1P (r:Rp):a1q (stR r)=a1q r:=by
 unfold a1q stR;show(if r.name=[] then [] else ((([N6 r.name]++[A1 [61]])++D8 (B8 r.base))++[A1 [70,79,82]])++D8 (B8 r.count))=_;rw[T8,T8]
theorem b9C (e:Ex):a00 (B8 e)=a00 e:=by
 unfold a00;rw[a2r,T8]
abbrev a7a (p:Pr):Prop:=∀ d,I3 (stP p) d=I3 p d
theorem a8s {k d:Int}:∀ {l:List Pr} {ns:List Int},(∀ x ∈ l,a7a x)->E7 k ns (l.map stP) d=E7 k ns l d
 | [],ns,_=>by cases ns <;> rfl
 | x::r,ns,h=>by
  have h1:=h x (List.Mem.head _);show(if k=11 then _::I3 (stP x) (d+2) else I3 (stP x) (d+1))++E7 k ns.tail (r.map stP) d=_;rw[h1,h1,a8s fun y hy=>h y (List.Mem.tail _ hy)];rfl
theorem a5x {d:Int} {l:List Pr} (h:∀ x ∈ l,a7a x):a0W (l.map stP) d=a0W l d:=by
 cases l with
 | nil=>rfl
 | cons x r=>exact h x (List.Mem.head _) d
theorem b0P (g:Gu) (d:Int):W6 g d=(d,G9 g.k g.name g.cond g.ch g.tg.l g.vl.l g.time)::a0W g.bl (d+1):=by cases g;rfl
theorem b4m {d:Int} {g:Gu} (h:∀ x ∈ g.bl,a7a x):W6 (stG g) d=W6 g d:=by
 obtain⟨h1,h2,h3,h4,h5,h6,h7,h8⟩:=b0B g;rw[b0P,b0P,h1,h2,h3,h4,h5,h6,h7,h8,a5x h];unfold G9;rw[T8,T8,T8,b9C,a0Z,a0Z]
theorem a6F {d:Int}:∀ {l:List Gu},(∀ g ∈ l,∀ x ∈ g.bl,a7a x)->J2 (l.map stG) d=J2 l d
 | [],_=>rfl
 | g::r,h=>by
  show W6 (stG g) d++J2 (r.map stG) d=W6 g d++J2 r d;rw[b4m (h g (List.Mem.head _)),a6F fun y hy=>h y (List.Mem.tail _ hy)]
theorem b1B (s:Sp) (d:Int):J6 s d=if s.k=1 then [(d,(K1 s.ty++I6 s.names.l)++[A1 [58]])]
 else if s.k=2 then [(d,(((([A1 [86,65,76]]++K1 s.ty)++I6 s.names.l)++[A1 [73,83]])++D8 s.e)++[A1 [58]])]
 else if s.k=3 then [(d,(((K1 s.ty++I6 s.names.l)++[A1 [73,83]])++D8 s.e)++[A1 [58]])]
 else if s.k=5 then (d,((([A1 [80,82,79,67]]++I6 s.names.l)++[A1 [40]])++C9 [44] P4 s.fs.l)++[A1 [41]])::(a0W s.bl (d+1)++[(d,[A1 [58]])])
 else if s.cs=false then [(d,((([A1 [80,82,79,84,79,67,79,76]]++I6 s.names.l)++[A1 [73,83]])++C9 [59] a0j (Go.Ty.hdV s.vs.l).items)++[A1 [58]])]
 else (d,[A1 [80,82,79,84,79,67,79,76]]++I6 s.names.l)::(d+1,[A1 [67,65,83,69]])::(s.vs.l.map (fun v=>((d+2,J0 v):Ln))++[(d,[A1 [58]])]):=by cases s;rfl
theorem b4B {d:Int} {s:Sp} (h:∀ x ∈ s.bl,a7a x):J6 (stS s) d=J6 s d:=by
 obtain⟨h1,h2,h3,h4,h5,h6,h7,h8⟩:=b3T s;have hv:(Go.Ty.hdV (s.vs.l.map V1)).items=(Go.Ty.hdV s.vs.l).items:=by cases s.vs.l <;> rfl
 rw[b1B,b1B,h1,h2,h3,h4,h5,h6,h7,h8,a5x h,T8,hv,List.map_map];rfl
theorem b1j (p:Pr) (d:Int):I3 p d=if p.k=18 then J6 p.sp d++a0W p.ll d else (d,A8 p.k p.name p.ch p.tg.l p.ex.l p.rep)::(E7 p.k p.pn.l p.ll d++J2 p.gl (d+1)):=by cases p;rfl
theorem b75 (p:Pr):a7a p:=by
 refine Pr.ind (q:=a7a) (fun p ih d=>?_) p;obtain⟨h1,h2,h3,h4,h5,h6,h7,h8,h9,h10⟩:=a7T p;have hf:A8 p.k p.name (B8 p.ch) (p.tg.l.map B8) (p.ex.l.map B8) (stR p.rep)=A8 p.k p.name p.ch p.tg.l p.ex.l p.rep:=by
  unfold A8;rw[T8,a0Z,a0Z,a0Z,a0Z,a0Z,c1P]
 rw[b1j,b1j,h1,h2,h3,h4,h5,h6,h7,h8,h9,h10,hf,b4B fun x hx=>ih x (.s hx),a5x fun x hx=>ih x (.l hx),a8s fun x hx=>ih x (.l hx),a6F fun g hg x hx=>ih x (.g hg hx)]
theorem b7Z (p:Pr):S6 (stP p)=S6 p:=by
 unfold S6;rw[c0b,b75]
def L1 (s:B):List B:=Lib.splitK [47] 0 (Lib.count s [47]) s
def a5d (i:Nat) (x:B):Go.Ly.Rw:=⟨(i:Int)+1,(x.length:Int) - ((Lib.trimLeftB x 46).length:Int),Lib.trimLeftB x 46⟩
def a4Y:Nat->List B->List Go.Ly.Rw
 | _,[]=>[]
 | i,x::l=>a5d i x::a4Y (i+1) l
theorem a6O:∀ {i j:Nat} {l:List B} {x:B},l[j]?=some x->a4Y i (l.take (j+1))=a4Y i (l.take j)++[a5d (i+j) x]
 | _,_,[],_,h=>by cases h
 | i,0,y::l,x,h=>by cases h;rfl
 | i,j+1,y::l,x,h=>by
  have ih:=a6O (i:=i+1) (j:=j) (l:=l) (x:=x) (by simpa using h);show a5d i y::a4Y (i+1) (l.take (j+1))=a5d i y::(a4Y (i+1) (l.take j)++[a5d (i+(j+1)) x]);rw[ih,show i+1+j=i+(j+1) by omega]
def S0 (s:B):List Go.Ly.Rw:=a4Y 0 (L1 s)
def a2x (s:B) (k:Int):Bool:=(((((N0 (S0 s)).1.k==k)&&(((N0 (S0 s)).2.1:Int)==0))&&((N0 (S0 s)).2.2==0))&&((S6 (N0 (S0 s)).1).2==0))&&eqL Go.Ly.eqR (S6 (N0 (S0 s)).1).1 (S0 s)
end
end Go.Sx
namespace Go.Pc
section
open Go.Eng Go.Xp Go
open Go.Ty (Ty Vr)
def a4p (r s:Rp):Bool:=((r.name==s.name)&&E5 r.base s.base)&&E5 r.count s.count
def a0z (c:Bool) (l:List Vr) (d:Bool) (s:List Vr):Bool:=(c==d)&&eqL R5 l s
mutual
def J7:Pr->Pr->Bool
 | .mk k nm ch tg ex rp _ _ gl _ _ ll pn sp=>fun q=>eqL (fun a b:Int=>a==b) pn.l q.pn.l&&((((((((((k==q.k)&&(nm==q.name))&&a4p rp q.rep)&&E5 ch q.ch)&&eqL E5 tg.l q.tg.l)&&eqL E5 ex.l q.ex.l)&&a9T gl q.gl)&&a0s ll q.ll)&&a2a sp q.sp))
def a0s:List Pr->List Pr->Bool
 | []=>fun s=>match s with
  | []=>true
  | _::_=>false
 | x::r=>fun s=>match s with
  | []=>false
  | y::t=>J7 x y&&a0s r t
def X4:Gu->Gu->Bool
 | .mk k nm c ch tg vl tm _ _ bl=>fun g=>(((((((k==g.k)&&(nm==g.name))&&E5 c g.cond)&&E5 ch g.ch)&&E5 tm g.time)&&eqL E5 tg.l g.tg.l)&&eqL E5 vl.l g.vl.l)&&a0s bl g.bl
def a9T:List Gu->List Gu->Bool
 | []=>fun s=>match s with
  | []=>true
  | _::_=>false
 | x::r=>fun s=>match s with
  | []=>false
  | y::t=>X4 x y&&a9T r t
def a2a:Sp->Sp->Bool
 | .mk k ty nms e cs vs fs _ _ bl=>fun s=>((((k==s.k)&&Go.Ty.eqT ty s.ty)&&eqL a1p fs.l s.fs.l))&&(((eqL (fun a b:B=>a==b) nms.l s.names.l&&E5 e s.e)&&a0z cs vs.l s.cs s.vs.l)&&a0s bl s.bl)
end
theorem a1m:∀ l s:List Pr,a0s l s=eqL J7 l s
 | [],[]=>rfl
 | x::r,y::s=>by show(J7 x y&&a0s r s)=(J7 x y&&eqL J7 r s);rw[a1m r s]
 | [],_::_=>rfl
 | _::_,[]=>rfl
theorem a5E:∀ l s:List Gu,a9T l s=eqL X4 l s
 | [],[]=>rfl
 | x::r,y::s=>by show(X4 x y&&a9T r s)=(X4 x y&&eqL X4 r s);rw[a5E r s]
 | [],_::_=>rfl
 | _::_,[]=>rfl
theorem a7q (p q:Pr):J7 p q=(eqL (fun a b:Int=>a==b) p.pn.l q.pn.l&&((((((((((p.k==q.k)&&(p.name==q.name))&&a4p p.rep q.rep)&&E5 p.ch q.ch)&&eqL E5 p.tg.l q.tg.l)&&eqL E5 p.ex.l q.ex.l)&&eqL X4 p.gl q.gl)&&eqL J7 p.ll q.ll)&&a2a p.sp q.sp))):=by
 rw[<- a5E,<- a1m];cases p;rfl
theorem a7F (p g:Gu):X4 p g=((((((((p.k==g.k)&&(p.name==g.name))&&E5 p.cond g.cond)&&E5 p.ch g.ch)&&E5 p.time g.time)&&eqL E5 p.tg.l g.tg.l)&&eqL E5 p.vl.l g.vl.l)&&eqL J7 p.bl g.bl):=by
 rw[<- a1m];cases p;rfl
theorem a4X (p s:Sp):a2a p s=(((((p.k==s.k)&&Go.Ty.eqT p.ty s.ty)&&eqL a1p p.fs.l s.fs.l))&&(((eqL (fun a b:B=>a==b) p.names.l s.names.l&&E5 p.e s.e)&&a0z p.cs p.vs.l s.cs s.vs.l)&&eqL J7 p.bl s.bl)):=by
 rw[<- a1m];cases p;rfl
theorem b5x {x y:Sp} (h:(((x.k != y.k)||!(Go.Ty.eqT x.ty y.ty))||((x.fs.l.length:Int) != (y.fs.l.length:Int)))=true):a2a x y=false:=by
 rw[a4X];simp only[Bool.or_eq_true,bne_iff_ne,Bool.not_eq_true'] at h;rcases h with (h | h) | h
 ·have:(x.k==y.k)=false:=by simpa using h
  simp[this]
 ·simp[h]
 ·rw[P3 a1p x.fs.l y.fs.l (by omega)]
  simp
theorem b2h {x y:Sp} (h:(((x.k != y.k)||!(Go.Ty.eqT x.ty y.ty))||((x.fs.l.length:Int) != (y.fs.l.length:Int)))=false) :
 x.fs.l.length=y.fs.l.length/\a2a x y=(eqL a1p x.fs.l y.fs.l&&(((eqL (fun a b:B=>a==b) x.names.l y.names.l&&E5 x.e y.e)&&a0z x.cs x.vs.l y.cs y.vs.l)&&eqL J7 x.bl y.bl)):=by
 rw[a4X];simp only[Bool.or_eq_false_iff,bne_eq_false_iff_eq,Bool.not_eq_false'] at h;obtain⟨⟨h1,h2⟩,h3⟩:=h;refine⟨by omega,?_⟩;have h4:(x.k==y.k)=true:=by simpa using h1
 rw[h4,h2,Bool.true_and,Bool.true_and]
end
end Go.Pc
namespace Go.Eng
section
open Go Go.RowKit
section
variable {P:Program} {m m':View} {h h':List Res} {w w':World}
def Vw (m':View) (h':List Res) (m:View) (h:List Res):Prop:=∀ (a:Option Addr) (n cap sz:Nat) (xs:List Value),Rd m' h' a n cap sz xs->Rd m h a n cap sz xs
theorem b8E {m:View} {g:Nat} {cur:Array Value} {e:TypeId} {fz:Nat × Nat} {n cap sz:Nat} {xs:List Value} (hl:xs.length=n * sz) (h1:n<=cap) (h2:cap<=9223372036854775807) (ht:cur.toList.take (n * sz)=xs):Rd (m.add g (.cells cur e fz)) [] (some ⟨g,0,none⟩) n cap sz xs:=
 ⟨hl,h1,h2,fun w s j u hj=>by
  refine⟨g,0,rfl,?_⟩;have hb:=s.blk g _ (View.add_blk m g (.cells cur e fz));rw[<- ht,List.getElem?_take] at hj;split at hj
  ·simp[World.cell?,hb];simpa using hj
  ·simp at hj⟩
theorem b8b {m:View} {g:Nat} {o:Obj} {h2:List Res}:Vw (m.add g o) h2 m (.pt g o::h2):=fun a n cap sz xs r=>
 ⟨r.len,r.le,r.mx,fun w s=>r.at_ w ⟨s.os,s.out,s.tape,fun b o' hb=>by
  unfold View.add at hb;simp only at hb;split at hb
  ·rename_i e
   cases hb;rw[e];exact s.ok _ (List.Mem.head _)
  ·exact s.blk b o' hb,fun r hr=>s.ok r (List.Mem.tail _ hr),(List.pairwise_cons.1 s.nd).2,fun x hx b hb=>by
  unfold View.add;simp only;split
  ·rename_i e
   exact((List.pairwise_cons.1 s.nd).1 x hx b (by rw[e];rfl) hb).elim
  ·exact s.fr x (List.Mem.tail _ hx) b hb⟩⟩
theorem CT.lendRow {f:FuncId} {args:List Value} {a:Option Addr} {n cap sz:Nat} {e:TypeId} {xs:List Value} {R:View->Value->List Res->Prop} (he:∀ as w,(callFunc f as).run P w=.ok (.enter f as) w)
 (c:∀ m',m.le m'->Rd m' [] a n cap sz xs->CT P f args h m' (fun v _ h'=>R m' v h')) :
 CT P f args (.row (.slice a n cap) e sz n xs::h) m (fun v _ h'=>∃ m' hx h2,R m' v h2/\h'=hx++h2/\Vw m' h2 m (hx++h2)/\Rd m hx a n cap sz xs):=
 ⟨he,fun w s=>by
  have hrow:w.ownsRow 0 e sz (.slice a n cap) n xs:=s.ok _ (List.Mem.head _);obtain⟨k1,k2,k3⟩:=a6B hrow;obtain⟨hl,hn | ⟨g,cp,cur,hv,_,hh,hnc,hcm,hsz,ht⟩⟩:=hrow
  ·obtain⟨_,rfl⟩:=hn
   have hx0:xs=[]:=List.eq_nil_of_length_eq_zero (by simpa using k3);subst hx0;have s2:St m h w:=⟨s.os,s.out,s.tape,s.blk,fun r hr=>s.ok r (List.Mem.tail _ hr),(List.pairwise_cons.1 s.nd).2,fun r hr=>s.fr r (List.Mem.tail _ hr)⟩;have r0:∀ {q:View},Rd q [] a 0 cap sz []:=⟨k3,k1,k2,fun _ _ j u hj=>by cases hj⟩;refine Calls.mono ((c m Vl r0).calls w s2) ?_;rintro e' w' ⟨v,m2,h2,rfl,hle,s3,hR⟩;exact⟨v,m2,h2,rfl,hle,s3,m,[],h2,hR,rfl,fun _ _ _ _ _ r=>r,r0⟩
  ·simp only[Value.slice.injEq] at hv
   obtain⟨rfl,_,rfl⟩:=hv;have hfp:(Res.row (.slice (some ⟨g,0,none⟩) n cap) e sz n xs).fp=some g:=rfl;have hmg:m.blk g=none:=s.fr _ (List.Mem.head _) g hfp;have s2:St (m.add g (.cells cur e (0,0))) h w:=⟨s.os,s.out,s.tape,fun b o' hb=>by
    unfold View.add at hb;simp only at hb;split at hb
    ·rename_i e
     cases hb;rw[e];exact hh
    ·exact s.blk b o' hb,fun r hr=>s.ok r (List.Mem.tail _ hr),(List.pairwise_cons.1 s.nd).2,fun r hr b hb=>by
    unfold View.add;simp only;split
    ·rename_i e
     exact((List.pairwise_cons.1 s.nd).1 r hr b (e ▸ hfp) hb).elim
    ·exact s.fr r (List.Mem.tail _ hr) b hb⟩
   refine Calls.mono ((c _ (View.le_add hmg) (b8E k3 k1 k2 ht)).calls w s2) ?_;rintro e' w' ⟨v,m2,h2,rfl,hle,s3,hR⟩;have hml:=(View.le_add (o:=.cells cur e (0,0)) hmg).trans hle;have hg2:m2.blk g=some (.cells cur e (0,0)):=hle.blk _ _ (View.add_blk m g _);refine⟨v,m,.pt g (.cells cur e (0,0))::h2,rfl,Vl,⟨s3.os.trans hml.os,s3.out.trans hml.out,s3.tape.trans hml.tape,fun b o hb=>s3.blk b o (hml.blk b o hb),fun r hr=>?_,?_,fun r hr b hb=>?_⟩,_,[.pt g (.cells cur e (0,0))],h2,hR,rfl,b8b,?_⟩
   ·rcases List.mem_cons.1 hr with rfl | hr
    ·exact s3.blk g _ hg2
    ·exact s3.ok r hr
   ·refine List.pairwise_cons.2 ⟨fun r hr b h1 h3=>?_,s3.nd⟩
    cases h1;have:=s3.fr r hr _ h3;rw[hg2] at this;cases this
   ·rcases List.mem_cons.1 hr with rfl | hr
    ·cases hb
     exact hmg
    ·have h1:=s3.fr r hr b hb
     cases hm:m.blk b with
     | none=>rfl
     | some o=>
      rw[hml.blk b o hm] at h1;cases h1
   ·exact b8b _ _ _ _ _ (b8E k3 k1 k2 ht)⟩
end
end
end Go.Eng
namespace Go.Pc
section
open Go.Eng Go.Xp Go
open Go.Ty (Ty Vr)
set_option linter.unusedSimpArgs false
def a9K:Rp:=⟨[],A2,A2⟩
def a9w:Pr:=.mk 0 [] A2 B7 B7 a9K none 0 [] none 0 [] B7 D2
def c3Y (nm:B) (ch:Ex) (tg ex:Sli Ex) (pn:Sli Int) (sp:Sp):Pr:=.mk 0 nm ch tg ex a9K none 0 [] none 0 [] pn sp
end
end Go.Pc
namespace Go.Sx
section
open Go.Eng Go.Pc Go
open Go.Xp hiding B D5
open Go.Ty (Ty Vr Tok)
theorem a1W {α:Type} (q:α->α->Bool) (f:α->α):∀ (l r:List α),(∀ x ∈ l,∀ y,q (f x) y=q x y)->eqL q (l.map f) r=eqL q l r
 | [],[],_=>rfl
 | [],_::_,_=>rfl
 | _::_,[],_=>rfl
 | x::l,y::r,h=>by
  show(q (f x) y&&eqL q (l.map f) r)=(q x y&&eqL q l r);rw[h x (List.Mem.head _),a1W q f l r fun z hz=>h z (List.Mem.tail _ hz)]
theorem b3d (p q:Pr):J7 p q=(eqL (fun a b:Int=>a==b) p.pn.l q.pn.l&&((((((((((p.k==q.k)&&(p.name==q.name))&&a4p p.rep q.rep)&&E5 p.ch q.ch)&&eqL E5 p.tg.l q.tg.l)&&eqL E5 p.ex.l q.ex.l)&&eqL X4 p.gl q.gl)&&eqL J7 p.ll q.ll)&&a2a p.sp q.sp))):=by
 rw[<- a5E,<- a1m];cases p;rfl
theorem b3c (p q:Gu):X4 p q=((((((((p.k==q.k)&&(p.name==q.name))&&E5 p.cond q.cond)&&E5 p.ch q.ch)&&E5 p.time q.time)&&eqL E5 p.tg.l q.tg.l)&&eqL E5 p.vl.l q.vl.l)&&eqL J7 p.bl q.bl):=by
 rw[<- a1m];cases p;rfl
theorem b3h (p q:Sp):a2a p q=(((((p.k==q.k)&&Go.Ty.eqT p.ty q.ty)&&eqL a1p p.fs.l q.fs.l))&&(((eqL (fun a b:B=>a==b) p.names.l q.names.l&&E5 p.e q.e)&&a0z p.cs p.vs.l q.cs q.vs.l)&&eqL J7 p.bl q.bl)):=by
 rw[<- a1m];cases p;rfl
theorem b9x (r s:Rp):a4p (stR r) s=a4p r s:=by
 unfold a4p;show(((r.name==s.name)&&E5 (B8 r.base) s.base)&&E5 (B8 r.count) s.count)=_;rw[a08,a08]
theorem b3Z (p:Pr):∀ q,J7 (stP p) q=J7 p q:=by
 refine Pr.ind (q:=fun p=>∀ q,J7 (stP p) q=J7 p q) (fun p ih q=>?_) p;obtain⟨h1,h2,h3,h4,h5,h6,h7,h8,h9,h10⟩:=a7T p;have hs:a2a (stS p.sp) q.sp=a2a p.sp q.sp:=by
  obtain⟨s1,s2,s3,s4,s5,s6,s7,s8⟩:=b3T p.sp;have hv:a0z p.sp.cs (p.sp.vs.l.map V1) q.sp.cs q.sp.vs.l=a0z p.sp.cs p.sp.vs.l q.sp.cs q.sp.vs.l:=by
   unfold a0z;rw[a1W R5 V1 _ _ fun _ _ _=>rfl]
  rw[b3h,b3h,s1,s2,s3,s4,s5,s6,s7,s8,a08,hv,a1W J7 stP _ _ fun x hx y=>ih x (.s hx) y]
 have hg:eqL X4 (p.gl.map stG) q.gl=eqL X4 p.gl q.gl:=by
  refine a1W X4 stG _ _ fun g hgm y=>?_
  obtain⟨g1,g2,g3,g4,g5,g6,g7,g8⟩:=b0B g;rw[b3c,b3c,g1,g2,g3,g4,g5,g6,g7,g8,a08,a08,a08,a1W E5 B8 _ _ (fun x _ y=>a08 x y),a1W E5 B8 _ _ (fun x _ y=>a08 x y),a1W J7 stP _ _ fun x hx y=>ih x (.g hgm hx) y]
 rw[b3d,b3d,h1,h2,h3,h4,h5,h6,h7,h8,h9,h10,hs,hg,a08,b9x,a1W E5 B8 _ _ (fun x _ y=>a08 x y),a1W E5 B8 _ _ (fun x _ y=>a08 x y),a1W J7 stP _ _ fun x hx y=>ih x (.l hx) y]
def a1V (s:B) (n e:Int):Bool:=J7 (N0 (S0 s)).1 a9w&&((((N0 (S0 s)).2.1:Nat):Int)==n)&&((N0 (S0 s)).2.2==e)
end
end Go.Sx
namespace Go.Pc
section
open Go.Eng Go.Xp Go
open Go.Ty (Ty Vr)
set_option linter.unusedSimpArgs false
end
end Go.Pc
namespace Go.Sx
section
open Go.Eng Go.Pc Go
open Go.Xp hiding B D5
open Go.Ly (Rw)
end
end Go.Sx
namespace Go.Ly
section
open Go.Eng
def noD (s:B):Prop:=∀ k:Nat,s[k]?=some 45->s[k+1]?≠some 45
theorem b6s {a b:B} (ha:noD a) (hb:noD b):noD (a++32::b):=fun k h1 h2=>by
 rcases Nat.lt_trichotomy k a.length with h | h | h
 ·rw[List.getElem?_append_left h] at h1
  rcases Nat.lt_or_ge (k+1) a.length with h' | h'
  ·rw[List.getElem?_append_left h'] at h2
   exact ha k h1 h2
  ·rw[List.getElem?_append_right h',show k+1 - a.length=0 by omega] at h2
   simp at h2
 ·rw[List.getElem?_append_right (by omega),show k - a.length=0 by omega] at h1
  simp at h1
 ·rw[List.getElem?_append_right (by omega),show k - a.length=(k - a.length - 1)+1 by omega,List.getElem?_cons_succ] at h1
  rw[List.getElem?_append_right (by omega),show k+1 - a.length=(k - a.length - 1+1)+1 by omega,List.getElem?_cons_succ] at h2;exact hb _ h1 h2
structure TxtV (s:B):Prop where
 ne:s≠[]
 hd:s.head?≠some 32
 ls:s.getLast?≠some 32
 nd:noD s
 ok:s.all okB=true
theorem TxtV.join {a b:B} (ha:TxtV a) (hb:TxtV b):TxtV (a++32::b) where
 ne:=by simp
 hd:=by
  rw[List.head?_append];cases h:a.head? with
  | none=>exact absurd (List.head?_eq_none_iff.1 h) ha.ne
  | some c=>have:=ha.hd;rw[h] at this;exact this
 ls:=by
  rw[show a++32::b=(a++[32])++b by simp,List.getLast?_append];cases h:b.getLast? with
  | none=>exact absurd (List.getLast?_eq_none_iff.1 h) hb.ne
  | some c=>have:=hb.ls;rw[h] at this;exact this
 nd:=b6s ha.nd hb.nd
 ok:=by
  rw[List.all_append,ha.ok,List.all_cons,hb.ok];rfl
end
section
open Go.Eng
end
end Go.Ly

import Derived.Test.YtmhkeomphdddaaaGreatDoorLFrontY2
import Derived.Lib.AppendZerosOnto
import Derived.Deep.DeepAppendWide
namespace Go.Ty
section
open Go.Lx
def C0 (x:Tok):Tok:={ x with at_:=0 }
def M (l:List Tok) (i:Nat) (y:Tok):Prop:=∃ x,l[i]?=some x/\C0 x=y
def a2s (l:List Tok):Nat->List Tok->Prop
 | _,[]=>True
 | i,y::w=>M l i y/\a2s l (i+1) w
theorem M.lt {l:List Tok} {i:Nat} {y:Tok} (a:M l i y):i < l.length:=by
 obtain⟨x,hx,_⟩:=a;exact(List.getElem?_eq_some_iff.1 hx).1
theorem X1 (l:List Tok):∀ (u w:List Tok) (i:Nat),a2s l i (u++w)↔a2s l i u/\a2s l (i+u.length) w
 | [],w,i=>by simp[a2s]
 | y::u,w,i=>by
  show(M l i y/\a2s l (i+1) (u++w))↔(M l i y/\a2s l (i+1) u)/\a2s l (i+(u.length+1)) w;rw[X1 l u w (i+1),and_assoc,show i+1+u.length=i+(u.length+1) by omega]
theorem a6f {l:List Tok} {i:Nat} {y:Tok}:M l i y↔i < l.length/\C0 (I7 l i)=y:=by
 constructor
 ·intro m
  have h:=m.lt;obtain⟨x,hx,e⟩:=m;rw[a1B h] at hx;cases hx;exact⟨h,e⟩
 ·rintro ⟨h,e⟩;exact⟨_,a1B h,e⟩
theorem M7 {l:List Tok} {i:Nat} {kd:Int} {s:B} (h3:kd≠3):next l i kd s=true↔M l i ⟨kd,0,s,0⟩:=by
 rw[a6f];unfold next a3k C0;generalize I7 l i=x;cases x;simp[h3];constructor
 ·rintro ⟨⟨⟨a,b⟩,c⟩,d⟩;exact⟨a,b,c,d⟩
 ·rintro ⟨a,b,c,d⟩;exact⟨⟨⟨a,b⟩,c⟩,d⟩
theorem c01 {l:List Tok} {i:Nat} {s:B}:next l i 3 s=true↔M l i ⟨3,0,s,(I7 l i).n⟩:=by
 rw[a6f];unfold next a3k C0;generalize I7 l i=x;cases x;simp;constructor
 ·rintro ⟨⟨a,b⟩,c⟩;exact⟨a,b,c⟩
 ·rintro ⟨a,b,c⟩;exact⟨⟨a,b⟩,c⟩
theorem a2F {l:List Tok} {i:Nat} {kd:Int} {s:B} {y:Tok} (m:M l i y) (h:y.kind≠kd\/y.text≠s):next l i kd s=false:=by
 cases hn:next l i kd s with
 | false=>rfl
 | true=>
  exfalso;obtain⟨_,e⟩:=a6f.1 m;subst e;unfold next a3k at hn;simp at hn;rcases h with h | h
  ·exact h hn.1.1.2
  ·exact h hn.1.2
theorem a8P (l:List Tok) (i:Nat):named l i=if next l i 2 c3R then some 1 else if next l i 2 b6a then some 2 else if next l i 2 b5W then some 3 else none:=rfl
theorem is_three {k:Int} (h:is k=true):k=1\/k=2\/k=3:=by
 rw[c7A] at h;unfold prim at h;simp at h;omega
theorem a8u {l:List Tok} {i:Nat} {k:Int} (h:named l i=some k):is k=true/\M l i (a1j (wordS k).1):=by
 rw[a8P] at h;split at h
 ·cases h;rename_i hn;exact⟨by decide,(M7 (by decide)).1 hn⟩
 ·split at h
  ·cases h;rename_i hn;exact⟨by decide,(M7 (by decide)).1 hn⟩
  ·split at h
   ·cases h;rename_i hn;exact⟨by decide,(M7 (by decide)).1 hn⟩
   ·cases h
theorem b3B {l:List Tok} {i:Nat} {k:Int} (h:is k=true) (m:M l i (a1j (wordS k).1)):named l i=some k:=by
 rw[a8P];rcases is_three h with rfl | rfl | rfl
 ·have m':M l i (a1j c3R):=m
  rw[if_pos ((M7 (by decide)).2 m')]
 ·have m':M l i (a1j b6a):=m
  rw[if_neg (by rw[a2F m' (.inr (by decide))];decide),if_pos ((M7 (by decide)).2 m')]
 ·have m':M l i (a1j b5W):=m
  rw[if_neg (by rw[a2F m' (.inr (by decide))];decide),if_neg (by rw[a2F m' (.inr (by decide))];decide),if_pos ((M7 (by decide)).2 m')]
theorem a8c {l:List Tok} {i:Nat} {y:Tok} (m:M l i y) (h:y.kind≠2\/(y.text≠c3R/\y.text≠b6a/\y.text≠b5W)):named l i=none:=by
 rw[a8P];rw[if_neg (by rw[a2F m (h.imp_right fun h=>h.1)];decide),if_neg (by rw[a2F m (h.imp_right fun h=>h.2.1)];decide),if_neg (by rw[a2F m (h.imp_right fun h=>h.2.2)];decide)]
inductive Shape (t:Ty):Prop where
 | plain (k d:Int) (hk:is k=true) (e:t=⟨k,d,0,[]⟩)
 | timer (e:t=⟨5,0,0,[]⟩)
 | item (k d:Int) (hk:is k=true) (e:t=⟨4,d,k,[]⟩)
 | proto (s:B) (d:Int) (hs:name s=true) (e:t=⟨4,d,0,s⟩)
theorem may_shape {t:Ty} (h:may t=true):Shape t:=by
 obtain⟨k,d,i,s⟩:=t;by_cases hk:is k=true
 ·unfold may at h
  split at h
  ·cases h
  ·simp only[Bool.and_eq_true,beq_iff_eq] at h
   obtain⟨rfl,rfl⟩:=h;exact .plain k d hk rfl
 ·by_cases h4:k=4
  ·subst h4
   rcases a8x h (by simp) with ⟨h0,hn⟩ | ⟨hi,h0⟩
   ·simp only at h0 hn;subst h0;exact .proto s d hn rfl
   ·simp only at h0 hi;subst h0;exact .item i d hi rfl
  ·unfold may at h
   split at h
   ·cases h
   ·rw[if_pos (by simpa using h4),eqT_iff] at h
    exact .timer h
theorem b5H (k d:Int) (hk:is k=true):toks ⟨k,d,0,[]⟩=dimT ⟨k,d,0,[]⟩++[a1j (wordS k).1]:=by
 unfold toks;rw[List.append_assoc];rcases is_three hk with rfl | rfl | rfl <;> rfl
theorem b4A (k d:Int) (hk:is k=true):toks ⟨4,d,k,[]⟩=dimT ⟨4,d,k,[]⟩++[a1j a2v,a1j cOF,a1j (wordS k).1]:=by
 unfold toks;rw[List.append_assoc];rcases is_three hk with rfl | rfl | rfl <;> rfl
theorem c2F {s:B} (h:name s=true):s≠[]:=by rintro rfl;cases h
theorem b5C (s:B) (d:Int) (hs:name s=true):toks ⟨4,d,0,s⟩=dimT ⟨4,d,0,s⟩++[a1j a2v,a1j cOF,⟨1,0,s,0⟩]:=by
 unfold toks;rw[List.append_assoc];unfold lastT;have:(s==[])=false:=by simpa using c2F hs
 simp only[this];rfl
theorem c0W {t:Ty} (h:may t=true):∃ s w,toks t=dimT t++a1j s::w:=by
 cases may_shape h with
 | plain k d hk e=>subst e;exact⟨_,_,b5H k d hk⟩
 | timer e=>subst e;exact⟨_,_,rfl⟩
 | item k d hk e=>subst e;exact⟨_,_,b4A k d hk⟩
 | proto s d hs e=>subst e;exact⟨_,_,b5C s d hs⟩
theorem c6i {t:Ty} (l:List Tok) (h:may t=true) (hb:a2s l 0 (toks t)):pre l=(true,t.dim,(dimT t).length):=by
 have hd:=may_dim h;obtain⟨s,w,e⟩:=c0W h;rw[e,X1] at hb;by_cases h0:t.dim=0
 ·have ed:dimT t=[]:=by unfold dimT;rw[h0];rfl
  rw[ed] at hb ⊢;rw[c03 (a2F hb.2.1 (.inl (show(2:Int)≠5 by decide))),h0];rfl
 ·have ed:dimT t=[C1 lb,⟨3,0,[],t.dim⟩,C1 rb]:=by unfold dimT;rw[if_pos (by simp;omega)]
  rw[ed] at hb ⊢;obtain⟨⟨m0,m1,m2,_⟩,_⟩:=hb;have en:(I7 l 1).n=t.dim:=by
   obtain⟨_,e1⟩:=a6f.1 m1;exact congrArg Tok.n e1
  rw[b5G ((M7 (by decide)).2 m0) (c01.2 (by rw[en];exact m1)),en,(M7 (by decide)).2 m2];have:decide (t.dim > 0)=true:=by simp;omega
  rw[this];rfl
theorem b0d {l:List Tok} {d:Int} {n:Nat} {k:Int} (hP:pre l=(true,d,n)) (hn:named l n=some k):mid l=(true,⟨k,d,0,[]⟩,n+1):=by
 unfold mid;rw[hP];simp only[hn]
theorem a9A {l:List Tok} {d:Int} {n:Nat} (hP:pre l=(true,d,n)) (m0:M l n (a1j a2v)) (m1:M l (n+1) (a1j cOF)):mid l=(match named l (n+2) with
 | some k=>(true,⟨4,d,k,[]⟩,n+3)
 | none=>if decide ((n+2:Nat) < (l.length:Int))&&next l (n+2) 1 (I7 l (n+2)).text then (true,⟨4,d,0,(I7 l (n+2)).text⟩,n+3) else (true,⟨4,d,0,[]⟩,n+2)):=by
 unfold mid;rw[hP];simp only[a8c m0 (.inr (by decide)),(M7 (show(2:Int)≠3 by decide)).2 m0,(M7 (show(2:Int)≠3 by decide)).2 m1,if_true];cases named l (n+2) <;> rfl
theorem a8W {t:Ty} {l:List Tok} (h:may t=true) (hb:a2s l 0 (toks t)):front l=(t,(toks t).length,0):=by
 have hP:=c6i l h hb;have hM:mid l=(true,t,(toks t).length):=by
  cases may_shape h with
  | plain k d hk e=>
   subst e;rw[b5H k d hk] at hb ⊢;rw[X1,Nat.zero_add] at hb;rw[b0d hP (b3B hk hb.2.1),List.length_append];rfl
  | timer e=>
   subst e;have m:M l 0 (a1j a3O):=hb.1;exact b1S hP (a8c m (.inr (by decide))) (a2F m (.inr (by decide))) ((M7 (by decide)).2 m)
  | item k d hk e=>
   subst e;rw[b4A k d hk] at hb ⊢;rw[X1,Nat.zero_add] at hb;obtain⟨_,m0,m1,m2,_⟩:=hb;rw[a9A hP m0 m1,b3B hk m2,List.length_append];rfl
  | proto s d hs e=>
   subst e;rw[b5C s d hs] at hb ⊢;rw[X1,Nat.zero_add] at hb;obtain⟨_,m0,m1,m2,_⟩:=hb;have m2':M l ((dimT ⟨4,d,0,s⟩).length+2) ⟨1,0,s,0⟩:=m2;have et:(I7 l ((dimT ⟨4,d,0,s⟩).length+2)).text=s:=congrArg Tok.text (a6f.1 m2').2;have hlt:=m2'.lt;rw[a9A hP m0 m1,a8c m2' (.inl (show(1:Int)≠2 by decide)),et];have c:(decide ((((dimT ⟨4,d,0,s⟩).length+2:Nat):Int) < (l.length:Int))&&next l ((dimT ⟨4,d,0,s⟩).length+2) 1 s)=true:=by
    rw[(M7 (by decide)).2 m2',Bool.and_true];exact decide_eq_true (by omega)
   simp only[c,if_true,List.length_append];rfl
 exact b0g hM (by rw[h];rfl)
theorem b0Y {l:List Tok} {d:Int} {n:Nat} (h:pre l=(true,d,n)) (t:Ty) (e:t.dim=d):n=(dimT t).length/\a2s l 0 (dimT t):=by
 by_cases h0:next l 0 5 lb=true
 ·by_cases h1:next l 1 3 []=true
  ·rw[b5G h0 h1] at h
   simp only[Prod.mk.injEq] at h;obtain⟨hc,hd,hn⟩:=h;rw[hc] at hn;simp only[Bool.and_eq_true,decide_eq_true_eq] at hc;have ed:dimT t=[C1 lb,⟨3,0,[],t.dim⟩,C1 rb]:=by unfold dimT;rw[if_pos (by simp;omega)]
   rw[ed];refine⟨hn.symm,(M7 (by decide)).1 h0,?_,(M7 (by decide)).1 hc.2,trivial⟩;rw[e,<- hd];exact c01.1 h1
  ·rw[c05 h0 (by simpa using h1)] at h
   cases h
 ·rw[c03 (by simpa using h0)] at h
  cases h;have ed:dimT t=[]:=by unfold dimT;rw[e];rfl
  rw[ed];exact⟨rfl,trivial⟩
theorem c5W {l:List Tok} {t:Ty} {n:Nat} (h:mid l=(true,t,n)) (hm:may t=true):a2s l 0 (toks t):=by
 obtain⟨⟨b,d,n0⟩,hP⟩:∃ p,pre l=p:=⟨_,rfl⟩;cases b with
 | false=>unfold mid at h;rw[hP] at h;cases h
 | true=>
  cases hn:named l n0 with
  | some k=>
   rw[b0d hP hn] at h;cases h;obtain⟨hk,m⟩:=a8u hn;obtain⟨e,hb⟩:=b0Y hP ⟨k,d,0,[]⟩ rfl;rw[b5H k d hk,X1];subst e;exact⟨hb,by rw[Nat.zero_add];exact m,trivial⟩
  | none=>
   cases hc:next l n0 2 a2v with
   | true=>
    have m0:M l n0 (a1j a2v):=(M7 (by decide)).1 hc;cases ho:next l (n0+1) 2 cOF with
    | false=>
     unfold mid at h;rw[hP] at h;simp only[hn,hc,ho,if_true,Bool.false_eq_true,if_false] at h;cases h
    | true=>
     have m1:M l (n0+1) (a1j cOF):=(M7 (by decide)).1 ho;rw[a9A hP m0 m1] at h;cases hk:named l (n0+2) with
     | some k=>
      rw[hk] at h;cases h;obtain⟨hk,m2⟩:=a8u hk;obtain⟨e,hb⟩:=b0Y hP ⟨4,d,k,[]⟩ rfl;rw[b4A k d hk,X1];subst e;rw[Nat.zero_add];exact⟨hb,m0,m1,m2,trivial⟩
     | none=>
      rw[hk] at h;simp only at h;split at h
      ·rename_i hx
       simp only[Bool.and_eq_true] at hx;have m2:=(M7 (show(1:Int)≠3 by decide)).1 hx.2;cases h;have hs:name (I7 l (n0+2)).text=true:=by
        rcases a8x hm rfl with ⟨_,hs⟩ | ⟨hi,_⟩
        ·exact hs
        ·cases hi
       obtain⟨e,hb⟩:=b0Y hP ⟨4,d,0,(I7 l (n0+2)).text⟩ rfl;rw[b5C _ d hs,X1];rw[<- e,Nat.zero_add];exact⟨hb,m0,m1,m2,trivial⟩
      ·cases h
       rcases a8x hm rfl with ⟨_,hs⟩ | ⟨hi,_⟩
       ·cases hs
       ·cases hi
   | false=>
    cases ht:next l n0 2 a3O with
    | true=>
     rw[b1S hP hn hc ht] at h;cases h;have e5:(⟨5,d,0,[]⟩:Ty)=timer:=by
      cases may_shape hm with
      | plain k d hk e=>cases e;cases hk
      | timer e=>exact e
      | item k d hk e=>cases e
      | proto s d hs e=>cases e
     rw[e5];cases e5;obtain⟨e,_⟩:=b0Y hP timer rfl;subst e;exact⟨(M7 (by decide)).1 ht,trivial⟩
    | false=>
     rw[b6Q hP hn hc ht] at h;cases h;cases may_shape hm with
     | plain k d hk e=>cases e;cases hk
     | timer e=>cases e
     | item k d hk e=>cases e
     | proto s d hs e=>cases e
theorem front_to (l:List Tok):front l=(zeroT,0,90)\/∃ t,may t=true/\a2s l 0 (toks t)/\front l=(t,(toks t).length,0):=by
 obtain⟨⟨ok,t,n⟩,hM⟩:∃ p,mid l=p:=⟨_,rfl⟩;by_cases hc:(!ok||!may t)=true
 ·exact .inl (b2x hM hc)
 ·simp at hc
  obtain⟨rfl,hm⟩:=hc;have hb:=c5W hM hm;exact .inr ⟨t,hm,hb,a8W hm hb⟩
end
end Go.Ty
namespace Go.Sx
section
open Go.Eng Go.Pc Go
open Go.Xp hiding B
open Go.Ty (Ty Vr Tok)
def stL (s:Sli Ex):Sli Ex:=sl (s.l.map C0)
def stR (r:Rp):Rp:=⟨r.name,C0 r.base,C0 r.count⟩
def Z2 (x:Vr):Vr:=vrM x.tag x.items
mutual
def stP:Pr->Pr
 | .mk k n ch tg ex rep _ _ gl _ _ ll pn sp=>.mk k n (C0 ch) (stL tg) (stL ex) (stR rep) none 0 (c2z gl) none 0 (b6Z ll) (sl pn.l) (stS sp)
def b6Z:List Pr->List Pr
 | []=>[]
 | x::r=>stP x::b6Z r
def stG:Gu->Gu
 | .mk k n cond ch tg vl time _ _ bl=>.mk k n (C0 cond) (C0 ch) (stL tg) (stL vl) (C0 time) none 0 (b6Z bl)
def c2z:List Gu->List Gu
 | []=>[]
 | x::r=>stG x::c2z r
def stS:Sp->Sp
 | .mk k ty names e cs vs fs _ _ bl=>.mk k ty (sl names.l) (C0 e) cs (sl (vs.l.map Z2)) (sl fs.l) none 0 (b6Z bl)
end
theorem a4m:∀ l:List Pr,b6Z l=l.map stP
 | []=>rfl
 | x::r=>by rw[b6Z,a4m r];rfl
theorem a9l:∀ l:List Gu,c2z l=l.map stG
 | []=>rfl
 | x::r=>by rw[c2z,a9l r];rfl
theorem a00 (e:Ex):P3 (C0 e)=P3 e:=by unfold P3;rw[S1];cases e;rfl
theorem b8Q {k:Int} {s:B} {ts:List Tok} (h:isM k s ts=true):∃ t r,ts=t::r/\t.kind=k/\t.text=s:=by
 cases ts with
 | nil=>cases h
 | cons t r=>
  have h':((t.kind==k)&&(t.text==s))=true:=h;simp only[Bool.and_eq_true,beq_iff_eq] at h';exact⟨t,r,rfl,h'.1,h'.2⟩
theorem c4g {k:Int} {s:B} {ts:List Tok} (h:isM k s ts=true):0 < ts.length:=by
 obtain⟨t,r,rfl,_⟩:=b8Q h;exact Nat.succ_pos _
theorem b3e (ts:List Tok):V6 ts=if (ts.getD 0 Go.Ty.zeroK).kind=1 then .ok ((ts.getD 0 Go.Ty.zeroK).text,ts.tail) else .error 110:=by
 cases ts with
 | nil=>rfl
 | cons t r=>rfl
theorem b4c (ts:List Tok):M2 ts=if a5k ts=0 then .ok (a9a ts,ts.drop (a0u ts)) else .error 110:=by
 unfold M2 a5k a9a a0u;cases hf:N7 ts with
 | ok x=>obtain⟨x,k⟩:=x;rfl
 | error e=>
  rcases b3P hf with rfl | rfl <;> rfl
theorem a7r (ts:List Tok):K3 ts=if (ts.getD 0 Go.Ty.zeroK).kind=1 then O4 (M2 ts) fun x r=>if P3 x then .ok (x,r) else .error 110 else .error 110:=by
 cases ts <;> rfl
open Go.Ty in
theorem b3h (l:List Tok):∀ (w:List Tok) (i:Nat),a2s l i w->i<=l.length->i+w.length<=l.length
 | [],i,_,hi=>hi
 | y::w,i,h,_=>by
  obtain⟨h1,h2⟩:=(X1 l [y] w i).1 h;have h3:=b3h l w (i+1) h2 (by
   have:=M.lt h1.1;omega)
  simp only[List.length_cons];omega
theorem c5G (ts:List Tok):(Go.Ty.front ts).2.1<=ts.length:=by
 rcases Go.Ty.front_to ts with h | ⟨t,hm,hb,h⟩
 ·rw[h];exact Nat.zero_le _
 ·rw[h]
  have:=b3h ts _ 0 hb (Nat.zero_le _);simpa using this
theorem b5O {t:Ty} (h:Go.Ty.may t=true):TyW t:=by
 have hd:=Go.Ty.may_dim h;cases Go.Ty.may_shape h with
 | plain k d hk e=>
  subst e;have:=Go.Ty.is_three hk;exact⟨by simp only;omega,by simp only;omega,by simp only at hd ⊢;omega,Nat.zero_le _⟩
 | timer e=>
  subst e;exact⟨by decide,by decide,by decide,Nat.zero_le _⟩
 | item k d hk e=>
  subst e;have:=Go.Ty.is_three hk;exact⟨by simp only;omega,by simp only;omega,by simp only at hd ⊢;omega,Nat.zero_le _⟩
 | proto s d hs e=>
  subst e;refine⟨by simp only;omega,by simp only;omega,by simp only at hd ⊢;omega,?_⟩;unfold Go.Lx.name at hs;simp only[Bool.and_eq_true,decide_eq_true_eq] at hs;have:=hs.1.1.1.2;show s.length<=Big;unfold Big;omega
theorem c7n (ts:List Tok):TyW (Go.Ty.front ts).1:=by
 rcases Go.Ty.front_to ts with h | ⟨t,hm,hb,h⟩
 ·rw[h];exact⟨by decide,by decide,by decide,Nat.zero_le _⟩
 ·rw[h];exact b5O hm
end
end Go.Sx
namespace Go.Eng
section
open Go Go.RowKit
def b1q (P:Program) (l:Nat) (v v2:Value) (w:World) (R:Bool->World->Prop):Prop:=
 ∃ fn tmps assign body,(Instr.yield l #[v,v2]).run P w=.ok (.round l fn tmps assign body) w /\
  RoundIn (fen none) 0 P l fn tmps assign body w fun e w'=>∃ b,e=.returned (.bool b)/\R b w'
section
variable {P:Program} {ops:Array Oper} {Q:Exit->Act->World->Prop} {n:Cx} {F:Fm} {h h':List Res} {m:View} {rest:List Oper}
variable {op:Op} {ty:TypeId} {pos:String} {after:Array Edge} {d:Nat} {v v2:Value}
theorem b1q.mono {l:Nat} {w:World} {R R':Bool->World->Prop} (h:b1q P l v v2 w R) (hr:∀ b w',R b w'->R' b w'):b1q P l v v2 w R':=by
 obtain⟨fn,tmps,assign,body,h1,h2⟩:=h;exact⟨fn,tmps,assign,body,h1,h2.mono fun e w' ⟨b,e1,e2⟩=>⟨b,e1,hr b w' e2⟩⟩
end
end
section
open Go Go.RowKit
section
variable {P:Program} {m m':View} {h h':List Res} {w w':World}
end
section
variable {P:Program} {ops:Array Oper} {Q:Exit->Act->World->Prop} {n:Cx} {F:Fm} {h h':List Res} {m:View} {rest:List Oper}
variable {ty:TypeId} {pos:String} {after:Array Edge} {dst:Option Tmp} {g:Option (Nat × Bool)} {d:Nat}
theorem c6B (a:Option Addr) (cap sz:Nat) (h:a=none\/∃ b off,a=some ⟨b,off,none⟩):sl1 a 0 cap sz=a:=by
 unfold sl1;split
 ·rfl
 ·rcases h with rfl | ⟨b,off,rfl⟩
  ·rfl
  ·simp[Addr.add_lit]
theorem CT.know {f:FuncId} {args:List Value} {R:Value->View->List Res->Prop} {A:Prop} (he:∀ as w,(callFunc f as).run P w=.ok (.enter f as) w) (ha:∀ w,St m h w->A) (k:A->CT P f args h m R):CT P f args h m R:=
 ⟨he,fun w hs=>(k (ha w hs)).calls w hs⟩
theorem CT.knowRow {f:FuncId} {args:List Value} {R:Value->View->List Res->Prop} {a:Option Addr} {k cap sz:Nat} {e:TypeId} {ys:List Value} (he:∀ as w,(callFunc f as).run P w=.ok (.enter f as) w) (hm:Res.row (.slice a k cap) e sz k ys ∈ h)
 (kk:k<=cap->cap<=9223372036854775807->ys.length=k * sz->CT P f args h m R):CT P f args h m R:=
 CT.know he (fun _ st=>a6I (st.ok _ hm)) fun ⟨h1,h2,h3⟩=>kk h1 h2 h3
end
end
section
open Go Go.RowKit
theorem b0F (a b:ByteArray):(a==b)=(a.data==b.data):=rfl
theorem c3J {n k:List UInt8} (h:¬ n=k):((⟨n.toArray⟩:ByteArray)==⟨k.toArray⟩)=false:=by
 rw[b0F];exact beq_eq_false_iff_ne.2 fun e=>h (by simpa using e)
theorem b1o (n:List UInt8):((⟨n.toArray⟩:ByteArray)==⟨n.toArray⟩)=true:=by
 rw[b0F];exact beq_self_eq_true _
structure MapS (es:Array MapEntry) (ks:List (List UInt8)):Prop where
 a:∀ e ∈ es.toList,∃ n,e.key=str n/\e.val=.bool true/\n ∈ ks
 b:∀ n ∈ ks,∃ e ∈ es.toList,e.key=str n
theorem MapS.nil:MapS #[] []:=⟨fun e h=>by simp at h,fun n h=>by cases h⟩
section
variable {P:Program} {ops:Array Oper} {Q:Exit->Act->World->Prop} {n:Cx} {F:Fm} {h h':List Res} {m:View} {rest:List Oper}
variable {ty:TypeId} {pos:String} {after:Array Edge} {dst:Option Tmp} {g:Option (Nat × Bool)} {d:Nat}
end
section
variable {P:Program} {ops:Array Oper} {Q:Exit->Act->World->Prop} {n:Cx} {F:Fm} {m:View} {eff:List Nat} {t:Tl} {hs hp:List Res}
variable {ty:TypeId} {pos:String} {after:Array Edge} {d:Nat}
abbrev b33 (e:TypeId) (sz:Nat):Res:=.row (.slice none 0 0) e sz 0 []
theorem St.insNil (e:TypeId) (sz:Nat) {fr l1 l2 hs:List Res} {w:World} (s:St m (fr++((l1++l2)++hs)) w):St m (fr++((l1++b33 e sz::l2)++hs)) w:=by
 refine(s.addNil e sz).perm ?_;have h1:(fr++((l1++b33 e sz::l2)++hs)).Perm (b33 e sz::(fr++((l1++l2)++hs))):=by
  refine(List.Perm.append_left fr ((List.perm_middle (l₁:=l1) (l₂:=l2)).append_right hs)).trans ?_;exact List.perm_middle
 exact h1.symm
theorem a6x (e:TypeId) (sz:Nat) {l1 l2:List Res}:∀ (r:List Fl) {F:Fm} {fr:List Res},a1K P ops Q n t r F (fr++((l1++b33 e sz::l2)++hs)) m->a1K P ops Q n t r F (fr++((l1++l2)++hs)) m
 | [],_,_,h=>WL.mk fun a w ha st=>h.e a w ha (st.insNil e sz)
 | (_,_,_)::r,_,fr,h=>fun b=>a6x e sz r (fr:=_::fr) (h b)
theorem a3T.imp {r:Result Next} {R R':Value->World->Prop} {X:List PanicEntry->World->Prop} (h:a3T P r R X) (k:∀ v w,R v w->R' v w):a3T P r R' X:=by
 cases r with
 | ok x w=>
  cases x with
  | value v=>exact k _ _ h
  | skip=>exact k _ _ h
  | enter f args=>
   refine Calls.mono h fun e w' q=>?_
   rcases q with ⟨v,rfl,hv⟩ | q
   ·exact .inl ⟨v,rfl,k v w' hv⟩
   ·exact .inr q
  | _=>exact h
 | halt _ _=>exact h
theorem SRr.insNil (e:TypeId) (sz:Nat) {l1 l2:List Res}:∀ (T:Tr) {F:Fm},SRr P ops Q n eff t hs T F (l1++b33 e sz::l2) m->SRr P ops Q n eff t hs T F (l1++l2) m
 | .nil,_,h=>a6x e sz t.fl (fr:=[]) h
 | .alt a b,_,h=>⟨SRr.insNil e sz a h.1,SRr.insNil e sz b h.2⟩
 | .op i s,_,h=>by
  obtain⟨o,ho,hd,h⟩:=h;refine⟨o,ho,hd,?_⟩;have hsub:(l1++l2).Sublist (l1++b33 e sz::l2):=(List.sublist_cons_self _ _).append_left l1;cases he:eff.contains i with
  | false=>
   rw[he] at h;obtain⟨v,pg,hk⟩:=h;exact⟨v,pg,SRr.insNil e sz s hk⟩
  | true=>
   rw[he] at h;dsimp only at h ⊢;cases hr:a5y o with
   | true=>
    rw[hr] at h;obtain⟨v,pg,hk⟩:=h;exact⟨v,⟨fun a w ha st=>pg.e a w ha (St.insNil e sz (fr:=[]) st)⟩,SRr.insNil e sz s hk⟩
   | false=>
    rw[hr] at h;dsimp only at h ⊢;have sat:∀ {G:Fm} {l:List Res},Sat n hs G (l++l2) m->Sat n hs G (l++b33 e sz::l2) m:=fun ⟨fr,a,w,ha,st⟩=>⟨fr,a,w,ha,st.insNil e sz⟩
    cases hmk:a3l o&&eff.contains 4096 with
    | true=>
     rw[hmk] at h;exact⟨fun s a ha=>h.ex (sat s) a ha,fun a ha k cs el hout b s'=>SRr.insNil e sz (l1:=_::l1) s (h.k a ha k cs el hout b (sat (l:=_::l1) s'))⟩
    | false=>
    rw[hmk] at h;dsimp only at h ⊢;refine⟨fun fr a w ha st=>?_⟩;obtain⟨h1,h2⟩:=h.e fr a w ha (St.insNil e sz st);refine⟨fun hw=>(h1 hw).imp fun v w' q=>?_,fun hw=>?_⟩
    ·obtain⟨m',hp',q1,q2,q3,q4⟩:=q
     exact⟨m',hp',q1,q2,fun ha=>hsub.trans (q3 ha),q4⟩
    ·exact⟨fun _=>List.Sublist.refl _,SRr.insNil e sz s (h2 hw).2⟩
theorem a0t {q:Nat} {s:Tr} {tt e k:Nat} {sz by_:Nat} {ps:List (Nat × Operand)} {vs:List (Nat × Value)} {z:Value} {zs cs:List Value} {gd:Nat × Bool} {c:Bool}
 (ho:ops[q]?=some ⟨some d,.buildSlice tt k ps.toArray,ty,pos,after,some gd⟩) (he:eff.contains q=true) (hg:GU ops n F gd c) (E:EL P tt e sz by_) (hz:(P.info? e).bind (·.zero)=some z) (ev:c=true->EvP n F ps vs)
 (hzs:a7g z k=some zs) (hf:a3B (fun i=>some (i * sz,sz)) zs vs=some cs) (hk:k * sz<=16777216) (h0:Nat.beq (k * sz) 0=false) (hd:d < n.num)
 (kk:∀ b r,(c=true->r=.pt b (.cells cs.toArray e (0,0)))->SR P ops Q n eff t hs s ((d,gv c (.slice (some ⟨b,0,none⟩) k k))::F) (r::hp) m) :
 SR P ops Q n eff t hs (.op q s) F hp m:=⟨_,ho,fun y hy=>by cases hy;exact hd,by
 rw[he];simp only[a8U,a8D,Bool.false_and];refine⟨fun fr f w hf' st=>?_⟩;have hy:=hg.wanted (dst:=some d) (op:=.buildSlice tt k ps.toArray) (ty:=ty) (pos:=pos) (after:=after) hf';cases c with
 | true=>
  refine⟨fun _=>?_,fun h=>by rw[hy] at h;cases h⟩;have hrun:=W2 (P:=P) w (dst:=some d) (ty:=ty) (pos:=pos) (after:=after) (g:=some gd) E hz (ev rfl) hzs hf hk h0 hf';rw[hrun];exact⟨m,.pt w.heap.size (.cells cs.toArray e)::hp,Vl,(st.alloc _).perm List.perm_middle.symm,fun _=>List.sublist_cons_self _ _,(kk w.heap.size _ (fun _=>rfl)).e⟩
 | false=>
  refine⟨fun h=>(by rw[hy] at h;cases h),fun _=>⟨fun _=>List.Sublist.refl _,?_⟩⟩;exact SRr.insNil e sz (l1:=[]) s (kk 0 (b33 e sz) (fun h=>by cases h)).e⟩
end
section
variable {P:Program} {n:Cx} {F:Fm} {h:List Res} {m:View}
variable {ty:TypeId} {pos:String} {after:Array Edge} {dst:Option Tmp} {g:Option (Nat × Bool)}
def eqP (P:Program) (o:TypeId) (t:TypeId) (xs ys:List Value) (off:Nat):Option Bool:=match P.underlying t with
 | some (.struct gs)=>match Nat.beq t o with
  | true=>match (P.info? t).map (·.size) with
   | some k=>match seg xs off k with
    | some as=>match seg ys off k with
     | some bs=>b5w P as bs gs.toList
     | none=>none
    | none=>none
   | none=>none
  | false=>none
 | some d=>match M8 d with
  | true=>match xs[off]? with
   | some a=>match ys[off]? with
    | some b=>eqC d a b
    | none=>none
   | none=>none
  | false=>none
 | none=>none
def b5M (P:Program) (o:TypeId) (xs ys:List Value):List Field->Option Bool
 | []=>some true
 | f::fs=>match eqP P o f.type xs ys f.offset with
  | some r=>match b5M P o xs ys fs with
   | some q => match (f.name != "_") with
    | true=>some (r&&q)
    | false=>none
   | none=>none
  | none=>none
theorem b3j {xs as:List Value} {off k:Nat} (h:seg xs off k=some as):(xs.drop off).take k=as:=by
 obtain⟨h1,h2⟩:=a6i h;subst h1;refine List.ext_getElem? fun i=>?_
 rcases Nat.lt_or_ge i as.length with hi | hi
 ·have:=h2 i _ (List.getElem?_eq_getElem hi)
  rw[List.getElem?_take_of_lt hi,List.getElem?_drop,this,List.getElem?_eq_getElem hi]
 ·rw[List.getElem?_eq_none hi,List.getElem?_eq_none (by rw[List.length_take];omega)]
theorem c3i (w:World) (d:Nat) {o t:TypeId} (ho:P.stoodInHeld o=false) {xs ys:List Value} {off:Nat} {r:Bool} (he:eqP P o t xs ys off=some r):∃ a b,(part t xs.toArray off).run P w=.ok a w/\(part t ys.toArray off).run P w=.ok b w/\(Op.equalIn (d+2) t a b).run P w=.ok r w:=by
 unfold eqP at he;split at he
 ·rename_i gs ht
  split at he
  ·rename_i hto
   have hto:=Nat.eq_of_beq_eq_true hto;subst hto;have hs:=ho;split at he
   ·rename_i k hk
    split at he
    ·rename_i as ha
     split at he
     ·rename_i bs hb
      cases hi:P.info? t with
      | none=>rw[hi] at hk;cases hk
      | some i0=>
       have hsz:i0.size=k:=by rw[hi] at hk;simpa using hk
       have hf:P.fieldsOf t=gs:=by simp[Program.fieldsOf,ht]
       have hag:=a2H (P:=P) w ht rfl;refine⟨.agg as.toArray,.agg bs.toArray,?_,?_,?_⟩
       ·simp[part,hag,sizeOf,typeInfo,hi,hsz,b3j ha]
       ·simp[part,hag,sizeOf,typeInfo,hi,hsz,b3j hb]
       ·rw[run_equalIn_struct (P:=P) w (d+1) t as.toArray bs.toArray (by rw[hf];exact ht) hs,hf]
        exact a5N w d as bs he
     ·cases he
    ·cases he
   ·cases he
  ·cases he
 ·rename_i ds _ ht
  split at he
  ·rename_i hp
   split at he
   ·rename_i a ha
    split at he
    ·rename_i b hb
     refine⟨a,b,?_,?_,b6G w (d:=d+1) ht he⟩
     ·simp[part,L9 w ht hp,ha]
     ·simp[part,L9 w ht hp,hb]
    ·cases he
   ·cases he
  ·cases he
 ·cases he
theorem b0c (w:World) (d:Nat) {o:TypeId} (ho:P.stoodInHeld o=false) (xs ys:List Value):∀ {fs:List Field} {r:Bool},b5M P o xs ys fs=some r->(Op.eqFields (d+2) xs.toArray ys.toArray fs).run P w=.ok r w
 | [],r,he=>by cases he;simp[Op.eqFields]
 | f::fs,r,he=>by
  unfold b5M at he;split at he
  ·rename_i c hc
   split at he
   ·rename_i q hq
    split at he
    ·rename_i h7
     cases he;have h8 : f.name ≠ "_" := by simpa using h7
     have ih:=b0c w d ho xs ys hq;obtain⟨a,b,ea,eb,e5⟩:=c3i (P:=P) w d ho hc;simp only[Op.eqFields,if_pos h8,Sem.run_bind];rw[ea,Result.andThen_ok,eb,Result.andThen_ok,e5,Result.andThen_ok];cases c
     ·simp
     ·simpa using ih
    ·cases he
   ·cases he
  ·cases he
theorem b2p {o:TypeId} {x y:Operand} {t t':TypeId} {fs:Array Field} {as bs:List Value} {r:Bool} (ht:P.underlying t=some (.struct fs)) (hs:P.stoodInHeld t=false) (hm:P.eqGuardType P.depth t=false) (ex:Ev n F x (.agg as.toArray)) (ey:Ev n F y (.agg bs.toArray))
 (ho:P.stoodInHeld o=false) (hr:b5M P o as bs fs.toList=some r):PO P ⟨dst,.binOp .neq t x y t',ty,pos,after,g⟩ n F h m (.bool (!r)):=.mk fun a w ha _=>by
 have hf:P.fieldsOf t=fs:=by simp[Program.fieldsOf,ht]
 have e1:=run_equalIn_struct (P:=P) w 9999 t as.toArray bs.toArray (by rw[hf];exact ht) hs;rw[hf,b0c w 9997 ho as bs hr] at e1;simp[execOp,ex a ha,ey a ha,run_eqGuard_agg w _ t _ _ _ _ hm,run_neq_struct,e1]
end
end
end Go.Eng
namespace Go.Sx
section
open Go.Eng Go.Pc Go
open Go.Xp hiding B
open Go.Ty (Ty Vr Tok)
open Go.Ly (Rw I6)
open Go.Lx (lexO F4)
theorem a9n (s:B):(lexO s).1.length<=256/\∀ x ∈ (lexO s).1,F4 x=true/\(-2147483648<=x.n/\x.n<=2147483647):=by
 obtain⟨l,z,e,h⟩:∃ l z e,lexO s=(l,z,e):=⟨_,_,_,rfl⟩;rw[h];by_cases he:e=0
 ·subst he
  obtain⟨h1,h2,-⟩:=Go.Lx.lexO_ok h;have h3:=Go.Lx.lx_len s 0 l h2;exact⟨by show l.length<=256;omega,Go.Lx.lx_may s 0 l h2 (by omega)⟩
 ·have h1:=Go.Lx.lexO_no h he
  subst h1;exact⟨Nat.zero_le _,fun x hx=>(List.not_mem_nil hx).elim⟩
theorem c2Z (s:B):∀ t ∈ (lexO s).1,t.text.length<=140737488355328:=fun t ht=>by have:=Go.Lx.may_len ((a9n s).2 t ht).1;omega
structure Pz where
 bp:Nat
 ra:Option Addr
 rc:Nat
 R:List Rw
structure Pok (m:View) (z:Pz):Prop where
 rd:Rd m [] z.ra z.R.length z.rc 3 (fl I6 z.R)
 ok:z.R.length<=2048/\∀ x ∈ z.R,0<=x.depth/\x.depth<=32/\x.text.length<=256
 ne:∀ x ∈ z.R,(lexO x.text).2.2=0->(lexO x.text).1≠[]
theorem b0P (q:UInt8->Bool):∀ (l:B) {c:UInt8} {r:B},l.dropWhile q=c::r->q c=false
 | x::l,c,r,h=>by
  unfold List.dropWhile at h;split at h
  ·exact b0P q l h
  ·cases h;assumption
theorem c5M {s:B} (h:Go.Ly.validP s=true) (he:(lexO s).2.2=0):(lexO s).1≠[]:=by
 obtain⟨h1,-,h2,-⟩:=Go.Ly.validP_spec h;obtain⟨l,z,e,hl⟩:∃ l z e,lexO s=(l,z,e):=⟨_,_,_,rfl⟩;rw[hl] at he ⊢;obtain rfl:e=0:=he;obtain⟨-,h3,-⟩:=Go.Lx.lexO_ok hl;cases s with
 | nil=>exact absurd rfl h1
 | cons c r=>
  have hc:c≠32:=by
   have h4:=b0P (·==32) (Lib.trimRightB (c::r) 32) (c:=c) (r:=r) h2;simpa using h4
  rintro rfl;by_cases hn:(Go.Lx.tok (c::r)).2=0
  ·rw[Go.Lx.lx_bad hc hn] at h3;cases h3
  ·rw[Go.Lx.lx_tok hc hn] at h3
   cases hx:Go.Lx.lx ((c::r).drop (Go.Lx.tok (c::r)).2) (0+(Go.Lx.tok (c::r)).2) with
   | ok m=>rw[hx] at h3;cases h3
   | error e=>rw[hx] at h3;cases h3
theorem Pok.of {m:View} {z:Pz} (hr:Rd m [] z.ra z.R.length z.rc 3 (fl I6 z.R)) (h:Go.Ly.mayP z.R=true):Pok m z:=
 ⟨hr,Go.Ly.mayP_all h,fun x hx=>by
  unfold Go.Ly.mayP at h;split at h
  ·cases h
  ·exact c5M (Go.Ly.mayA_all h x hx).2.2⟩
theorem I5 {α β:Type} (x:α) (ts:List Tok) (i:Nat) (f:α->List Tok->PE β):G9 (.ok (x,ts)) i f=f x ts:=rfl
theorem P6 {α β:Type} (x:α) (i:Nat) (f:α->Nat->PE β):M4 (.ok (x,i)) f=f x i:=rfl
theorem N1 {β:Type} {ts:List Tok} {i:Nat} {f:Nat->PE β} (h:ts=[]):D8 ts i f=f (i+1):=by subst h;rfl
theorem N0 {β:Type} {ts:List Tok} {i:Nat} {f:Nat->PE β} (h:ts≠[]):D8 ts i f=.error (110,i):=by cases ts with | nil=>exact absurd rfl h | cons=>rfl
theorem a2h {β:Type} {k:Int} {s:B} {ts:List Tok} {i:Nat} {f:List Tok->PE β} (h:isM k s ts=true):P7 k s ts i f=f ts.tail:=by unfold P7;rw[h];rfl
theorem a2g {β:Type} {k:Int} {s:B} {ts:List Tok} {i:Nat} {f:List Tok->PE β} (h:isM k s ts=false):P7 k s ts i f=.error (110,i):=by unfold P7;rw[h];rfl
theorem a4h {β:Type} {R:List Rw} {d:Int} {i:Nat} {ts:List Tok} {f:List Tok->PE β} (h:S5 R d i=.ok ts):P8 R d i f=f ts:=by unfold P8;rw[h]
theorem I8 {β:Type} {R:List Rw} {d:Int} {i:Nat} {e:Int × Nat} {f:List Tok->PE β} (h:S5 R d i=.error e):P8 R d i f=.error e:=by unfold P8;rw[h]
theorem a1D {m:View} {z:Pz} {d:Int} {i:Nat} {ts:List Tok} (hz:Pok m z) (h:S5 z.R d i=.ok ts):(i < z.R.length/\0<=d/\d<=32)/\∃ x,z.R[i]?=some x/\x.depth=d/\ts=(lexO x.text).1:=by
 unfold S5 at h;cases hx:z.R[i]? with
 | none=>rw[hx] at h;cases h
 | some x=>
  rw[hx] at h;simp only at h;split at h
  ·cases h
  ·split at h
   ·cases h
   ·rename_i hd
    have hd:x.depth=d:=Decidable.byContradiction hd;cases h;have h1:=hz.ok.2 x (List.mem_of_getElem? hx);exact⟨⟨(List.getElem?_eq_some_iff.1 hx).1,by omega,by omega⟩,x,rfl,hd,rfl⟩
theorem c2J {m:View} {z:Pz} {d:Int} {i:Nat} {ts:List Tok} (hz:Pok m z) (h:S5 z.R d i=.ok ts):0 < ts.length:=by
 unfold S5 at h;cases hx:z.R[i]? with
 | none=>rw[hx] at h;cases h
 | some x=>
  rw[hx] at h;simp only at h;split at h
  ·cases h
  ·rename_i he
   split at h
   ·cases h
   ·cases h
    have h1:=hz.ne x (List.mem_of_getElem? hx) (Decidable.byContradiction he);exact List.length_pos_iff.2 h1
theorem a2Z {R:List Rw} {d:Int} {i:Nat} (h:R.length<=i):S5 R d i=.error (110,i):=by
 unfold S5;rw[List.getElem?_eq_none h]
theorem a7M {R:List Rw} {d:Int} {i:Nat} (h:N5 R d i=true):i < R.length:=by
 unfold N5 at h;cases hx:R[i]? with
 | none=>rw[hx] at h;cases h
 | some x=>exact(List.getElem?_eq_some_iff.1 hx).1
theorem b7E {R:List Rw} {rec:Int->Bool->Nat->PE Pr} {row:List Tok->E Gu} {least most:Nat} {d:Int} {k:Nat} {acc:List Gu} {i:Nat} (hk:R.length<=i+k) (hc:acc.length < least\/(acc.length < most/\N5 R d i=true)) :
 K5 R rec row least most d k acc i=P8 R d i fun ts=>G9 (row ts) i fun g r=>D8 r i fun i=>M4 (rec (d+1) false i) fun x i=>K5 R rec row least most d (k - 1) (acc++[b63 g x]) i:=by
 cases k with
 | zero=>
  have hl:acc.length < least:=hc.elim id fun h=>absurd (a7M h.2) (by omega)
  rw[I8 (a2Z (by omega))];unfold K5;rw[if_pos hl]
 | succ k=>
  conv=>lhs;unfold K5
  rw[if_pos hc];rfl
theorem b4a {R:List Rw} {rec:Int->Bool->Nat->PE Pr} {row:List Tok->E Gu} {least most:Nat} {d:Int} {k:Nat} {acc:List Gu} {i:Nat} (hc:¬ (acc.length < least\/(acc.length < most/\N5 R d i=true))) :
 K5 R rec row least most d k acc i=.ok (acc,i):=by
 cases k with
 | zero=>
  unfold K5;rw[if_neg fun h=>hc (.inl h)]
 | succ k=>
  unfold K5;rw[if_neg hc]
theorem b9B {R:List Rw} {rec:Int->Bool->Nat->PE Pr} {d:Int} {k:Nat} {acc:List Pr} {i:Nat} (hk:R.length<=i+k) (hc:N5 R d i=true) :
 Q0 R rec d k acc i=M4 (rec d false i) fun x i=>Q0 R rec d (k - 1) (acc++[x]) i:=by
 cases k with
 | zero=>exact absurd (a7M hc) (by omega)
 | succ k=>
  conv=>lhs;unfold Q0
  rw[if_pos hc];rfl
theorem b5u {R:List Rw} {rec:Int->Bool->Nat->PE Pr} {d:Int} {k:Nat} {acc:List Pr} {i:Nat} (hc:N5 R d i=false):Q0 R rec d k acc i=.ok (acc,i):=by
 cases k with
 | zero=>rfl
 | succ k=>unfold Q0;rw[if_neg (by rw[hc];decide)]
theorem b7f {R:List Rw} {rec:Int->Bool->Nat->PE Pr} {d:Int} {k:Nat} {ns:List Int} {acc:List Pr} {i:Nat} (hk:R.length<=i+k) (hc:acc.length=0\/(acc.length < 8/\N5 R (d+1) i=true)) :
 J9 R rec d k ns acc i=P8 R (d+1) i fun ts=>P7 2 [80,82,79,67,69,83,83,79,82] ts i fun r=>match a5W r with
  | some n=>M4 (rec (d+2) false (i+1)) fun x i=>J9 R rec d (k - 1) (ns++[n]) (acc++[x]) i
  | none=>.error (110,i):=by
 cases k with
 | zero=>
  have hl:acc.length=0:=hc.elim id fun h=>absurd (a7M h.2) (by omega)
  rw[I8 (a2Z (by omega))];unfold J9;rw[if_pos hl]
 | succ k=>
  conv=>lhs;unfold J9
  rw[if_pos hc];rfl
theorem b3Y {R:List Rw} {rec:Int->Bool->Nat->PE Pr} {d:Int} {k:Nat} {ns:List Int} {acc:List Pr} {i:Nat} (hc:¬ (acc.length=0\/(acc.length < 8/\N5 R (d+1) i=true))) :
 J9 R rec d k ns acc i=.ok ((ns,acc),i):=by
 cases k with
 | zero=>
  unfold J9;rw[if_neg fun h=>hc (.inl h)]
 | succ k=>
  unfold J9;rw[if_neg hc]
theorem c1p {R:List Rw} {d:Int} {k:Nat} {acc:List Vr} {i:Nat} (hk:R.length<=i+k) (hc:acc.length=0\/N5 R (d+2) i=true) :
 Q2 R d k acc i=P8 R (d+2) i fun ts=>G9 (a1d ts) i fun v r=>if Go.Ty.mayPr true (acc++[v]) then D8 r i fun i=>Q2 R d (k - 1) (acc++[v]) i else .error (110,i):=by
 cases k with
 | zero=>
  have hl:acc.length=0:=hc.elim id fun h=>absurd (a7M h) (by omega)
  rw[I8 (a2Z (by omega))];unfold Q2;rw[if_pos hl]
 | succ k=>
  conv=>lhs;unfold Q2
  rw[if_pos hc];rfl
theorem b4G {R:List Rw} {d:Int} {k:Nat} {acc:List Vr} {i:Nat} (hc:¬ (acc.length=0\/N5 R (d+2) i=true)):Q2 R d k acc i=.ok (acc,i):=by
 cases k with
 | zero=>
  unfold Q2;rw[if_neg fun h=>hc (.inl h)]
 | succ k=>
  unfold Q2;rw[if_neg hc]
theorem b8t {R:List Rw} {rec:Int->Bool->Nat->PE Pr} {d:Int} {top:Bool} {ts:List Tok} {i:Nat} {t:Tok} {f:Int->List Tok->Nat->PE Pr} (h0:ts[0]?=some t) (hw:S4 R rec t.text=some f) (hc:t.kind=2/\(top=true\/t.text≠[80,76,65,67,69,68])):a0o R rec d top ts i=f d ts.tail i:=by
 cases ts with
 | nil=>cases h0
 | cons u r=>
  cases h0;unfold a0o;simp only[hw];rw[if_pos hc];rfl
theorem b3f {R:List Rw} {rec:Int->Bool->Nat->PE Pr} {d:Int} {top:Bool} {ts:List Tok} {i:Nat} {t:Tok} (h0:ts[0]?=some t) (hc:S4 R rec t.text=none\/¬ (t.kind=2/\(top=true\/t.text≠[80,76,65,67,69,68]))):a0o R rec d top ts i=S8 R rec d ts i:=by
 cases ts with
 | nil=>cases h0
 | cons u r=>
  cases h0;unfold a0o;cases hw:S4 R rec t.text with
  | none=>simp only[hw]
  | some f=>
   simp only[hw];rcases hc with hc | hc
   ·rw[hc] at hw;cases hw
   ·rw[if_neg hc]
structure Gs (m:View) (h:List Res) (a:Option Addr) (c:Nat) (l:List Gu):Prop where
 rd:Rd m h a l.length c 23 (fl guE l)
 ok:∀ g ∈ l,GOk m h g
 sub:∀ g ∈ l,∀ x ∈ g.bl,POk m h x
structure Ls (m:View) (h:List Res) (a:Option Addr) (c:Nat) (l:List Pr):Prop where
 rd:Rd m h a l.length c 42 (fl prE l)
 ok:∀ x ∈ l,POk m h x
structure Ns (m:View) (h:List Res) (s:Sli Int):Prop where
 rd:Rd m h s.a s.l.length s.c 1 (fl a4r s.l)
 ok:∀ x ∈ s.l,-9223372036854775808<=x/\x<=9223372036854775807
structure Ss (m:View) (h:List Res) (s:Sp):Prop where
 ok:SOk m h s
 sub:∀ x ∈ s.bl,POk m h x
structure Rs (m:View) (h:List Res) (r:Rp):Prop where
 n:r.name.length<=Big
 b:EOk m h r.base
 c:EOk m h r.count
variable {m:View} {h h':List Res}
theorem Gs.mono {a:Option Addr} {c:Nat} {l:List Gu} (q:Gs m h a c l) (s:h.Sublist h'):Gs m h' a c l:=⟨q.rd.mono Vl s,fun g hg=>(q.ok g hg).mono s,fun g hg x hx=>(q.sub g hg x hx).mono s⟩
theorem Ls.mono {a:Option Addr} {c:Nat} {l:List Pr} (q:Ls m h a c l) (s:h.Sublist h'):Ls m h' a c l:=⟨q.rd.mono Vl s,fun g hg=>(q.ok g hg).mono s⟩
theorem Ns.mono {l:Sli Int} (q:Ns m h l) (s:h.Sublist h'):Ns m h' l:=⟨q.rd.mono Vl s,q.ok⟩
theorem Ss.mono {x:Sp} (q:Ss m h x) (s:h.Sublist h'):Ss m h' x:=⟨q.ok.mono s,fun y hy=>(q.sub y hy).mono s⟩
theorem Rs.mono {r:Rp} (q:Rs m h r) (s:h.Sublist h'):Rs m h' r:=⟨q.n,q.b.mono s,q.c.mono s⟩
theorem a0J (m:View) (h:List Res):Gs m h none 0 []:=⟨Rd.nilF guE 23 m h,fun _ hx=>(List.not_mem_nil hx).elim,fun _ hx=>(List.not_mem_nil hx).elim⟩
theorem a3o (m:View) (h:List Res):Ls m h none 0 []:=⟨Rd.nilF prE 42 m h,fun _ hx=>(List.not_mem_nil hx).elim⟩
theorem a05 (m:View) (h:List Res):Ns m h B9:=⟨Rd.nilF a4r 1 m h,fun _ hx=>(List.not_mem_nil hx).elim⟩
theorem F9 (m:View) (h:List Res):LOk m h B9:=⟨Rd.nilF exE 6 m h,fun _ hx=>(List.not_mem_nil hx).elim⟩
theorem b8I (m:View) (h:List Res):TOk m h A2:=.mk (Rd.nilF exE 6 m h) (fun _ hx=>by cases hx)
theorem a6M (m:View) (h:List Res):EOk m h A2:=⟨b8I m h,.mk (by decide) (by decide) (by decide) (by decide) (Nat.zero_le _) fun _ hx=>(List.not_mem_nil hx).elim⟩
theorem X4 (m:View) (h:List Res):Rs m h D1:=⟨Nat.zero_le _,a6M m h,a6M m h⟩
theorem a9k (m:View) (h:List Res):Go.Ty.PrOk m h none 0 0 []:=⟨Rd.nilF Go.Ty.encV 2 m h,fun _ hx=>(List.not_mem_nil hx).elim,fun _ hx=>(List.not_mem_nil hx).elim⟩
theorem T0 (m:View) (h:List Res):Ss m h D4:=
 ⟨⟨by decide,⟨by decide,by decide,by decide,Nat.zero_le _⟩,Rd.nilF Go.Lx.encB 1 m h,fun _ hx=>(List.not_mem_nil hx).elim,a6M m h,a9k m h,fun _ hx=>(List.not_mem_nil hx).elim,Rd.nilF foE 6 m h,fun _ hx=>(List.not_mem_nil hx).elim,Rd.nilF prE 42 m h⟩,fun _ hx=>(List.not_mem_nil hx).elim⟩
theorem a5e {k:Int} {nm:B} {ch:Ex} {tg ex:Sli Ex} {rep:Rp} {ga:Option Addr} {gc:Nat} {gl:List Gu} {la:Option Addr} {lc:Nat} {ll:List Pr} {pn:Sli Int} {sp:Sp} (hk:0<=k/\k<=255) (hn:nm.length<=Big) (hch:EOk m h ch) (ht:LOk m h tg) (he:LOk m h ex)
 (hr:Rs m h rep) (hg:Gs m h ga gc gl) (hl:Ls m h la lc ll) (hp:Ns m h pn) (hs:Ss m h sp):POk m h (.mk k nm ch tg ex rep ga gc gl la lc ll pn sp):=
 .mk ⟨hk,hn,hch,ht,he,hr.n,hr.b,hr.c,hg.rd,hg.ok,hl.rd,hp.rd,hp.ok,hs.ok⟩ fun x hx=>by
  cases hx with
  | l hx=>exact hl.ok x hx
  | s hx=>exact hs.sub x hx
  | g hq hx=>exact hg.sub _ hq x hx
end
section
open Go.Eng Go.Pc Go
open Go.Xp hiding B
open Go.Ty (Ty Vr Tok)
theorem c1m (e:Ex):C0 (C0 e)=C0 e:=by
 refine Ex.ind (p:=fun e=>C0 (C0 e)=C0 e) (fun e ih=>?_) e;rw[Y6 e,Y6];show Ex.mk _ _ _ _ _ _ _ ((e.l.map C0).map C0)=_;rw[List.map_map];congr 1
 exact List.map_congr_left fun x hx=>ih x hx
theorem a0O (x w:Ex):E8 (C0 x) w=E8 x w:=by rw[Bool.eq_iff_iff,a0L,a0L,c1m]
theorem c0B (x w:Ex):E8 x (C0 w)=E8 x w:=by rw[Bool.eq_iff_iff,a0L,a0L,c1m]
theorem a3h (e:Ex):a0b (C0 e)=a0b e:=a0O e A2
theorem b3O:∀ (l pre:List Vr),Go.Ty.mayIn (pre.map Z2) (l.map Z2)=Go.Ty.mayIn pre l
 | [],_=>rfl
 | v::r,pre=>by
  have h1:Go.Ty.badV (pre.map Z2) (Z2 v)=Go.Ty.badV pre v:=by
   unfold Go.Ty.badV Go.Ty.tagIn;rw[List.any_map];rfl
  have h2:=b3O r (pre++[v]);rw[List.map_append] at h2;show(if Go.Ty.badV (pre.map Z2) (Z2 v) then false else Go.Ty.mayIn (pre.map Z2++[Z2 v]) (r.map Z2))=if Go.Ty.badV pre v then false else Go.Ty.mayIn (pre++[v]) r
  rw[h1,<- h2];rfl
theorem a8Y (cs:Bool) (l:List Vr):Go.Ty.mayPr cs (l.map Z2)=Go.Ty.mayPr cs l:=by
 unfold Go.Ty.mayPr;rw[List.length_map];have h0:(Go.Ty.hdV (l.map Z2)).tag=(Go.Ty.hdV l).tag/\(Go.Ty.hdV (l.map Z2)).items=(Go.Ty.hdV l).items:=by cases l <;> exact⟨rfl,rfl⟩
 rw[h0.1,h0.2];have h1:=b3O l [];rw[List.map_nil] at h1;rw[h1]
theorem a3Z {α β:Type} (l:List α) (f:α->β) (a b:Int) (q:β->Bool) (r:α->Bool) (h:∀ x,q (f x)=r x):a1q (l.map f) a b q=a1q l a b r:=by
 unfold a1q;rw[List.length_map,List.any_map];congr 2
 congr 1
 funext x
 simp[h]
theorem b61 {α:Type} (q:α->α->Bool) (f:α->α) (h:∀ x y,q (f x) (f y)=q x y):∀ (l r:List α),eqL q (l.map f) (r.map f)=eqL q l r
 | [],[]=>rfl
 | [],_::_=>rfl
 | _::_,[]=>rfl
 | x::l,y::r=>by
  show(q (f x) (f y)&&eqL q (l.map f) (r.map f))=_;rw[h,b61 q f h l r];rfl
theorem U9 (s:Sp):stS s=spM s.k s.ty s.names.l (C0 s.e) s.cs (s.vs.l.map Z2) s.fs.l (s.bl.map stP):=by
 cases s;rw[stS,a4m];rfl
theorem b0M (a b:Sp):Z8 (stS a) (stS b)=Z8 a b:=by
 rw[U9,U9];unfold Z8;show((((((((a.k==b.k)&&Go.Ty.eqT a.ty b.ty)&&(a.names.l==b.names.l))&&E8 (C0 a.e) (C0 b.e))&&(a.cs==b.cs))&&eqL U8 (a.vs.l.map Z2) (b.vs.l.map Z2))&&eqL a1R a.fs.l b.fs.l)&&(((a.bl.map stP).length:Int)==(b.bl.map stP).length))=_;rw[a0O,c0B,b61 U8 Z2 (fun _ _=>rfl),List.length_map,List.length_map]
theorem c3E (s:Sp):a3C (stS s)=stS (a3C s):=by
 rw[U9 s];unfold a3C;show(if s.k=1 then _ else if s.k=2 then _ else if s.k=3 then _ else if s.k=4 then _ else _)=_;split
 ·rw[U9];rfl
 ·split
  ·rw[U9];rfl
  ·split
   ·rw[U9];rfl
   ·split
    ·rw[U9];rfl
    ·rw[U9];rfl
theorem c2E (s:Sp):a2M (stS s)=a2M s:=by
 rw[U9 s];unfold a2M;show(if s.k=1 then Go.Ty.may s.ty else if s.k=2 then a2k s.ty&&M6 (C0 s.e) else if s.k=3 then a2k s.ty&&P3 (C0 s.e) else if s.k=4 then Go.Ty.mayPr s.cs (s.vs.l.map Z2) else (((s.bl.map stP).length:Int)==1)&&a1q s.fs.l 0 8 foP)=_;rw[S1,a00,a8Y,List.length_map]
theorem c4l (s:Sp):spP (stS s)=spP s:=by
 have h1:(stS s).k=s.k:=by rw[U9];rfl
 have h2:(stS s).names.l=s.names.l:=by rw[U9];rfl
 unfold spP;rw[h1,h2,c2E,c3E,b0M]
end
end Go.Sx
namespace Go.Eng
section
open Go Go.RowKit
def a81 (es:Array MapEntry) (kv:List (List UInt8 × Value)):Prop:=es.toList.map (fun x=>(x.key,x.val))=kv.map fun p=>(str p.1,p.2)
theorem a81.nil:a81 #[] []:=rfl
def a1k (n:List UInt8):List (List UInt8 × Value)->Option Value
 | []=>none
 | (k,v)::r=>if n=k then some v else a1k n r
theorem b4j {n:List UInt8}:∀ (l:List MapEntry) (kv:List (List UInt8 × Value)) (i:Nat),l.map (fun x=>(x.key,x.val))=kv.map (fun p=>(str p.1,p.2)) ->
 (a1k n kv=none/\Instr.findNow .string (str n) l i=some none)\/∃ j v,a1k n kv=some v/\Instr.findNow .string (str n) l i=some (some (i+j,v))
 | [],[],_,_=>.inl ⟨rfl,rfl⟩
 | [],_::_,_,h=>by cases h
 | _::_,[],_,h=>by cases h
 | e::l,(k,v)::kv,i,h=>by
  simp only[List.map_cons,List.cons.injEq,Prod.mk.injEq] at h;obtain⟨⟨hk,hv⟩,h⟩:=h;by_cases hn:n=k
  ·subst hn
   refine .inr ⟨0,v,by simp[a1k],?_⟩;simp[Instr.findNow,hk,Instr.sameNow,b1o,hv]
  ·have hb:((⟨n.toArray⟩:ByteArray)==⟨k.toArray⟩)=false:=c3J hn
   have e1:Instr.findNow .string (str n) (e::l) i=Instr.findNow .string (str n) l (i+1):=by
    simp[Instr.findNow,hk,Instr.sameNow,hb]
   have e2:a1k n ((k,v)::kv)=a1k n kv:=by simp[a1k,hn]
   rw[e1,e2];rcases b4j l kv (i+1) h with h1 | ⟨j,v,h1,h2⟩
   ·exact .inl h1
   ·exact .inr ⟨j+1,v,h1,by rw[h2];congr 3;omega⟩
section
variable {P:Program} {ops:Array Oper} {Q:Exit->Act->World->Prop} {n:Cx} {F:Fm} {h h':List Res} {m:View} {rest:List Oper}
variable {ty:TypeId} {pos:String} {after:Array Edge} {dst:Option Tmp} {g:Option (Nat × Bool)} {d:Nat}
theorem b2u (w:World) {t kt et:TypeId} {b:Nat} {es:Array MapEntry} {clock:Nat} {kv:List (List UInt8 × Value)} {x:List UInt8} {v:Value} (ht:P.underlying t=some (.map kt et)) (hk:P.underlying kt=some (.string)) (hM:a81 es kv) (hx:a1k x kv=none)
 (hb:w.heap[b]?=some (.map es clock)):∃ es' clock',a81 es' (kv++[(x,v)])/\(Instr.mapUpdate t (.map (some b)) (str x) v).run P w=.ok () { w with heap:=w.heap.setIfInBounds b (.map es' clock') }:=by
 have hck:(Instr.checkKey false 10000 kt (str x)).run P w=.ok () w:=by
  unfold Instr.checkKey;simp[run_underlying hk]
 have hget:(getObj b).run P w=.ok (.map es clock) w:=by simp[getObj,Sem.run,hb]
 have hset:∀ o,(setObj b o).run P w=.ok () { w with heap:=w.heap.setIfInBounds b o }:=fun o=>by simp[setObj,Sem.run,hb]
 rcases b4j (n:=x) es.toList kv 0 hM with ⟨h1,h2⟩ | ⟨j,v,h1,h2⟩
 ·refine⟨es.push { key:=str x,val:=v,born:=clock },clock+1,?_,?_⟩
  ·unfold a81 at hM ⊢
   simp[hM]
  ·simp[Instr.mapUpdate,run_underlying ht,hget,hck,Instr.findKey,run_underlying hk,h2,hset]
 ·rw[hx] at h1;cases h1
theorem Q8 {op:Op} {x y z:Operand} {t kt et:TypeId} {b:Nat} {es:Array MapEntry} {clock:Nat} {kv:List (List UInt8 × Value)} {i:List UInt8} {v:Value} {hq:Array MapEntry->Nat->List Res} (hop:op=.mapUpdate t x y z\/op=.insert t x y z) (ht:P.underlying t=some (.map kt et)) (hk:P.underlying kt=some (.string)) (hM:a81 es kv) (hi:a1k i kv=none)
 (ex:Ev n F x (.map (some b))) (ey:Ev n F y (str i)) (ez:Ev n F z v) (u:∀ es' c',Upd h (.pt b (.map es clock)) (.pt b (.map es' c')) (hq es' c')) (k:∀ es' c',a81 es' (kv++[(i,v)])->WL P ops Q n rest F (hq es' c') m) :
 WL P ops Q n (⟨none,op,ty,pos,after,none⟩::rest) F h m:=.mk fun a w ha hs=>by
 obtain⟨es',c',h1,h2⟩:=b2u (P:=P) w (x:=i) (v:=v) ht hk hM hi (hs.ok _ (u es clock).mem);have hrun:(execOp a.eval ⟨none,op,ty,pos,after,none⟩).run P w=.ok .skip { w with heap:=w.heap.setIfInBounds b (.map es' c') }:=by
  rcases hop with rfl | rfl <;> simp[execOp,ex a ha,ey a ha,ez a ha,h2]
 exact E9 rfl (a5G hrun (k es' c' h1 _ _ ha (hs.setObj (u es' c'))))
theorem b5b {x y:Operand} {t kt et:TypeId} {b:Nat} {es:Array MapEntry} {clock:Nat} {kv:List (List UInt8 × Value)} {i:List UInt8} {z:Value} (ht:P.underlying t=some (.map kt et)) (hk:P.underlying kt=some (.string)) (hz:(P.info? et).bind (·.zero)=some z) (hM:a81 es kv)
 (ex:Ev n F x (.map (some b))) (ey:Ev n F y (str i)) (hm:Res.pt b (.map es clock) ∈ h):PO P ⟨dst,.lookup t x y true,ty,pos,after,g⟩ n F h m (.tuple #[(a1k i kv).getD z,.bool (a1k i kv).isSome]):=.mk fun a w ha hs=>by
 have hb:w.heap[b]?=some (.map es clock):=hs.ok _ hm;have hck:(Instr.checkKey es.isEmpty 10000 kt (str i)).run P w=.ok () w:=by
  unfold Instr.checkKey;simp[run_underlying hk]
 have hget:(getObj b).run P w=.ok (.map es clock) w:=by simp[getObj,Sem.run,hb]
 have hzr:(zeroValue et).run P w=.ok z w:=by
  cases hi:P.info? et with
  | none=>simp[hi] at hz
  | some j=>
   have:j.zero=some z:=by simpa [hi] using hz
   simp[zeroValue,typeInfo,hi,this]
 rcases b4j (n:=i) es.toList kv 0 hM with ⟨h1,h2⟩ | ⟨j,v,h1,h2⟩
 ·simp[execOp,ex a ha,ey a ha,Instr.lookup,run_underlying ht,hget,hck,Instr.findKey,run_underlying hk,h1,h2,hzr]
 ·simp[execOp,ex a ha,ey a ha,Instr.lookup,run_underlying ht,hget,hck,Instr.findKey,run_underlying hk,h1,h2]
theorem c7h {fn:Func} {ex:Exit} {m0:View} {R:Value->View->List Res->Prop} {r r':ResultVar} {v v':Value} {q:FuncId} {cap:List Value} (hex:ex=.ret\/ex=.normal) (hds:n.ds=[a9G q cap]) (he:∀ as w,(callFunc q as).run P w=.ok (.enter q as) w)
 (hd:a9I P q cap .returning m h h) (hfn:fn.results=#[r,r']) (x1:RV P n F h m r v) (x2:RV P n F h m r' v') (hle:m0.le m) (hsub:h'.Sublist h) (hR:R (.tuple #[v,v']) m h') :
 ∀ a w,Fr n F a->St m h w->bodyPostD P fn (RQ m0 R) ex a w:=fun a w ha hs=>by
 have key:Leaves P fn a.tmps (RQ m0 R) a.defers .returning w:=by
  rw[ha.d,hds];refine b1G he (by simp) hd hs fun w' hs'=>⟨.tuple #[v,v'],?_,_,m,h',rfl,hle,hs'.sub hsub,hR⟩
  have h1:=x1.e a w' ha hs';have h2:=x2.e a w' ha hs';simp[Z7,hfn,h1,h2]
 rcases hex with rfl | rfl <;> exact key
theorem c6F {fn:Func} {m0:View} {R:Value->View->List Res->Prop} {r r':ResultVar} {v v' u:Value} {q:FuncId} {cap:List Value} {h2:List Res} (hds:n.ds=[a9G q cap]) (he:∀ as w,(callFunc q as).run P w=.ok (.enter q as) w)
 (hd:a9I P q cap (.panicking [{ v:=u,recovered:=false }]) m h h2) (hfn:fn.results=#[r,r']) (x1:RV P n F h2 m r v) (x2:RV P n F h2 m r' v') (hle:m0.le m) (hsub:h'.Sublist h2) (hR:R (.tuple #[v,v']) m h') :
 ∀ a w,Fr n F a->St m h w->bodyPostD P fn (RQ m0 R) (.panic [{ v:=u,recovered:=false }]) a w:=fun a w ha hs=>by
 show Leaves P fn a.tmps (RQ m0 R) a.defers (.panicking [{ v:=u,recovered:=false }]) w;rw[ha.d,hds];refine b1G he (by simp) hd hs fun w' hs'=>⟨.tuple #[v,v'],?_,_,m,h',rfl,hle,hs'.sub hsub,hR⟩
 have h1:=x1.e a w' ha hs';have h2:=x2.e a w' ha hs';simp[Z7,hfn,h1,h2]
end
end
end Go.Eng
namespace Go.Sx
section
open Go.Eng Go.Pc Go
open Go.Xp hiding B
open Go.Ty (Ty Vr Tok)
open Go.Ly (Rw)
def Er {α:Type} (r:E α):Prop:=∀ e,r=.error e->e=110
theorem X9 {α:Type} {x:α × List Tok}:Er (.ok x):=nofun
theorem a5f {α:Type}:Er (.error 110:E α):=fun e h=>by cases h;rfl
theorem R9 {α β:Type} {r:E α} {f:α->List Tok->E β} (h:Er r) (hf:∀ x ts,Er (f x ts)):Er (O4 r f):=by
 cases r with
 | ok x=>exact hf x.1 x.2
 | error e=>rw[h e rfl];exact a5f
theorem a4H {β:Type} {k:Int} {s:B} {ts:List Tok} {f:List Tok->E β} (h:∀ r,Er (f r)):Er (Y3 k s ts f):=by
 unfold Y3;split
 ·exact h _
 ·exact a5f
theorem a0U {α:Type} {c:Prop} [Decidable c] {a b:E α} (ha:Er a) (hb:Er b):Er (if c then a else b):=by
 split
 ·exact ha
 ·exact hb
theorem a1t (ts:List Tok):Er (V6 ts):=by rw[b3e];exact a0U X9 a5f
theorem V1 (ts:List Tok):Er (M2 ts):=by rw[b4c];exact a0U X9 a5f
theorem a4J (ts:List Tok):Er (K3 ts):=by rw[a7r];exact a0U (R9 (V1 ts) fun _ _=>a0U X9 a5f) a5f
theorem b2h (ts:List Tok):Er (a7u ts):=a0U X9 a5f
theorem b5S (ts:List Tok):Er (a5h ts):=R9 (b2h ts) fun _ _=>a0U X9 a5f
theorem b7J (ts:List Tok):Er (a3g ts):=R9 (b2h _) fun _ _=>R9 (a1t _) fun _ _=>a0U X9 a5f
theorem b5T {α:Type} {take:List Tok->E α} {sep:B} (h:∀ ts,Er (take ts)):∀ (n:Nat) (acc:List α) (ts:List Tok),Er (a2e take sep n acc ts)
 | 0,_,_=>a0U a5f X9
 | n+1,_,_=>a0U (R9 (h _) fun _ _=>b5T h n _ _) X9
theorem a1L {α:Type} {take:List Tok->E α} {sep:B} {most:Nat} {ts:List Tok} (h:∀ ts,Er (take ts)):Er (Q7 take sep most ts):=R9 (h _) fun _ _=>b5T h _ _ _
theorem c4s {α:Type} {take:List Tok->E α} {ts:List Tok} (h:∀ ts,Er (take ts)):Er (brM take ts):=a4H fun _=>a0U X9 (R9 (a1L h) fun _ _=>a4H fun _=>X9)
theorem b9Z (ts:List Tok):Er (b3V ts):=a0U X9 (R9 (a1t _) fun _ _=>a4H fun _=>R9 (V1 _) fun _ _=>a4H fun _=>R9 (V1 _) fun _ _=>X9)
theorem c6o (ts:List Tok):Er (ifM ts):=R9 (V1 _) fun _ _=>X9
theorem b5V (c:Ex) (ts:List Tok):Er (a8T c ts):=R9 (a4J _) fun _ _=>a4H fun _=>a0U (R9 (V1 _) fun _ _=>X9) (R9 (a1L a4J) fun _ _=>X9)
theorem c0K (ts:List Tok):Er (a7E ts):=a0U (R9 (V1 _) fun _ _=>a4H fun _=>a0U X9 (b5V _ _)) (b5V _ _)
theorem c6a (ts:List Tok):Er (b4x ts):=a0U X9 (R9 (a1L V1) fun _ _=>X9)
theorem c4W (ts:List Tok):Er (b2o ts):=R9 (a1t _) fun _ _=>a0U (R9 (a1L a4J) fun _ _=>X9) X9
theorem b4E (ts:List Tok):Er (a1d ts):=R9 (a1t _) fun _ _=>a0U (R9 (a1L b5S) fun _ _=>X9) X9
def Ep {α:Type} (r:PE α):Prop:=∀ e j,r=.error (e,j)->e≠0
theorem P0 {α:Type} {x:α × Nat}:Ep (.ok x):=nofun
theorem a2p {α:Type} {i:Nat}:Ep (.error (110,i):PE α):=fun e j h=>by cases h;decide
theorem U7 {α β:Type} {r:PE α} {f:α->Nat->PE β} (h:Ep r) (hf:∀ x i,Ep (f x i)):Ep (M4 r f):=by
 cases r with
 | ok x=>exact hf x.1 x.2
 | error e=>exact fun a j q=>h a j (by cases q;rfl)
theorem L7 {α β:Type} {r:E α} {i:Nat} {f:α->List Tok->PE β} (h:Er r) (hf:∀ x ts,Ep (f x ts)):Ep (G9 r i f):=by
 cases r with
 | ok x=>exact hf x.1 x.2
 | error e=>rw[h e rfl];exact a2p
theorem S3 {α:Type} {c:Prop} [Decidable c] {a b:PE α} (ha:Ep a) (hb:Ep b):Ep (if c then a else b):=by
 split
 ·exact ha
 ·exact hb
theorem J7 {β:Type} {ts:List Tok} {i:Nat} {f:Nat->PE β} (h:∀ i,Ep (f i)):Ep (D8 ts i f):=S3 (h _) a2p
theorem a2q {β:Type} {k:Int} {s:B} {ts:List Tok} {i:Nat} {f:List Tok->PE β} (h:∀ r,Ep (f r)):Ep (P7 k s ts i f):=S3 (h _) a2p
variable {R:List Rw}
theorem a5U {β:Type} {d:Int} {i:Nat} {f:List Tok->PE β} (h:∀ r,Ep (f r)):Ep (P8 R d i f):=by
 unfold P8 S5;cases hx:R[i]? with
 | none=>exact a2p
 | some x=>
  simp only;split
  ·rename_i h1
   split at h1
   ·cases h1
   ·split at h1
    ·cases h1
    ·exact h _
  ·rename_i h1
   split at h1
   ·rename_i he
    cases h1;exact fun a j q=>by cases q;exact he
   ·split at h1
    ·cases h1;exact a2p
    ·cases h1
theorem b1L {β:Type} {d k:Int} {s:B} {i:Nat} {f:Nat->PE β} (h:∀ i,Ep (f i)):Ep (a0q R d k s i f):=a5U fun _=>a2q fun _=>J7 h
variable {rec:Int->Bool->Nat->PE Pr} (hr:∀ d t i,Ep (rec d t i))
include hr
theorem a4E {row:List Tok->E Gu} (hw:∀ ts,Er (row ts)) {least most:Nat} {d:Int}:∀ (k:Nat) (acc:List Gu) (i:Nat),Ep (K5 R rec row least most d k acc i)
 | 0,_,_=>S3 a2p P0
 | k+1,_,_=>S3 (a5U fun _=>L7 (hw _) fun _ _=>J7 fun _=>U7 (hr _ _ _) fun _ _=>a4E hw k _ _) P0
theorem b2G {d:Int}:∀ (k:Nat) (acc:List Pr) (i:Nat),Ep (Q0 R rec d k acc i)
 | 0,_,_=>P0
 | k+1,_,_=>S3 (U7 (hr _ _ _) fun _ _=>b2G k _ _) P0
theorem a9X {d:Int}:∀ (k:Nat) (ns:List Int) (acc:List Pr) (i:Nat),Ep (J9 R rec d k ns acc i)
 | 0,_,_,_=>S3 a2p P0
 | k+1,_,_,_=>S3 (a5U fun _=>a2q fun r=>by
  cases a5W r with
  | none=>exact a2p
  | some n=>exact U7 (hr _ _ _) fun _ _=>a9X k _ _ _) P0
omit hr in
theorem b0n {d:Int}:∀ (k:Nat) (acc:List Vr) (i:Nat),Ep (Q2 R d k acc i)
 | 0,_,_=>S3 a2p P0
 | k+1,_,_=>S3 (a5U fun _=>L7 (b4E _) fun _ _=>S3 (J7 fun _=>b0n k _ _) a2p) P0
omit hr in
theorem c0h {d:Int} {ts:List Tok} {i:Nat}:Ep (a1S R d ts i):=
 S3 (L7 (a1L b5S) fun _ _=>a2q fun _=>J7 fun _=>P0) (J7 fun _=>b1L fun _=>U7 (b0n _ _ _) fun _ _=>b1L fun _=>P0)
omit hr in
theorem b1A {s:Sp} {ts:List Tok} {i:Nat}:Ep (a6X s ts i):=a2q fun _=>S3 (J7 fun _=>P0) a2p
theorem c3T {d:Int} {ts:List Tok} {i:Nat}:Ep (a0h R rec d ts i):=
 S3 (L7 (a1t _) fun _ _=>U7 c0h fun _ _=>P0)
  (S3 (L7 (a1t _) fun _ _=>L7 (c4s b7J) fun _ _=>J7 fun _=>U7 (hr _ _ _) fun _ _=>b1L fun _=>P0)
   (S3 (L7 (b2h _) fun _ _=>L7 (a1t _) fun _ _=>a2q fun _=>L7 (V1 _) fun _ _=>b1A)
    (S3 (L7 (b2h _) fun _ _=>L7 (a1L a1t) fun _ _=>S3 (L7 (a4J _) fun _ _=>b1A) b1A) P0)))
theorem b07 {k:Int} {d:Int} {ts:List Tok} {i:Nat}:Ep (a0m R rec k d ts i):=
 L7 (b9Z _) fun _ _=>J7 fun _=>S3 (U7 (hr _ _ _) fun _ _=>P0) (U7 (b2G hr _ _ _) fun _ _=>P0)
theorem a6E {k:Int} {row:List Tok->E Gu} (hw:∀ ts,Er (row ts)) {d:Int} {ts:List Tok} {i:Nat}:Ep (S6 R rec k row d ts i):=
 L7 (b9Z _) fun _ _=>J7 fun _=>U7 (a4E hr hw _ _ _) fun _ _=>P0
theorem b0q {d:Int} {ts:List Tok} {i:Nat}:Ep (S8 R rec d ts i):=
 S3 (L7 (a1t _) fun _ _=>L7 (c4s V1) fun _ _=>J7 fun _=>P0)
  (L7 (a1L a4J) fun _ _=>S3 (L7 (a1L V1) fun _ _=>J7 fun _=>P0) (S3 a2p (S3 (L7 (a1L V1) fun _ _=>J7 fun _=>P0)
   (a2q fun _=>S3 (J7 fun _=>U7 (a4E hr c4W _ _ _) fun _ _=>P0) (S3 (L7 (V1 _) fun _ _=>J7 fun _=>P0) (L7 (a1L a4J) fun _ _=>J7 fun _=>P0))))))
theorem c2i {s:B} {f:Int->List Tok->Nat->PE Pr} (h:S4 R rec s=some f) (d:Int) (ts:List Tok) (i:Nat):Ep (f d ts i):=by
 unfold S4 at h;split at h
 ·cases h;exact J7 fun _=>P0
 split at h
 ·cases h;exact J7 fun _=>P0
 split at h
 ·cases h;exact b07 hr
 split at h
 ·cases h;exact b07 hr
 split at h
 ·cases h;exact S3 (J7 fun _=>U7 (hr _ _ _) fun _ _=>U7 (hr _ _ _) fun _ _=>P0) (a2q fun _=>a6E hr c0K)
 split at h
 ·cases h;exact a6E hr c0K
 split at h
 ·cases h;exact a6E hr c6o
 split at h
 ·cases h;exact L7 (V1 _) fun _ _=>J7 fun _=>U7 (a4E hr c6a _ _ _) fun _ _=>P0
 split at h
 ·cases h;exact L7 (V1 _) fun _ _=>J7 fun _=>U7 (hr _ _ _) fun _ _=>P0
 split at h
 ·cases h;exact a2q fun _=>J7 fun _=>U7 (a9X hr _ _ _ _) fun _ _=>P0
 ·cases h
theorem c2Q {d:Int} {top:Bool} {ts:List Tok} {i:Nat}:Ep (a0o R rec d top ts i):=by
 cases ts with
 | nil=>exact a2p
 | cons t r=>
  unfold a0o;cases hw:S4 R rec t.text with
  | none=>simp only[hw];exact b0q hr
  | some f=>simp only[hw];exact S3 (c2i hr hw _ _ _) (b0q hr)
theorem c4d {d:Int} {top:Bool} {i:Nat}:Ep (a3D R rec d top i):=a5U fun _=>U7 (c3T hr) fun so _=>by
 cases so with
 | none=>exact c2Q hr
 | some s=>exact U7 (hr _ _ _) fun _ _=>P0
omit hr in
theorem a8C:∀ (n:Nat) (d:Int) (t:Bool) (i:Nat),Ep (B1 R n d t i)
 | 0,_,_,_=>a2p
 | n+1,_,_,_=>c4d (a8C n)
omit hr in
theorem c5O:Ep (a3G R):=U7 (a8C _ _ _ _) fun _ i=>by
 cases R[i]? with
 | none=>exact P0
 | some y=>
  show Ep (.error (if (Go.Lx.lexO y.text).2.2≠0 then (Go.Lx.lexO y.text).2.2 else 110,i));intro e j h;cases h;split
  ·assumption
  ·decide
end
section
open Go.Eng Go.Pc Go
open Go.Xp hiding B
open Go.Ty (Ty Vr Tok)
open Go.Ly (Rw)
def A1 (s:B):Tok:=if Go.Lx.key s then ⟨2,0,s,0⟩ else ⟨5,0,s,0⟩
def O9 (s:B):Tok:=⟨1,0,s,0⟩
def L5 (t:Ty):List Tok:=(Go.Ty.tokens t).1
def a0Z (k:Int):List Tok:=L5 ⟨k,0,0,[]⟩
def D2 {α:Type} (sep:B) (f:α->List Tok):List α->List Tok
 | []=>[]
 | [x]=>f x
 | x::y::r=>f x++⟨5,0,sep,0⟩::D2 sep f (y::r)
theorem a1N {α:Type} (sep:B) (f:α->List Tok):∀ (l:List α) (x:α),l≠[]->D2 sep f (l++[x])=D2 sep f l++(⟨5,0,sep,0⟩::f x)
 | [],_,h=>absurd rfl h
 | [y],x,_=>rfl
 | y::z::r,x,_=>by
  show f y++⟨5,0,sep,0⟩::D2 sep f (z::r++[x])=(f y++⟨5,0,sep,0⟩::D2 sep f (z::r))++(⟨5,0,sep,0⟩::f x);rw[a1N sep f (z::r) x (by simp)];simp
def a2o (s:B) (l:List Tok):List Tok:=if l.length=0 then [] else A1 s::l
def a1G (r:Rp):List Tok:=if r.name=[] then [] else ((([O9 r.name]++[A1 [61]])++E5 r.base)++[A1 [70,79,82]])++E5 r.count
def R5 (f:Fo):List Tok:=((if f.val then [A1 [86,65,76]] else [])++L5 f.ty)++[O9 f.name]
abbrev Ln:=Int × List Tok
def A8 (k:Int) (n:B) (ch:Ex) (tg ex:List Ex) (rep:Rp):List Tok:=
 if k=1 then [A1 [83,75,73,80]]
 else if k=2 then [A1 [83,84,79,80]]
 else if k=3 then (D2 [44] E5 tg++[A1 [58,61]])++D2 [44] E5 ex
 else if k=4 then (E5 ch++[A1 [63]])++D2 [59] E5 tg
 else if k=5 then (E5 ch++[A1 [33]])++D2 [59] E5 ex
 else if k=6 then (E5 ch++[A1 [63],A1 [65,70,84,69,82]])++D2 [] E5 ex
 else if k=7 then E5 ch++[A1 [63],A1 [67,65,83,69]]
 else if k=8 then [A1 [83,69,81]]++a1G rep
 else if k=9 then [A1 [80,65,82]]++a1G rep
 else if k=10 then [A1 [80,82,73],A1 [80,65,82]]
 else if k=11 then [A1 [80,76,65,67,69,68],A1 [80,65,82]]
 else if k=12 then [A1 [65,76,84]]++a1G rep
 else if k=13 then [A1 [80,82,73],A1 [65,76,84]]++a1G rep
 else if k=14 then [A1 [73,70]]++a1G rep
 else if k=15 then [A1 [67,65,83,69]]++D2 [] E5 ex
 else if k=16 then [A1 [87,72,73,76,69]]++D2 [] E5 ex
 else (([O9 n]++[A1 [40]])++D2 [44] E5 ex)++[A1 [41]]
def a0A (c:Ex):List Tok:=if a0b c then [] else E5 c++[⟨5,0,[38],0⟩]
def H3 (k:Int) (n:B) (cond ch:Ex) (tg vl:List Ex) (time:Ex):List Tok:=
 if k=1 then E5 cond
 else if k=2 then a0A cond++[A1 [83,75,73,80]]
 else if k=3 then ((a0A cond++E5 ch)++[A1 [63]])++D2 [59] E5 tg
 else if k=4 then ((a0A cond++E5 ch)++[A1 [63],A1 [65,70,84,69,82]])++E5 time
 else if k=5 then D2 [44] E5 vl
 else if k=6 then [A1 [69,76,83,69]]
 else [O9 n]++a2o [59] (D2 [59] E5 tg)
def J1 (l:List B):List Tok:=D2 [44] (fun s=>[O9 s]) l
def J5 (v:Vr):List Tok:=[O9 v.tag]++a2o [59] (D2 [59] a0Z v.items)
mutual
def G8:Pr->Int->List Ln
 | .mk k n ch tg ex rep _ _ gl _ _ ll pn sp,d=>if k=18 then K6 sp d++a1W ll d else (d,A8 k n ch tg.l ex.l rep)::(F3 k pn.l ll d++J8 gl (d+1))
def a1W:List Pr->Int->List Ln
 | [],_=>[]
 | x::_,d=>G8 x d
def F3 (k:Int):List Int->List Pr->Int->List Ln
 | _,[],_=>[]
 | ns,x::r,d=>(if k=11 then (d+1,[A1 [80,82,79,67,69,83,83,79,82],⟨3,0,[],IntKind.i32.wrap (ns.headD 0)⟩])::G8 x (d+2) else G8 x (d+1))++F3 k ns.tail r d
def Z6:Gu->Int->List Ln
 | .mk k n cond ch tg vl time _ _ bl,d=>(d,H3 k n cond ch tg.l vl.l time)::a1W bl (d+1)
def J8:List Gu->Int->List Ln
 | [],_=>[]
 | g::r,d=>Z6 g d++J8 r d
def K6:Sp->Int->List Ln
 | .mk k ty ns e cs vs fs _ _ bl,d=>
  if k=1 then [(d,(L5 ty++J1 ns.l)++[A1 [58]])]
  else if k=2 then [(d,(((([A1 [86,65,76]]++L5 ty)++J1 ns.l)++[A1 [73,83]])++E5 e)++[A1 [58]])]
  else if k=3 then [(d,(((L5 ty++J1 ns.l)++[A1 [73,83]])++E5 e)++[A1 [58]])]
  else if k=5 then (d,((([A1 [80,82,79,67]]++J1 ns.l)++[A1 [40]])++D2 [44] R5 fs.l)++[A1 [41]])::(a1W bl (d+1)++[(d,[A1 [58]])])
  else if cs=false then [(d,((([A1 [80,82,79,84,79,67,79,76]]++J1 ns.l)++[A1 [73,83]])++D2 [59] a0Z (Go.Ty.hdV vs.l).items)++[A1 [58]])]
  else (d,[A1 [80,82,79,84,79,67,79,76]]++J1 ns.l)::(d+1,[A1 [67,65,83,69]])::(vs.l.map (fun v=>((d+2,J5 v):Ln))++[(d,[A1 [58]])])
end
abbrev Ps:=List Rw × Bool
def C5 (st:Ps) (x:Ln):Ps:=if (Go.Lx.textO x.2).2≠0\/st.1.length > 2048 then (st.1,true) else (st.1++[⟨st.1.length+1,x.1,(Go.Lx.textO x.2).1⟩],st.2)
def B6 (st:Ps) (l:List Ln):Ps:=l.foldl C5 st
theorem a07 (st:Ps) (a b:List Ln):B6 st (a++b)=B6 (B6 st a) b:=List.foldl_append
theorem a0N (st:Ps) (x:Ln) (b:List Ln):B6 st (x::b)=B6 (C5 st x) b:=rfl
def W5 (p:Pr):List Rw × Int:=if mayP p then (if (B6 ([],false) (G8 p 0)).2||!Go.Ly.mayP (B6 ([],false) (G8 p 0)).1 then ([],3) else ((B6 ([],false) (G8 p 0)).1,0)) else ([],2)
end
end Go.Sx
namespace Go.Eng
section
open Go Go.RowKit
section
variable {P:Program} {ops:Array Oper} {Q:Exit->Act->World->Prop} {n:Cx} {F:Fm} {h h':List Res} {m:View} {rest:List Oper}
variable {ty:TypeId} {pos:String} {after:Array Edge} {d:Nat}
theorem b9F {x y:Operand} {t tn e:TypeId} {sz by_ q:Nat} {kn kq:IntKind} {j:Int} (E:EL P t e sz by_) (htn:P.underlying tn=some (.int kn)) (ex:Ev n F x (.slice none 0 0)) (ey:Ev n F y (.int kq j)) (hj:j=(q:Int)) (h0:0 < q) (hb:q * by_<=140737488355328) (h63:q<=4611686018427387904) (hd:d < n.num)
 (kk:∀ b cap,q<=cap->cap<=9223372036854775807->WL P ops Q n rest ((d,.slice (some ⟨b,0,none⟩) q cap)::F) (.row (.slice (some ⟨b,0,none⟩) 0 cap) e sz 0 []::h) m) :
 WL P ops Q n (⟨some d,.call ⟨.builtin .append,#[x,y],#[t,tn]⟩,ty,pos,after,none⟩::rest) F h m:=.mk fun f w hf hs=>by
 subst hj;obtain⟨i,z,ht,hi,hz,hsize,hby,hzs,hsz⟩:=E.ex;subst hsize hby
 have hr:=Lib.run_append_grow_zeros (P:=P) w t tn ty e i z kq kn ht htn hi hz none 0 0 [] (run_firstCells_none w.drew i.size 0 0 0) q h0 hsz (by omega) (by omega) (by omega) (growslice_fits (by omega) (by rw[Nat.zero_add];exact hb));simp only[Nat.zero_add] at hr;have hge:=grownCap_ge w q 0 e;have hcm:grownCap w q 0 e<=maxLen:=grownCap_le_maxLen w q 0 e (by unfold maxLen;omega);refine E9 rfl (M9 (v:=.slice (some ⟨w.heap.size,0,none⟩) q (grownCap w q 0 e)) (w':=w.drew.alloc (.cells (([]:List Value).toArray++Builtin.zeroCells z.cells q++Builtin.zeroCells z.cells (grownCap w q 0 e - q)) e)) ?_ (kk w.heap.size (grownCap w q 0 e) hge (by unfold maxLen at hcm;omega) _ _ (hf.put hd _) ?_))
 ·simp at hr
  simp[execOp,resolve,invoke,builtin,ex f hf,ey f hf,hr]
 ·refine(hs.drew.alloc (.cells (([]:List Value).toArray++Builtin.zeroCells z.cells q++Builtin.zeroCells z.cells (grownCap w q 0 e - q)) e)).conv (r':=.row (.slice (some ⟨w.heap.size,0,none⟩) 0 (grownCap w q 0 e)) e i.size 0 []) Upd.here rfl fun hh=>?_
  have:=a3w (sz:=i.size) (n:=0) (cap:=grownCap w q 0 e) hh (Nat.zero_le _) hcm (by
   simp only[Array.size_append,List.size_toArray,size_zeroCells,hzs,List.length_nil,Nat.zero_add,<- Nat.add_mul];congr 1
   omega)
  rw[Nat.zero_mul,List.take_zero] at this;exact this
theorem b2n {x:Operand} {t:TypeId} {e:TypeId} {a:Option Addr} {l c:Nat} {dst:Option Tmp} {g:Option (Nat × Bool)} (ht:P.underlying t=some (.slice e)) (ex:Ev n F x (.slice a l c)) :
 PO P ⟨dst,.call ⟨.builtin .cap,#[x],#[t]⟩,ty,pos,after,g⟩ n F h m (.int .i64 c):=.mk fun b w ha _=>by
 simp[execOp,resolve,invoke,builtin,ex b ha,Builtin.cap_,run_underlying ht,goInt]
end
end
end Go.Eng
namespace Go.Sx
section
open Go.Eng Go.Pc Go
open Go.Xp hiding B C2
open Go.Ty (Ty Vr Tok)
theorem a8N (p:Pr):(stP p).k=p.k/\(stP p).name=p.name/\(stP p).ch=C0 p.ch/\(stP p).tg.l=p.tg.l.map C0/\(stP p).ex.l=p.ex.l.map C0/\(stP p).rep=stR p.rep/\(stP p).gl=p.gl.map stG/\(stP p).ll=p.ll.map stP/\(stP p).pn.l=p.pn.l/\(stP p).sp=stS p.sp:=by
 cases p;refine⟨rfl,rfl,rfl,rfl,rfl,rfl,?_,?_,rfl,rfl⟩
 ·exact a9l _
 ·exact a4m _
theorem b3a (g:Gu):(stG g).k=g.k/\(stG g).name=g.name/\(stG g).cond=C0 g.cond/\(stG g).ch=C0 g.ch/\(stG g).tg.l=g.tg.l.map C0/\(stG g).vl.l=g.vl.l.map C0/\(stG g).time=C0 g.time/\(stG g).bl=g.bl.map stP:=by
 cases g;exact⟨rfl,rfl,rfl,rfl,rfl,rfl,rfl,a4m _⟩
theorem b6I (s:Sp):(stS s).k=s.k/\(stS s).ty=s.ty/\(stS s).names.l=s.names.l/\(stS s).e=C0 s.e/\(stS s).cs=s.cs/\(stS s).vs.l=s.vs.l.map Z2/\(stS s).fs.l=s.fs.l/\(stS s).bl=s.bl.map stP:=by
 rw[U9];exact⟨rfl,rfl,rfl,rfl,rfl,rfl,rfl,rfl⟩
theorem c7v (g:Gu):guP (stG g)=guP g:=by
 obtain⟨h1,h2,h3,h4,h5,h6,h7,h8⟩:=b3a g;unfold guP a7T;rw[h1,h2,h3,h4,h5,h6,h7,h8,List.length_map,a3h,a3h,a3h,S1,S1,a00,a3Z _ C0 _ _ P3 P3 a00,a3Z _ C0 _ _ M6 M6 S1]
theorem c79 (u:Us) (g:Gu):inG u (stG g)=inG u g:=by
 unfold inG;rw[c7v,(b3a g).1]
theorem c7y:stS D4=D4:=by
 rw[U9];have:C0 A2=A2:=by rw[Y6];rfl
 show spM 0 Go.Ty.zeroT [] (C0 A2) false [] [] []=D4;rw[this];rfl
theorem b0u (p:Pr) (u:Us):Y1 (stP p) u=Y1 p u:=by
 obtain⟨h1,h2,h3,h4,h5,h6,h7,h8,h9,h10⟩:=a8N p;unfold Y1;rw[h2,h3,h4,h5,h7,h8,h9,h10,List.length_map,a3h,a00,a3Z _ C0 _ _ P3 P3 a00,a3Z _ C0 _ _ M6 M6 S1,a3Z _ stG _ _ (inG u) (inG u) (c79 u),c4l];have:Z8 (stS p.sp) D4=Z8 p.sp D4:=by
  have:=b0M p.sp D4;rwa [c7y] at this
 rw[this]
theorem c1u (p:Pr):Q9 (stP p)=Q9 p:=by
 obtain⟨h1,h2,h3,h4,h5,h6,h7,h8,h9,h10⟩:=a8N p;unfold Q9;have hr:a60 (stP p).rep=a60 p.rep:=by
  rw[h6];unfold a60 stR;show(if p.rep.name==[] then a0b (C0 p.rep.base)&&a0b (C0 p.rep.count) else Go.Lx.name p.rep.name&&M6 (C0 p.rep.base)&&M6 (C0 p.rep.count))=_;rw[a3h,a3h,S1,S1]
 have hn:(stP p).rep.name=p.rep.name:=by rw[h6];rfl
 rw[h1,hr,hn,b0u,b0u]
theorem c3F (p:Pr) (d:Int) (pl:Bool) (q:Int):Z3 (stP p) d pl q=Z3 p d pl q:=by
 unfold Z3;rw[c1u,(a8N p).1]
abbrev b2r (p:Pr):Prop:=∀ d pl q,J0 (stP p) d pl q=J0 p d pl q
theorem b6D {d:Int} {pl:Bool}:∀ {l:List Pr} {q:Int},(∀ x ∈ l,b2r x)->W0 (l.map stP) d pl q=W0 l d pl q
 | [],_,_=>rfl
 | x::r,q,h=>by
  have h1:=h x (List.Mem.head _) d pl q;show(if (J0 (stP x) d pl q).1 then W0 (r.map stP) d pl (J0 (stP x) d pl q).2 else J0 (stP x) d pl q)=(if (J0 x d pl q).1 then W0 r d pl (J0 x d pl q).2 else J0 x d pl q);rw[h1,b6D fun y hy=>h y (List.Mem.tail _ hy)]
theorem b6T {d:Int} {l:List Pr} {q:Int} (h:∀ x ∈ l,b2r x):a3I (l.map stP) d q=a3I l d q:=by
 cases l with
 | nil=>rfl
 | cons x r=>exact h x (List.Mem.head _) d false q
theorem b6w {d:Int}:∀ {l:List Gu} {q:Int},(∀ g ∈ l,∀ x ∈ g.bl,b2r x)->a1i (l.map stG) d q=a1i l d q
 | [],_,_=>rfl
 | g::r,q,h=>by
  have h1:a0B (stG g) d q=a0B g d q:=by
   rw[a4o,a4o,(b3a g).2.2.2.2.2.2.2];exact b6T (h g (List.Mem.head _))
  show(if (a0B (stG g) d q).1 then a1i (r.map stG) d (a0B (stG g) d q).2 else a0B (stG g) d q)=(if (a0B g d q).1 then a1i r d (a0B g d q).2 else a0B g d q);rw[h1,b6w fun y hy=>h y (List.Mem.tail _ hy)]
theorem c2R (p:Pr):b2r p:=by
 refine Pr.ind (q:=b2r) (fun p ih d pl q=>?_) p;obtain⟨h1,h2,h3,h4,h5,h6,h7,h8,h9,h10⟩:=a8N p;have hs:∀ a b,a0g (stS p.sp) a b=a0g p.sp a b:=fun a b=>by
  rw[a5X,a5X,(b6I p.sp).2.2.2.2.1,(b6I p.sp).2.2.2.2.2.2.2,b6T fun x hx=>ih x (.s hx)]
 have hl:∀ a b c,W0 (p.ll.map stP) a b c=W0 p.ll a b c:=fun a b c=>b6D fun x hx=>ih x (.l hx)
 have hg:∀ a b,a1i (p.gl.map stG) a b=a1i p.gl a b:=fun a b=>b6w fun g hg x hx=>ih x (.g hg hx)
 rw[a6n (stP p),a6n p,c3F,h1,h7,h8,h10,hs,hl,hl,hg,hg]
theorem c2h (p:Pr):mayP (stP p)=mayP p:=by unfold mayP;rw[c2R]
theorem b08 {α β:Type} (sep:B) (f:β->List Tok) (g:α->β) (e:α->List Tok) (h:∀ x,f (g x)=e x):∀ l:List α,D2 sep f (l.map g)=D2 sep e l
 | []=>rfl
 | [x]=>h x
 | x::y::r=>by
  show f (g x)++⟨5,0,sep,0⟩::D2 sep f ((y::r).map g)=e x++⟨5,0,sep,0⟩::D2 sep e (y::r);rw[h,b08 sep f g e h (y::r)]
theorem a1P (sep:B) (l:List Ex):D2 sep E5 (l.map C0)=D2 sep E5 l:=b08 sep E5 C0 E5 X3 l
theorem c5P (r:Rp):a1G (stR r)=a1G r:=by
 unfold a1G stR;show(if r.name=[] then [] else ((([O9 r.name]++[A1 [61]])++E5 (C0 r.base))++[A1 [70,79,82]])++E5 (C0 r.count))=_;rw[X3,X3]
theorem c2m (e:Ex):a0A (C0 e)=a0A e:=by
 unfold a0A;rw[a3h,X3]
abbrev a9q (p:Pr):Prop:=∀ d,G8 (stP p) d=G8 p d
theorem b0j {k d:Int}:∀ {l:List Pr} {ns:List Int},(∀ x ∈ l,a9q x)->F3 k ns (l.map stP) d=F3 k ns l d
 | [],ns,_=>by cases ns <;> rfl
 | x::r,ns,h=>by
  have h1:=h x (List.Mem.head _);show(if k=11 then _::G8 (stP x) (d+2) else G8 (stP x) (d+1))++F3 k ns.tail (r.map stP) d=_;rw[h1,h1,b0j fun y hy=>h y (List.Mem.tail _ hy)];rfl
theorem a6O {d:Int} {l:List Pr} (h:∀ x ∈ l,a9q x):a1W (l.map stP) d=a1W l d:=by
 cases l with
 | nil=>rfl
 | cons x r=>exact h x (List.Mem.head _) d
theorem b2J (g:Gu) (d:Int):Z6 g d=(d,H3 g.k g.name g.cond g.ch g.tg.l g.vl.l g.time)::a1W g.bl (d+1):=by cases g;rfl
theorem b7L {d:Int} {g:Gu} (h:∀ x ∈ g.bl,a9q x):Z6 (stG g) d=Z6 g d:=by
 obtain⟨h1,h2,h3,h4,h5,h6,h7,h8⟩:=b3a g;rw[b2J,b2J,h1,h2,h3,h4,h5,h6,h7,h8,a6O h];unfold H3;rw[X3,X3,X3,c2m,a1P,a1P]
theorem a8S {d:Int}:∀ {l:List Gu},(∀ g ∈ l,∀ x ∈ g.bl,a9q x)->J8 (l.map stG) d=J8 l d
 | [],_=>rfl
 | g::r,h=>by
  show Z6 (stG g) d++J8 (r.map stG) d=Z6 g d++J8 r d;rw[b7L (h g (List.Mem.head _)),a8S fun y hy=>h y (List.Mem.tail _ hy)]
theorem b2Y (s:Sp) (d:Int):K6 s d=if s.k=1 then [(d,(L5 s.ty++J1 s.names.l)++[A1 [58]])]
 else if s.k=2 then [(d,(((([A1 [86,65,76]]++L5 s.ty)++J1 s.names.l)++[A1 [73,83]])++E5 s.e)++[A1 [58]])]
 else if s.k=3 then [(d,(((L5 s.ty++J1 s.names.l)++[A1 [73,83]])++E5 s.e)++[A1 [58]])]
 else if s.k=5 then (d,((([A1 [80,82,79,67]]++J1 s.names.l)++[A1 [40]])++D2 [44] R5 s.fs.l)++[A1 [41]])::(a1W s.bl (d+1)++[(d,[A1 [58]])])
 else if s.cs=false then [(d,((([A1 [80,82,79,84,79,67,79,76]]++J1 s.names.l)++[A1 [73,83]])++D2 [59] a0Z (Go.Ty.hdV s.vs.l).items)++[A1 [58]])]
 else (d,[A1 [80,82,79,84,79,67,79,76]]++J1 s.names.l)::(d+1,[A1 [67,65,83,69]])::(s.vs.l.map (fun v=>((d+2,J5 v):Ln))++[(d,[A1 [58]])]):=by cases s;rfl
theorem b8G {d:Int} {s:Sp} (h:∀ x ∈ s.bl,a9q x):K6 (stS s) d=K6 s d:=by
 obtain⟨h1,h2,h3,h4,h5,h6,h7,h8⟩:=b6I s;have hv:(Go.Ty.hdV (s.vs.l.map Z2)).items=(Go.Ty.hdV s.vs.l).items:=by cases s.vs.l <;> rfl
 rw[b2Y,b2Y,h1,h2,h3,h4,h5,h6,h7,h8,a6O h,X3,hv,List.map_map];rfl
theorem b2I (p:Pr) (d:Int):G8 p d=if p.k=18 then K6 p.sp d++a1W p.ll d else (d,A8 p.k p.name p.ch p.tg.l p.ex.l p.rep)::(F3 p.k p.pn.l p.ll d++J8 p.gl (d+1)):=by cases p;rfl
theorem c0g (p:Pr):a9q p:=by
 refine Pr.ind (q:=a9q) (fun p ih d=>?_) p;obtain⟨h1,h2,h3,h4,h5,h6,h7,h8,h9,h10⟩:=a8N p;have hf:A8 p.k p.name (C0 p.ch) (p.tg.l.map C0) (p.ex.l.map C0) (stR p.rep)=A8 p.k p.name p.ch p.tg.l p.ex.l p.rep:=by
  unfold A8;rw[X3,a1P,a1P,a1P,a1P,a1P,c5P]
 rw[b2I,b2I,h1,h2,h3,h4,h5,h6,h7,h8,h9,h10,hf,b8G fun x hx=>ih x (.s hx),a6O fun x hx=>ih x (.l hx),b0j fun x hx=>ih x (.l hx),a8S fun g hg x hx=>ih x (.g hg hx)]
theorem c0n (p:Pr):W5 (stP p)=W5 p:=by
 unfold W5;rw[c2h,c0g]
def M3 (s:B):List B:=Lib.splitK [47] 0 (Lib.count s [47]) s
def a6d (i:Nat) (x:B):Go.Ly.Rw:=⟨(i:Int)+1,(x.length:Int) - ((Lib.trimLeftB x 46).length:Int),Lib.trimLeftB x 46⟩
def a6l:Nat->List B->List Go.Ly.Rw
 | _,[]=>[]
 | i,x::l=>a6d i x::a6l (i+1) l
theorem a9u:∀ {i j:Nat} {l:List B} {x:B},l[j]?=some x->a6l i (l.take (j+1))=a6l i (l.take j)++[a6d (i+j) x]
 | _,_,[],_,h=>by cases h
 | i,0,y::l,x,h=>by cases h;rfl
 | i,j+1,y::l,x,h=>by
  have ih:=a9u (i:=i+1) (j:=j) (l:=l) (x:=x) (by simpa using h);show a6d i y::a6l (i+1) (l.take (j+1))=a6d i y::(a6l (i+1) (l.take j)++[a6d (i+(j+1)) x]);rw[ih,show i+1+j=i+(j+1) by omega]
def a0f (s:B):List Go.Ly.Rw:=a6l 0 (M3 s)
def a3p (s:B) (k:Int):Bool:=(((((G1 (a0f s)).1.k==k)&&(((G1 (a0f s)).2.1:Int)==0))&&((G1 (a0f s)).2.2==0))&&((W5 (G1 (a0f s)).1).2==0))&&eqL Go.Ly.eqR (W5 (G1 (a0f s)).1).1 (a0f s)
end
end Go.Sx
namespace Go.Pc
section
open Go.Eng Go.Xp Go
open Go.Ty (Ty Vr)
def a5n (r s:Rp):Bool:=((r.name==s.name)&&E8 r.base s.base)&&E8 r.count s.count
def a1g (c:Bool) (l:List Vr) (d:Bool) (s:List Vr):Bool:=(c==d)&&eqL U8 l s
mutual
def K2:Pr->Pr->Bool
 | .mk k nm ch tg ex rp _ _ gl _ _ ll pn sp=>fun q=>eqL (fun a b:Int=>a==b) pn.l q.pn.l&&((((((((((k==q.k)&&(nm==q.name))&&a5n rp q.rep)&&E8 ch q.ch)&&eqL E8 tg.l q.tg.l)&&eqL E8 ex.l q.ex.l)&&b1K gl q.gl)&&a1a ll q.ll)&&a3b sp q.sp))
def a1a:List Pr->List Pr->Bool
 | []=>fun s=>match s with
  | []=>true
  | _::_=>false
 | x::r=>fun s=>match s with
  | []=>false
  | y::t=>K2 x y&&a1a r t
def a0c:Gu->Gu->Bool
 | .mk k nm c ch tg vl tm _ _ bl=>fun g=>(((((((k==g.k)&&(nm==g.name))&&E8 c g.cond)&&E8 ch g.ch)&&E8 tm g.time)&&eqL E8 tg.l g.tg.l)&&eqL E8 vl.l g.vl.l)&&a1a bl g.bl
def b1K:List Gu->List Gu->Bool
 | []=>fun s=>match s with
  | []=>true
  | _::_=>false
 | x::r=>fun s=>match s with
  | []=>false
  | y::t=>a0c x y&&b1K r t
def a3b:Sp->Sp->Bool
 | .mk k ty nms e cs vs fs _ _ bl=>fun s=>((((k==s.k)&&Go.Ty.eqT ty s.ty)&&eqL a1R fs.l s.fs.l))&&(((eqL (fun a b:B=>a==b) nms.l s.names.l&&E8 e s.e)&&a1g cs vs.l s.cs s.vs.l)&&a1a bl s.bl)
end
theorem a1H:∀ l s:List Pr,a1a l s=eqL K2 l s
 | [],[]=>rfl
 | x::r,y::s=>by show(K2 x y&&a1a r s)=(K2 x y&&eqL K2 r s);rw[a1H r s]
 | [],_::_=>rfl
 | _::_,[]=>rfl
theorem a6Y:∀ l s:List Gu,b1K l s=eqL a0c l s
 | [],[]=>rfl
 | x::r,y::s=>by show(a0c x y&&b1K r s)=(a0c x y&&eqL a0c r s);rw[a6Y r s]
 | [],_::_=>rfl
 | _::_,[]=>rfl
theorem a9x (p q:Pr):K2 p q=(eqL (fun a b:Int=>a==b) p.pn.l q.pn.l&&((((((((((p.k==q.k)&&(p.name==q.name))&&a5n p.rep q.rep)&&E8 p.ch q.ch)&&eqL E8 p.tg.l q.tg.l)&&eqL E8 p.ex.l q.ex.l)&&eqL a0c p.gl q.gl)&&eqL K2 p.ll q.ll)&&a3b p.sp q.sp))):=by
 rw[<- a6Y,<- a1H];cases p;rfl
theorem a7Y (p g:Gu):a0c p g=((((((((p.k==g.k)&&(p.name==g.name))&&E8 p.cond g.cond)&&E8 p.ch g.ch)&&E8 p.time g.time)&&eqL E8 p.tg.l g.tg.l)&&eqL E8 p.vl.l g.vl.l)&&eqL K2 p.bl g.bl):=by
 rw[<- a1H];cases p;rfl
theorem a6a (p s:Sp):a3b p s=(((((p.k==s.k)&&Go.Ty.eqT p.ty s.ty)&&eqL a1R p.fs.l s.fs.l))&&(((eqL (fun a b:B=>a==b) p.names.l s.names.l&&E8 p.e s.e)&&a1g p.cs p.vs.l s.cs s.vs.l)&&eqL K2 p.bl s.bl)):=by
 rw[<- a1H];cases p;rfl
theorem b7u {x y:Sp} (h:(((x.k != y.k)||!(Go.Ty.eqT x.ty y.ty))||((x.fs.l.length:Int) != (y.fs.l.length:Int)))=true):a3b x y=false:=by
 rw[a6a];simp only[Bool.or_eq_true,bne_iff_ne,Bool.not_eq_true'] at h;rcases h with (h | h) | h
 ·have:(x.k==y.k)=false:=by simpa using h
  simp[this]
 ·simp[h]
 ·rw[R3 a1R x.fs.l y.fs.l (by omega)]
  simp
theorem b56 {x y:Sp} (h:(((x.k != y.k)||!(Go.Ty.eqT x.ty y.ty))||((x.fs.l.length:Int) != (y.fs.l.length:Int)))=false) :
 x.fs.l.length=y.fs.l.length/\a3b x y=(eqL a1R x.fs.l y.fs.l&&(((eqL (fun a b:B=>a==b) x.names.l y.names.l&&E8 x.e y.e)&&a1g x.cs x.vs.l y.cs y.vs.l)&&eqL K2 x.bl y.bl)):=by
 rw[a6a];simp only[Bool.or_eq_false_iff,bne_eq_false_iff_eq,Bool.not_eq_false'] at h;obtain⟨⟨h1,h2⟩,h3⟩:=h;refine⟨by omega,?_⟩;have h4:(x.k==y.k)=true:=by simpa using h1
 rw[h4,h2,Bool.true_and,Bool.true_and]
end
end Go.Pc
namespace Go.Eng
section
open Go Go.RowKit
section
variable {P:Program} {m m':View} {h h':List Res} {w w':World}
def Vw (m':View) (h':List Res) (m:View) (h:List Res):Prop:=∀ (a:Option Addr) (n cap sz:Nat) (xs:List Value),Rd m' h' a n cap sz xs->Rd m h a n cap sz xs
theorem c0p {m:View} {g:Nat} {cur:Array Value} {e:TypeId} {fz:Nat × Nat} {n cap sz:Nat} {xs:List Value} (hl:xs.length=n * sz) (h1:n<=cap) (h2:cap<=9223372036854775807) (ht:cur.toList.take (n * sz)=xs):Rd (m.add g (.cells cur e fz)) [] (some ⟨g,0,none⟩) n cap sz xs:=
 ⟨hl,h1,h2,fun w s j u hj=>by
  refine⟨g,0,rfl,?_⟩;have hb:=s.blk g _ (View.add_blk m g (.cells cur e fz));rw[<- ht,List.getElem?_take] at hj;split at hj
  ·simp[World.cell?,hb];simpa using hj
  ·simp at hj⟩
theorem c1t {m:View} {g:Nat} {o:Obj} {h2:List Res}:Vw (m.add g o) h2 m (.pt g o::h2):=fun a n cap sz xs r=>
 ⟨r.len,r.le,r.mx,fun w s=>r.at_ w ⟨s.os,s.out,s.tape,fun b o' hb=>by
  unfold View.add at hb;simp only at hb;split at hb
  ·rename_i e
   cases hb;rw[e];exact s.ok _ (List.Mem.head _)
  ·exact s.blk b o' hb,fun r hr=>s.ok r (List.Mem.tail _ hr),(List.pairwise_cons.1 s.nd).2,fun x hx b hb=>by
  unfold View.add;simp only;split
  ·rename_i e
   exact((List.pairwise_cons.1 s.nd).1 x hx b (by rw[e];rfl) hb).elim
  ·exact s.fr x (List.Mem.tail _ hx) b hb⟩⟩
theorem CT.lendRow {f:FuncId} {args:List Value} {a:Option Addr} {n cap sz:Nat} {e:TypeId} {xs:List Value} {R:View->Value->List Res->Prop} (he:∀ as w,(callFunc f as).run P w=.ok (.enter f as) w)
 (c:∀ m',m.le m'->Rd m' [] a n cap sz xs->CT P f args h m' (fun v _ h'=>R m' v h')) :
 CT P f args (.row (.slice a n cap) e sz n xs::h) m (fun v _ h'=>∃ m' hx h2,R m' v h2/\h'=hx++h2/\Vw m' h2 m (hx++h2)/\Rd m hx a n cap sz xs):=
 ⟨he,fun w s=>by
  have hrow:w.ownsRow 0 e sz (.slice a n cap) n xs:=s.ok _ (List.Mem.head _);obtain⟨k1,k2,k3⟩:=a6I hrow;obtain⟨hl,hn | ⟨g,cp,cur,hv,_,hh,hnc,hcm,hsz,ht⟩⟩:=hrow
  ·obtain⟨_,rfl⟩:=hn
   have hx0:xs=[]:=List.eq_nil_of_length_eq_zero (by simpa using k3);subst hx0;have s2:St m h w:=⟨s.os,s.out,s.tape,s.blk,fun r hr=>s.ok r (List.Mem.tail _ hr),(List.pairwise_cons.1 s.nd).2,fun r hr=>s.fr r (List.Mem.tail _ hr)⟩;have r0:∀ {q:View},Rd q [] a 0 cap sz []:=⟨k3,k1,k2,fun _ _ j u hj=>by cases hj⟩;refine Calls.mono ((c m Vl r0).calls w s2) ?_;rintro e' w' ⟨v,m2,h2,rfl,hle,s3,hR⟩;exact⟨v,m2,h2,rfl,hle,s3,m,[],h2,hR,rfl,fun _ _ _ _ _ r=>r,r0⟩
  ·simp only[Value.slice.injEq] at hv
   obtain⟨rfl,_,rfl⟩:=hv;have hfp:(Res.row (.slice (some ⟨g,0,none⟩) n cap) e sz n xs).fp=some g:=rfl;have hmg:m.blk g=none:=s.fr _ (List.Mem.head _) g hfp;have s2:St (m.add g (.cells cur e (0,0))) h w:=⟨s.os,s.out,s.tape,fun b o' hb=>by
    unfold View.add at hb;simp only at hb;split at hb
    ·rename_i e
     cases hb;rw[e];exact hh
    ·exact s.blk b o' hb,fun r hr=>s.ok r (List.Mem.tail _ hr),(List.pairwise_cons.1 s.nd).2,fun r hr b hb=>by
    unfold View.add;simp only;split
    ·rename_i e
     exact((List.pairwise_cons.1 s.nd).1 r hr b (e ▸ hfp) hb).elim
    ·exact s.fr r (List.Mem.tail _ hr) b hb⟩
   refine Calls.mono ((c _ (View.le_add hmg) (c0p k3 k1 k2 ht)).calls w s2) ?_;rintro e' w' ⟨v,m2,h2,rfl,hle,s3,hR⟩;have hml:=(View.le_add (o:=.cells cur e (0,0)) hmg).trans hle;have hg2:m2.blk g=some (.cells cur e (0,0)):=hle.blk _ _ (View.add_blk m g _);refine⟨v,m,.pt g (.cells cur e (0,0))::h2,rfl,Vl,⟨s3.os.trans hml.os,s3.out.trans hml.out,s3.tape.trans hml.tape,fun b o hb=>s3.blk b o (hml.blk b o hb),fun r hr=>?_,?_,fun r hr b hb=>?_⟩,_,[.pt g (.cells cur e (0,0))],h2,hR,rfl,c1t,?_⟩
   ·rcases List.mem_cons.1 hr with rfl | hr
    ·exact s3.blk g _ hg2
    ·exact s3.ok r hr
   ·refine List.pairwise_cons.2 ⟨fun r hr b h1 h3=>?_,s3.nd⟩
    cases h1;have:=s3.fr r hr _ h3;rw[hg2] at this;cases this
   ·rcases List.mem_cons.1 hr with rfl | hr
    ·cases hb
     exact hmg
    ·have h1:=s3.fr r hr b hb
     cases hm:m.blk b with
     | none=>rfl
     | some o=>
      rw[hml.blk b o hm] at h1;cases h1
   ·exact c1t _ _ _ _ _ (c0p k3 k1 k2 ht)⟩
end
end
end Go.Eng
namespace Go.Pc
section
open Go.Eng Go.Xp Go
open Go.Ty (Ty Vr)
set_option linter.unusedSimpArgs false
def b0W:Rp:=⟨[],A2,A2⟩
def b2f:Pr:=.mk 0 [] A2 B9 B9 b0W none 0 [] none 0 [] B9 D4
def c7P (nm:B) (ch:Ex) (tg ex:Sli Ex) (pn:Sli Int) (sp:Sp):Pr:=.mk 0 nm ch tg ex b0W none 0 [] none 0 [] pn sp
end
end Go.Pc
namespace Go.Sx
section
open Go.Eng Go.Pc Go
open Go.Xp hiding B C2
open Go.Ty (Ty Vr Tok)
theorem a2K {α:Type} (q:α->α->Bool) (f:α->α):∀ (l r:List α),(∀ x ∈ l,∀ y,q (f x) y=q x y)->eqL q (l.map f) r=eqL q l r
 | [],[],_=>rfl
 | [],_::_,_=>rfl
 | _::_,[],_=>rfl
 | x::l,y::r,h=>by
  show(q (f x) y&&eqL q (l.map f) r)=(q x y&&eqL q l r);rw[h x (List.Mem.head _),a2K q f l r fun z hz=>h z (List.Mem.tail _ hz)]
theorem b5Q (p q:Pr):K2 p q=(eqL (fun a b:Int=>a==b) p.pn.l q.pn.l&&((((((((((p.k==q.k)&&(p.name==q.name))&&a5n p.rep q.rep)&&E8 p.ch q.ch)&&eqL E8 p.tg.l q.tg.l)&&eqL E8 p.ex.l q.ex.l)&&eqL a0c p.gl q.gl)&&eqL K2 p.ll q.ll)&&a3b p.sp q.sp))):=by
 rw[<- a6Y,<- a1H];cases p;rfl
theorem b6y (p q:Gu):a0c p q=((((((((p.k==q.k)&&(p.name==q.name))&&E8 p.cond q.cond)&&E8 p.ch q.ch)&&E8 p.time q.time)&&eqL E8 p.tg.l q.tg.l)&&eqL E8 p.vl.l q.vl.l)&&eqL K2 p.bl q.bl):=by
 rw[<- a1H];cases p;rfl
theorem b6k (p q:Sp):a3b p q=(((((p.k==q.k)&&Go.Ty.eqT p.ty q.ty)&&eqL a1R p.fs.l q.fs.l))&&(((eqL (fun a b:B=>a==b) p.names.l q.names.l&&E8 p.e q.e)&&a1g p.cs p.vs.l q.cs q.vs.l)&&eqL K2 p.bl q.bl)):=by
 rw[<- a1H];cases p;rfl
theorem c3r (r s:Rp):a5n (stR r) s=a5n r s:=by
 unfold a5n;show(((r.name==s.name)&&E8 (C0 r.base) s.base)&&E8 (C0 r.count) s.count)=_;rw[a0O,a0O]
theorem b6r (p:Pr):∀ q,K2 (stP p) q=K2 p q:=by
 refine Pr.ind (q:=fun p=>∀ q,K2 (stP p) q=K2 p q) (fun p ih q=>?_) p;obtain⟨h1,h2,h3,h4,h5,h6,h7,h8,h9,h10⟩:=a8N p;have hs:a3b (stS p.sp) q.sp=a3b p.sp q.sp:=by
  obtain⟨s1,s2,s3,s4,s5,s6,s7,s8⟩:=b6I p.sp;have hv:a1g p.sp.cs (p.sp.vs.l.map Z2) q.sp.cs q.sp.vs.l=a1g p.sp.cs p.sp.vs.l q.sp.cs q.sp.vs.l:=by
   unfold a1g;rw[a2K U8 Z2 _ _ fun _ _ _=>rfl]
  rw[b6k,b6k,s1,s2,s3,s4,s5,s6,s7,s8,a0O,hv,a2K K2 stP _ _ fun x hx y=>ih x (.s hx) y]
 have hg:eqL a0c (p.gl.map stG) q.gl=eqL a0c p.gl q.gl:=by
  refine a2K a0c stG _ _ fun g hgm y=>?_
  obtain⟨g1,g2,g3,g4,g5,g6,g7,g8⟩:=b3a g;rw[b6y,b6y,g1,g2,g3,g4,g5,g6,g7,g8,a0O,a0O,a0O,a2K E8 C0 _ _ (fun x _ y=>a0O x y),a2K E8 C0 _ _ (fun x _ y=>a0O x y),a2K K2 stP _ _ fun x hx y=>ih x (.g hgm hx) y]
 rw[b5Q,b5Q,h1,h2,h3,h4,h5,h6,h7,h8,h9,h10,hs,hg,a0O,c3r,a2K E8 C0 _ _ (fun x _ y=>a0O x y),a2K E8 C0 _ _ (fun x _ y=>a0O x y),a2K K2 stP _ _ fun x hx y=>ih x (.l hx) y]
def a2J (s:B) (n e:Int):Bool:=K2 (G1 (a0f s)).1 b2f&&((((G1 (a0f s)).2.1:Nat):Int)==n)&&((G1 (a0f s)).2.2==e)
end
end Go.Sx
namespace Go.Pc
section
open Go.Eng Go.Xp Go
open Go.Ty (Ty Vr)
set_option linter.unusedSimpArgs false
end
end Go.Pc
namespace Go.Xp
section
open Go.Eng Go
open Go.Ty (Tok B3)
open Go.Lx (F4)
set_option maxRecDepth 100000
def nx (t:Tok):Tok:=if F4 t then { t with at_:=0 } else zeroT
abbrev nxL (ts:List Tok):List Tok:=ts.map nx
theorem c0w {t:Tok} (h:F4 t=true):F4 { t with at_:=0 }=true:=Go.Lx.may_at h (by decide)
theorem c6s (t:Tok):nx (nx t)=nx t:=by
 unfold nx;cases h:F4 t with
 | true=>rw[if_pos rfl,if_pos (c0w h)]
 | false=>rfl
theorem a3j (ts:List Tok):C3 (nxL ts)=C3 ts:=by
 cases ts with
 | nil=>rfl
 | cons t r=>exact c6s t
def nxR:W9->W9
 | .ok (x,r)=>.ok (x,nxL r)
 | .error e=>.error e
abbrev c4X (ins:B->B->List Tok->W9):Prop:=∀ o s ts,ins o s (nxL ts)=nxR (ins o s ts)
theorem b1p {ins:B->B->List Tok->W9} (hi:c4X ins) (ts:List Tok):O3 ins (nxL ts)=nxR (O3 ins ts):=by
 have ht:(nxL ts).tail=nxL ts.tail:=by cases ts <;> rfl
 rw[L6 (a3j ts),L6 (rfl:C3 ts=C3 ts),ht,a3j,hi,hi];repeat' split
 all_goals first | rfl | (simp_all [nxR];done)
theorem b5c (mk:Ex->Ex) (p:W9):unQ mk (nxR p)=nxR (unQ mk p):=by
 cases p with
 | ok q=>rfl
 | error e=>rfl
theorem b6B {ins:B->B->List Tok->W9} (hi:c4X ins) (ts:List Tok):Y4 ins (nxL ts)=nxR (Y4 ins ts):=by
 have ht:(nxL ts).tail=nxL ts.tail:=by cases ts <;> rfl
 have ht2:(nxL ts.tail).tail=nxL ts.tail.tail:=by cases ts.tail <;> rfl
 rw[U1 (a3j ts),U1 (rfl:C3 ts=C3 ts),ht,ht2,a3j,b1p hi,b1p hi,b5c,b5c];split
 ·split <;> rfl
 ·split
  ·rfl
  ·split
   ·rfl
   ·cases hq:O3 ins ts with
    | error e=>rfl
    | ok p=>
     obtain⟨a,r⟩:=p;have ht3:(nxL r).tail=nxL r.tail:=by cases r <;> rfl
     show(if opF (C3 (nxL r)) 22 1≠0 then unQ (fun b=>sx 7 (opF (C3 (nxL r)) 22 1) 0 0 [] [a,b]) (O3 ins (nxL r).tail) else .ok (a,nxL r))=nxR (if opF (C3 r) 22 1≠0 then unQ (fun b=>sx 7 (opF (C3 r) 22 1) 0 0 [] [a,b]) (O3 ins r.tail) else .ok (a,r));rw[a3j,ht3,b1p hi,b5c];split <;> rfl
theorem b9u:∀ f,c4X (T7 f)
 | 0=>fun _ _ _=>rfl
 | f+1=>fun o s ts=>by
  have ht:(nxL ts).tail=nxL ts.tail:=by cases ts <;> rfl
  unfold T7;rw[a3j,ht,b6B (b9u f)];split
  ·cases Y4 (T7 f) ts.tail with
   | error e=>rfl
   | ok p=>
    obtain⟨x,r⟩:=p;have ht3:(nxL r).tail=nxL r.tail:=by cases r <;> rfl
    show(if C3 (nxL r)=C1 s then .ok (x,(nxL r).tail) else .error 100:W9)=nxR (if C3 r=C1 s then .ok (x,r.tail) else .error 100);rw[a3j,ht3];split <;> rfl
  ·rfl
theorem b3o (ts:List Tok):N7 (nxL ts)=N7 ts:=by
 unfold N7 a9d;rw[b6B (b9u 32)];cases Y4 (T7 32) ts with
 | error e=>rfl
 | ok p=>
  obtain⟨x,r⟩:=p;show(if M6 x then Except.ok (x,(nxL ts).length - (nxL r).length) else .error 3)=if M6 x then Except.ok (x,ts.length - r.length) else .error 3
  rw[List.length_map,List.length_map]
theorem a5z {ts us:List Tok} (h:nxL ts=nxL us):N7 ts=N7 us:=by rw[<- b3o,h,b3o]
end
end Go.Xp
namespace Go.Sx
section
open Go.Eng Go.Pc Go
open Go.Xp hiding B
open Go.Ty (Ty Vr Tok)
open Go.Ly (Rw)
open Go.Lx (F4)
def z0 (t:Tok):Tok:={ t with at_:=0 }
def b2s (ts:List Tok):Prop:=∀ x ∈ ts,F4 x=true
theorem b2s.tail {ts:List Tok} (h:b2s ts):b2s ts.tail:=fun x hx=>h x (List.mem_of_mem_tail hx)
theorem b2s.drop {ts:List Tok} (h:b2s ts) (k:Nat):b2s (ts.drop k):=fun x hx=>h x (List.mem_of_mem_drop hx)
section
variable (R:List Rw) (rec:Int->Bool->Nat->PE Pr)
end
end
section
open Go.Eng Go.Pc Go
open Go.Xp hiding B C2
open Go.Ty (Ty Vr Tok)
open Go.Ly (Rw)
open Go.Lx (F4)
def endT (t:Tok):Bool:=F4 t&&(t.at_==0)&&!Go.Ty.eqK t (C1 [91])&&(opF t 22 1==0)
end
section
open Go.Eng Go.Pc Go
open Go.Xp hiding B C2
open Go.Ty (Ty Vr Tok)
open Go.Ly (Rw)
open Go.Lx (F4)
end
section
open Go.Eng Go.Pc Go
open Go.Xp hiding B C2
open Go.Ty (Ty Vr Tok)
open Go.Ly (Rw)
open Go.Lx (F4)
theorem H7 {α β:Type} (x:α) (ts:List Tok) (f:α->List Tok->E β):O4 (.ok (x,ts)) f=f x ts:=rfl
end
section
open Go.Eng Go.Pc Go
open Go.Xp hiding B C2
open Go.Ty (Ty Vr Tok)
open Go.Ly (Rw)
open Go.Lx (F4)
def GT (t:Tok):Prop:=t.at_=0/\-2147483648<=t.n/\t.n<=2147483647
def GL (l:List Tok):Prop:=∀ t ∈ l,GT t
structure GW (g:Gu):Prop where
 k:0<=g.k
 cond:Wf g.cond
 ch:Wf g.ch
 time:Wf g.time
 tg:∀ x ∈ g.tg.l,Wf x
 vl:∀ x ∈ g.vl.l,Wf x
structure P1W (p:Pr):Prop where
 k:0<=p.k
 ch:Wf p.ch
 tg:∀ x ∈ p.tg.l,Wf x
 ex:∀ x ∈ p.ex.l,Wf x
 rb:Wf p.rep.base
 rc:Wf p.rep.count
 gs:∀ g ∈ p.gl,GW g
 se:Wf p.sp.e
 sk:0<=p.sp.k
 vw:∀ v ∈ p.sp.vs.l,v.items.length=v.n
inductive PW:Pr->Prop
 | mk {p:Pr} (o:P1W p) (s:∀ x,In x p->PW x):PW p
theorem PW.own {p:Pr} (q:PW p):P1W p:=by cases q;assumption
theorem PW.sub {p x:Pr} (q:PW p) (hx:In x p):PW x:=by cases q with | mk o s=>exact s x hx
def c6Y (R:List Rw) (i:Nat) (x:Ln):Prop:=∃ no,R[i]?=some ⟨no,x.1,(Go.Lx.textO x.2).1⟩
end
section
open Go.Eng Go.Pc Go
open Go.Xp hiding B C2
open Go.Ty (Ty Vr Tok)
open Go.Ly (Rw)
open Go.Lx (F4)
def GLs (l:List Ln):Prop:=∀ x ∈ l,GL x.2
structure OkL (R:List Rw) (i:Nat) (L:List Ln):Prop where
 at_:∀ j x,L[j]?=some x->c6Y R (i+j) x
 fit:∀ x ∈ L,(Go.Lx.textO x.2).2=0
 gl:GLs L
theorem OkL.left {R:List Rw} {i:Nat} {a b:List Ln} (h:OkL R i (a++b)):OkL R i a:=⟨fun j x hx=>h.at_ j x (by rw[List.getElem?_append_left (List.getElem?_eq_some_iff.1 hx).1];exact hx),fun x hx=>h.fit x (List.mem_append_left _ hx),fun x hx=>h.gl x (List.mem_append_left _ hx)⟩
theorem OkL.right {R:List Rw} {i:Nat} {a b:List Ln} (h:OkL R i (a++b)):OkL R (i+a.length) b:=⟨fun j x hx=>by
 have:=h.at_ (a.length+j) x (by rw[List.getElem?_append_right (by omega)];rw[show a.length+j - a.length=j by omega];exact hx);rwa [<- Nat.add_assoc] at this,fun x hx=>h.fit x (List.mem_append_right _ hx),fun x hx=>h.gl x (List.mem_append_right _ hx)⟩
theorem OkL.tail {R:List Rw} {i:Nat} {x:Ln} {b:List Ln} (h:OkL R i (x::b)):OkL R (i+1) b:=OkL.right (a:=[x]) h
def b0J (R:List Rw) (i:Nat) (d:Int):Prop:=∀ y,R[i]?=some y->y.depth<=d
theorem b0J.mono {R:List Rw} {i:Nat} {d e:Int} (h:b0J R i d) (he:d<=e):b0J R i e:=fun y hy=>Int.le_trans (h y hy) he
theorem OkL.after {R:List Rw} {i:Nat} {x:Ln} {b:List Ln} (h:OkL R i (x::b)) {d:Int} (hd:x.1<=d):b0J R i d:=fun y hy=>by
 obtain⟨no,hr⟩:=h.at_ 0 x rfl;rw[Nat.add_zero,hy] at hr;cases hr;exact hd
end
end Go.Sx
namespace Go.Pc
section
open Go.Eng Go.Xp Go
open Go.Ty (Ty Vr)
end
end Go.Pc
namespace Go.Sx
section
open Go.Eng Go.Pc Go
open Go.Xp hiding B C2
open Go.Ty (Ty Vr Tok)
open Go.Ly (Rw)
open Go.Lx (F4)
theorem OkL.len {R:List Rw} {i:Nat} {L:List Ln} (h:OkL R i L) (h0:L≠[]):i+L.length<=R.length:=by
 have hl:0 < L.length:=List.length_pos_iff.2 h0;obtain⟨no,hr⟩:=h.at_ (L.length - 1) (L[L.length - 1]'(by omega)) (List.getElem?_eq_getElem (by omega));have:=(List.getElem?_eq_some_iff.1 hr).1;omega
structure MayV (p:Pr) (d:Int) (pl:Bool):Prop where
 plain:Q9 p=true
 deep:d<=32
 top:p.k=11->pl=true
 ll:p.k≠18->∀ x ∈ p.ll,∃ q,(J0 x (if p.k=11 then d+2 else d+1) false q).1=true
 l8:p.k=18->∀ x ∈ p.ll,∃ q,(J0 x d pl q).1=true
 sp:p.k=18->∃ q,(a0g p.sp d q).1=true
 gl:∀ g ∈ p.gl,∃ q,(a3I g.bl (d+2) q).1=true
def c7D (R:List Rw) (n:Nat) (p:Pr):Prop:=∀ (d left:Int) (top:Bool) (i:Nat),PW p->(J0 p d top left).1=true->OkL R i (G8 p d)->b0J R (i+(G8 p d).length) d->(G8 p d).length<=n ->
 ∃ q,B1 R n d top i=.ok (q,i+(G8 p d).length)/\K2 p q=true
end
section
open Go.Eng Go.Pc Go
open Go.Xp hiding B C2
open Go.Ty (Ty Vr Tok)
open Go.Ly (Rw)
open Go.Lx (F4)
end
section
open Go.Eng Go.Pc Go
open Go.Xp hiding B C2
open Go.Ty (Ty Vr Tok)
open Go.Ly (Rw)
open Go.Lx (F4)
theorem c3x {α β:Type} (x:α) (i:Nat) (f:α->Nat->PE β):M4 (.ok (x,i)) f=f x i:=rfl
end
section
open Go.Eng Go.Pc Go
open Go.Xp hiding B C2
open Go.Ty (Ty Vr Tok)
open Go.Ly (Rw)
open Go.Lx (F4)
theorem c7V {α:Type} {l:List α} (h:((l.length:Int)==0)=true):l=[]:=List.length_eq_zero_iff.1 (by have:=eq_of_beq h;omega)
section
variable {R:List Rw} {rec:Int->Bool->Nat->PE Pr} {n:Nat} {d:Int} {top:Bool} {i:Nat}
end
structure Ask (R:List Rw) (n:Nat) (p:Pr) (d:Int) (top:Bool) (i:Nat):Prop where
 b:∀ x,In x p->c7D R n x
 w:PW p
 v:MayV p d top
 o:OkL R i (G8 p d)
 a:b0J R (i+(G8 p d).length) d
 l:(G8 p d).length<=n+1
end
section
open Go.Eng Go.Pc Go
open Go.Xp hiding B C2
open Go.Ty (Ty Vr Tok)
open Go.Ly (Rw)
open Go.Lx (F4)
section
variable {R:List Rw} {n:Nat} {p:Pr} {d:Int} {top:Bool} {i:Nat}
end
end
section
open Go.Eng Go.Pc Go
open Go.Xp hiding B C2
open Go.Ty (Ty Vr Tok)
open Go.Ly (Rw)
open Go.Lx (F4)
section
variable {R:List Rw} {n:Nat} {p:Pr} {d:Int} {top:Bool} {i:Nat}
end
end
section
open Go.Eng Go.Pc Go
open Go.Xp hiding B C2
open Go.Ty (Ty Vr Tok)
open Go.Ly (Rw)
open Go.Lx (F4)
section
variable {R:List Rw} {n:Nat} {s:Sp} {d:Int} {i:Nat}
end
end
section
open Go.Eng Go.Pc Go
open Go.Xp hiding B C2
open Go.Ty (Ty Vr Tok)
open Go.Ly (Rw)
open Go.Lx (F4)
section
variable {R:List Rw} {n:Nat} {s:Sp} {d:Int} {i:Nat}
end
end
section
open Go.Eng Go.Pc Go
open Go.Xp hiding B C2
open Go.Ty (Ty Vr Tok)
open Go.Ly (Rw)
open Go.Lx (F4)
def c4Y {α:Type} (f:List Tok->E α) (Q:α->Prop):Prop:=∀ ts x r,b2s ts->f ts=.ok (x,r)->Q x/\b2s r
theorem c4Y.mono {α:Type} {f:List Tok->E α} {Q Q':α->Prop} (h:c4Y f Q) (q:∀ x,Q x->Q' x):c4Y f Q':=fun ts x r hk e=>⟨q x (h ts x r hk e).1,(h ts x r hk e).2⟩
end
section
open Go.Eng Go.Pc Go
open Go.Xp hiding B C2
open Go.Ty (Ty Vr Tok)
open Go.Ly (Rw)
open Go.Lx (F4)
inductive Vp:Pr->Int->Bool->Prop
 | mk {p:Pr} {d:Int} {pl:Bool} (plain:Q9 p=true) (deep:d<=32) (top:p.k=11->pl=true) (ll:p.k≠18->∀ x ∈ p.ll,Vp x (if p.k=11 then d+2 else d+1) false) (l8:p.k=18->∀ x ∈ p.ll,Vp x d pl)
  (sc:p.k=18->p.sp.cs=true->d+2<=32) (sb:p.k=18->∀ x ∈ p.sp.bl,Vp x (d+1) false) (gl:∀ g ∈ p.gl,∀ x ∈ g.bl,Vp x (d+2) false):Vp p d pl
abbrev b4f (p:Pr):Prop:=∀ (d:Int) (pl:Bool) (left:Int),Vp p d pl->(P9 p:Int)<=left->J0 p d pl left=(true,left - P9 p)
theorem b2e:∀ {l:List Pr} {d q:Int} {pl:Bool},(∀ x ∈ l,b4f x)->(∀ x ∈ l,Vp x d pl)->(J6 l:Int)<=q->W0 l d pl q=(true,q - J6 l)
 | [],_,q,_,_,_,_=>by show(true,q)=(true,q - ((0:Nat):Int));simp
 | x::r,d,q,pl,h,hv,hq=>by
  have e:W0 (x::r) d pl q=if (J0 x d pl q).1 then W0 r d pl (J0 x d pl q).2 else J0 x d pl q:=rfl
  have hc:J6 (x::r)=P9 x+J6 r:=rfl;rw[hc] at hq ⊢;rw[e,h x (List.mem_cons_self ..) d pl q (hv x (List.mem_cons_self ..)) (by omega)];show W0 r d pl (q - P9 x)=_;rw[b2e (fun y hy=>h y (List.mem_cons_of_mem _ hy)) (fun y hy=>hv y (List.mem_cons_of_mem _ hy)) (by omega)];congr 1
  omega
theorem b5L {l:List Pr} {d q:Int} (h1:l.length<=1) (h:∀ x ∈ l,b4f x) (hv:∀ x ∈ l,Vp x d false) (hq:(J6 l:Int)<=q):a3I l d q=(true,q - J6 l):=by
 match l,h1,h,hv,hq with
 | [],_,_,_,_=>show(true,q)=(true,q - ((0:Nat):Int));simp
 | [x],_,h,hv,hq=>
  have hc:J6 [x]=P9 x:=by show P9 x+0=_;omega
  rw[hc] at hq ⊢;exact h x (List.mem_cons_self ..) d false q (hv x (List.mem_cons_self ..)) hq
theorem b2k:∀ {l:List Gu} {d q:Int},(∀ g ∈ l,g.bl.length=1)->(∀ g ∈ l,∀ x ∈ g.bl,b4f x)->(∀ g ∈ l,∀ x ∈ g.bl,Vp x d false)->(V8 l:Int)<=q->a1i l d q=(true,q - V8 l)
 | [],_,q,_,_,_,_=>by show(true,q)=(true,q - ((0:Nat):Int));simp
 | g::r,d,q,h1,h,hv,hq=>by
  have e:a1i (g::r) d q=if (a0B g d q).1 then a1i r d (a0B g d q).2 else a0B g d q:=rfl
  have hc:V8 (g::r)=J6 g.bl+V8 r:=by show b3A g+V8 r=_;cases g;rfl
  rw[hc] at hq ⊢;rw[e,a4o,b5L (by rw[h1 g (List.mem_cons_self ..)];exact Nat.le_refl _) (h g (List.mem_cons_self ..)) (hv g (List.mem_cons_self ..)) (by omega)];show a1i r d (q - J6 g.bl)=_;rw[b2k (fun y hy=>h1 y (List.mem_cons_of_mem _ hy)) (fun y hy=>h y (List.mem_cons_of_mem _ hy)) (fun y hy=>hv y (List.mem_cons_of_mem _ hy)) (by omega)];congr 1
  omega
theorem b7i (p:Pr):P9 p=1+(J6 p.ll+(J6 p.sp.bl+V8 p.gl)):=by rw[a6A p,a5Z]
theorem b9D {c:Prop} [Decidable c] {a b:Us × Bool} (ha:a.1.spec=false) (hb:b.1.spec=false):(if c then a else b).1.spec=false:=by
 split
 ·exact ha
 ·exact hb
theorem c3v {k:Int} (h:k≠18):(B8 k).1.spec=false:=by
 unfold B8;rw[if_neg h];repeat' first | exact rfl | refine b9D rfl ?_
theorem may_at (p:Pr):b4f p:=by
 refine Pr.ind (q:=b4f) (fun p ih d pl left hv hl=>?_) p;obtain⟨plain,deep,top,ll,l8,sc,sb,gl⟩:=hv;have hc:=b7i p;have hP:=a3q plain;have hg1:∀ g ∈ p.gl,g.bl.length=1:=fun g hg=>(b1g (hP.gs g hg).1).body
 have hh:Z3 p d pl left=false:=by
  unfold Z3;rw[plain,show decide (left - 1 < 0)=false from decide_eq_false (by omega),show decide (d > 32)=false from decide_eq_false (by omega)];by_cases h11:p.k=11
  ·rw[top h11];simp
  ·rw[show(p.k==11)=false by simpa using h11];simp
 rw[a6n,hh,if_neg (by decide)];by_cases hk:p.k=18
 ·have hs:a0g p.sp d (left - 1)=(true,left - 1 - J6 p.sp.bl):=by
   have hsp:=hP.sp (by rw[hk];rfl);have hb:p.sp.bl.length<=1:=c1K hsp;rw[a5X,if_neg (by
    intro q;simp only[Bool.and_eq_true,decide_eq_true_eq] at q;have:=sc hk q.1;omega)]
   exact b5L hb (fun x hx=>ih x (.s hx)) (sb hk) (by omega)
  rw[if_pos hk,hs];simp only[if_true];rw[b2e (fun x hx=>ih x (.l hx)) (l8 hk) (by omega)];simp only[if_true];rw[b2k hg1 (fun g hg x hx=>ih x (.g hg hx)) gl (by omega)];congr 1
  omega
 ·have hb:p.sp.bl=[]:=by
   have h18:(B8 p.k).1.spec=false:=by
    exact c3v hk
   have:=hP.ns h18;unfold Z8 at this;simp only[Bool.and_eq_true] at this;exact c7V this.2
  rw[if_neg hk,b2e (fun x hx=>ih x (.l hx)) (ll hk) (by omega)];simp only[if_true];rw[b2k hg1 (fun g hg x hx=>ih x (.g hg hx)) gl (by omega)];have h0:J6 p.sp.bl=0:=by rw[hb];rfl
  congr 1
  omega
end
section
open Go.Eng Go.Pc Go
open Go.Xp hiding B C2
open Go.Ty (Ty Vr Tok)
open Go.Ly (Rw)
open Go.Lx (F4)
structure Dp (R:List Rw) (i j:Nat) (L:List Ln):Prop where
 e:j=i+L.length
 d:∀ k x,L[k]?=some x->∃ y,R[i+k]?=some y/\y.depth=x.1
theorem Dp.nil {R:List Rw} {i:Nat}:Dp R i i []:=⟨rfl,fun k x h=>by simp at h⟩
theorem Dp.app {R:List Rw} {i j k:Nat} {a b:List Ln} (h:Dp R i j a) (g:Dp R j k b):Dp R i k (a++b):=⟨by rw[g.e,h.e,List.length_append];omega,fun n x hx=>by
 by_cases hn:n < a.length
 ·rw[List.getElem?_append_left hn] at hx;exact h.d n x hx
 ·rw[List.getElem?_append_right (by omega)] at hx
  obtain⟨y,hy,e⟩:=g.d _ x hx;refine⟨y,?_,e⟩;rw[h.e] at hy;rw[show i+n=i+a.length+(n - a.length) by omega];exact hy⟩
theorem Dp.one {R:List Rw} {i:Nat} {y:Rw} (h:R[i]?=some y) {d:Int} (hd:y.depth=d) (t:List Tok):Dp R i (i+1) [(d,t)]:=⟨rfl,fun k x hx=>by
 cases k with
 | zero=>cases hx;exact⟨y,h,hd⟩
 | succ k=>simp at hx⟩
theorem Dp.cons {R:List Rw} {i j:Nat} {y:Rw} (h:R[i]?=some y) {d:Int} (hd:y.depth=d) (t:List Tok) {L:List Ln} (g:Dp R (i+1) j L):Dp R i j ((d,t)::L):=Dp.app (Dp.one h hd t) g
theorem Dp.len {R:List Rw} {i j:Nat} {L:List Ln} (h:Dp R i j L) (hL:L≠[]):j<=R.length:=by
 have h0:0 < L.length:=List.length_pos_iff.2 hL;obtain⟨y,hy,_⟩:=h.d (L.length - 1) (L[L.length - 1]'(by omega)) (List.getElem?_eq_getElem (by omega));have:=(List.getElem?_eq_some_iff.1 hy).1;have:=h.e;omega
def Val (R:List Rw) (rec:Int->Bool->Nat->PE Pr):Prop:=∀ d top i p j,rec d top i=.ok (p,j)->Vp p d top/\Dp R i j (G8 p d)
section
variable {R:List Rw} (hR:Go.Ly.mayP R=true) {rec:Int->Bool->Nat->PE Pr} (hv:Val R rec) {d:Int}
end
end
section
open Go.Eng Go.Pc Go
open Go.Xp hiding B C2
open Go.Ty (Ty Vr Tok)
open Go.Ly (Rw)
open Go.Lx (F4)
section
variable {R:List Rw} (hR:Go.Ly.mayP R=true) {rec:Int->Bool->Nat->PE Pr} (hv:Val R rec) {d:Int} {top:Bool} {i j:Nat} {y:Rw} (hy:R[i]?=some y) (hd:y.depth=d) (h32:d<=32) {p:Pr}
end
end
section
open Go.Eng Go.Pc Go
open Go.Xp hiding B C2
open Go.Ty (Ty Vr Tok)
open Go.Ly (Rw)
open Go.Lx (F4)
section
variable {R:List Rw} (hR:Go.Ly.mayP R=true) {rec:Int->Bool->Nat->PE Pr} (hv:Val R rec) {d:Int} {top:Bool} {i j:Nat} {y:Rw} (hy:R[i]?=some y) (hd:y.depth=d) (h32:d<=32) {p:Pr}
end
end
section
open Go.Eng Go.Pc Go
open Go.Xp hiding B C2
open Go.Ty (Ty Vr Tok)
open Go.Ly (Rw)
open Go.Lx (F4)
section
variable {R:List Rw} (hR:Go.Ly.mayP R=true) {rec:Int->Bool->Nat->PE Pr} (hv:Val R rec) {d:Int} {top:Bool} {i j:Nat}
variable {y:Rw} (hy:R[i]?=some y) (hd:y.depth=d)
end
end
section
open Go.Eng Go.Pc Go
open Go.Xp hiding B C2
open Go.Ty (Ty Vr Tok)
open Go.Ly (Rw)
open Go.Lx (F4)
def Nz {α:Type} (r:E α):Prop:=∀ e,r=.error e->e≠0
theorem X8 {α:Type} (q:α × List Tok):Nz (.ok q:E α):=fun _ h=>by cases h
theorem a5g {α:Type}:Nz (.error 110:E α):=fun _ h=>by cases h;decide
theorem R7 {α β:Type} {r:E α} {f:α->List Tok->E β} (h:Nz r) (hf:∀ x ts,Nz (f x ts)):Nz (O4 r f):=by
 cases r with
 | ok q=>exact hf q.1 q.2
 | error e=>exact fun e' he=>by cases he;exact h e rfl
theorem W8 {α:Type} {c:Prop} [Decidable c] {a b:E α} (ha:Nz a) (hb:Nz b):Nz (if c then a else b):=by
 split
 ·exact ha
 ·exact hb
theorem a5d {β:Type} {k:Int} {s:B} {ts:List Tok} {f:List Tok->E β} (hf:∀ ts,Nz (f ts)):Nz (Y3 k s ts f):=W8 (hf _) a5g
theorem a1r (ts:List Tok):Nz (V6 ts):=by
 cases ts with
 | nil=>exact a5g
 | cons t r=>exact W8 (X8 _) a5g
theorem V2 (ts:List Tok):Nz (M2 ts):=by
 unfold M2;cases N7 ts with
 | ok q=>exact X8 _
 | error e=>exact a5g
theorem a4N (ts:List Tok):Nz (K3 ts):=W8 (R7 (V2 ts) fun _ _=>W8 (X8 _) a5g) a5g
theorem b1u (ts:List Tok):Nz (a7u ts):=W8 (X8 _) a5g
theorem b6q (ts:List Tok):Nz (a5h ts):=R7 (b1u ts) fun _ _=>W8 (X8 _) a5g
theorem b7a (ts:List Tok):Nz (a3g ts):=R7 (b1u _) fun _ _=>R7 (a1r _) fun _ _=>W8 (X8 _) a5g
theorem b6E {α:Type} {take:List Tok->E α} (ht:∀ ts,Nz (take ts)) (sep:B):∀ (n:Nat) (acc:List α) (ts:List Tok),Nz (a2e take sep n acc ts)
 | 0,_,_=>W8 a5g (X8 _)
 | n+1,_,_=>W8 (R7 (ht _) fun _ _=>b6E ht sep n _ _) (X8 _)
theorem a2c {α:Type} {take:List Tok->E α} (ht:∀ ts,Nz (take ts)) (sep:B) (most:Nat) (ts:List Tok):Nz (Q7 take sep most ts):=R7 (ht ts) fun _ _=>b6E ht sep _ _ _
theorem c4w {α:Type} {take:List Tok->E α} (ht:∀ ts,Nz (take ts)) (ts:List Tok):Nz (brM take ts):=a5d fun _=>W8 (X8 _) (R7 (a2c ht _ _ _) fun _ _=>a5d fun _=>X8 _)
theorem b9y (ts:List Tok):Nz (b3V ts):=W8 (X8 _) (R7 (a1r _) fun _ _=>a5d fun _=>R7 (V2 _) fun _ _=>a5d fun _=>R7 (V2 _) fun _ _=>X8 _)
theorem c6Q (ts:List Tok):Nz (ifM ts):=R7 (V2 _) fun _ _=>X8 _
theorem b6p (c:Ex) (ts:List Tok):Nz (a8T c ts):=R7 (a4N _) fun _ _=>a5d fun _=>W8 (R7 (V2 _) fun _ _=>X8 _) (R7 (a2c a4N _ _ _) fun _ _=>X8 _)
theorem b9o (ts:List Tok):Nz (a7E ts):=W8 (R7 (V2 _) fun _ _=>a5d fun _=>W8 (X8 _) (b6p _ _)) (b6p _ _)
theorem c5Y (ts:List Tok):Nz (b4x ts):=W8 (X8 _) (R7 (a2c V2 _ _ _) fun _ _=>X8 _)
theorem c5p (ts:List Tok):Nz (b2o ts):=R7 (a1r _) fun _ _=>W8 (R7 (a2c a4N _ _ _) fun _ _=>X8 _) (X8 _)
theorem c5l (ts:List Tok):Nz (a1d ts):=R7 (a1r _) fun _ _=>W8 (R7 (a2c b6q _ _ _) fun _ _=>X8 _) (X8 _)
def Bd {α:Type} (n:Nat):PE α->Prop
 | .ok (_,j)=>j<=n
 | .error (e,k)=>e≠0/\k<=n/\(k=n->e=110)
section
variable {R:List Rw} {rec:Int->Bool->Nat->PE Pr} (hr:∀ d top i,i<=R.length->Bd R.length (rec d top i))
theorem Y0 {α β:Type} {n:Nat} {r:PE α} {f:α->Nat->PE β} (h:Bd n r) (hf:∀ x j,j<=n->Bd n (f x j)):Bd n (M4 r f):=by
 cases r with
 | ok q=>exact hf q.1 q.2 h
 | error e=>exact h
theorem K8 {α β:Type} {n i:Nat} {r:E α} {f:α->List Tok->PE β} (h:Nz r) (hi:i < n) (hf:∀ x ts,Bd n (f x ts)):Bd n (G9 r i f):=by
 cases r with
 | ok q=>exact hf q.1 q.2
 | error e=>exact⟨h e rfl,by omega,fun q=>by omega⟩
theorem N6 {α:Type} {n:Nat} {c:Prop} [Decidable c] {a b:PE α} (ha:Bd n a) (hb:Bd n b):Bd n (if c then a else b):=by
 split
 ·exact ha
 ·exact hb
theorem a2O {α:Type} {n i:Nat} (hi:i<=n):Bd n (.error (110,i):PE α):=⟨by decide,hi,fun _=>rfl⟩
theorem K1 {β:Type} {n i:Nat} {ts:List Tok} {f:Nat->PE β} (hi:i < n) (hf:Bd n (f (i+1))):Bd n (D8 ts i f):=N6 hf (a2O (by omega))
theorem a2r {β:Type} {n i:Nat} {k:Int} {s:B} {ts:List Tok} {f:List Tok->PE β} (hi:i<=n) (hf:∀ ts,Bd n (f ts)):Bd n (P7 k s ts i f):=N6 (hf _) (a2O hi)
theorem a6u {β:Type} {d:Int} {i:Nat} {f:List Tok->PE β} (hi:i<=R.length) (hf:∀ ts,i < R.length->Bd R.length (f ts)):Bd R.length (P8 R d i f):=by
 unfold P8 S5;cases hx:R[i]? with
 | none=>exact a2O hi
 | some x=>
  have hlt:=(List.getElem?_eq_some_iff.1 hx).1;simp only;by_cases h0:(Go.Lx.lexO x.text).2.2≠0
  ·rw[if_pos h0];exact⟨h0,hi,fun q=>by omega⟩
  ·rw[if_neg h0]
   by_cases h1:x.depth≠d
   ·rw[if_pos h1];exact a2O hi
   ·rw[if_neg h1];exact hf _ hlt
theorem b1W {β:Type} {d k:Int} {s:B} {i:Nat} {f:Nat->PE β} (hi:i<=R.length) (hf:i < R.length->Bd R.length (f (i+1))):Bd R.length (a0q R d k s i f):=a6u hi fun _ hlt=>a2r hi fun _=>K1 hlt (hf hlt)
include hr
theorem a4X {row:List Tok->E Gu} (hrow:∀ ts,Nz (row ts)) {least most:Nat} {d:Int}:∀ (k:Nat) (acc:List Gu) (i:Nat),i<=R.length->Bd R.length (K5 R rec row least most d k acc i)
 | 0,_,_,hi=>N6 (a2O hi) hi
 | k+1,_,i,hi=>N6 (a6u hi fun _ hlt=>K8 (hrow _) hlt fun _ _=>K1 hlt (Y0 (hr _ _ _ (by omega)) fun _ _ hj=>a4X hrow k _ _ hj)) hi
theorem b3E {d:Int}:∀ (k:Nat) (acc:List Pr) (i:Nat),i<=R.length->Bd R.length (Q0 R rec d k acc i)
 | 0,_,_,hi=>hi
 | k+1,_,_,hi=>N6 (Y0 (hr _ _ _ hi) fun _ _ hj=>b3E k _ _ hj) hi
theorem b0A {d:Int}:∀ (k:Nat) (ns:List Int) (acc:List Pr) (i:Nat),i<=R.length->Bd R.length (J9 R rec d k ns acc i)
 | 0,_,_,_,hi=>N6 (a2O hi) hi
 | k+1,_,_,i,hi=>N6 (a6u hi fun _ hlt=>a2r hi fun ts=>by
  cases a5W ts with
  | none=>exact a2O hi
  | some n=>exact Y0 (hr _ _ _ (by omega)) fun _ _ hj=>b0A k _ _ _ hj) hi
theorem b8B {k d:Int} {ts:List Tok} {i:Nat} (hi:i < R.length):Bd R.length (a0m R rec k d ts i):=K8 (b9y _) (by omega) fun _ _=>K1 hi (N6 (Y0 (hr _ _ _ (by omega)) fun _ _ hj=>hj) (Y0 (b3E hr _ _ _ (by omega)) fun _ _ hj=>hj))
theorem a5t {k d:Int} {row:List Tok->E Gu} (hrow:∀ ts,Nz (row ts)) {ts:List Tok} {i:Nat} (hi:i < R.length):Bd R.length (S6 R rec k row d ts i):=K8 (b9y _) (by omega) fun _ _=>K1 hi (Y0 (a4X hr hrow _ _ _ (by omega)) fun _ _ hj=>hj)
theorem c4h {d:Int} {ts:List Tok} {i:Nat} (hi:i < R.length):Bd R.length (a9W R rec d ts i):=N6 (K1 hi (Y0 (hr _ _ _ (by omega)) fun _ _ hj=>Y0 (hr _ _ _ hj) fun _ _ hj=>hj)) (a2r (by omega) fun _=>a5t hr b9o hi)
theorem c2H {d:Int} {ts:List Tok} {i:Nat} (hi:i < R.length):Bd R.length (b1M R rec d ts i):=K8 (V2 _) (by omega) fun _ _=>K1 hi (Y0 (a4X hr c5Y _ _ _ (by omega)) fun _ _ hj=>hj)
theorem c0D {d:Int} {ts:List Tok} {i:Nat} (hi:i < R.length):Bd R.length (a6g rec d ts i):=K8 (V2 _) (by omega) fun _ _=>K1 hi (Y0 (hr _ _ _ (by omega)) fun _ _ hj=>hj)
theorem b5o {d:Int} {ts:List Tok} {i:Nat} (hi:i < R.length):Bd R.length (a0Q R rec d ts i):=a2r (by omega) fun _=>K1 hi (Y0 (b0A hr _ _ _ _ (by omega)) fun _ _ hj=>hj)
theorem b4K {d:Int} {ts:List Tok} {i:Nat} (hi:i < R.length):Bd R.length (S8 R rec d ts i):=by
 have hi':i<=R.length:=by omega
 have h1:i+1<=R.length:=hi;exact N6 (K8 (a1r _) hi fun _ _=>K8 (c4w V2 _) hi fun _ _=>K1 hi h1) (K8 (a2c a4N _ _ _) hi fun _ _=>N6 (K8 (a2c V2 _ _ _) hi fun _ _=>K1 hi h1) (N6 (a2O hi') (N6 (K8 (a2c V2 _ _ _) hi fun _ _=>K1 hi h1)
  (a2r hi' fun _=>N6 (K1 hi (Y0 (a4X hr c5p _ _ _ h1) fun _ _ hj=>hj)) (N6 (K8 (V2 _) hi fun _ _=>K1 hi h1) (K8 (a2c a4N _ _ _) hi fun _ _=>K1 hi h1))))))
omit hr in
theorem b2X {d:Int}:∀ (k:Nat) (acc:List Vr) (i:Nat),i<=R.length->Bd R.length (Q2 R d k acc i)
 | 0,_,_,hi=>N6 (a2O hi) hi
 | k+1,_,i,hi=>N6 (a6u hi fun _ hlt=>K8 (c5l _) hlt fun _ _=>N6 (K1 hlt (b2X k _ _ (by omega))) (a2O hi)) hi
omit hr in
theorem b6Y {d:Int} {ts:List Tok} {i:Nat} (hi:i < R.length):Bd R.length (a1S R d ts i):=
 N6 (K8 (a2c b6q _ _ _) (by omega) fun _ _=>a2r (by omega) fun _=>K1 hi (show i+1<=R.length by omega)) (K1 hi (b1W (by omega) fun h1=>Y0 (b2X _ _ _ (by omega)) fun _ j hj=>b1W hj fun h2=>(show j+1<=R.length by omega)))
omit hr in
theorem b1B {s:Sp} {ts:List Tok} {i:Nat} (hi:i < R.length):Bd R.length (a6X s ts i):=a2r (by omega) fun _=>N6 (K1 hi (show i+1<=R.length by omega)) (a2O (by omega))
theorem c1x {d:Int} {ts:List Tok} {i:Nat} (hi:i < R.length):Bd R.length (a0h R rec d ts i):=by
 have hi':i<=R.length:=by omega
 exact N6 (K8 (a1r _) hi fun _ _=>Y0 (b6Y hi) fun _ _ hj=>hj) (N6 (K8 (a1r _) hi fun _ _=>K8 (c4w b7a _) hi fun _ _=>K1 hi (Y0 (hr _ _ _ (by omega)) fun _ j hj=>b1W hj fun h2=>(show j+1<=R.length by omega)))
  (N6 (K8 (b1u _) hi fun _ _=>K8 (a1r _) hi fun _ _=>a2r hi' fun _=>K8 (V2 _) hi fun _ _=>b1B hi) (N6 (K8 (b1u _) hi fun _ _=>K8 (a2c a1r _ _ _) hi fun _ _=>N6 (K8 (a4N _) hi fun _ _=>b1B hi) (b1B hi)) hi')))
theorem b9l {d:Int} {top:Bool} {ts:List Tok} {i:Nat} (hi:i < R.length):Bd R.length (a0o R rec d top ts i):=by
 cases ts with
 | nil=>exact a2O (by omega)
 | cons t r=>
  have hs:Bd R.length (S8 R rec d (t::r) i):=b4K hr hi;unfold a0o;simp only;cases hw:S4 R rec t.text with
  | none=>exact hs
  | some f=>
   refine N6 ?_ hs;have h1:i+1<=R.length:=hi;unfold S4 at hw;repeat' split at hw
   all_goals first | (cases hw;first | exact K1 hi h1 | exact b8B hr hi | exact c4h hr hi | exact a5t hr b9o hi | exact a5t hr c6Q hi | exact c2H hr hi | exact c0D hr hi | exact b5o hr hi) | cases hw
end
def Sm (i:Nat) (r:PE (Option Sp)):Prop:=∀ j,r=.ok (none,j)->j=i
theorem b1F {i j:Nat} {s:Sp}:Sm i (.ok (some s,j)):=fun _ h=>by cases h
theorem b0l {i:Nat} {e:Int × Nat}:Sm i (.error e):=fun _ h=>by cases h
theorem a3V {i:Nat} {c:Prop} [Decidable c] {a b:PE (Option Sp)} (ha:Sm i a) (hb:Sm i b):Sm i (if c then a else b):=by
 split
 ·exact ha
 ·exact hb
theorem a1s {α:Type} {n i:Nat} {r:E α} {f:α->List Tok->PE (Option Sp)} (hf:∀ x ts,Sm n (f x ts)):Sm n (G9 r i f):=by
 cases r with
 | ok q=>exact hf q.1 q.2
 | error e=>exact b0l
theorem b9S {α:Type} {n:Nat} {r:PE α} {f:α->Nat->PE (Option Sp)} (hf:∀ x j,Sm n (f x j)):Sm n (M4 r f):=by
 cases r with
 | ok q=>exact hf q.1 q.2
 | error e=>exact b0l
theorem a8g {n i:Nat} {ts:List Tok} {f:Nat->PE (Option Sp)} (hf:Sm n (f (i+1))):Sm n (D8 ts i f):=a3V hf b0l
theorem b0S {n i:Nat} {k:Int} {s:B} {ts:List Tok} {f:List Tok->PE (Option Sp)} (hf:∀ ts,Sm n (f ts)):Sm n (P7 k s ts i f):=a3V (hf _) b0l
theorem c4f {R:List Rw} {n i:Nat} {d k:Int} {s:B} {f:Nat->PE (Option Sp)} (hf:Sm n (f (i+1))):Sm n (a0q R d k s i f):=by
 unfold a0q P8;cases S5 R d i with
 | error e=>exact b0l
 | ok ts=>exact b0S fun _=>a8g hf
theorem b5t {n i:Nat} {s:Sp} {ts:List Tok}:Sm n (a6X s ts i):=b0S fun _=>a3V (a8g b1F) b0l
theorem a6C {R:List Rw} {rec:Int->Bool->Nat->PE Pr} {d:Int} {ts:List Tok} {i:Nat}:Sm i (a0h R rec d ts i):=
 a3V (a1s fun _ _=>b9S fun _ _=>b1F) (a3V (a1s fun _ _=>a1s fun _ _=>a8g (b9S fun _ _=>c4f b1F)) (a3V (a1s fun _ _=>a1s fun _ _=>b0S fun _=>a1s fun _ _=>b5t)
  (a3V (a1s fun _ _=>a1s fun _ _=>a3V (a1s fun _ _=>b5t) b5t) (fun j h=>by cases h;rfl))))
theorem a7R {R:List Rw}:∀ (n:Nat) (d:Int) (top:Bool) (i:Nat),i<=R.length->Bd R.length (B1 R n d top i)
 | 0,_,_,_,hi=>a2O hi
 | n+1,d,top,i,hi=>by
  have hr:=fun d top i hi=>a7R (R:=R) n d top i hi
  show Bd R.length (a3D R (B1 R n) d top i);refine a6u hi fun ts hlt=>?_
  have hs:=c1x hr (d:=d) (ts:=ts) hlt;cases hq:a0h R (B1 R n) d ts i with
  | error e=>rw[hq] at hs;exact hs
  | ok q=>
   obtain⟨so,j⟩:=q;rw[hq] at hs;cases so with
   | some s=>
    show Bd R.length (M4 (B1 R n d top j) fun x i=>.ok (prM 18 [] A2 [] [] D1 [] [x] [] s,i));exact Y0 (hr _ _ _ hs) fun _ _ hj=>hj
   | none=>
    have:=a6C j hq;subst this;exact b9l hr hlt
end
section
open Go.Eng Go.Pc Go
open Go.Xp hiding B C2
open Go.Ty (Ty Vr Tok)
open Go.Ly (Rw)
end
section
open Go.Eng Go.Pc Go
open Go.Xp hiding B C2
open Go.Ty (Ty Vr Tok)
open Go.Ly (Rw)
open Go.Lx (F4)
def Adv (rec:Int->Bool->Nat->PE Pr):Prop:=∀ d top i p j,rec d top i=.ok (p,j)->i < j
theorem a0V {R:List Rw} {d:Int} {i:Nat} (h:R.length<=i):N5 R d i=false:=by
 unfold N5;rw[List.getElem?_eq_none h]
theorem Y9 {R:List Rw} {d:Int} {i:Nat} (h:R.length<=i) {β:Type} {f:List Tok->PE β}:P8 R d i f=.error (110,i):=by
 unfold P8 S5;rw[List.getElem?_eq_none h]
theorem a0d {α β:Type} {r:PE α} {f g:α->Nat->PE β} (h:∀ x j,r=.ok (x,j)->f x j=g x j):M4 r f=M4 r g:=by
 cases r with
 | ok q=>exact h q.1 q.2 rfl
 | error e=>rfl
theorem a1x {R:List Rw} {d:Int} {i:Nat} {β:Type} {f g:List Tok->PE β} (h:∀ ts,i < R.length->f ts=g ts):P8 R d i f=P8 R d i g:=by
 by_cases hi:i < R.length
 ·congr 1
  funext ts
  exact h ts hi
 ·rw[Y9 (by omega),Y9 (by omega)]
theorem a0K {α β:Type} {r:E α} {i:Nat} {f g:α->List Tok->PE β} (h:∀ x ts,f x ts=g x ts):G9 r i f=G9 r i g:=by
 congr 1
 funext x ts
 exact h x ts
theorem a4C {β:Type} {k:Int} {s:B} {ts:List Tok} {i:Nat} {f g:List Tok->PE β} (h:∀ ts,f ts=g ts):P7 k s ts i f=P7 k s ts i g:=by
 unfold P7;rw[h]
theorem S9 {β:Type} {ts:List Tok} {i:Nat} {f g:Nat->PE β} (h:f (i+1)=g (i+1)):D8 ts i f=D8 ts i g:=by
 unfold D8;rw[h]
section
variable {R:List Rw} {rec:Int->Bool->Nat->PE Pr} (ha:Adv rec) {d:Int}
include ha
theorem a3J {row:List Tok->E Gu} {least most:Nat}:∀ (k k':Nat) (acc:List Gu) (i:Nat),R.length<=i+k->R.length<=i+k'->K5 R rec row least most d k acc i=K5 R rec row least most d k' acc i
 | 0,0,_,_,_,_=>rfl
 | 0,k'+1,acc,i,h,_=>by
  unfold K5;rw[a0V (by omega),Y9 (by omega)];by_cases hl:acc.length < least
  ·rw[if_pos hl,if_pos (.inl hl)]
  ·rw[if_neg hl,if_neg (fun q=>by rcases q with q | q;exact hl q;cases q.2)]
 | k+1,0,acc,i,_,h=>by
  conv=>rhs;unfold K5
  conv=>lhs;unfold K5
  rw[a0V (by omega),Y9 (by omega)];by_cases hl:acc.length < least
  ·rw[if_pos hl,if_pos (.inl hl)]
  ·rw[if_neg hl,if_neg (fun q=>by rcases q with q | q;exact hl q;cases q.2)]
 | k+1,k'+1,acc,i,h,h'=>by
  unfold K5;split
  ·refine a1x fun ts hi=>a0K fun g r=>S9 (a0d fun x j e=>?_)
   have:=ha _ _ _ _ _ e;exact a3J k k' _ j (by omega) (by omega)
  ·rfl
theorem a5K:∀ (k k':Nat) (acc:List Pr) (i:Nat),R.length<=i+k->R.length<=i+k'->Q0 R rec d k acc i=Q0 R rec d k' acc i
 | 0,0,_,_,_,_=>rfl
 | 0,k'+1,acc,i,h,_=>by unfold Q0;rw[a0V (by omega)];rfl
 | k+1,0,acc,i,_,h=>by
  conv=>lhs;unfold Q0
  rw[a0V (by omega)];rfl
 | k+1,k'+1,acc,i,h,h'=>by
  unfold Q0;split
  ·refine a0d fun x j e=>?_
   have:=ha _ _ _ _ _ e;exact a5K k k' _ j (by omega) (by omega)
  ·rfl
theorem a3K:∀ (k k':Nat) (ns:List Int) (acc:List Pr) (i:Nat),R.length<=i+k->R.length<=i+k'->J9 R rec d k ns acc i=J9 R rec d k' ns acc i
 | 0,0,_,_,_,_,_=>rfl
 | 0,k'+1,ns,acc,i,h,_=>by
  unfold J9;rw[a0V (by omega),Y9 (by omega)];by_cases hl:acc.length=0
  ·rw[if_pos hl,if_pos (.inl hl)]
  ·rw[if_neg hl,if_neg (fun q=>by rcases q with q | q;exact hl q;cases q.2)]
 | k+1,0,ns,acc,i,_,h=>by
  conv=>rhs;unfold J9
  conv=>lhs;unfold J9
  rw[a0V (by omega),Y9 (by omega)];by_cases hl:acc.length=0
  ·rw[if_pos hl,if_pos (.inl hl)]
  ·rw[if_neg hl,if_neg (fun q=>by rcases q with q | q;exact hl q;cases q.2)]
 | k+1,k'+1,ns,acc,i,h,h'=>by
  unfold J9;split
  ·refine a1x fun ts hi=>?_
   refine a4C fun ts2=>?_
   cases a5W ts2 with
   | none=>rfl
   | some n=>
    refine a0d fun x j e=>?_
    have:=ha _ _ _ _ _ e;exact a3K k k' _ _ j (by omega) (by omega)
  ·rfl
omit ha in
theorem a5o:∀ (k k':Nat) (acc:List Vr) (i:Nat),R.length<=i+k->R.length<=i+k'->Q2 R d k acc i=Q2 R d k' acc i
 | 0,0,_,_,_,_=>rfl
 | 0,k'+1,acc,i,h,_=>by
  unfold Q2;rw[a0V (by omega),Y9 (by omega)];by_cases hl:acc.length=0
  ·rw[if_pos hl,if_pos (.inl hl)]
  ·rw[if_neg hl,if_neg (fun q=>by rcases q with q | q;exact hl q;cases q)]
 | k+1,0,acc,i,_,h=>by
  conv=>rhs;unfold Q2
  conv=>lhs;unfold Q2
  rw[a0V (by omega),Y9 (by omega)];by_cases hl:acc.length=0
  ·rw[if_pos hl,if_pos (.inl hl)]
  ·rw[if_neg hl,if_neg (fun q=>by rcases q with q | q;exact hl q;cases q)]
 | k+1,k'+1,acc,i,h,h'=>by
  unfold Q2;split
  ·refine a1x fun ts hi=>a0K fun v r=>?_
   split
   ·exact S9 (a5o k k' _ _ (by omega) (by omega))
   ·rfl
  ·rfl
end
end
section
open Go.Eng Go.Pc Go
open Go.Xp hiding B C2
open Go.Ty (Ty Vr Tok)
open Go.Ly (Rw)
open Go.Lx (F4)
section
variable {R:List Rw} {rec rec':Int->Bool->Nat->PE Pr} (ha:Adv rec) {i:Nat} (H:∀ d top j,i < j->rec d top j=rec' d top j) {d:Int}
include ha H
theorem a2m {row:List Tok->E Gu} {least most:Nat}:∀ (k:Nat) (acc:List Gu) (m:Nat),i<=m->K5 R rec row least most d k acc m=K5 R rec' row least most d k acc m
 | 0,_,_,_=>rfl
 | k+1,acc,m,h=>by
  unfold K5;split
  ·refine a1x fun ts _=>a0K fun g r=>S9 ?_
   rw[<- H _ _ _ (show i < m+1 by omega)];refine a0d fun x j e=>?_
   have:=ha _ _ _ _ _ e;exact a2m k _ j (by omega)
  ·rfl
theorem a9b:∀ (k:Nat) (acc:List Pr) (m:Nat),i < m->Q0 R rec d k acc m=Q0 R rec' d k acc m
 | 0,_,_,_=>rfl
 | k+1,acc,m,h=>by
  unfold Q0;split
  ·rw[<- H _ _ _ h]
   refine a0d fun x j e=>?_
   have:=ha _ _ _ _ _ e;exact a9b k _ j (by omega)
  ·rfl
theorem a7p:∀ (k:Nat) (ns:List Int) (acc:List Pr) (m:Nat),i<=m->J9 R rec d k ns acc m=J9 R rec' d k ns acc m
 | 0,_,_,_,_=>rfl
 | k+1,ns,acc,m,h=>by
  unfold J9;split
  ·refine a1x fun ts _=>a4C fun ts2=>?_
   cases a5W ts2 with
   | none=>rfl
   | some n=>
    show M4 (rec (d+2) false (m+1)) _=M4 (rec' (d+2) false (m+1)) _;rw[<- H _ _ _ (show i < m+1 by omega)];refine a0d fun x j e=>?_
    have:=ha _ _ _ _ _ e;exact a7p k _ _ j (by omega)
  ·rfl
theorem b3d {k:Int} {ts:List Tok}:a0m R rec k d ts i=a0m R rec' k d ts i:=by
 refine a0K fun r ts=>S9 ?_
 split
 ·rw[<- H _ _ _ (show i < i+1 by omega)]
 ·rw[a9b ha H _ _ _ (show i < i+1 by omega)]
theorem a5L {k:Int} {row:List Tok->E Gu} {ts:List Tok}:S6 R rec k row d ts i=S6 R rec' k row d ts i:=by
 refine a0K fun r ts=>S9 ?_
 unfold V3;rw[a2m ha H _ _ _ (show i<=i+1 by omega)]
theorem b8v {ts:List Tok}:a9W R rec d ts i=a9W R rec' d ts i:=by
 unfold a9W;split
 ·refine S9 ?_
  rw[<- H _ _ _ (show i < i+1 by omega)];refine a0d fun x j e=>?_
  have:=ha _ _ _ _ _ e;rw[<- H _ _ _ (show i < j by omega)]
 ·exact a4C fun ts=>a5L ha H
theorem b8q {ts:List Tok}:b1M R rec d ts i=b1M R rec' d ts i:=by
 refine a0K fun r ts=>S9 ?_
 unfold V3;rw[a2m ha H _ _ _ (show i<=i+1 by omega)]
omit ha in
theorem b4C {ts:List Tok}:a6g rec d ts i=a6g rec' d ts i:=by
 refine a0K fun r ts=>S9 ?_
 rw[<- H _ _ _ (show i < i+1 by omega)]
theorem b1H {ts:List Tok}:a0Q R rec d ts i=a0Q R rec' d ts i:=by
 refine a4C fun ts=>S9 ?_
 rw[a7p ha H _ _ _ _ (show i<=i+1 by omega)]
theorem b1m {ts:List Tok}:S8 R rec d ts i=S8 R rec' d ts i:=by
 unfold S8 V3;simp only[a2m ha H _ _ _ (show i<=i+1 by omega),D8]
omit ha in
theorem b5e {ts:List Tok}:a0h R rec d ts i=a0h R rec' d ts i:=by
 unfold a0h;simp only[D8,<- H _ _ _ (show i < i+1 by omega)]
theorem b5A {s:B} {ts:List Tok}:(S4 R rec s).map (fun f=>f d ts i)=(S4 R rec' s).map (fun f=>f d ts i):=by
 unfold S4;simp only[apply_ite (Option.map (fun f:Int->List Tok->Nat->PE Pr=>f d ts i))];repeat' refine ite_congr rfl (fun _=>?_) (fun _=>?_)
 all_goals first | rfl | exact congrArg some (b3d ha H) | exact congrArg some (b8v ha H) | exact congrArg some (a5L ha H) | exact congrArg some (b8q ha H) | exact congrArg some (b4C H) | exact congrArg some (b1H ha H)
theorem b4T {top:Bool} {ts:List Tok}:a0o R rec d top ts i=a0o R rec' d top ts i:=by
 cases ts with
 | nil=>rfl
 | cons t r=>
  have h:=b5A (R:=R) ha H (d:=d) (s:=t.text) (ts:=r);unfold a0o;simp only[b1m ha H];cases h1:S4 R rec t.text with
  | none=>
   rw[h1] at h;cases h2:S4 R rec' t.text with
   | none=>rfl
   | some g=>rw[h2] at h;cases h
  | some f=>
   rw[h1] at h;cases h2:S4 R rec' t.text with
   | none=>rw[h2] at h;cases h
   | some g=>
    rw[h2] at h;have h:=Option.some.inj h;simp only[show f d r i=g d r i from h]
end
theorem b4q {R:List Rw} {rec rec':Int->Bool->Nat->PE Pr} (ha:Adv rec) {i:Nat} (H:∀ d top j,i < j->rec d top j=rec' d top j) (hs:∀ d ts s j,a0h R rec d ts i=.ok (some s,j)->i < j) {d:Int} {top:Bool}:a3D R rec d top i=a3D R rec' d top i:=by
 refine a1x fun ts _=>?_
 rw[<- b5e H];refine a0d fun so j e=>?_
 cases so with
 | some s=>show M4 (rec d top j) _=M4 (rec' d top j) _;rw[<- H _ _ _ (hs d ts s j e)]
 | none=>
  have:=a6C j e;subst this;exact b4T ha H
end
section
open Go.Eng Go.Pc Go
open Go.Xp hiding B C2
open Go.Ty (Ty Vr Tok)
open Go.Ly (Rw)
def Ge {α:Type} (n:Nat) (r:PE α):Prop:=∀ x j,r=.ok (x,j)->n<=j
theorem R2 {α:Type} {n j:Nat} {x:α} (h:n<=j):Ge n (.ok (x,j)):=fun _ _ e=>by cases e;exact h
theorem a2E {α:Type} {n:Nat} {e:Int × Nat}:Ge n (.error e:PE α):=fun _ _ h=>by cases h
theorem Q3 {α:Type} {n:Nat} {c:Prop} [Decidable c] {a b:PE α} (ha:Ge n a) (hb:Ge n b):Ge n (if c then a else b):=by
 split
 ·exact ha
 ·exact hb
theorem K9 {α β:Type} {n i:Nat} {r:E α} {f:α->List Tok->PE β} (hf:∀ x ts,Ge n (f x ts)):Ge n (G9 r i f):=by
 cases r with
 | ok q=>exact hf q.1 q.2
 | error e=>exact a2E
theorem Y2 {α β:Type} {n m:Nat} {r:PE α} {f:α->Nat->PE β} (h:Ge m r) (hf:∀ x j,m<=j->Ge n (f x j)):Ge n (M4 r f):=by
 cases hr:r with
 | ok q=>exact hf q.1 q.2 (h q.1 q.2 hr)
 | error e=>exact a2E
theorem K0 {β:Type} {n i:Nat} {ts:List Tok} {f:Nat->PE β} (hf:Ge n (f (i+1))):Ge n (D8 ts i f):=Q3 hf a2E
theorem a2D {β:Type} {n i:Nat} {k:Int} {s:B} {ts:List Tok} {f:List Tok->PE β} (hf:∀ ts,Ge n (f ts)):Ge n (P7 k s ts i f):=Q3 (hf _) a2E
theorem a6p {R:List Rw} {β:Type} {n i:Nat} {d:Int} {f:List Tok->PE β} (hf:∀ ts,Ge n (f ts)):Ge n (P8 R d i f):=by
 unfold P8;cases S5 R d i with
 | error e=>exact a2E
 | ok ts=>exact hf ts
theorem b1Z {R:List Rw} {β:Type} {n i:Nat} {d k:Int} {s:B} {f:Nat->PE β} (hf:Ge n (f (i+1))):Ge n (a0q R d k s i f):=a6p fun _=>a2D fun _=>K0 hf
theorem b3q {R:List Rw} {d:Int}:∀ (k:Nat) (acc:List Vr) (i:Nat),Ge i (Q2 R d k acc i)
 | 0,_,_=>Q3 a2E (R2 (Nat.le_refl _))
 | k+1,_,_=>Q3 (a6p fun _=>K9 fun _ _=>Q3 (K0 fun x j e=>Nat.le_of_succ_le (b3q k _ _ x j e)) a2E) (R2 (Nat.le_refl _))
theorem b7N {R:List Rw} {d:Int} {ts:List Tok} {i:Nat}:Ge (i+1) (a1S R d ts i):=
 Q3 (K9 fun _ _=>a2D fun _=>K0 (R2 (Nat.le_refl _))) (K0 (b1Z (Y2 (b3q _ _ _) fun _ _ h=>b1Z (R2 (by omega)))))
def Gsp (i:Nat) (r:PE (Option Sp)):Prop:=∀ s j,r=.ok (some s,j)->i < j
theorem b6z {i:Nat} {r:PE (Option Sp)} (h:Ge (i+1) r):Gsp i r:=fun _ _ e=>h _ _ e
theorem b0Z {i:Nat} {c:Prop} [Decidable c] {a b:PE (Option Sp)} (ha:Gsp i a) (hb:Gsp i b):Gsp i (if c then a else b):=by
 split
 ·exact ha
 ·exact hb
theorem b4S {s:Sp} {ts:List Tok} {i:Nat}:Ge (i+1) (a6X s ts i):=a2D fun _=>Q3 (K0 (R2 (Nat.le_refl _))) a2E
theorem b5N {R:List Rw} {rec:Int->Bool->Nat->PE Pr} (ha:Adv rec) {d:Int} {ts:List Tok} {i:Nat}:Gsp i (a0h R rec d ts i):=
 b0Z (b6z (K9 fun _ _=>Y2 b7N fun _ _ h=>R2 h)) (b0Z (b6z (K9 fun _ _=>K9 fun _ _=>K0 (Y2 (m:=i+1) (fun x j e=>Nat.le_of_lt (ha _ _ _ _ _ e)) fun _ _ h=>b1Z (R2 (by omega)))))
  (b0Z (b6z (K9 fun _ _=>K9 fun _ _=>a2D fun _=>K9 fun _ _=>b4S)) (b0Z (b6z (K9 fun _ _=>K9 fun _ _=>Q3 (K9 fun _ _=>b4S) b4S)) (fun _ _ h=>by cases h))))
theorem b2d {α:Type} {n m:Nat} {r:PE α} (h:Ge n r) (q:m<=n):Ge m r:=fun x j e=>Nat.le_trans q (h x j e)
section
variable {R:List Rw} {rec:Int->Bool->Nat->PE Pr} (ha:Adv rec) {d:Int} {i:Nat}
include ha
theorem a3P {top:Bool}:Ge (i+1) (rec d top i):=fun _ _ e=>ha _ _ _ _ _ e
theorem a4z {row:List Tok->E Gu} {least most:Nat}:∀ (n:Nat) (acc:List Gu) (i:Nat),Ge i (K5 R rec row least most d n acc i)
 | 0,_,_=>Q3 a2E (R2 (Nat.le_refl _))
 | n+1,_,_=>Q3 (a6p fun _=>K9 fun _ _=>K0 (Y2 (a3P ha) fun _ j h=>b2d (a4z n _ j) (by omega))) (R2 (Nat.le_refl _))
theorem b3k:∀ (n:Nat) (acc:List Pr) (i:Nat),Ge i (Q0 R rec d n acc i)
 | 0,_,_=>R2 (Nat.le_refl _)
 | n+1,_,_=>Q3 (Y2 (a3P ha) fun _ j h=>b2d (b3k n _ j) (by omega)) (R2 (Nat.le_refl _))
theorem b0x:∀ (n:Nat) (ns:List Int) (acc:List Pr) (i:Nat),Ge i (J9 R rec d n ns acc i)
 | 0,_,_,_=>Q3 a2E (R2 (Nat.le_refl _))
 | n+1,_,_,_=>Q3 (a6p fun _=>a2D fun ts=>by
  cases a5W ts with
  | none=>exact a2E
  | some n=>exact Y2 (a3P ha) fun _ j h=>b2d (b0x _ _ _ j) (by omega)) (R2 (Nat.le_refl _))
theorem b7z {c:Int} {ts:List Tok}:Ge (i+1) (a0m R rec c d ts i):=K9 fun _ _=>K0 (Q3 (Y2 (a3P ha) fun _ _ h=>R2 (by omega)) (Y2 (b3k ha _ _ _) fun _ _ h=>R2 h))
theorem a8R {c:Int} {row:List Tok->E Gu} {ts:List Tok}:Ge (i+1) (S6 R rec c row d ts i):=K9 fun _ _=>K0 (Y2 (a4z ha _ _ _) fun _ _ h=>R2 h)
theorem c3H {ts:List Tok}:Ge (i+1) (a9W R rec d ts i):=Q3 (K0 (Y2 (a3P ha) fun _ _ h=>Y2 (a3P ha) fun _ _ h'=>R2 (by omega))) (a2D fun _=>a8R ha)
theorem c3C {ts:List Tok}:Ge (i+1) (b1M R rec d ts i):=K9 fun _ _=>K0 (Y2 (a4z ha _ _ _) fun _ _ h=>R2 h)
theorem b9d {ts:List Tok}:Ge (i+1) (a6g rec d ts i):=K9 fun _ _=>K0 (Y2 (a3P ha) fun _ _ h=>R2 (by omega))
theorem b4y {ts:List Tok}:Ge (i+1) (a0Q R rec d ts i):=a2D fun _=>K0 (Y2 (b0x ha _ _ _ _) fun _ _ h=>R2 h)
theorem b4X {ts:List Tok}:Ge (i+1) (S8 R rec d ts i):=
 have h1:i+1<=i+1:=Nat.le_refl _
 Q3 (K9 fun _ _=>K9 fun _ _=>K0 (R2 h1)) (K9 fun _ _=>Q3 (K9 fun _ _=>K0 (R2 h1)) (Q3 a2E (Q3 (K9 fun _ _=>K0 (R2 h1))
  (a2D fun _=>Q3 (K0 (Y2 (a4z ha _ _ _) fun _ _ h=>R2 h)) (Q3 (K9 fun _ _=>K0 (R2 h1)) (K9 fun _ _=>K0 (R2 h1)))))))
theorem c1d {top:Bool} {ts:List Tok}:Ge (i+1) (a0o R rec d top ts i):=by
 cases ts with
 | nil=>exact a2E
 | cons t r=>
  have hs:Ge (i+1) (S8 R rec d (t::r) i):=b4X ha;unfold a0o;simp only;cases hw:S4 R rec t.text with
  | none=>exact hs
  | some f=>
   refine Q3 ?_ hs;unfold S4 at hw;repeat' split at hw
   all_goals first | (cases hw;first | exact K0 (R2 (Nat.le_refl _)) | exact b7z ha | exact c3H ha | exact a8R ha | exact c3C ha | exact b9d ha | exact b4y ha) | cases hw
end
theorem a5V {R:List Rw}:∀ n,Adv (B1 R n)
 | 0=>fun _ _ _ _ _ e=>by cases e
 | n+1=>fun d top i p j e=>by
  have ha:=a5V (R:=R) n;have h:Ge (i+1) (a3D R (B1 R n) d top i):=a6p fun ts=>by
   cases hq:a0h R (B1 R n) d ts i with
   | error e=>exact a2E
   | ok q=>
    obtain⟨so,j⟩:=q;cases so with
    | some s=>
     have h1:=b5N ha s j hq;show Ge (i+1) (M4 (B1 R n d top j) fun x i=>.ok (prM 18 [] A2 [] [] D1 [] [x] [] s,i));exact Y2 (a3P ha) fun _ _ h=>R2 (by omega)
    | none=>
     have h1:=a6C j hq;subst h1;show Ge (j+1) (a0o R (B1 R n) d top ts j);exact c1d ha
  exact h p j e
theorem a3i {R:List Rw}:∀ (n n':Nat) (d:Int) (top:Bool) (i:Nat),R.length<=i+n->R.length<=i+n'->B1 R n d top i=B1 R n' d top i
 | 0,0,_,_,_,_,_=>rfl
 | 0,n'+1,d,top,i,h,_=>by
  show Except.error (110,i)=a3D R (B1 R n') d top i;unfold a3D;rw[Y9 (by omega)]
 | n+1,0,d,top,i,_,h=>by
  show a3D R (B1 R n) d top i=Except.error (110,i);unfold a3D;rw[Y9 (by omega)]
 | n+1,n'+1,d,top,i,h,h'=>by
  have ha:=a5V (R:=R) n;exact b4q ha (fun d top j hj=>a3i n n' d top j (by omega) (by omega)) fun d ts s j e=>b5N ha s j e
end
section
open Go.Eng Go.Pc Go
open Go.Xp hiding B C2
open Go.Ty (Ty Vr Tok)
open Go.Ly (Rw)
def atR {α:Type}:PE α->Nat
 | .ok (_,j)=>j
 | .error (_,j)=>j
structure Fr {α:Type} (k i:Nat) (r r':PE α):Prop where
 l:i<=atR r
 g:i<=atR r'
 e:r=r'\/(k<=atR r/\k<=atR r')
def a9h (k:Nat) (R S:List Rw):Prop:=∀ i < k,(R[i]?).map (fun x=>(x.depth,x.text))=(S[i]?).map fun x=>(x.depth,x.text)
section
variable {α β:Type} {k i:Nat}
theorem a7I {r:PE α} (h:i<=atR r):Fr k i r r:=⟨h,h,.inl rfl⟩
theorem P5 {x:α}:Fr k i (.ok (x,i)) (.ok (x,i)):=a7I (Nat.le_refl i)
theorem a2P {e:Int}:Fr k i (.error (e,i):PE α) (.error (e,i)):=a7I (Nat.le_refl i)
theorem b1e {r r':PE α} (h:k<=i) (l:i<=atR r) (g:i<=atR r'):Fr k i r r':=⟨l,g,.inr ⟨by omega,by omega⟩⟩
theorem Fr.mono {r r':PE α} (h:Fr k i r r') {j:Nat} (q:j<=i):Fr k j r r':=⟨by have:=h.l;omega,by have:=h.g;omega,h.e⟩
theorem Fr.step {r r':PE α} (h:Fr k (i+1) r r'):Fr k i r r':=h.mono (by omega)
theorem U6 {r r':PE α} {f f':α->Nat->PE β} (h:Fr k i r r') (hf:∀ x j,Fr k j (f x j) (f' x j)):Fr k i (M4 r f) (M4 r' f'):=by
 obtain⟨l,g,e⟩:=h;rcases e with e | ⟨e1,e2⟩
 ·subst e
  cases r with
  | ok q=>exact(hf q.1 q.2).mono l
  | error q=>exact a7I l
 ·have h1:atR r<=atR (M4 r f):=by
   cases r with
   | ok q=>exact(hf q.1 q.2).l
   | error q=>exact Nat.le_refl _
  have h2:atR r'<=atR (M4 r' f'):=by
   cases r' with
   | ok q=>exact(hf q.1 q.2).g
   | error q=>exact Nat.le_refl _
  exact⟨by omega,by omega,.inr ⟨by omega,by omega⟩⟩
theorem L3 {r:E α} {f f':α->List Tok->PE β} (hf:∀ x ts,Fr k i (f x ts) (f' x ts)):Fr k i (G9 r i f) (G9 r i f'):=by
 cases r with
 | ok q=>exact hf q.1 q.2
 | error e=>exact a2P
theorem Q1 {c:Prop} [Decidable c] {a b a' b':PE α} (ha:Fr k i a a') (hb:Fr k i b b'):Fr k i (if c then a else b) (if c then a' else b'):=by
 split
 ·exact ha
 ·exact hb
theorem a7Q {c c':Prop} [Decidable c] [Decidable c'] {a b a' b':PE α} (h:i < k->(c↔c')) (ha:Fr k i a a') (hb:Fr k i b b'):Fr k i (if c then a else b) (if c' then a' else b'):=by
 by_cases hk:i < k
 ·have:=h hk
  by_cases hc:c
  ·rw[if_pos hc,if_pos (this.1 hc)];exact ha
  ·rw[if_neg hc,if_neg fun q=>hc (this.2 q)];exact hb
 ·refine b1e (by omega) ?_ ?_
  ·split
   ·exact ha.l
   ·exact hb.l
  ·split
   ·exact ha.g
   ·exact hb.g
theorem J4 {ts:List Tok} {f f':Nat->PE β} (hf:Fr k (i+1) (f (i+1)) (f' (i+1))):Fr k i (D8 ts i f) (D8 ts i f'):=Q1 hf.step a2P
theorem a2t {c:Int} {s:B} {ts:List Tok} {f f':List Tok->PE β} (hf:∀ ts,Fr k i (f ts) (f' ts)):Fr k i (P7 c s ts i f) (P7 c s ts i f'):=Q1 (hf _) a2P
section
variable {R S:List Rw} (hA:a9h k R S)
include hA
theorem a3f {d:Int} (h:i < k):N5 R d i=N5 S d i:=by
 have:=hA i h;unfold N5;cases hr:R[i]? <;> cases hs:S[i]? <;> simp[hr,hs] at this ⊢
 rw[this.1]
theorem b4L {d:Int} (h:i < k):S5 R d i=S5 S d i:=by
 have:=hA i h;unfold S5;cases hr:R[i]? <;> cases hs:S[i]? <;> simp[hr,hs] at this ⊢
 rw[this.1,this.2]
omit hA in
theorem b2S {d:Int} {f:List Tok->PE β} (hf:∀ ts,i<=atR (f ts)):i<=atR (P8 R d i f):=by
 unfold P8 S5;cases R[i]? with
 | none=>exact Nat.le_refl i
 | some x=>
  simp only;by_cases h0:(Go.Lx.lexO x.text).2.2≠0
  ·rw[if_pos h0];exact Nat.le_refl i
  ·rw[if_neg h0]
   by_cases h1:x.depth≠d
   ·rw[if_pos h1];exact Nat.le_refl i
   ·rw[if_neg h1];exact hf _
theorem a6m {d:Int} {f f':List Tok->PE β} (hf:∀ ts,Fr k i (f ts) (f' ts)):Fr k i (P8 R d i f) (P8 S d i f'):=by
 have hl:=b2S (R:=R) (d:=d) fun ts=>(hf ts).l
 have hg:=b2S (R:=S) (d:=d) fun ts=>(hf ts).g
 by_cases hk:i < k
 ·have hl2:=hl
  unfold P8 at hl2 ⊢;rw[<- b4L hA hk];cases ho:S5 R d i with
  | ok ts=>exact hf ts
  | error e=>rw[ho] at hl2;exact a7I hl2
 ·exact b1e (by omega) hl hg
theorem b0T {d c:Int} {s:B} {f f':Nat->PE β} (hf:Fr k (i+1) (f (i+1)) (f' (i+1))):Fr k i (a0q R d c s i f) (a0q S d c s i f'):=a6m hA fun _=>a2t fun _=>J4 hf
theorem b06 {d:Int}:∀ (n:Nat) (acc:List Vr) (i:Nat),Fr k i (Q2 R d n acc i) (Q2 S d n acc i)
 | 0,_,_=>Q1 a2P P5
 | n+1,_,_=>a7Q (fun h=>by rw[a3f hA h]) (a6m hA fun _=>L3 fun _ _=>Q1 (J4 (b06 n _ _)) a2P) P5
theorem b7G {d:Int} {ts:List Tok}:Fr k i (a1S R d ts i) (a1S S d ts i):=by
 unfold a1S;refine Q1 (L3 fun _ _=>a2t fun _=>J4 P5) (J4 (b0T hA ?_));rw[a5o (R:=R) (R.length - (i+1+1)) (R.length+S.length) [] (i+1+1) (by omega) (by omega),a5o (R:=S) (S.length - (i+1+1)) (R.length+S.length) [] (i+1+1) (by omega) (by omega)];exact U6 (b06 hA _ _ _) fun _ j=>(b0T hA P5)
end
end
section
variable {R S:List Rw} {k:Nat} (hA:a9h k R S) {rec rec':Int->Bool->Nat->PE Pr} (ha:Adv rec) (ha':Adv rec') (H:∀ d top i,Fr k i (rec d top i) (rec' d top i)) {i:Nat} {d:Int}
include hA ha ha' H
omit ha ha' in
theorem a8E {row:List Tok->E Gu} {least most:Nat}:∀ (n:Nat) (acc:List Gu) (i:Nat),Fr k i (K5 R rec row least most d n acc i) (K5 S rec' row least most d n acc i)
 | 0,_,_=>Q1 a2P P5
 | n+1,_,_=>a7Q (fun h=>by rw[a3f hA h]) (a6m hA fun _=>L3 fun _ _=>J4 (U6 (H _ _ _) fun _ _=>a8E n _ _)) P5
theorem a5C {row:List Tok->E Gu} {least most:Nat}:Fr k i (V3 R rec row least most d i) (V3 S rec' row least most d i):=by
 unfold V3;rw[a3J (R:=R) ha (R.length - i) (R.length+S.length) [] i (by omega) (by omega),a3J (R:=S) ha' (S.length - i) (R.length+S.length) [] i (by omega) (by omega)];exact a8E hA H _ _ _
omit ha ha' in
theorem a9Y:∀ (n:Nat) (acc:List Pr) (i:Nat),Fr k i (Q0 R rec d n acc i) (Q0 S rec' d n acc i)
 | 0,_,_=>P5
 | n+1,_,_=>a7Q (fun h=>by rw[a3f hA h]) (U6 (H _ _ _) fun _ _=>a9Y n _ _) P5
omit ha ha' in
theorem a9s:∀ (n:Nat) (ns:List Int) (acc:List Pr) (i:Nat),Fr k i (J9 R rec d n ns acc i) (J9 S rec' d n ns acc i)
 | 0,_,_,_=>Q1 a2P P5
 | n+1,_,_,_=>a7Q (fun h=>by rw[a3f hA h]) (a6m hA fun _=>a2t fun ts=>by
  cases a5W ts with
  | none=>exact a2P
  | some n=>exact(U6 (H _ _ _) fun _ _=>a9s _ _ _ _).step) P5
theorem b0a {c:Int} {ts:List Tok}:Fr k i (a0m R rec c d ts i) (a0m S rec' c d ts i):=by
 refine L3 fun r _=>J4 (Q1 (U6 (H _ _ _) fun _ _=>P5) ?_)
 rw[a5K (R:=R) ha (R.length - (i+1)) (R.length+S.length) [] (i+1) (by omega) (by omega),a5K (R:=S) ha' (S.length - (i+1)) (R.length+S.length) [] (i+1) (by omega) (by omega)];exact U6 (a9Y hA H _ _ _) fun _ _=>P5
theorem a5m {c:Int} {row:List Tok->E Gu} {ts:List Tok}:Fr k i (S6 R rec c row d ts i) (S6 S rec' c row d ts i):=L3 fun _ _=>J4 (U6 (a5C hA ha ha' H) fun _ _=>P5)
theorem c2n {ts:List Tok}:Fr k i (a9W R rec d ts i) (a9W S rec' d ts i):=Q1 (J4 (U6 (H _ _ _) fun _ _=>U6 (H _ _ _) fun _ _=>P5)) (a2t fun _=>a5m hA ha ha' H)
theorem c2q {ts:List Tok}:Fr k i (b1M R rec d ts i) (b1M S rec' d ts i):=L3 fun _ _=>J4 (U6 (a5C hA ha ha' H) fun _ _=>P5)
omit hA ha ha' in
theorem b9P {ts:List Tok}:Fr k i (a6g rec d ts i) (a6g rec' d ts i):=L3 fun _ _=>J4 (U6 (H _ _ _) fun _ _=>P5)
theorem b5i {ts:List Tok}:Fr k i (a0Q R rec d ts i) (a0Q S rec' d ts i):=by
 refine a2t fun _=>J4 ?_
 rw[a3K (R:=R) ha (R.length - (i+1)) (R.length+S.length) [] [] (i+1) (by omega) (by omega),a3K (R:=S) ha' (S.length - (i+1)) (R.length+S.length) [] [] (i+1) (by omega) (by omega)];exact U6 (a9s hA H _ _ _ _) fun _ _=>P5
theorem a8f {ts:List Tok}:Fr k i (S8 R rec d ts i) (S8 S rec' d ts i):=
 Q1 (L3 fun _ _=>L3 fun _ _=>J4 P5) (L3 fun _ _=>Q1 (L3 fun _ _=>J4 P5) (Q1 a2P (Q1 (L3 fun _ _=>J4 P5)
  (a2t fun _=>Q1 (J4 (U6 (a5C hA ha ha' H) fun _ _=>P5)) (Q1 (L3 fun _ _=>J4 P5) (L3 fun _ _=>J4 P5))))))
omit hA ha ha' H in
theorem b21 {s:Sp} {ts:List Tok}:Fr k i (a6X s ts i) (a6X s ts i):=a2t fun _=>Q1 (J4 P5) a2P
omit ha ha' in
theorem b9L {ts:List Tok}:Fr k i (a0h R rec d ts i) (a0h S rec' d ts i):=
 Q1 (L3 fun _ _=>U6 (b7G hA) fun _ _=>P5) (Q1 (L3 fun _ _=>L3 fun _ _=>J4 (U6 (H _ _ _) fun _ _=>b0T hA P5))
  (Q1 (L3 fun _ _=>L3 fun _ _=>a2t fun _=>L3 fun _ _=>b21) (Q1 (L3 fun _ _=>L3 fun _ _=>Q1 (L3 fun _ _=>b21) b21) P5)))
theorem b9v (s:B) {ts:List Tok}:(S4 R rec s=none/\S4 S rec' s=none)\/∃ f f',S4 R rec s=some f/\S4 S rec' s=some f'/\Fr k i (f d ts i) (f' d ts i):=by
 unfold S4;by_cases h1:s=[83,75,73,80]
 ·simp only[if_pos h1];exact .inr ⟨_,_,rfl,rfl,J4 P5⟩
 by_cases h2:s=[83,84,79,80]
 ·simp only[if_neg h1,if_pos h2];exact .inr ⟨_,_,rfl,rfl,J4 P5⟩
 by_cases h3:s=[83,69,81]
 ·simp only[if_neg h1,if_neg h2,if_pos h3];exact .inr ⟨_,_,rfl,rfl,b0a hA ha ha' H⟩
 by_cases h4:s=[80,65,82]
 ·simp only[if_neg h1,if_neg h2,if_neg h3,if_pos h4];exact .inr ⟨_,_,rfl,rfl,b0a hA ha ha' H⟩
 by_cases h5:s=[80,82,73]
 ·simp only[if_neg h1,if_neg h2,if_neg h3,if_neg h4,if_pos h5];exact .inr ⟨_,_,rfl,rfl,c2n hA ha ha' H⟩
 by_cases h6:s=[65,76,84]
 ·simp only[if_neg h1,if_neg h2,if_neg h3,if_neg h4,if_neg h5,if_pos h6];exact .inr ⟨_,_,rfl,rfl,a5m hA ha ha' H⟩
 by_cases h7:s=[73,70]
 ·simp only[if_neg h1,if_neg h2,if_neg h3,if_neg h4,if_neg h5,if_neg h6,if_pos h7];exact .inr ⟨_,_,rfl,rfl,a5m hA ha ha' H⟩
 by_cases h8:s=[67,65,83,69]
 ·simp only[if_neg h1,if_neg h2,if_neg h3,if_neg h4,if_neg h5,if_neg h6,if_neg h7,if_pos h8];exact .inr ⟨_,_,rfl,rfl,c2q hA ha ha' H⟩
 by_cases h9:s=[87,72,73,76,69]
 ·simp only[if_neg h1,if_neg h2,if_neg h3,if_neg h4,if_neg h5,if_neg h6,if_neg h7,if_neg h8,if_pos h9];exact .inr ⟨_,_,rfl,rfl,b9P H⟩
 by_cases h10:s=[80,76,65,67,69,68]
 ·simp only[if_neg h1,if_neg h2,if_neg h3,if_neg h4,if_neg h5,if_neg h6,if_neg h7,if_neg h8,if_neg h9,if_pos h10];exact .inr ⟨_,_,rfl,rfl,b5i hA ha ha' H⟩
 ·simp only[if_neg h1,if_neg h2,if_neg h3,if_neg h4,if_neg h5,if_neg h6,if_neg h7,if_neg h8,if_neg h9,if_neg h10];exact .inl ⟨trivial,trivial⟩
theorem c0s {top:Bool} {ts:List Tok}:Fr k i (a0o R rec d top ts i) (a0o S rec' d top ts i):=by
 cases ts with
 | nil=>exact a2P
 | cons t r=>
  unfold a0o;rcases b9v hA ha ha' H (i:=i) (d:=d) t.text (ts:=r) with ⟨h1,h2⟩ | ⟨f,f',h1,h2,h3⟩
  ·simp only[h1,h2]
   exact a8f hA ha ha' H
  ·simp only[h1,h2]
   exact Q1 h3 (a8f hA ha ha' H)
theorem b9Q {top:Bool}:Fr k i (a3D R rec d top i) (a3D S rec' d top i):=by
 refine a6m hA fun ts=>?_
 have hs:=b9L hA H (i:=i) (d:=d) (ts:=ts);have hm:=a6C (R:=R) (rec:=rec) (d:=d) (ts:=ts) (i:=i);have hm':=a6C (R:=S) (rec:=rec') (d:=d) (ts:=ts) (i:=i);refine U6 hs fun so j=>?_
 cases so with
 | some s=>exact U6 (H _ _ _) fun _ _=>P5
 | none=>exact c0s hA ha ha' H
end
theorem a8X {R S:List Rw} {k:Nat} (hA:a9h k R S):∀ (n:Nat) (d:Int) (top:Bool) (i:Nat),Fr k i (B1 R n d top i) (B1 S n d top i)
 | 0,_,_,_=>a2P
 | n+1,_,_,_=>b9Q hA (a5V n) (a5V n) (a8X hA n)
theorem c0C {R S:List Rw} {k:Nat} (hA:a9h k R S):Fr k 0 (a3G R) (a3G S):=by
 unfold a3G;rw[a3i (R:=R) R.length (R.length+S.length) 0 true 0 (by omega) (by omega),a3i (R:=S) S.length (R.length+S.length) 0 true 0 (by omega) (by omega)];refine U6 (a8X hA _ _ _ _) fun x j=>?_
 by_cases hj:j < k
 ·have:=hA j hj
  cases hr:R[j]? <;> cases hs:S[j]? <;> simp[hr,hs] at this ⊢
  ·exact P5
  ·rw[this.2];exact a2P
 ·refine b1e (by omega) ?_ ?_
  ·cases R[j]? <;> exact Nat.le_refl j
  ·cases S[j]? <;> exact Nat.le_refl j
theorem b0L {no dp size:Int}:∀ {l:List Rw} (n:Nat),Go.Ly.mayA no dp size l=true->0<=size->Go.Ly.mayA no dp size (l.take n)=true
 | [],n,h,_=>by rw[List.take_nil];exact h
 | x::l,0,h,hs=>by
  have hb:∀ {l:List Rw} {no dp size:Int},Go.Ly.mayA no dp size l=true->size<=65537:=by
   intro l;induction l with
   | nil=>intro no dp size h;simpa [Go.Ly.mayA] using h
   | cons y r ih=>
    intro no dp size h;unfold Go.Ly.mayA at h;split at h
    ·cases h
    ·rename_i q
     have h1:=ih h;have h2:=(Go.Ly.badR_no (by simpa using q)).2.2.1;omega
  exact decide_eq_true (hb h)
 | x::l,n+1,h,hs=>by
  rw[List.take_succ_cons];unfold Go.Ly.mayA at h ⊢;split at h
  ·cases h
  ·rename_i q
   have h2:=(Go.Ly.badR_no (by simpa using q)).2.2.1;rw[if_neg q];exact b0L n h (by omega)
theorem b2t {R:List Rw} (n:Nat) (h:Go.Ly.mayP R=true):Go.Ly.mayP (R.take n)=true:=by
 have h0:=(Go.Ly.mayP_all h).1;unfold Go.Ly.mayP at h ⊢;rw[if_neg (by omega)] at h;rw[if_neg (by rw[List.length_take];omega)];exact b0L n h (by decide)
theorem a8p (R:List Rw) (n:Nat):a9h n R (R.take n):=fun i hi=>by rw[List.getElem?_take,if_pos hi]
theorem a6Q {R:List Rw} {p:Pr} {r:Nat} {e:Int} (h:G1 R=(p,r,e)) (h0:e≠0) (h2:e≠2):Go.Ly.mayP R=true/\a3G R=.error (e,r):=by
 unfold G1 at h;by_cases hm:Go.Ly.mayP R=true
 ·rw[if_pos hm] at h
  refine⟨hm,?_⟩;cases ha:a3G R with
  | ok q=>rw[ha] at h;cases h;exact absurd rfl h0
  | error q=>rw[ha] at h;cases h;rfl
 ·rw[if_neg hm] at h;cases h;exact absurd rfl h2
theorem b3G {R:List Rw} {r:Nat} {e:Int} (hm:Go.Ly.mayP R=true) (h:a3G R=.error (e,r)):(G1 R).2=(r,e):=by
 unfold G1;rw[if_pos hm,h]
theorem a5z {R S:List Rw} {p:Pr} {r:Nat} {e:Int} (h:G1 R=(p,r,e)) (h0:e≠0) (h2:e≠2) (hS:Go.Ly.mayP S=true) (hA:a9h (r+1) R S):(G1 S).2=(r,e):=by
 obtain⟨hR,ha⟩:=a6Q h h0 h2;refine b3G hS ?_;rcases(c0C hA).e with q | ⟨q,_⟩
 ·rw[<- q,ha]
 ·rw[ha] at q
  have q:r+1<=r:=q;omega
theorem b7n {R:List Rw} {p:Pr} {r:Nat} {e:Int} (h:G1 R=(p,r,e)) (h0:e≠0) (h2:e≠2) (hr:r < R.length):(G1 (R.take r)).2=(0,0)\/(G1 (R.take r)).2=(r,110):=by
 obtain⟨hR,ha⟩:=a6Q h h0 h2;have hT:=b2t r hR;have hl:(R.take r).length=r:=by rw[List.length_take];omega
 have hge:r<=atR (a3G (R.take r)):=by
  rcases(c0C (a8p R r)).e with q | ⟨_,q⟩
  ·rw[<- q,ha];exact Nat.le_refl r
  ·exact q
 have hb:=a7R (R:=R.take r) (R.take r).length 0 true 0 (Nat.zero_le _);cases ht:a3G (R.take r) with
 | ok q=>
  left
  unfold G1;rw[if_pos hT,ht]
 | error q=>
  obtain⟨e',j⟩:=q;right
  rw[ht] at hge;have hge:r<=j:=hge;rw[b3G hT ht];unfold a3G at ht;cases hq:B1 (R.take r) (R.take r).length 0 true 0 with
  | error q=>
   rw[hq] at ht hb;cases ht;obtain⟨_,h5,h6⟩:=hb;have:j=r:=by omega
   subst this;rw[h6 hl.symm]
  | ok q=>
   obtain⟨x,i⟩:=q;rw[hq,c3x] at ht;cases hi:(R.take r)[i]? with
   | none=>rw[hi] at ht;cases ht
   | some y=>
    rw[hi] at ht;have:=(List.getElem?_eq_some_iff.1 hi).1;cases ht;omega
end
section
open Go.Eng Go.Pc Go
open Go.Xp hiding B
open Go.Ty (Ty Vr Tok)
open Go.Ly (Rw)
def a3Y (R:List Rw):List (Int × B):=R.map fun x=>(x.depth,x.text)
section
variable {R S:List Rw}
end
end
section
open Go.Eng Go.Pc Go
open Go.Xp hiding B C2
open Go.Ly (Rw)
def RwB (r:Rw):Prop:=((-9223372036854775808<=r.no/\r.no<=9223372036854775807)/\(-9223372036854775808<=r.depth/\r.depth<=9223372036854775807))/\r.text.length<=140737488355328
end
end Go.Sx
namespace Go.Ly
section
open Go.Eng
def noD (s:B):Prop:=∀ k:Nat,s[k]?=some 45->s[k+1]?≠some 45
theorem b3t:∀ s:B,noD (a7x s)
 | []=>fun k h=>by simp[a7x] at h
 | c::l=>by
  unfold a7x;split
  ·exact fun k h=>by simp at h
  ·rename_i hn
   have ih:=b3t l;intro k h1 h2;cases k with
   | zero=>
    simp only[List.getElem?_cons_zero,Option.some.injEq] at h1;simp only[List.getElem?_cons_succ] at h2;apply hn;rw[h1];cases l with
    | nil=>simp[a7x] at h2
    | cons d r=>
     unfold a7x at h2;split at h2
     ·simp at h2
     ·simpa using h2
   | succ k=>
    simp only[List.getElem?_cons_succ] at h1 h2;exact ih k h1 h2
theorem c3l:∀ {s:B},noD s->a7x s=s
 | [],_=>rfl
 | c::l,h=>by
  have ih:a7x l=l:=c3l fun k h1 h2=>h (k+1) (by simpa using h1) (by simpa using h2)
  unfold a7x;rw[ih,if_neg];intro e;simp only[Bool.and_eq_true,beq_iff_eq] at e;refine h 0 (by simp[e.1]) ?_;rw[List.getElem?_cons_succ,<- List.head?_eq_getElem?];exact e.2
theorem c1o {a b:B} (ha:noD a) (hb:noD b):noD (a++32::b):=fun k h1 h2=>by
 rcases Nat.lt_trichotomy k a.length with h | h | h
 ·rw[List.getElem?_append_left h] at h1
  rcases Nat.lt_or_ge (k+1) a.length with h' | h'
  ·rw[List.getElem?_append_left h'] at h2
   exact ha k h1 h2
  ·rw[List.getElem?_append_right h',show k+1 - a.length=0 by omega] at h2
   simp at h2
 ·rw[List.getElem?_append_right (by omega),show k - a.length=0 by omega] at h1
  simp at h1
 ·rw[List.getElem?_append_right (by omega),show k - a.length=(k - a.length - 1)+1 by omega,List.getElem?_cons_succ] at h1
  rw[List.getElem?_append_right (by omega),show k+1 - a.length=(k - a.length - 1+1)+1 by omega,List.getElem?_cons_succ] at h2;exact hb _ h1 h2
theorem b0C:∀ {s:B},noD s->Lib.index s [45,45]=-1
 | [],_=>rfl
 | c::l,h=>by
  have ih:Lib.index l [45,45]=-1:=b0C fun k h1 h2=>h (k+1) (by simpa using h1) (by simpa using h2)
  unfold Lib.index;rw[c4t,ih,if_neg]
  ·rfl
  ·intro e
   simp only[Bool.and_eq_true,beq_iff_eq] at e;refine h 0 (by simp[e.1]) ?_;rw[List.getElem?_cons_succ,<- List.head?_eq_getElem?];exact e.2
theorem b1w {s:B} (h:noD s):Lib.contains s [45,45]=false:=by
 unfold Lib.contains;rw[b0C h];rfl
theorem b0X {s:B} (h:Lib.contains s [45,45]=false):noD s:=by
 have e:=c1e s;unfold Lib.contains at h;unfold Lib.cut at e;rw[if_neg (by simpa using h)] at e;have:=b3t s;rw[<- e] at this;exact this
structure TxtV (s:B):Prop where
 ne:s≠[]
 hd:s.head?≠some 32
 ls:s.getLast?≠some 32
 nd:noD s
 ok:s.all okB=true
theorem TxtV.join {a b:B} (ha:TxtV a) (hb:TxtV b):TxtV (a++32::b) where
 ne:=by simp
 hd:=by
  rw[List.head?_append];cases h:a.head? with
  | none=>exact absurd (List.head?_eq_none_iff.1 h) ha.ne
  | some c=>have:=ha.hd;rw[h] at this;exact this
 ls:=by
  rw[show a++32::b=(a++[32])++b by simp,List.getLast?_append];cases h:b.getLast? with
  | none=>exact absurd (List.getLast?_eq_none_iff.1 h) hb.ne
  | some c=>have:=hb.ls;rw[h] at this;exact this
 nd:=c1o ha.nd hb.nd
 ok:=by
  rw[List.all_append,ha.ok,List.all_cons,hb.ok];rfl
theorem c1i {s:B} (h:s.getLast?≠some 32):Lib.trimRightB s 32=s:=by
 rcases List.eq_nil_or_concat s with rfl | ⟨l,c,rfl⟩
 ·rfl
 ·rw[List.concat_eq_append] at h ⊢
  refine b5p ?_;simpa using h
theorem b9V {s:B} (h:s.head?≠some 32):Lib.trimLeftB s 32=s:=by
 cases s with
 | nil=>rfl
 | cons c l=>
  have hc:(c==32)=false:=by simpa using h
  simp[Lib.trimLeftB,List.dropWhile,hc]
theorem TxtV.valid {s:B} (h:TxtV s) (hl:s.length<=256) (hc:a7A s=false):validP s=true:=by
 have h1:b7q s=false:=by
  simp only[b7q,Bool.or_eq_false_iff,decide_eq_false_iff_not,bne_eq_false_iff_eq,beq_eq_false_iff_ne];refine⟨⟨⟨⟨h.ne,by omega⟩,?_⟩,b1w h.nd⟩,hc⟩;unfold Lib.trimB;rw[c1i h.ls,b9V h.hd]
 unfold validP;rw[h1,h.ok];rfl
theorem TxtV.of_valid {s:B} (h:validP s=true):TxtV s:=by
 obtain⟨h1,h2,h3,h4,h5,h6⟩:=validP_spec h;have hL:∀ l:B,(Lib.trimLeftB l 32).head?≠some 32:=by
  intro l e;have:=List.head?_dropWhile_not (·==(32:UInt8)) l;unfold Lib.trimLeftB at e;rw[e] at this;simp at this
 have hR:∀ l:B,(Lib.trimRightB l 32).getLast?≠some 32:=by
  intro l e;unfold Lib.trimRightB at e;rw[List.getLast?_reverse] at e;exact hL l.reverse e
 have hll:∀ l:B,(Lib.trimLeftB l 32).length<=l.length:=fun l=>(List.dropWhile_sublist _).length_le
 have hrl:∀ l:B,(Lib.trimRightB l 32).length<=l.length:=fun l=>by
  unfold Lib.trimRightB;rw[List.length_reverse];exact Nat.le_trans (List.dropWhile_sublist _).length_le (by simp)
 refine⟨h1,?_,?_,b0X h4,h6⟩
 ·rw[<- h3]
  exact hL _
 ·-- trimming on the left took nothing
  have e1:(Lib.trimLeftB (Lib.trimRightB s 32) 32).length=s.length:=by show(Lib.trimB s 32).length=_;rw[h3]
  have h7:=hll (Lib.trimRightB s 32);have h8:=hrl s;have h9:Lib.trimLeftB (Lib.trimRightB s 32) 32=Lib.trimRightB s 32:=(List.dropWhile_sublist _).eq_of_length (by unfold Lib.trimLeftB at e1 h7;omega);rw[<- h3];show(Lib.trimLeftB (Lib.trimRightB s 32) 32).getLast?≠_;rw[h9];exact hR s
end
section
open Go.Eng
def a9e:B->Bool
 | a::b::r=>(a==45&&b==45)||a9e (b::r)
 | _=>false
theorem b2P:∀ {s:B},a9e s=false->noD s
 | [],_=>fun k h=>by simp at h
 | [a],_=>fun k h1 h2=>by simp at h2
 | a::b::r,h=>by
  unfold a9e at h;rw[Bool.or_eq_false_iff] at h;have ih:=b2P h.2;intro k h1 h2;cases k with
  | zero=>
   simp only[List.getElem?_cons_zero,Option.some.injEq] at h1;simp only[List.getElem?_cons_succ,List.getElem?_cons_zero,Option.some.injEq] at h2;rw[h1,h2] at h;exact absurd h.1 (by decide)
  | succ k=>exact ih k (by simpa using h1) (by simpa using h2)
theorem b3v:∀ {s:B},noD s->a9e s=false
 | [],_=>rfl
 | [a],_=>rfl
 | a::b::r,h=>by
  unfold a9e;rw[b3v (s:=b::r) fun k h1 h2=>h (k+1) (by simpa using h1) (by simpa using h2),Bool.or_false];by_cases e:(a==45&&b==45)=true
  ·simp only[Bool.and_eq_true,beq_iff_eq] at e
   exact absurd (by simp[e.2]) (h 0 (by simp[e.1]))
  ·simpa using e
theorem c2Y {s:B} {k:Nat} {c d:UInt8} (hc:s[k]?=some c) (hd:s[k+1]?=some d):a9e (s.drop k)=((c==45&&d==45)||a9e (s.drop (k+1))):=by
 rw[S7 hc,S7 hd];rfl
theorem b8L {s:B} {k:Nat} (h:s.length<=k+1):a9e (s.drop k)=false:=by
 have hl:(s.drop k).length<=1:=by rw[List.length_drop];omega
 match s.drop k,hl with
 | [],_=>rfl
 | [a],_=>rfl
def a8m (s:B):Bool:=((((decide ((s.length:Int) < 1)||decide ((s.length:Int) > 256))||(s.getD 0 0==32))||(s.getD (s.length - 1) 0==32))||a7A s)
def b0H (s:B):Bool:=!a8m s&&(!a9e s&&s.all okB)
theorem c3B (s:B):b0H s=validP s:=by
 rcases Nat.eq_zero_or_pos s.length with h0 | h0
 ·rw[List.eq_nil_of_length_eq_zero h0]
  decide
 ·have hne:s≠[]:=List.length_pos_iff.1 h0
  have hh:s.head?=some (s.getD 0 0):=by
   rw[List.head?_eq_getElem?,List.getD_eq_getElem?_getD,List.getElem?_eq_getElem h0];rfl
  have hl:s.getLast?=some (s.getD (s.length - 1) 0):=by
   rw[List.getLast?_eq_getElem?,List.getD_eq_getElem?_getD,List.getElem?_eq_getElem (by omega)];rfl
  rw[Bool.eq_iff_iff];constructor
  ·intro h
   simp only[b0H,a8m,Bool.and_eq_true,Bool.not_eq_true',Bool.or_eq_false_iff,decide_eq_false_iff_not,beq_eq_false_iff_ne] at h;obtain⟨⟨⟨⟨⟨h1,h2⟩,h3⟩,h4⟩,h5⟩,h6,h7⟩:=h;exact TxtV.valid ⟨hne,by rw[hh];simpa using h3,by rw[hl];simpa using h4,b2P h6,h7⟩ (by omega) h5
  ·intro h
   have hv:=TxtV.of_valid h;obtain⟨_,h2,_,_,h5,h6⟩:=validP_spec h;have h3:=hv.hd;have h4:=hv.ls;rw[hh] at h3;rw[hl] at h4;simp only[b0H,a8m,Bool.and_eq_true,Bool.not_eq_true',Bool.or_eq_false_iff,decide_eq_false_iff_not,beq_eq_false_iff_ne];exact⟨⟨⟨⟨⟨by omega,by omega⟩,by simpa using h3⟩,by simpa using h4⟩,h5⟩,b3v hv.nd,h6⟩
theorem b3b (no dp:Int) (x:Rw):(((((decide (x.no < no+1)||decide (x.no > 65536))||decide (x.depth < 0))||decide (x.depth > dp+1))||decide (x.depth > 32))||!validP x.text)=a9N no dp x:=by
 unfold a9N;congr 1
 rw[Bool.eq_iff_iff];simp only[Bool.or_eq_true,decide_eq_true_eq];split <;> omega
end
end Go.Ly
namespace Go.Eng
section
open Go Go.RowKit
section
variable {P:Program} {ops:Array Oper} {Q:Exit->Act->World->Prop} {n:Cx} {F:Fm} {h h':List Res} {m:View} {rest:List Oper}
variable {ty:TypeId} {pos:String} {after:Array Edge} {d:Nat}
theorem c0t (w:World) {t e ty:TypeId} {sz by_:Nat} (E:EL P t e sz by_) {a b:Option Addr} {l cap k c:Nat} {xs ys:List Value} (hown:w.ownsRow 0 e sz (.slice a l cap) l xs) (h0:0 < l)
 (hl:ys.length=k * sz) (hys:∀ j u,ys[j]?=some u->∃ b0 off,b=some ⟨b0,off,none⟩/\w.cell? ⟨b0,off+j,none⟩=some u) (h1:∀ u ∈ ys,u.oneCell'=true)
 (h63:l+k<=9223372036854775807) (hbytes:(l+k+(l+k) / 4+192) * by_<=281474976710656) :
 ∃ a' cap' w',(Builtin.append_ #[t,t] ty #[.slice a l cap,.slice b k c]).run P w=.ok (.slice a' (l+k) cap') w'/\w'.ownsRow 0 e sz (.slice a' (l+k) cap') (l+k) (xs++ys)/\w.grownBy w' (Value.slice a l cap).ownBlock /\
  ∀ x,(Value.slice a' (l+k) cap').ownBlock=some x->(Value.slice a l cap).ownBlock=some x\/w.heap.size<=x:=by
 obtain⟨i,z,ht,hi,hz,hsize,hby,hzs,hsz⟩:=E.ex;subst hsize hby
 have hm63:l+k<=maxLen:=by unfold maxLen;omega
 have hlen:(xs++ys).length=(l+k) * i.size:=by rw[List.length_append,hown.1,hl,Nat.add_mul]
 cases b with
 | none=>
  have hy0:ys=[]:=by
   cases ys with
   | nil=>rfl
   | cons y ys=>obtain⟨b0,off,e0,_⟩:=hys 0 y rfl;cases e0
  subst hy0;have hk0:k=0:=by
   rcases Nat.mul_eq_zero.1 hl.symm with h | h
   ·exact h
   ·omega
  subst hk0;have hle:=(a6I hown).1;refine⟨a,cap,w,?_,by simpa using hown,⟨rfl,rfl,rfl,Nat.le_refl _,fun _ _ _=>rfl⟩,fun x hx=>.inl hx⟩;cases a <;> simp[Builtin.append_,run_underlying ht,sizeOf,typeInfo,hi,Builtin.lenOf,Builtin.firstCells,hle,storeCells]
 | some ad=>
  have hnews:∀ j u,ys[j]?=some u->w.cell? (ad.add j)=some u:=by
   intro j u hj;obtain⟨b0,off,e0,hc⟩:=hys j u hj;cases e0;rw[Addr.add_lit];exact hc
  rcases hown.2 with ⟨hv,hl0⟩ | ⟨g,cap0,cur,hv,_,hg,hnc,hcm,hcs,htake⟩
  ·omega
  ·simp only[Value.slice.injEq] at hv
   obtain⟨rfl,_,rfl⟩:=hv;by_cases hroom:l+k<=cap
   ·have hfit:l * i.size+ys.length<=cur.size:=by rw[hl,hcs,<- Nat.add_mul];exact Nat.mul_le_mul_right _ hroom
    have hr:=run_append_room (P:=P) w t ty e i ht hi g l cap cur hg ad k c ys hl hnews h1 hroom hfit;refine⟨_,_,_,hr,⟨hlen,.inr ⟨g,cap,_,rfl,Nat.zero_le _,setRow_heap w g cur _ e _ hg,hroom,hcm,?_,?_⟩⟩,⟨rfl,rfl,rfl,by simp,fun k _ hk=>setRow_other w g k _ (fun e=>hk (by simp[Value.ownBlock,e]))⟩,fun x hx=>.inl hx⟩
    ·simp only[List.size_toArray,List.length_append,List.length_take,List.length_drop,Array.length_toList]
     omega
    ·rw[htake,<- hlen]
     exact List.take_left
   ·have holds:∀ j u,xs[j]?=some u->w.cell? ((⟨g,0,none⟩:Addr).add j)=some u:=hown.cells (g:=g) rfl
    have hr:=run_append_grow (P:=P) w t ty e i z ht hi hz ⟨g,0,none⟩ l cap xs hown.1 holds ad k c ys hl hnews (by omega) (by omega) (growslice_fits_wide (by omega) hbytes);have hge:=grownCap_ge w (l+k) cap e;have hcm2:grownCap w (l+k) cap e<=maxLen:=grownCap_le_maxLen w (l+k) cap e hm63;refine⟨_,_,_,hr,⟨hlen,.inr ⟨w.heap.size,_,_,rfl,Nat.zero_le _,a4B w.drew _,hge,hcm2,?_,?_⟩⟩,⟨rfl,rfl,rfl,by simp,fun k hk _=>a4O w.drew _ k hk⟩,fun x hx=>by simp only[Value.ownBlock,Option.some.injEq] at hx;right;omega⟩
    ·simp only[Array.size_append,List.size_toArray,size_zeroCells,hzs,hown.1,hl,<- Nat.add_mul]
     congr 1
     omega
    ·simp only[Array.toList_append,List.append_assoc]
     rw[<- List.append_assoc,<- hlen];exact List.take_left
theorem b4V {x y:Operand} {t e:TypeId} {sz by_ l cap k c l':Nat} {a b:Option Addr} {xs ys zs:List Value} {hq:Value->List Res} (E:EL P t e sz by_) (ex:Ev n F x (.slice a l cap)) (ey:Ev n F y (.slice b k c))
 (rd:Rd m h b k c sz ys) (h1:∀ u ∈ ys,u.oneCell'=true) (hl:l+k=l') (hz:xs++ys=zs) (h0:0 < l) (h63:l'<=9223372036854775807) (hbytes:(l'+l' / 4+192) * by_<=281474976710656)
 (u:∀ v',Upd h (.row (.slice a l cap) e sz l xs) (.row v' e sz l' zs) (hq v')) (hd:d < n.num) (kk:∀ a' cap',WL P ops Q n rest ((d,.slice a' l' cap')::F) (hq (.slice a' l' cap')) m) :
 WL P ops Q n (⟨some d,.call ⟨.builtin .append,#[x,y],#[t,t]⟩,ty,pos,after,none⟩::rest) F h m:=.mk fun f w hf hs=>by
 subst hl hz;have hown:w.ownsRow 0 e sz (.slice a l cap) l xs:=hs.ok _ (u undef).mem;obtain⟨a',cap',w',hr,hown',hg,hfp⟩:=c0t (P:=P) w (ty:=ty) (c:=c) E hown h0 rd.len (rd.at_ w hs) h1 h63 hbytes;refine E9 rfl (M9 (v:=.slice a' (l+k) cap') (w':=w') ?_ (kk a' cap' _ _ (hf.put hd _) ?_))
 ·simp[execOp,resolve,invoke,builtin,ex f hf,ey f hf,hr]
 ·exact hs.upd (u _) hg.os hg.output hg.tape (fun q hq hne=>hg.block q hq (fun e=>hne e.symm)) hown' hfp
end
end
end Go.Eng

import Derived.Test.YtgcjpahhljmlmaaGreatDoorLParsesY2
import Derived.Lib.AppendZerosOnto
namespace Go.Ty
section
open Go.Lx
def B5(x:Tok):Tok:={ x with at_:=0 }
def a6r:Lt->Lt->Bool
 |_,[]=>true
 | [],_::_=>false
 |x::l,y::w=>eqK (B5 x) y&&a6r l w
theorem b0t:∀{l w:Lt},l.length<w.length->a6r l w=false
 |_,[],h=>by simp at h
 | [],_::_,_=>rfl
 |x::l,y::w,h=>by unfold a6r;rw[b0t (by simpa using h),zB]
theorem b9V{l w:Lt}{j:Nat}{x y:Tok}(hx:l[j]?=some x)(hy:w[j]?=some y):a6r (l.drop j) (w.drop j)=(eqK (B5 x) y&&a6r (l.drop (j+1)) (w.drop (j+1))):=by have h1:j<l.length:=(qd.1 hx).1;have h2:j<w.length:=(qd.1 hy).1;rw[qq h1,(qd.1 hx).2,qq h2,(qd.1 hy).2];rfl
theorem c1R(l:Lt){w:Lt}{j:Nat}(h:w.length<=j):a6r (l.drop j) (w.drop j)=true:=by rw[qb h];cases l.drop j<;>rfl
def M(l:Lt)(i:Nat)(y:Tok):Prop:=∃x,l[i]?=some x/\B5 x=y
def a1i(l:Lt):Nat->Lt->Prop
 |_,[]=>True
 |i,y::w=>M l i y/\a1i l (i+1) w
theorem M.lt{l:Lt}{i:Nat}{y:Tok}(a:M l i y):i<l.length:=by obtain⟨x,hx,_⟩:=a;exact(qd.1 hx).1
theorem U7(l:Lt):∀(u w:Lt)(i:Nat),a1i l i (u++w)↔a1i l i u/\a1i l (i+u.length) w
 | [],w,i=>by simp[a1i]
 |y::u,w,i=>by
  show(M l i y/\a1i l (i+1) (u++w))↔(M l i y/\a1i l (i+1) u)/\a1i l (i+(u.length+1)) w;rw[U7 l u w (i+1),and_assoc,show i+1+u.length=i+(u.length+1) by omega]
theorem a9O(l:Lt):∀(w:Lt)(i:Nat),a6r (l.drop i) w=true↔a1i l i w
 | [],i=>by cases l.drop i<;>simp[a6r,a1i]
 |y::w,i=>by
  by_cases h:i<l.length
  ·have hx:l[i]?=some l[i]:=qk h
   rw[qq h];show(eqK (B5 l[i]) y&&a6r (l.drop (i+1)) w)=true↔M l i y/\a1i l (i+1) w;rw[qa,eqK_iff,a9O l w (i+1)];constructor
   ·rintro⟨a,b⟩;exact⟨⟨_,hx,a⟩,b⟩
   ·rintro⟨⟨x,hx',a⟩,b⟩;rw[hx]at hx';cases hx';exact⟨a,b⟩
  ·rw[qb (by omega)]
   constructor
   ·intro h;cases h
   ·rintro⟨m,_⟩;exact absurd m.lt h
theorem a1B{l:Lt}{i:Nat}{y:Tok}:M l i y↔i<l.length/\B5 (G1 l i)=y:=by
 constructor
 ·intro m
  have h:=m.lt;obtain⟨x,hx,e⟩:=m;rw[a1q h]at hx;cases hx;exact⟨h,e⟩
 ·rintro⟨h,e⟩;exact⟨_,a1q h,e⟩
theorem O3{l:Lt}{i:Nat}{kd:Int}{s:B}(h3:kd≠3):next l i kd s=true↔M l i ⟨kd,0,s,0⟩:=by
 rw[a1B];unfold next a0z B5;generalize G1 l i=x;cases x;simp[h3];constructor
 ·rintro⟨⟨⟨a,b⟩,c⟩,d⟩;exact⟨a,b,c,d⟩
 ·rintro⟨a,b,c,d⟩;exact⟨⟨⟨a,b⟩,c⟩,d⟩
theorem c1t{l:Lt}{i:Nat}{s:B}:next l i 3 s=true↔M l i ⟨3,0,s,(G1 l i).n⟩:=by
 rw[a1B];unfold next a0z B5;generalize G1 l i=x;cases x;simp;constructor
 ·rintro⟨⟨a,b⟩,c⟩;exact⟨a,b,c⟩
 ·rintro⟨a,b,c⟩;exact⟨⟨a,b⟩,c⟩
theorem a3d{l:Lt}{i:Nat}{kd:Int}{s:B}{y:Tok}(m:M l i y)(h:y.kind≠kd\/y.text≠s):next l i kd s=false:=by
 cases hn:next l i kd s with
 |false=>rfl
 |true=>
  exfalso;obtain⟨_,e⟩:=a1B.1 m;subst e;unfold next a0z at hn;simp at hn;rcases h with h|h
  ·exact h hn.1.1.2
  ·exact h hn.1.2
theorem a9c(l:Lt)(i:Nat):named l i=if next l i 2 wINT then some 1 else if next l i 2 wBYTE then some 2 else if next l i 2 wBOOL then some 3 else none:=rfl
theorem is_three{k:Int}(h:is k=true):k=1\/k=2\/k=3:=by rw[b5B]at h;unfold prim at h;simp at h;omega
theorem b0w{l:Lt}{i:Nat}{k:Int}(h:named l i=some k):is k=true/\M l i (I2 (wordS k).1):=by
 rw[a9c]at h;split at h
 ·cases h;rename_i hn;exact⟨by decide,(O3 (by decide)).1 hn⟩
 ·split at h
  ·cases h;rename_i hn;exact⟨by decide,(O3 (by decide)).1 hn⟩
  ·split at h
   ·cases h;rename_i hn;exact⟨by decide,(O3 (by decide)).1 hn⟩
   ·cases h
theorem b4l{l:Lt}{i:Nat}{k:Int}(h:is k=true)(m:M l i (I2 (wordS k).1)):named l i=some k:=by
 rw[a9c];rcases is_three h with rfl|rfl|rfl
 ·have m':M l i (I2 wINT):=m
  rw[if_pos ((O3 (by decide)).2 m')]
 ·have m':M l i (I2 wBYTE):=m
  rw[if_neg (by rw[a3d m' (.inr (by decide))];decide),if_pos ((O3 (by decide)).2 m')]
 ·have m':M l i (I2 wBOOL):=m
  rw[if_neg (by rw[a3d m' (.inr (by decide))];decide),if_neg (by rw[a3d m' (.inr (by decide))];decide),if_pos ((O3 (by decide)).2 m')]
theorem a9A{l:Lt}{i:Nat}{y:Tok}(m:M l i y)(h:y.kind≠2\/(y.text≠wINT/\y.text≠wBYTE/\y.text≠wBOOL)):named l i=none:=by rw[a9c];rw[if_neg (by rw[a3d m (h.imp_right λh=>h.1)];decide),if_neg (by rw[a3d m (h.imp_right λh=>h.2.1)];decide),if_neg (by rw[a3d m (h.imp_right λh=>h.2.2)];decide)]
inductive Shape(t:Ty):Prop where
 |plain (k d:Int) (hk:is k=true) (e:t=⟨k,d,0,[]⟩)
 |timer (e:t=⟨5,0,0,[]⟩)
 |item (k d:Int) (hk:is k=true) (e:t=⟨4,d,k,[]⟩)
 |proto (s:B) (d:Int) (hs:name s=true) (e:t=⟨4,d,0,s⟩)
theorem may_shape{t:Ty}(h:may t=true):Shape t:=by
 obtain⟨k,d,i,s⟩:=t;by_cases hk:is k=true
 ·unfold may at h
  split at h
  ·cases h
  ·simp only[qa,qU]at h
   obtain⟨rfl,rfl⟩:=h;exact .plain k d hk rfl
 ·by_cases h4:k=4
  ·subst h4
   rcases a5r h (by simp)with⟨h0,hn⟩|⟨hi,h0⟩
   ·simp only at h0 hn;subst h0;exact .proto s d hn rfl
   ·simp only at h0 hi;subst h0;exact .item i d hi rfl
  ·unfold may at h
   split at h
   ·cases h
   ·rw[if_pos (by simpa using h4),eqT_iff]at h
    exact .timer h
theorem b2t(k d:Int)(hk:is k=true):toks ⟨k,d,0,[]⟩=dimT ⟨k,d,0,[]⟩++[I2 (wordS k).1]:=by unfold toks;rw[qj];rcases is_three hk with rfl|rfl|rfl<;>rfl
theorem b2R(k d:Int)(hk:is k=true):toks ⟨4,d,k,[]⟩=dimT ⟨4,d,k,[]⟩++[I2 a1e,I2 cOF,I2 (wordS k).1]:=by unfold toks;rw[qj];rcases is_three hk with rfl|rfl|rfl<;>rfl
theorem c6u{s:B}(h:name s=true):s≠[]:=by rintro rfl;cases h
theorem b0z(s:B)(d:Int)(hs:name s=true):toks ⟨4,d,0,s⟩=dimT ⟨4,d,0,s⟩++[I2 a1e,I2 cOF,⟨1,0,s,0⟩]:=by
 unfold toks;rw[qj];unfold lastT;have:(s==[])=false:=by simpa using c6u hs
 simp only[this];rfl
theorem c3L{t:Ty}(h:may t=true):∃s w,toks t=dimT t++I2 s::w:=by
 cases may_shape h with
 |plain k d hk e=>subst e;exact⟨_,_,b2t k d hk⟩
 |timer e=>subst e;exact⟨_,_,rfl⟩
 |item k d hk e=>subst e;exact⟨_,_,b2R k d hk⟩
 |proto s d hs e=>subst e;exact⟨_,_,b0z s d hs⟩
theorem c7Q{t:Ty}(l:Lt)(h:may t=true)(hb:a1i l 0 (toks t)):pre l=(true,t.dim,(dimT t).length):=by
 have hd:=may_dim h;obtain⟨s,w,e⟩:=c3L h;rw[e,U7]at hb;by_cases h0:t.dim=0
 ·have ed:dimT t=[]:=by unfold dimT;rw[h0];rfl
  rw[ed]at hb⊢;rw[c1Q (a3d hb.2.1 (.inl (show(2:Int)≠5 by decide))),h0];rfl
 ·have ed:dimT t=[D3 lb,⟨3,0,[],t.dim⟩,D3 rb]:=by unfold dimT;rw[if_pos (by simp;omega)]
  rw[ed]at hb⊢;obtain⟨⟨m0,m1,m2,_⟩,_⟩:=hb;have en:(G1 l 1).n=t.dim:=by obtain⟨_,e1⟩:=a1B.1 m1;exact congrArg Tok.n e1
  rw[b6m ((O3 (by decide)).2 m0) (c1t.2 (by rw[en];exact m1)),en,(O3 (by decide)).2 m2];have:decide (t.dim>0)=true:=by simp;omega
  rw[this];rfl
theorem b1O{l:Lt}{d:Int}{n:Nat}{k:Int}(hP:pre l=(true,d,n))(hn:named l n=some k):mid l=(true,⟨k,d,0,[]⟩,n+1):=by unfold mid;rw[hP];simp only[hn]
theorem a9r{l:Lt}{d:Int}{n:Nat}(hP:pre l=(true,d,n))(m0:M l n (I2 a1e))(m1:M l (n+1) (I2 cOF)):mid l=(match named l (n+2)with
 |some k=>(true,⟨4,d,k,[]⟩,n+3)
 |none=>if decide ((n+2:Nat)<(l.length:Int))&&next l (n+2) 1 (G1 l (n+2)).text then(true,⟨4,d,0,(G1 l (n+2)).text⟩,n+3)else(true,⟨4,d,0,[]⟩,n+2)):=by
 unfold mid;rw[hP];simp only[a9A m0 (.inr (by decide)),(O3 (show(2:Int)≠3 by decide)).2 m0,(O3 (show(2:Int)≠3 by decide)).2 m1,if_true];cases named l (n+2)<;>rfl
theorem a5w{t:Ty}{l:Lt}(h:may t=true)(hb:a1i l 0 (toks t)):front l=(t,(toks t).length,0):=by
 have hP:=c7Q l h hb;have hM:mid l=(true,t,(toks t).length):=by
  cases may_shape h with
  |plain k d hk e=>subst e;rw[b2t k d hk]at hb⊢;rw[U7,qI]at hb;rw[b1O hP (b4l hk hb.2.1),qh];rfl
  |timer e=>subst e;have m:M l 0 (I2 a2Z):=hb.1;exact b3b hP (a9A m (.inr (by decide))) (a3d m (.inr (by decide))) ((O3 (by decide)).2 m)
  |item k d hk e=>subst e;rw[b2R k d hk]at hb⊢;rw[U7,qI]at hb;obtain⟨_,m0,m1,m2,_⟩:=hb;rw[a9r hP m0 m1,b4l hk m2,qh];rfl
  |proto s d hs e=>
   subst e;rw[b0z s d hs]at hb⊢;rw[U7,qI]at hb;obtain⟨_,m0,m1,m2,_⟩:=hb;have m2':M l ((dimT ⟨4,d,0,s⟩).length+2) ⟨1,0,s,0⟩:=m2;have et:(G1 l ((dimT ⟨4,d,0,s⟩).length+2)).text=s:=congrArg Tok.text (a1B.1 m2').2;have hlt:=m2'.lt;rw[a9r hP m0 m1,a9A m2' (.inl (show(1:Int)≠2 by decide)),et];have c:(decide ((((dimT ⟨4,d,0,s⟩).length+2:Nat):Int)<(l.length:Int))&&next l ((dimT ⟨4,d,0,s⟩).length+2) 1 s)=true:=by rw[(O3 (by decide)).2 m2',za];exact zh (by omega)
   simp only[c,if_true,qh];rfl
 exact b2k hM (by rw[h];rfl)
theorem b2p{l:Lt}{d:Int}{n:Nat}(h:pre l=(true,d,n))(t:Ty)(e:t.dim=d):n=(dimT t).length/\a1i l 0 (dimT t):=by
 by_cases h0:next l 0 5 lb=true
 ·by_cases h1:next l 1 3 []=true
  ·rw[b6m h0 h1]at h
   simp only[Prod.mk.injEq]at h;obtain⟨hc,hd,hn⟩:=h;rw[hc]at hn;simp only[qa,qw]at hc;have ed:dimT t=[D3 lb,⟨3,0,[],t.dim⟩,D3 rb]:=by unfold dimT;rw[if_pos (by simp;omega)]
   rw[ed];refine⟨hn.symm,(O3 (by decide)).1 h0,?_,(O3 (by decide)).1 hc.2,trivial⟩;rw[e,<-hd];exact c1t.1 h1
  ·rw[c0X h0 (by simpa using h1)]at h
   cases h
 ·rw[c1Q (by simpa using h0)]at h
  cases h;have ed:dimT t=[]:=by unfold dimT;rw[e];rfl
  rw[ed];exact⟨rfl,trivial⟩
theorem c8p{l:Lt}{t:Ty}{n:Nat}(h:mid l=(true,t,n))(hm:may t=true):a1i l 0 (toks t):=by
 obtain⟨⟨b,d,n0⟩,hP⟩:∃p,pre l=p:=⟨_,rfl⟩;cases b with
 |false=>unfold mid at h;rw[hP]at h;cases h
 |true=>
  cases hn:named l n0 with
  |some k=>rw[b1O hP hn]at h;cases h;obtain⟨hk,m⟩:=b0w hn;obtain⟨e,hb⟩:=b2p hP ⟨k,d,0,[]⟩ rfl;rw[b2t k d hk,U7];subst e;exact⟨hb,by rw[qI];exact m,trivial⟩
  |none=>
   cases hc:next l n0 2 a1e with
   |true=>
    have m0:M l n0 (I2 a1e):=(O3 (by decide)).1 hc;cases ho:next l (n0+1) 2 cOF with
    |false=>unfold mid at h;rw[hP]at h;simp only[hn,hc,ho,if_true,qp,if_false]at h;cases h
    |true=>
     have m1:M l (n0+1) (I2 cOF):=(O3 (by decide)).1 ho;rw[a9r hP m0 m1]at h;cases hk:named l (n0+2)with
     |some k=>rw[hk]at h;cases h;obtain⟨hk,m2⟩:=b0w hk;obtain⟨e,hb⟩:=b2p hP ⟨4,d,k,[]⟩ rfl;rw[b2R k d hk,U7];subst e;rw[qI];exact⟨hb,m0,m1,m2,trivial⟩
     |none=>
      rw[hk]at h;simp only at h;split at h
      ·rename_i hx
       simp only[qa]at hx;have m2:=(O3 (show(1:Int)≠3 by decide)).1 hx.2;cases h;have hs:name (G1 l (n0+2)).text=true:=by
        rcases a5r hm rfl with⟨_,hs⟩|⟨hi,_⟩
        ·exact hs
        ·cases hi
       obtain⟨e,hb⟩:=b2p hP ⟨4,d,0,(G1 l (n0+2)).text⟩ rfl;rw[b0z _ d hs,U7];rw[<-e,qI];exact⟨hb,m0,m1,m2,trivial⟩
      ·cases h
       rcases a5r hm rfl with⟨_,hs⟩|⟨hi,_⟩
       ·cases hs
       ·cases hi
   |false=>
    cases ht:next l n0 2 a2Z with
    |true=>
     rw[b3b hP hn hc ht]at h;cases h;have e5:(⟨5,d,0,[]⟩:Ty)=timer:=by
      cases may_shape hm with
      |plain k d hk e=>cases e;cases hk
      |timer e=>exact e
      |item k d hk e=>cases e
      |proto s d hs e=>cases e
     rw[e5];cases e5;obtain⟨e,_⟩:=b2p hP timer rfl;subst e;exact⟨(O3 (by decide)).1 ht,trivial⟩
    |false=>
     rw[b7z hP hn hc ht]at h;cases h;cases may_shape hm with
     |plain k d hk e=>cases e;cases hk
     |timer e=>cases e
     |item k d hk e=>cases e
     |proto s d hs e=>cases e
theorem front_to(l:Lt):front l=(zeroT,0,90)\/∃t,may t=true/\a1i l 0 (toks t)/\front l=(t,(toks t).length,0):=by
 obtain⟨⟨ok,t,n⟩,hM⟩:∃p,mid l=p:=⟨_,rfl⟩;by_cases hc:(!ok||!may t)=true
 ·exact .inl (b4Q hM hc)
 ·simp at hc
  obtain⟨rfl,hm⟩:=hc;have hb:=c8p hM hm;exact .inr ⟨t,hm,hb,a5w hm hb⟩
end
end Go.Ty
namespace Go.Sx
section
open Go.Eng Go.Pc Go
open Go.Xp hiding B
open Go.Ty (Ty Vr Tok)
def stL(s:Sli Ex):Sli Ex:=sl (s.l.map B5)
def stR(r:Rp):Rp:=⟨r.name,B5 r.base,B5 r.count⟩
def R3(x:Vr):Vr:=vrM x.tag x.items
mutual
def stP:Pr->Pr
 | .mk k n ch tg ex rep _ _ gl _ _ ll pn sp=>.mk k n (B5 ch) (stL tg) (stL ex) (stR rep) none 0 (c5U gl) none 0 (b8R ll) (sl pn.l) (stS sp)
def b8R:List Pr->List Pr
 | []=>[]
 |x::r=>stP x::b8R r
def stG:Gu->Gu
 | .mk k n cond ch tg vl time _ _ bl=>.mk k n (B5 cond) (B5 ch) (stL tg) (stL vl) (B5 time) none 0 (b8R bl)
def c5U:List Gu->List Gu
 | []=>[]
 |x::r=>stG x::c5U r
def stS:Sp->Sp
 | .mk k ty names e cs vs fs _ _ bl=>.mk k ty (sl names.l) (B5 e) cs (sl (vs.l.map R3)) (sl fs.l) none 0 (b8R bl)
end
theorem a5u:∀l:List Pr,b8R l=l.map stP
 | []=>rfl
 |x::r=>by rw[b8R,a5u r];rfl
theorem a9b:∀l:List Gu,c5U l=l.map stG
 | []=>rfl
 |x::r=>by rw[c5U,a9b r];rfl
theorem V5(e:Ex):L5 (B5 e)=L5 e:=by unfold L5;rw[S5];cases e;rfl
theorem c2Z{k:Int}{s:B}{ts:Lt}(h:isM k s ts=true):∃t r,ts=t::r/\t.kind=k/\t.text=s:=by
 cases ts with
 |nil=>cases h
 |cons t r=>have h':((t.kind==k)&&(t.text==s))=true:=h;simp only[qa,qU]at h';exact⟨t,r,rfl,h'.1,h'.2⟩
theorem a4G{k:Int}{s:B}{ts:Lt}(h:isM k s ts=true):0<ts.length:=by obtain⟨t,r,rfl,_⟩:=c2Z h;exact qu _
theorem a9F(ts:Lt):O0 ts=if(ts.getD 0 Go.Ty.zeroK).kind=1 then .ok ((ts.getD 0 Go.Ty.zeroK).text,ts.tail)else .error 110:=by
 cases ts with
 |nil=>rfl
 |cons t r=>rfl
theorem a6M(ts:Lt):G6 ts=if a05 ts=0 then .ok (a2X ts,ts.drop (R1 ts))else .error 110:=by
 unfold G6 a05 a2X R1;cases hf:Q2 ts with
 |ok x=>obtain⟨x,k⟩:=x;rfl
 |error e=>rcases b4T hf with rfl|rfl<;>rfl
theorem a3v(ts:Lt):C5 ts=if(ts.getD 0 Go.Ty.zeroK).kind=1 then I3 (G6 ts) λx r=>if L5 x then .ok (x,r)else .error 110 else .error 110:=by cases ts<;>rfl
open Go.Ty in
theorem b5u(l:Lt):∀(w:Lt)(i:Nat),a1i l i w->i<=l.length->i+w.length<=l.length
 | [],i,_,hi=>hi
 |y::w,i,h,_=>by
  obtain⟨h1,h2⟩:=(U7 l [y] w i).1 h;have h3:=b5u l w (i+1) h2 (by
   have:=M.lt h1.1;omega)
  simp only[qJ];omega
theorem c3E(ts:Lt):(Go.Ty.front ts).2.1<=ts.length:=by
 rcases Go.Ty.front_to ts with h|⟨t,hm,hb,h⟩
 ·rw[h];exact qi _
 ·rw[h]
  have:=b5u ts _ 0 hb (qi _);simpa using this
theorem b7w{t:Ty}(h:Go.Ty.may t=true):TyW t:=by
 have hd:=Go.Ty.may_dim h;cases Go.Ty.may_shape h with
 |plain k d hk e=>subst e;have:=Go.Ty.is_three hk;exact⟨by simp only;omega,by simp only;omega,by simp only at hd⊢;omega,qi _⟩
 |timer e=>subst e;exact⟨by decide,by decide,by decide,qi _⟩
 |item k d hk e=>subst e;have:=Go.Ty.is_three hk;exact⟨by simp only;omega,by simp only;omega,by simp only at hd⊢;omega,qi _⟩
 |proto s d hs e=>subst e;refine⟨by simp only;omega,by simp only;omega,by simp only at hd⊢;omega,?_⟩;unfold Go.Lx.name at hs;simp only[qa,qw]at hs;have:=hs.1.1.1.2;show s.length<=Big;unfold Big;omega
theorem c7g(ts:Lt):TyW (Go.Ty.front ts).1:=by
 rcases Go.Ty.front_to ts with h|⟨t,hm,hb,h⟩
 ·rw[h];exact⟨by decide,by decide,by decide,qi _⟩
 ·rw[h];exact b7w hm
end
end Go.Sx
namespace Go.Eng
section
open Go Go.RowKit
def b3k(P:Program)(l:Nat)(v v2:Value)(w:World)(R:Bool->World->Prop):Prop:=
 ∃fn tmps assign body,(Instr.yield l #[v,v2]).run P w=.ok (.round l fn tmps assign body) w /\
  RoundIn (fen none) 0 P l fn tmps assign body w λe w'=>∃b,e=.returned (.bool b)/\R b w'
section
variable {P:Program}{ops:Array Oper}{Q:Exit->Pw}{n:Cx}{F:Fm}{h h':Lr}{m:View}{rest:Lo}
variable {op:Op}{ty:TypeId}{pos:String}{after:Array Edge}{d:Nat}{v v2:Value}
theorem b3k.mono{l:Nat}{w:World}{R R':Bool->World->Prop}(h:b3k P l v v2 w R)(hr:∀b w',R b w'->R' b w'):b3k P l v v2 w R':=by obtain⟨fn,tmps,assign,body,h1,h2⟩:=h;exact⟨fn,tmps,assign,body,h1,h2.mono λe w' ⟨b,e1,e2⟩=>⟨b,e1,hr b w' e2⟩⟩
end
end
section
open Go Go.RowKit
section
variable {P:Program}{m m':View}{h h':Lr}{w w':World}
theorem CT.swap{f:FuncId}{args:Lv}{R:Lr->Value->Prop}(c:CT P f args h m (λv _ h'=>∃hs,h'=hs++h/\R hs v)):CT P f args h m (λv _ h'=>∃hs,h'=h++hs/\R hs v):=
 c.conv λv m2 h2 w2 _ st hR=>by
  obtain⟨hs,rfl,hR⟩:=hR;exact⟨m2,h++hs,Vl,st.perm je,hs,rfl,hR⟩
end
section
variable {P:Program}{ops:Array Oper}{Q:Exit->Pw}{n:Cx}{F:Fm}{h h':Lr}{m:View}{rest:Lo}
variable {ty:TypeId}{pos:String}{after:Array Edge}{dst:Option Tmp}{g:Option (Nat×Bool)}{d:Nat}
theorem c8Z(a:Oa)(cap sz:Nat)(h:a=none\/∃b off,a=some ⟨b,off,none⟩):sl1 a 0 cap sz=a:=by
 unfold sl1;split
 ·rfl
 ·rcases h with rfl|⟨b,off,rfl⟩
  ·rfl
  ·simp[Addr.add_lit]
theorem b3P(w:World){t e ty:TypeId}{sz by_:Nat}(E:EL P t e sz by_){a b:Oa}{l k c:Nat}{xs ys:Lv}(hlx:xs.length=l*sz)(hxs:∀j u,xs[j]?=some u->∃b0 off,a=some ⟨b0,off,none⟩/\w.cell? ⟨b0,off+j,none⟩=some u)
 (hl:ys.length=k*sz) (hys:∀j u,ys[j]?=some u->∃b0 off,b=some ⟨b0,off,none⟩/\w.cell? ⟨b0,off+j,none⟩=some u) (h0:0<k)
 (h63:l+k<=9223372036854775807) (hbytes:(l+k)*by_<=140737488355328) :
 ∃cs cap',(Builtin.append_ #[t,t] ty #[.slice a l l,.slice b k c]).run P w=.ok (.slice (some ⟨w.heap.size,0,none⟩) (l+k) cap') (w.drew.alloc (.cells cs e)) /\
  (w.drew.alloc (.cells cs e)).ownsRow 0 e sz (.slice (some ⟨w.heap.size,0,none⟩) (l+k) cap') (l+k) (xs++ys):=by
 obtain⟨i,z,ht,hi,hz,hsize,hby,hzs,hsz⟩:=E.ex;subst hsize hby
 have hm63:l+k<=maxLen:=by unfold maxLen;omega
 have hlen:(xs++ys).length=(l+k)*i.size:=by rw[qh,hlx,hl,zv]
 have hky:0<ys.length:=by rw[hl];exact Nat.mul_pos h0 hsz
 obtain⟨y0,hy0⟩:=A8 hky;obtain⟨b0,o0,rfl,_⟩:=hys 0 y0 hy0;have hnews:∀j u,ys[j]?=some u->w.cell? ((⟨b0,o0,none⟩:Addr).add j)=some u:=by intro j u hj;obtain⟨b1,off,e0,hc⟩:=hys j u hj;cases e0;rw[Addr.add_lit];exact hc
 have grown:∀(old:Nat),
  (w.drew.alloc (.cells (xs.toArray++ys.toArray++Builtin.zeroCells z.cells (grownCap w (l+k) old e-(l+k))) e)).ownsRow 0 e i.size
   (.slice (some ⟨w.heap.size,0,none⟩) (l+k) (grownCap w (l+k) old e)) (l+k) (xs++ys):=by
  intro old;have hge:=grownCap_ge w (l+k) old e;have hcm:grownCap w (l+k) old e<=maxLen:=grownCap_le_maxLen w (l+k) old e hm63;refine⟨hlen,.inr ⟨w.heap.size,_,_,rfl,qi _,a5Y w.drew _,hge,hcm,?_,?_⟩⟩
  ·simp only[Array.size_append,List.size_toArray,size_zeroCells,hzs,hlx,hl,<-zv]
   congr 1
   omega
  ·simp only[Array.toList_append,qj]
   rw[<-qj,<-hlen];exact List.take_left
 cases a with
 |none=>
  have hx:xs=[]:=by
   cases xs with
   |nil=>rfl
   |cons x xs=>obtain⟨b1,off,e0,_⟩:=hxs 0 x rfl;cases e0
  subst hx;have hl0:l=0:=by
   rcases Nat.mul_eq_zero.1 hlx.symm with h|h
   ·exact h
   ·omega
  subst hl0;have hr:=run_append_nil (P:=P) w t ty e i z ht hi hz ⟨b0,o0,none⟩ k c ys hl hnews h0 (by omega) (by have hb:=hbytes;simp only[qI]at hb;omega);have hgr:=grown 0;simp only[qI,zO,Array.empty_append]at hgr⊢;exact⟨_,_,hr,hgr⟩
 |some ad=>
  have holds:∀j u,xs[j]?=some u->w.cell? (ad.add j)=some u:=by intro j u hj;obtain⟨b1,off,e0,hc⟩:=hxs j u hj;cases e0;rw[Addr.add_lit];exact hc
  have hr:=run_append_grow (P:=P) w t ty e i z ht hi hz ad l l xs hlx holds ⟨b0,o0,none⟩ k c ys hl hnews (by omega) (by omega) (growslice_fits (by omega) hbytes);exact⟨_,_,hr,grown l⟩
theorem b6L{x y:Operand}{t e:TypeId}{sz by_ l k c l':Nat}{a b:Oa}{xs ys zs:Lv}(E:EL P t e sz by_)(ex:Ev n F x (.slice a l l))(ey:Ev n F y (.slice b k c))
 (rx:Rd m h a l l sz xs) (rd:Rd m h b k c sz ys) (h0:0<k) (hl:l+k=l') (hz:xs++ys=zs) (h63:l'<=9223372036854775807) (hbytes:l'*by_<=140737488355328)
 (hd:d<n.num) (kk:∀b' cap',WL P ops Q n rest ((d,.slice (some ⟨b',0,none⟩) l' cap')::F) (.row (.slice (some ⟨b',0,none⟩) l' cap') e sz l' zs::h) m) :
 WL P ops Q n (⟨some d,.call ⟨.builtin .append,#[x,y],#[t,t]⟩,ty,pos,after,none⟩::rest) F h m:=.mk λf w hf hs=>by
 subst hl hz;obtain⟨cs,cap',hr,hown⟩:=b3P (P:=P) w (ty:=ty) (c:=c) E rx.len (rx.at_ w hs) rd.len (rd.at_ w hs) h0 h63 hbytes;refine G7 rfl (O5 (v:=.slice (some ⟨w.heap.size,0,none⟩) (l+k) cap') (w':=w.drew.alloc (.cells cs e)) ?_ (kk w.heap.size cap' _ _ (hf.put hd _) ?_))
 ·simp[execOp,resolve,invoke,builtin,ex f hf,ey f hf,hr]
 ·exact((hs.drew).alloc (.cells cs e)).conv (r':=.row (.slice (some ⟨w.heap.size,0,none⟩) (l+k) cap') e sz (l+k) (xs++ys)) Upd.here rfl λ_=>hown
theorem b6F{eff:List Nat}{t':Tl}{hs hp:Lr}{i:Nat}{s:Tr}{x y:Operand}{t e:TypeId}{sz by_ l k c l':Nat}{a b:Oa}{xs ys zs:Lv}
 (ho:ops[i]?=some ⟨some d,.call ⟨.builtin .append,#[x,y],#[t,t]⟩,ty,pos,after,none⟩) (he:eff.contains i=true) (E:EL P t e sz by_) (ex:Ev n F x (.slice a l l)) (ey:Ev n F y (.slice b k c))
 (rx:Rd m (hp++hs) a l l sz xs) (rd:Rd m (hp++hs) b k c sz ys) (h0:0<k) (hl:l+k=l') (hz:xs++ys=zs) (h63:l'<=9223372036854775807) (hbytes:l'*by_<=140737488355328)
 (hd:d<n.num) (kk:∀b' cap',SR P ops Q n eff t' hs s ((d,.slice (some ⟨b',0,none⟩) l' cap')::F) (.row (.slice (some ⟨b',0,none⟩) l' cap') e sz l' zs::hp) m) :
 SR P ops Q n eff t' hs (.op i s) F hp m:=⟨_,ho,λy hy=>by cases hy;exact hd,by
 subst hl hz;rw[he];refine⟨λfr f w hf st=>⟨λ_=>?_,λh=>by simp[Region.wanted]at h⟩⟩;have st':=st.sub (qc fr (hp++hs));obtain⟨cs,cap',hr,hown⟩:=b3P (P:=P) w (ty:=ty) (c:=c) E rx.len (rx.at_ w st') rd.len (rd.at_ w st') h0 h63 hbytes;have hrun:(execOp f.eval ⟨some d,.call ⟨.builtin .append,#[x,y],#[t,t]⟩,ty,pos,after,none⟩).run P w=.ok (.value (.slice (some ⟨w.heap.size,0,none⟩) (l+k) cap')) (w.drew.alloc (.cells cs e)):=by simp[execOp,resolve,invoke,builtin,ex f hf,ey f hf,hr]
 rw[hrun];have st2:=((st.drew).alloc (.cells cs e)).conv (r':=.row (.slice (some ⟨w.heap.size,0,none⟩) (l+k) cap') e sz (l+k) (xs++ys)) Upd.here rfl λ_=>hown
 exact⟨m,.row (.slice (some ⟨w.heap.size,0,none⟩) (l+k) cap') e sz (l+k) (xs++ys)::hp,Vl,st2.perm (qL.symm),λ_=>qo _ _,(kk _ _).e⟩⟩
theorem CT.know{f:FuncId}{args:Lv}{R:Value->View->Lr->Prop}{A:Prop}(he:∀as w,(callFunc f as).run P w=.ok (.enter f as) w)(ha:∀w,St m h w->A)(k:A->CT P f args h m R):CT P f args h m R:=
 ⟨he,λw hs=>(k (ha w hs)).calls w hs⟩
theorem CT.knowRow{f:FuncId}{args:Lv}{R:Value->View->Lr->Prop}{a:Oa}{k cap sz:Nat}{e:TypeId}{ys:Lv}(he:∀as w,(callFunc f as).run P w=.ok (.enter f as) w)(hm:Res.row (.slice a k cap) e sz k ys∈h)
 (kk:k<=cap->cap<=9223372036854775807->ys.length=k*sz->CT P f args h m R):CT P f args h m R:=
 CT.know he (λ_ st=>b05 (st.ok _ hm)) λ⟨h1,h2,h3⟩=>kk h1 h2 h3
end
end
section
open Go Go.RowKit
theorem b2e(a b:ByteArray):(a==b)=(a.data==b.data):=rfl
theorem c4c{n k:List UInt8}(h:¬n=k):((⟨n.toArray⟩:ByteArray)==⟨k.toArray⟩)=false:=by rw[b2e];exact qW.2 λe=>h (by simpa using e)
theorem b2z(n:List UInt8):((⟨n.toArray⟩:ByteArray)==⟨n.toArray⟩)=true:=by rw[b2e];exact zI _
structure MapS(es:Array MapEntry)(ks:List (List UInt8)):Prop where
 a:∀e∈es.toList,∃n,e.key=str n/\e.val=.bool true/\n∈ks
 b:∀n∈ks,∃e∈es.toList,e.key=str n
theorem MapS.nil:MapS #[] []:=⟨λe h=>by simp at h,λn h=>by cases h⟩
section
variable {P:Program}{ops:Array Oper}{Q:Exit->Pw}{n:Cx}{F:Fm}{h h':Lr}{m:View}{rest:Lo}
variable {ty:TypeId}{pos:String}{after:Array Edge}{dst:Option Tmp}{g:Option (Nat×Bool)}{d:Nat}
end
section
variable {P:Program}{ops:Array Oper}{Q:Exit->Pw}{n:Cx}{F:Fm}{m:View}{eff:List Nat}{t:Tl}{hs hp:Lr}
variable {ty:TypeId}{pos:String}{after:Array Edge}{d:Nat}
abbrev b4N(e:TypeId)(sz:Nat):Res:=.row (.slice none 0 0) e sz 0 []
theorem St.insNil(e:TypeId)(sz:Nat){fr l1 l2 hs:Lr}{w:World}(s:St m (fr++((l1++l2)++hs)) w):St m (fr++((l1++b4N e sz::l2)++hs)) w:=by
 refine(s.addNil e sz).perm ?_;have h1:(fr++((l1++b4N e sz::l2)++hs)).Perm (b4N e sz::(fr++((l1++l2)++hs))):=by refine(List.Perm.append_left fr ((qL (l₁:=l1) (l₂:=l2)).append_right hs)).trans ?_;exact qL
 exact h1.symm
theorem a6J(e:TypeId)(sz:Nat){l1 l2:Lr}:∀(r:List Fl){F:Fm}{fr:Lr},a2z P ops Q n t r F (fr++((l1++b4N e sz::l2)++hs)) m->a2z P ops Q n t r F (fr++((l1++l2)++hs)) m
 | [],_,_,h=>WL.mk λa w ha st=>h.e a w ha (st.insNil e sz)
 |(_,_,_)::r,_,fr,h=>λb=>a6J e sz r (fr:=_::fr) (h b)
theorem a5z.imp{r:Result Next}{R R':Value->World->Prop}{X:List PanicEntry->World->Prop}(h:a5z P r R X)(k:∀v w,R v w->R' v w):a5z P r R' X:=by
 cases r with
 |ok x w=>
  cases x with
  |value v=>exact k _ _ h
  |skip=>exact k _ _ h
  |enter f args=>
   refine Calls.mono h λe w' q=>?_
   rcases q with⟨v,rfl,hv⟩|q
   ·exact .inl ⟨v,rfl,k v w' hv⟩
   ·exact .inr q
  |_=>exact h
 |halt _ _=>exact h
theorem SRr.insNil(e:TypeId)(sz:Nat){l1 l2:Lr}:∀(T:Tr){F:Fm},SRr P ops Q n eff t hs T F (l1++b4N e sz::l2) m->SRr P ops Q n eff t hs T F (l1++l2) m
 | .nil,_,h=>a6J e sz t.fl (fr:=[]) h
 | .alt a b,_,h=>⟨SRr.insNil e sz a h.1,SRr.insNil e sz b h.2⟩
 | .op i s,_,h=>by
  obtain⟨o,ho,hd,h⟩:=h;refine⟨o,ho,hd,?_⟩;have hsub:(l1++l2).Sublist (l1++b4N e sz::l2):=(qo _ _).append_left l1;cases he:eff.contains i with
  |false=>rw[he]at h;obtain⟨v,pg,hk⟩:=h;exact⟨v,pg,SRr.insNil e sz s hk⟩
  |true=>
   rw[he]at h;dsimp only at h⊢;cases hr:a6t o with
   |true=>rw[hr]at h;obtain⟨v,pg,hk⟩:=h;exact⟨v,⟨λa w ha st=>pg.e a w ha (St.insNil e sz (fr:=[]) st)⟩,SRr.insNil e sz s hk⟩
   |false=>
    rw[hr]at h;dsimp only at h⊢;have sat:∀{G:Fm}{l:Lr},Sat n hs G (l++l2) m->Sat n hs G (l++b4N e sz::l2) m:=λ⟨fr,a,w,ha,st⟩=>⟨fr,a,w,ha,st.insNil e sz⟩
    cases hmk:a4n o&&eff.contains 4096 with
    |true=>rw[hmk]at h;exact⟨λs a ha=>h.ex (sat s) a ha,λa ha k cs el hout b s'=>SRr.insNil e sz (l1:=_::l1) s (h.k a ha k cs el hout b (sat (l:=_::l1) s'))⟩
    |false=>
    rw[hmk]at h;dsimp only at h⊢;refine⟨λfr a w ha st=>?_⟩;obtain⟨h1,h2⟩:=h.e fr a w ha (St.insNil e sz st);refine⟨λhw=>(h1 hw).imp λv w' q=>?_,λhw=>?_⟩
    ·obtain⟨m',hp',q1,q2,q3,q4⟩:=q
     exact⟨m',hp',q1,q2,λha=>hsub.trans (q3 ha),q4⟩
    ·exact⟨λ_=>zi _,SRr.insNil e sz s (h2 hw).2⟩
theorem a1a{q:Nat}{s:Tr}{tt e k:Nat}{sz by_:Nat}{ps:List (Nat×Operand)}{vs:List (Nat×Value)}{z:Value}{zs cs:Lv}{gd:Nat×Bool}{c:Bool}
 (ho:ops[q]?=some ⟨some d,.buildSlice tt k ps.toArray,ty,pos,after,some gd⟩) (he:eff.contains q=true) (hg:GU ops n F gd c) (E:EL P tt e sz by_) (hz:(P.info? e).bind (·.zero)=some z) (ev:c=true->EvP n F ps vs)
 (hzs:a8h z k=some zs) (hf:a4I (λi=>some (i*sz,sz)) zs vs=some cs) (hk:k*sz<=16777216) (h0:Nat.beq (k*sz) 0=false) (hd:d<n.num)
 (kk:∀b r,(c=true->r=.pt b (.cells cs.toArray e (0,0)))->SR P ops Q n eff t hs s ((d,gv c (.slice (some ⟨b,0,none⟩) k k))::F) (r::hp) m) :
 SR P ops Q n eff t hs (.op q s) F hp m:=⟨_,ho,λy hy=>by cases hy;exact hd,by
 rw[he];simp only[b0c,b0h,zu];refine⟨λfr f w hf' st=>?_⟩;have hy:=hg.wanted (dst:=some d) (op:=.buildSlice tt k ps.toArray) (ty:=ty) (pos:=pos) (after:=after) hf';cases c with
 |true=>refine⟨λ_=>?_,λh=>by rw[hy]at h;cases h⟩;have hrun:=a08 (P:=P) w (dst:=some d) (ty:=ty) (pos:=pos) (after:=after) (g:=some gd) E hz (ev rfl) hzs hf hk h0 hf';rw[hrun];exact⟨m,.pt w.heap.size (.cells cs.toArray e)::hp,Vl,(st.alloc _).perm qL.symm,λ_=>qo _ _,(kk w.heap.size _ (λ_=>rfl)).e⟩
 |false=>refine⟨λh=>(by rw[hy]at h;cases h),λ_=>⟨λ_=>zi _,?_⟩⟩;exact SRr.insNil e sz (l1:=[]) s (kk 0 (b4N e sz) (λh=>by cases h)).e⟩
end
section
variable {P:Program}{n:Cx}{F:Fm}{h:Lr}{m:View}
variable {ty:TypeId}{pos:String}{after:Array Edge}{dst:Option Tmp}{g:Option (Nat×Bool)}
def eqP(P:Program)(o:TypeId)(t:TypeId)(xs ys:Lv)(off:Nat):Option Bool:=match P.underlying t with
 |some (.struct gs)=>match Nat.beq t o with
  |true=>match (P.info? t).map (·.size)with
   |some k=>match seg xs off k with
    |some as=>match seg ys off k with
     |some bs=>b5Y P as bs gs.toList
     |none=>none
    |none=>none
   |none=>none
  |false=>none
 |some d=>match N5 d with
  |true=>match xs[off]? with
   |some a=>match ys[off]? with
    |some b=>eqC d a b
    |none=>none
   |none=>none
  |false=>none
 |none=>none
def b7r(P:Program)(o:TypeId)(xs ys:Lv):List Field->Option Bool
 | []=>some true
 |f::fs=>match eqP P o f.type xs ys f.offset with
  |some r=>match b7r P o xs ys fs with
   | some q => match (f.name != "_") with
    |true=>some (r&&q)
    |false=>none
   |none=>none
  |none=>none
theorem b4Y{xs as:Lv}{off k:Nat}(h:seg xs off k=some as):(xs.drop off).take k=as:=by
 obtain⟨h1,h2⟩:=a7d h;subst h1;refine List.ext_getElem? λi=>?_;rcases ze i as.length with hi|hi
 ·have:=h2 i _ (qk hi)
  rw[List.getElem?_take_of_lt hi,zL,this,qk hi]
 ·rw[qS hi,qS (by rw[qV];omega)]
theorem c5u(w:World)(d:Nat){o t:TypeId}(ho:P.stoodInHeld o=false){xs ys:Lv}{off:Nat}{r:Bool}(he:eqP P o t xs ys off=some r):∃a b,(part t xs.toArray off).run P w=.ok a w/\(part t ys.toArray off).run P w=.ok b w/\(Op.equalIn (d+2) t a b).run P w=.ok r w:=by
 unfold eqP at he;split at he
 ·rename_i gs ht
  split at he
  ·rename_i hto
   have hto:=zb hto;subst hto;have hs:=ho;split at he
   ·rename_i k hk
    split at he
    ·rename_i as ha
     split at he
     ·rename_i bs hb
      cases hi:P.info? t with
      |none=>rw[hi]at hk;cases hk
      |some i0=>
       have hsz:i0.size=k:=by rw[hi]at hk;simpa using hk
       have hf:P.fieldsOf t=gs:=by simp[Program.fieldsOf,ht]
       have hag:=a3y (P:=P) w ht rfl;refine⟨.agg as.toArray,.agg bs.toArray,?_,?_,?_⟩
       ·simp[part,hag,sizeOf,typeInfo,hi,hsz,b4Y ha]
       ·simp[part,hag,sizeOf,typeInfo,hi,hsz,b4Y hb]
       ·rw[run_equalIn_struct (P:=P) w (d+1) t as.toArray bs.toArray (by rw[hf];exact ht) hs,hf]
        exact a7o w d as bs he
     ·cases he
    ·cases he
   ·cases he
  ·cases he
 ·rename_i ds _ ht
  split at he
  ·rename_i hp
   split at he
   ·rename_i a ha
    split at he
    ·rename_i b hb
     refine⟨a,b,?_,?_,b7x w (d:=d+1) ht he⟩
     ·simp[part,L2 w ht hp,ha]
     ·simp[part,L2 w ht hp,hb]
    ·cases he
   ·cases he
  ·cases he
 ·cases he
theorem b1B(w:World)(d:Nat){o:TypeId}(ho:P.stoodInHeld o=false)(xs ys:Lv):∀{fs:List Field}{r:Bool},b7r P o xs ys fs=some r->(Op.eqFields (d+2) xs.toArray ys.toArray fs).run P w=.ok r w
 | [],r,he=>by cases he;simp[Op.eqFields]
 |f::fs,r,he=>by
  unfold b7r at he;split at he
  ·rename_i c hc
   split at he
   ·rename_i q hq
    split at he
    ·rename_i h7
     cases he;have h8 : f.name ≠ "_" := by simpa using h7
     have ih:=b1B w d ho xs ys hq;obtain⟨a,b,ea,eb,e5⟩:=c5u (P:=P) w d ho hc;simp only[Op.eqFields,if_pos h8,Sem.run_bind];rw[ea,Result.andThen_ok,eb,Result.andThen_ok,e5,Result.andThen_ok];cases c
     ·simp
     ·simpa using ih
    ·cases he
   ·cases he
  ·cases he
theorem b4f{o:TypeId}{x y:Operand}{t t':TypeId}{fs:Array Field}{as bs:Lv}{r:Bool}(ht:P.underlying t=some (.struct fs))(hs:P.stoodInHeld t=false)(hm:P.eqGuardType P.depth t=false)(ex:Ev n F x (.agg as.toArray))(ey:Ev n F y (.agg bs.toArray))
 (ho:P.stoodInHeld o=false) (hr:b7r P o as bs fs.toList=some r):PO P ⟨dst,.binOp .neq t x y t',ty,pos,after,g⟩ n F h m (.bool (!r)):=.mk λa w ha _=>by
 have hf:P.fieldsOf t=fs:=by simp[Program.fieldsOf,ht]
 have e1:=run_equalIn_struct (P:=P) w 9999 t as.toArray bs.toArray (by rw[hf];exact ht) hs;rw[hf,b1B w 9997 ho as bs hr]at e1;simp[execOp,ex a ha,ey a ha,run_eqGuard_agg w _ t _ _ _ _ hm,run_neq_struct,e1]
end
end
end Go.Eng
namespace Go.Sx
section
open Go.Eng Go.Pc Go
open Go.Xp hiding B
open Go.Ty (Ty Vr Tok)
open Go.Ly (Rw K7)
open Go.Lx (lexO mayK)
theorem a6s(s:B):(lexO s).1.length<=256/\∀x∈(lexO s).1,mayK x=true/\(-2147483648<=x.n/\x.n<=2147483647):=by
 obtain⟨l,z,e,h⟩:∃l z e,lexO s=(l,z,e):=⟨_,_,_,rfl⟩;rw[h];by_cases he:e=0
 ·subst he
  obtain⟨h1,h2,-⟩:=Go.Lx.lexO_ok h;have h3:=Go.Lx.lx_len s 0 l h2;exact⟨by show l.length<=256;omega,Go.Lx.lx_may s 0 l h2 (by omega)⟩
 ·have h1:=Go.Lx.lexO_no h he
  subst h1;exact⟨qi _,λx hx=>(qn hx).elim⟩
theorem b7Y(s:B):∀t∈(lexO s).1,t.text.length<=140737488355328:=λt ht=>by have:=Go.Lx.may_len ((a6s s).2 t ht).1;omega
structure Pz where
 bp:Nat
 ra:Oa
 rc:Nat
 R:List Rw
structure Pok(m:View)(z:Pz):Prop where
 rd:Rd m [] z.ra z.R.length z.rc 3 (fl K7 z.R)
 ok:z.R.length<=2048/\∀x∈z.R,0<=x.depth/\x.depth<=32/\x.text.length<=256
 ne:∀x∈z.R,(lexO x.text).2.2=0->(lexO x.text).1≠[]
theorem b1m(q:UInt8->Bool):∀(l:B){c:UInt8}{r:B},l.dropWhile q=c::r->q c=false
 |x::l,c,r,h=>by
  unfold List.dropWhile at h;split at h
  ·exact b1m q l h
  ·cases h;assumption
theorem c7W{s:B}(h:Go.Ly.validP s=true)(he:(lexO s).2.2=0):(lexO s).1≠[]:=by
 obtain⟨h1,-,h2,-⟩:=Go.Ly.validP_spec h;obtain⟨l,z,e,hl⟩:∃l z e,lexO s=(l,z,e):=⟨_,_,_,rfl⟩;rw[hl]at he⊢;obtain rfl:e=0:=he;obtain⟨-,h3,-⟩:=Go.Lx.lexO_ok hl;cases s with
 |nil=>exact absurd rfl h1
 |cons c r=>
  have hc:c≠32:=by have h4:=b1m (·==32) (Lib.trimRightB (c::r) 32) (c:=c) (r:=r) h2;simpa using h4
  rintro rfl;by_cases hn:(Go.Lx.tok (c::r)).2=0
  ·rw[Go.Lx.lx_bad hc hn]at h3;cases h3
  ·rw[Go.Lx.lx_tok hc hn]at h3
   cases hx:Go.Lx.lx ((c::r).drop (Go.Lx.tok (c::r)).2) (0+(Go.Lx.tok (c::r)).2)with
   |ok m=>rw[hx]at h3;cases h3
   |error e=>rw[hx]at h3;cases h3
theorem Pok.of{m:View}{z:Pz}(hr:Rd m [] z.ra z.R.length z.rc 3 (fl K7 z.R))(h:Go.Ly.mayP z.R=true):Pok m z:=
 ⟨hr,Go.Ly.mayP_all h,λx hx=>by
  unfold Go.Ly.mayP at h;split at h
  ·cases h
  ·exact c7W (Go.Ly.mayA_all h x hx).2.2⟩
theorem J0{α β:Type}(x:α)(ts:Lt)(i:Nat)(f:α->Lt->PE β):F2 (.ok (x,ts)) i f=f x ts:=rfl
theorem S0{α β:Type}(x:α)(i:Nat)(f:α->Nat->PE β):J8 (.ok (x,i)) f=f x i:=rfl
theorem N8{β:Type}{ts:Lt}{i:Nat}{f:Nat->PE β}(h:ts=[]):D4 ts i f=f (i+1):=by subst h;rfl
theorem N9{β:Type}{ts:Lt}{i:Nat}{f:Nat->PE β}(h:ts≠[]):D4 ts i f=.error (110,i):=by cases ts with|nil=>exact absurd rfl h|cons=>rfl
theorem a3s{β:Type}{k:Int}{s:B}{ts:Lt}{i:Nat}{f:Lt->PE β}(h:isM k s ts=true):M1 k s ts i f=f ts.tail:=by unfold M1;rw[h];rfl
theorem a3q{β:Type}{k:Int}{s:B}{ts:Lt}{i:Nat}{f:Lt->PE β}(h:isM k s ts=false):M1 k s ts i f=.error (110,i):=by unfold M1;rw[h];rfl
theorem a3N{β:Type}{R:List Rw}{d:Int}{i:Nat}{ts:Lt}{f:Lt->PE β}(h:V3 R d i=.ok ts):a1k R d i f=f ts:=by unfold a1k;rw[h]
theorem J3{β:Type}{R:List Rw}{d:Int}{i:Nat}{e:Int×Nat}{f:Lt->PE β}(h:V3 R d i=.error e):a1k R d i f=.error e:=by unfold a1k;rw[h]
theorem a1y{m:View}{z:Pz}{d:Int}{i:Nat}{ts:Lt}(hz:Pok m z)(h:V3 z.R d i=.ok ts):(i<z.R.length/\0<=d/\d<=32)/\∃x,z.R[i]?=some x/\x.depth=d/\ts=(lexO x.text).1:=by
 unfold V3 at h;cases hx:z.R[i]? with
 |none=>rw[hx]at h;cases h
 |some x=>
  rw[hx]at h;simp only at h;split at h
  ·cases h
  ·split at h
   ·cases h
   ·rename_i hd
    have hd:x.depth=d:=zA hd;cases h;have h1:=hz.ok.2 x (qe hx);exact⟨⟨(qd.1 hx).1,by omega,by omega⟩,x,rfl,hd,rfl⟩
theorem c6g{m:View}{z:Pz}{d:Int}{i:Nat}{ts:Lt}(hz:Pok m z)(h:V3 z.R d i=.ok ts):0<ts.length:=by
 unfold V3 at h;cases hx:z.R[i]? with
 |none=>rw[hx]at h;cases h
 |some x=>
  rw[hx]at h;simp only at h;split at h
  ·cases h
  ·rename_i he
   split at h
   ·cases h
   ·cases h
    have h1:=hz.ne x (qe hx) (zA he);exact zR.2 h1
theorem a2t{R:List Rw}{d:Int}{i:Nat}(h:R.length<=i):V3 R d i=.error (110,i):=by unfold V3;rw[qS h]
theorem a8K{R:List Rw}{d:Int}{i:Nat}(h:H6 R d i=true):i<R.length:=by
 unfold H6 at h;cases hx:R[i]? with
 |none=>rw[hx]at h;cases h
 |some x=>exact(qd.1 hx).1
theorem b1z{R:List Rw}{rec:Int->Bool->Nat->PE Pr}{row:Lt->E Gu}{least most:Nat}{d:Int}{k:Nat}{acc:List Gu}{i:Nat}(hk:R.length<=i+k)(hc:acc.length<least\/(acc.length<most/\H6 R d i=true)) :
 X7 R rec row least most d k acc i=a1k R d i λts=>F2 (row ts) i λg r=>D4 r i λi=>J8 (rec (d+1) false i) λx i=>X7 R rec row least most d (k-1) (acc++[a8V g x]) i:=by
 cases k with
 |zero=>
  have hl:acc.length<least:=hc.elim id λh=>absurd (a8K h.2) (by omega)
  rw[J3 (a2t (by omega))];unfold X7;rw[if_pos hl]
 |succ k=>
  conv=>lhs;unfold X7
  rw[if_pos hc];rfl
theorem a8i{R:List Rw}{rec:Int->Bool->Nat->PE Pr}{row:Lt->E Gu}{least most:Nat}{d:Int}{k:Nat}{acc:List Gu}{i:Nat}(hc:¬(acc.length<least\/(acc.length<most/\H6 R d i=true))) :
 X7 R rec row least most d k acc i=.ok (acc,i):=by
 cases k with
 |zero=>unfold X7;rw[if_neg λh=>hc (.inl h)]
 |succ k=>unfold X7;rw[if_neg hc]
theorem b4Z{R:List Rw}{rec:Int->Bool->Nat->PE Pr}{d:Int}{k:Nat}{acc:List Pr}{i:Nat}(hk:R.length<=i+k)(hc:H6 R d i=true) :
 a0i R rec d k acc i=J8 (rec d false i) λx i=>a0i R rec d (k-1) (acc++[x]) i:=by
 cases k with
 |zero=>exact absurd (a8K hc) (by omega)
 |succ k=>
  conv=>lhs;unfold a0i
  rw[if_pos hc];rfl
theorem b0d{R:List Rw}{rec:Int->Bool->Nat->PE Pr}{d:Int}{k:Nat}{acc:List Pr}{i:Nat}(hc:H6 R d i=false):a0i R rec d k acc i=.ok (acc,i):=by
 cases k with
 |zero=>rfl
 |succ k=>unfold a0i;rw[if_neg (by rw[hc];decide)]
theorem b1k{R:List Rw}{rec:Int->Bool->Nat->PE Pr}{d:Int}{k:Nat}{ns:List Int}{acc:List Pr}{i:Nat}(hk:R.length<=i+k)(hc:acc.length=0\/(acc.length<8/\H6 R (d+1) i=true)) :
 O8 R rec d k ns acc i=a1k R (d+1) i λts=>M1 2 [80,82,79,67,69,83,83,79,82] ts i λr=>match a4Y r with
  |some n=>J8 (rec (d+2) false (i+1)) λx i=>O8 R rec d (k-1) (ns++[n]) (acc++[x]) i
  |none=>.error (110,i):=by
 cases k with
 |zero=>
  have hl:acc.length=0:=hc.elim id λh=>absurd (a8K h.2) (by omega)
  rw[J3 (a2t (by omega))];unfold O8;rw[if_pos hl]
 |succ k=>
  conv=>lhs;unfold O8
  rw[if_pos hc];rfl
theorem a8j{R:List Rw}{rec:Int->Bool->Nat->PE Pr}{d:Int}{k:Nat}{ns:List Int}{acc:List Pr}{i:Nat}(hc:¬(acc.length=0\/(acc.length<8/\H6 R (d+1) i=true))) :
 O8 R rec d k ns acc i=.ok ((ns,acc),i):=by
 cases k with
 |zero=>unfold O8;rw[if_neg λh=>hc (.inl h)]
 |succ k=>unfold O8;rw[if_neg hc]
theorem b4X{R:List Rw}{d:Int}{k:Nat}{acc:List Vr}{i:Nat}(hk:R.length<=i+k)(hc:acc.length=0\/H6 R (d+2) i=true) :
 U8 R d k acc i=a1k R (d+2) i λts=>F2 (W7 ts) i λv r=>if Go.Ty.mayPr true (acc++[v])then D4 r i λi=>U8 R d (k-1) (acc++[v]) i else .error (110,i):=by
 cases k with
 |zero=>
  have hl:acc.length=0:=hc.elim id λh=>absurd (a8K h) (by omega)
  rw[J3 (a2t (by omega))];unfold U8;rw[if_pos hl]
 |succ k=>
  conv=>lhs;unfold U8
  rw[if_pos hc];rfl
theorem a9d{R:List Rw}{d:Int}{k:Nat}{acc:List Vr}{i:Nat}(hc:¬(acc.length=0\/H6 R (d+2) i=true)):U8 R d k acc i=.ok (acc,i):=by
 cases k with
 |zero=>unfold U8;rw[if_neg λh=>hc (.inl h)]
 |succ k=>unfold U8;rw[if_neg hc]
theorem b8X{R:List Rw}{rec:Int->Bool->Nat->PE Pr}{d:Int}{top:Bool}{ts:Lt}{i:Nat}{t:Tok}{f:Int->Lt->Nat->PE Pr}(h0:ts[0]?=some t)(hw:a3c R rec t.text=some f)(hc:t.kind=2/\(top=true\/t.text≠[80,76,65,67,69,68])):a1R R rec d top ts i=f d ts.tail i:=by
 cases ts with
 |nil=>cases h0
 |cons u r=>cases h0;unfold a1R;simp only[hw];rw[if_pos hc];rfl
theorem b5p{R:List Rw}{rec:Int->Bool->Nat->PE Pr}{d:Int}{top:Bool}{ts:Lt}{i:Nat}{t:Tok}(h0:ts[0]?=some t)(hc:a3c R rec t.text=none\/¬(t.kind=2/\(top=true\/t.text≠[80,76,65,67,69,68]))):a1R R rec d top ts i=S6 R rec d ts i:=by
 cases ts with
 |nil=>cases h0
 |cons u r=>
  cases h0;unfold a1R;cases hw:a3c R rec t.text with
  |none=>simp only[hw]
  |some f=>
   simp only[hw];rcases hc with hc|hc
   ·rw[hc]at hw;cases hw
   ·rw[if_neg hc]
structure Gs(m:View)(h:Lr)(a:Oa)(c:Nat)(l:List Gu):Prop where
 rd:Rd m h a l.length c 23 (fl guE l)
 ok:∀g∈l,GOk m h g
 sub:∀g∈l,∀x∈g.bl,POk m h x
structure Ls(m:View)(h:Lr)(a:Oa)(c:Nat)(l:List Pr):Prop where
 rd:Rd m h a l.length c 42 (fl prE l)
 ok:∀x∈l,POk m h x
structure Ns(m:View)(h:Lr)(s:Sli Int):Prop where
 rd:Rd m h s.a s.l.length s.c 1 (fl a1x s.l)
 ok:∀x∈s.l,-9223372036854775808<=x/\x<=9223372036854775807
structure Ss(m:View)(h:Lr)(s:Sp):Prop where
 ok:SOk m h s
 sub:∀x∈s.bl,POk m h x
structure Rs(m:View)(h:Lr)(r:Rp):Prop where
 n:r.name.length<=Big
 b:EOk m h r.base
 c:EOk m h r.count
variable {m:View}{h h':Lr}
theorem Gs.mono{a:Oa}{c:Nat}{l:List Gu}(q:Gs m h a c l)(s:h.Sublist h'):Gs m h' a c l:=⟨q.rd.mono Vl s,λg hg=>(q.ok g hg).mono s,λg hg x hx=>(q.sub g hg x hx).mono s⟩
theorem Ls.mono{a:Oa}{c:Nat}{l:List Pr}(q:Ls m h a c l)(s:h.Sublist h'):Ls m h' a c l:=⟨q.rd.mono Vl s,λg hg=>(q.ok g hg).mono s⟩
theorem Ns.mono{l:Sli Int}(q:Ns m h l)(s:h.Sublist h'):Ns m h' l:=⟨q.rd.mono Vl s,q.ok⟩
theorem Ss.mono{x:Sp}(q:Ss m h x)(s:h.Sublist h'):Ss m h' x:=⟨q.ok.mono s,λy hy=>(q.sub y hy).mono s⟩
theorem Rs.mono{r:Rp}(q:Rs m h r)(s:h.Sublist h'):Rs m h' r:=⟨q.n,q.b.mono s,q.c.mono s⟩
theorem T8(m:View)(h:Lr):Gs m h none 0 []:=⟨Rd.nilF guE 23 m h,λ_ hx=>(qn hx).elim,λ_ hx=>(qn hx).elim⟩
theorem a07(m:View)(h:Lr):Ls m h none 0 []:=⟨Rd.nilF prE 42 m h,λ_ hx=>(qn hx).elim⟩
theorem P5(m:View)(h:Lr):Ns m h A2:=⟨Rd.nilF a1x 1 m h,λ_ hx=>(qn hx).elim⟩
theorem B9(m:View)(h:Lr):LOk m h A2:=⟨Rd.nilF exE 6 m h,λ_ hx=>(qn hx).elim⟩
theorem b8W(m:View)(h:Lr):TOk m h A0:=.mk (Rd.nilF exE 6 m h) (λ_ hx=>by cases hx)
theorem a7y(m:View)(h:Lr):EOk m h A0:=⟨b8W m h,.mk (by decide) (by decide) (by decide) (by decide) (qi _) λ_ hx=>(qn hx).elim⟩
theorem P0(m:View)(h:Lr):Rs m h B0:=⟨qi _,a7y m h,a7y m h⟩
theorem a5D(m:View)(h:Lr):Go.Ty.PrOk m h none 0 0 []:=⟨Rd.nilF Go.Ty.encV 2 m h,λ_ hx=>(qn hx).elim,λ_ hx=>(qn hx).elim⟩
theorem K6(m:View)(h:Lr):Ss m h B4:=
 ⟨⟨by decide,⟨by decide,by decide,by decide,qi _⟩,Rd.nilF Go.Lx.encB 1 m h,λ_ hx=>(qn hx).elim,a7y m h,a5D m h,λ_ hx=>(qn hx).elim,Rd.nilF foE 6 m h,λ_ hx=>(qn hx).elim,Rd.nilF prE 42 m h⟩,λ_ hx=>(qn hx).elim⟩
theorem a1g{k:Int}{nm:B}{ch:Ex}{tg ex:Sli Ex}{rep:Rp}{ga:Oa}{gc:Nat}{gl:List Gu}{la:Oa}{lc:Nat}{ll:List Pr}{pn:Sli Int}{sp:Sp}(hk:0<=k/\k<=255)(hn:nm.length<=Big)(hch:EOk m h ch)(ht:LOk m h tg)(he:LOk m h ex)
 (hr:Rs m h rep) (hg:Gs m h ga gc gl) (hl:Ls m h la lc ll) (hp:Ns m h pn) (hs:Ss m h sp):POk m h (.mk k nm ch tg ex rep ga gc gl la lc ll pn sp):=
 .mk ⟨hk,hn,hch,ht,he,hr.n,hr.b,hr.c,hg.rd,hg.ok,hl.rd,hp.rd,hp.ok,hs.ok⟩ λx hx=>by
  cases hx with
  |l hx=>exact hl.ok x hx
  |s hx=>exact hs.sub x hx
  |g hq hx=>exact hg.sub _ hq x hx
end
section
open Go.Eng Go.Pc Go
open Go.Xp hiding B
open Go.Ty (Ty Vr Tok)
theorem c2M(e:Ex):B5 (B5 e)=B5 e:=by
 refine Ex.ind (p:=λe=>B5 (B5 e)=B5 e) (λe ih=>?_) e;rw[a06 e,a06];show Ex.mk _ _ _ _ _ _ _ ((e.l.map B5).map B5)=_;rw[List.map_map];congr 1
 exact List.map_congr_left λx hx=>ih x hx
theorem a1o(x w:Ex):F5 (B5 x) w=F5 x w:=by rw[qH,a01,a01,c2M]
theorem c2h(x w:Ex):F5 x (B5 w)=F5 x w:=by rw[qH,a01,a01,c2M]
theorem a4p(e:Ex):a0P (B5 e)=a0P e:=a1o e A0
theorem b4x:∀(l pre:List Vr),Go.Ty.mayIn (pre.map R3) (l.map R3)=Go.Ty.mayIn pre l
 | [],_=>rfl
 |v::r,pre=>by
  have h1:Go.Ty.badV (pre.map R3) (R3 v)=Go.Ty.badV pre v:=by unfold Go.Ty.badV Go.Ty.tagIn;rw[List.any_map];rfl
  have h2:=b4x r (pre++[v]);rw[qZ]at h2;show(if Go.Ty.badV (pre.map R3) (R3 v)then false else Go.Ty.mayIn (pre.map R3++[R3 v]) (r.map R3))=if Go.Ty.badV pre v then false else Go.Ty.mayIn (pre++[v]) r
  rw[h1,<-h2];rfl
theorem a71(cs:Bool)(l:List Vr):Go.Ty.mayPr cs (l.map R3)=Go.Ty.mayPr cs l:=by
 unfold Go.Ty.mayPr;rw[qP];have h0:(Go.Ty.hdV (l.map R3)).tag=(Go.Ty.hdV l).tag/\(Go.Ty.hdV (l.map R3)).items=(Go.Ty.hdV l).items:=by cases l<;>exact⟨rfl,rfl⟩
 rw[h0.1,h0.2];have h1:=b4x l [];rw[List.map_nil]at h1;rw[h1]
theorem a5s{α β:Type}(l:List α)(f:α->β)(a b:Int)(q:β->Bool)(r:α->Bool)(h:∀x,q (f x)=r x):O2 (l.map f) a b q=O2 l a b r:=by
 unfold O2;rw[qP,List.any_map];congr 2
 congr 1
 funext x
 simp[h]
theorem b8t{α:Type}(q:α->α->Bool)(f:α->α)(h:∀x y,q (f x) (f y)=q x y):∀(l r:List α),eqL q (l.map f) (r.map f)=eqL q l r
 | [],[]=>rfl
 | [],_::_=>rfl
 |_::_,[]=>rfl
 |x::l,y::r=>by
  show(q (f x) (f y)&&eqL q (l.map f) (r.map f))=_;rw[h,b8t q f h l r];rfl
theorem Q8(s:Sp):stS s=spM s.k s.ty s.names.l (B5 s.e) s.cs (s.vs.l.map R3) s.fs.l (s.bl.map stP):=by cases s;rw[stS,a5u];rfl
theorem b1d(a b:Sp):S8 (stS a) (stS b)=S8 a b:=by rw[Q8,Q8];unfold S8;show((((((((a.k==b.k)&&Go.Ty.eqT a.ty b.ty)&&(a.names.l==b.names.l))&&F5 (B5 a.e) (B5 b.e))&&(a.cs==b.cs))&&eqL N7 (a.vs.l.map R3) (b.vs.l.map R3))&&eqL a0h a.fs.l b.fs.l)&&(((a.bl.map stP).length:Int)==(b.bl.map stP).length))=_;rw[a1o,c2h,b8t N7 R3 (λ_ _=>rfl),qP,qP]
theorem c4L(s:Sp):a1O (stS s)=stS (a1O s):=by
 rw[Q8 s];unfold a1O;show(if s.k=1 then _ else if s.k=2 then _ else if s.k=3 then _ else if s.k=4 then _ else _)=_;split
 ·rw[Q8];rfl
 ·split
  ·rw[Q8];rfl
  ·split
   ·rw[Q8];rfl
   ·split
    ·rw[Q8];rfl
    ·rw[Q8];rfl
theorem c4W(s:Sp):a1l (stS s)=a1l s:=by rw[Q8 s];unfold a1l;show(if s.k=1 then Go.Ty.may s.ty else if s.k=2 then N4 s.ty&&K0 (B5 s.e)else if s.k=3 then N4 s.ty&&L5 (B5 s.e)else if s.k=4 then Go.Ty.mayPr s.cs (s.vs.l.map R3)else(((s.bl.map stP).length:Int)==1)&&O2 s.fs.l 0 8 foP)=_;rw[S5,V5,a71,qP]
theorem c3m(s:Sp):spP (stS s)=spP s:=by
 have h1:(stS s).k=s.k:=by rw[Q8];rfl
 have h2:(stS s).names.l=s.names.l:=by rw[Q8];rfl
 unfold spP;rw[h1,h2,c4W,c4L,b1d]
end
end Go.Sx
namespace Go.Eng
section
open Go Go.RowKit
def a9K(es:Array MapEntry)(kv:List (List UInt8×Value)):Prop:=es.toList.map (λx=>(x.key,x.val))=kv.map λp=>(str p.1,p.2)
theorem a9K.nil:a9K #[] []:=rfl
def a2b(n:List UInt8):List (List UInt8×Value)->Option Value
 | []=>none
 |(k,v)::r=>if n=k then some v else a2b n r
theorem b6w{n:List UInt8}:∀(l:List MapEntry)(kv:List (List UInt8×Value))(i:Nat),l.map (λx=>(x.key,x.val))=kv.map (λp=>(str p.1,p.2)) ->
 (a2b n kv=none/\Instr.findNow .string (str n) l i=some none)\/∃j v,a2b n kv=some v/\Instr.findNow .string (str n) l i=some (some (i+j,v))
 | [],[],_,_=>.inl ⟨rfl,rfl⟩
 | [],_::_,_,h=>by cases h
 |_::_,[],_,h=>by cases h
 |e::l,(k,v)::kv,i,h=>by
  simp only[zo,List.cons.injEq,Prod.mk.injEq]at h;obtain⟨⟨hk,hv⟩,h⟩:=h;by_cases hn:n=k
  ·subst hn
   refine .inr ⟨0,v,by simp[a2b],?_⟩;simp[Instr.findNow,hk,Instr.sameNow,b2z,hv]
  ·have hb:((⟨n.toArray⟩:ByteArray)==⟨k.toArray⟩)=false:=c4c hn
   have e1:Instr.findNow .string (str n) (e::l) i=Instr.findNow .string (str n) l (i+1):=by simp[Instr.findNow,hk,Instr.sameNow,hb]
   have e2:a2b n ((k,v)::kv)=a2b n kv:=by simp[a2b,hn]
   rw[e1,e2];rcases b6w l kv (i+1) h with h1|⟨j,v,h1,h2⟩
   ·exact .inl h1
   ·exact .inr ⟨j+1,v,h1,by rw[h2];congr 3;omega⟩
section
variable {P:Program}{ops:Array Oper}{Q:Exit->Pw}{n:Cx}{F:Fm}{h h':Lr}{m:View}{rest:Lo}
variable {ty:TypeId}{pos:String}{after:Array Edge}{dst:Option Tmp}{g:Option (Nat×Bool)}{d:Nat}
theorem b3x(w:World){t kt et:TypeId}{b:Nat}{es:Array MapEntry}{clock:Nat}{kv:List (List UInt8×Value)}{x:List UInt8}{v:Value}(ht:P.underlying t=some (.map kt et))(hk:P.underlying kt=some (.string))(hM:a9K es kv)(hx:a2b x kv=none)
 (hb:w.heap[b]?=some (.map es clock)):∃es' clock',a9K es' (kv++[(x,v)])/\(Instr.mapUpdate t (.map (some b)) (str x) v).run P w=.ok () { w with heap:=w.heap.setIfInBounds b (.map es' clock') }:=by
 have hck:(Instr.checkKey false 10000 kt (str x)).run P w=.ok () w:=by unfold Instr.checkKey;simp[run_underlying hk]
 have hget:(getObj b).run P w=.ok (.map es clock) w:=by simp[getObj,Sem.run,hb]
 have hset:∀o,(setObj b o).run P w=.ok () { w with heap:=w.heap.setIfInBounds b o }:=λo=>by simp[setObj,Sem.run,hb]
 rcases b6w (n:=x) es.toList kv 0 hM with⟨h1,h2⟩|⟨j,v,h1,h2⟩
 ·refine⟨es.push { key:=str x,val:=v,born:=clock },clock+1,?_,?_⟩
  ·unfold a9K at hM⊢
   simp[hM]
  ·simp[Instr.mapUpdate,run_underlying ht,hget,hck,Instr.findKey,run_underlying hk,h2,hset]
 ·rw[hx]at h1;cases h1
theorem T7{op:Op}{x y z:Operand}{t kt et:TypeId}{b:Nat}{es:Array MapEntry}{clock:Nat}{kv:List (List UInt8×Value)}{i:List UInt8}{v:Value}{hq:Array MapEntry->Nat->Lr}(hop:op=.mapUpdate t x y z\/op=.insert t x y z)(ht:P.underlying t=some (.map kt et))(hk:P.underlying kt=some (.string))(hM:a9K es kv)(hi:a2b i kv=none)
 (ex:Ev n F x (.map (some b))) (ey:Ev n F y (str i)) (ez:Ev n F z v) (u:∀es' c',Upd h (.pt b (.map es clock)) (.pt b (.map es' c')) (hq es' c')) (k:∀es' c',a9K es' (kv++[(i,v)])->WL P ops Q n rest F (hq es' c') m) :
 WL P ops Q n (⟨none,op,ty,pos,after,none⟩::rest) F h m:=.mk λa w ha hs=>by
 obtain⟨es',c',h1,h2⟩:=b3x (P:=P) w (x:=i) (v:=v) ht hk hM hi (hs.ok _ (u es clock).mem);have hrun:(execOp a.eval ⟨none,op,ty,pos,after,none⟩).run P w=.ok .skip { w with heap:=w.heap.setIfInBounds b (.map es' c') }:=by rcases hop with rfl|rfl<;>simp[execOp,ex a ha,ey a ha,ez a ha,h2]
 exact G7 rfl (a8X hrun (k es' c' h1 _ _ ha (hs.setObj (u es' c'))))
theorem b6Q{x y:Operand}{t kt et:TypeId}{b:Nat}{es:Array MapEntry}{clock:Nat}{kv:List (List UInt8×Value)}{i:List UInt8}{z:Value}(ht:P.underlying t=some (.map kt et))(hk:P.underlying kt=some (.string))(hz:(P.info? et).bind (·.zero)=some z)(hM:a9K es kv)
 (ex:Ev n F x (.map (some b))) (ey:Ev n F y (str i)) (hm:Res.pt b (.map es clock)∈h):PO P ⟨dst,.lookup t x y true,ty,pos,after,g⟩ n F h m (.tuple #[(a2b i kv).getD z,.bool (a2b i kv).isSome]):=.mk λa w ha hs=>by
 have hb:w.heap[b]?=some (.map es clock):=hs.ok _ hm;have hck:(Instr.checkKey es.isEmpty 10000 kt (str i)).run P w=.ok () w:=by unfold Instr.checkKey;simp[run_underlying hk]
 have hget:(getObj b).run P w=.ok (.map es clock) w:=by simp[getObj,Sem.run,hb]
 have hzr:(zeroValue et).run P w=.ok z w:=by
  cases hi:P.info? et with
  |none=>simp[hi]at hz
  |some j=>
   have:j.zero=some z:=by simpa [hi]using hz
   simp[zeroValue,typeInfo,hi,this]
 rcases b6w (n:=i) es.toList kv 0 hM with⟨h1,h2⟩|⟨j,v,h1,h2⟩
 ·simp[execOp,ex a ha,ey a ha,Instr.lookup,run_underlying ht,hget,hck,Instr.findKey,run_underlying hk,h1,h2,hzr]
 ·simp[execOp,ex a ha,ey a ha,Instr.lookup,run_underlying ht,hget,hck,Instr.findKey,run_underlying hk,h1,h2]
theorem c8V{fn:Func}{ex:Exit}{m0:View}{R:Value->View->Lr->Prop}{r r':ResultVar}{v v':Value}{q:FuncId}{cap:Lv}(hex:ex=.ret\/ex=.normal)(hds:n.ds=[b0N q cap])(he:∀as w,(callFunc q as).run P w=.ok (.enter q as) w)
 (hd:b0R P q cap .returning m h h) (hfn:fn.results=#[r,r']) (x1:RV P n F h m r v) (x2:RV P n F h m r' v') (hle:m0.le m) (hsub:h'.Sublist h) (hR:R (.tuple #[v,v']) m h') :
 ∀a w,Fr n F a->St m h w->bodyPostD P fn (RQ m0 R) ex a w:=λa w ha hs=>by
 have key:Leaves P fn a.tmps (RQ m0 R) a.defers .returning w:=by
  rw[ha.d,hds];refine b3q he (by simp) hd hs λw' hs'=>⟨.tuple #[v,v'],?_,_,m,h',rfl,hle,hs'.sub hsub,hR⟩
  have h1:=x1.e a w' ha hs';have h2:=x2.e a w' ha hs';simp[a0L,hfn,h1,h2]
 rcases hex with rfl|rfl<;>exact key
theorem c8S{fn:Func}{m0:View}{R:Value->View->Lr->Prop}{r r':ResultVar}{v v' u:Value}{q:FuncId}{cap:Lv}{h2:Lr}(hds:n.ds=[b0N q cap])(he:∀as w,(callFunc q as).run P w=.ok (.enter q as) w)
 (hd:b0R P q cap (.panicking [{ v:=u,recovered:=false }]) m h h2) (hfn:fn.results=#[r,r']) (x1:RV P n F h2 m r v) (x2:RV P n F h2 m r' v') (hle:m0.le m) (hsub:h'.Sublist h2) (hR:R (.tuple #[v,v']) m h') :
 ∀a w,Fr n F a->St m h w->bodyPostD P fn (RQ m0 R) (.panic [{ v:=u,recovered:=false }]) a w:=λa w ha hs=>by
 show Leaves P fn a.tmps (RQ m0 R) a.defers (.panicking [{ v:=u,recovered:=false }]) w;rw[ha.d,hds];refine b3q he (by simp) hd hs λw' hs'=>⟨.tuple #[v,v'],?_,_,m,h',rfl,hle,hs'.sub hsub,hR⟩
 have h1:=x1.e a w' ha hs';have h2:=x2.e a w' ha hs';simp[a0L,hfn,h1,h2]
end
end
end Go.Eng
namespace Go.Sx
section
open Go.Eng Go.Pc Go
open Go.Xp hiding B
open Go.Ty (Ty Vr Tok)
open Go.Ly (Rw)
def Er{α:Type}(r:E α):Prop:=∀e,r=.error e->e=110
theorem X8{α:Type}{x:α×Lt}:Er (.ok x):=nofun
theorem a5b{α:Type}:Er (.error 110:E α):=λe h=>by cases h;rfl
theorem S7{α β:Type}{r:E α}{f:α->Lt->E β}(h:Er r)(hf:∀x ts,Er (f x ts)):Er (I3 r f):=by
 cases r with
 |ok x=>exact hf x.1 x.2
 |error e=>rw[h e rfl];exact a5b
theorem a5K{β:Type}{k:Int}{s:B}{ts:Lt}{f:Lt->E β}(h:∀r,Er (f r)):Er (Q5 k s ts f):=by
 unfold Q5;split
 ·exact h _
 ·exact a5b
theorem a0W{α:Type}{c:Prop}[Decidable c]{a b:E α}(ha:Er a)(hb:Er b):Er (if c then a else b):=by
 split
 ·exact ha
 ·exact hb
theorem W0(ts:Lt):Er (O0 ts):=by rw[a9F];exact a0W X8 a5b
theorem O7(ts:Lt):Er (G6 ts):=by rw[a6M];exact a0W X8 a5b
theorem V9(ts:Lt):Er (C5 ts):=by rw[a3v];exact a0W (S7 (O7 ts) λ_ _=>a0W X8 a5b) a5b
theorem a6w(ts:Lt):Er (a1Y ts):=a0W X8 a5b
theorem b2r(ts:Lt):Er (S1 ts):=S7 (a6w ts) λ_ _=>a0W X8 a5b
theorem b1M(ts:Lt):Er (a0d ts):=S7 (a6w _) λ_ _=>S7 (W0 _) λ_ _=>a0W X8 a5b
theorem b7Z{α:Type}{take:Lt->E α}{sep:B}(h:∀ts,Er (take ts)):∀(n:Nat)(acc:List α)(ts:Lt),Er (R6 take sep n acc ts)
 |0,_,_=>a0W a5b X8
 |n+1,_,_=>a0W (S7 (h _) λ_ _=>b7Z h n _ _) X8
theorem X5{α:Type}{take:Lt->E α}{sep:B}{most:Nat}{ts:Lt}(h:∀ts,Er (take ts)):Er (H1 take sep most ts):=S7 (h _) λ_ _=>b7Z h _ _ _
theorem b7G{α:Type}{take:Lt->E α}{ts:Lt}(h:∀ts,Er (take ts)):Er (brM take ts):=a5K λ_=>a0W X8 (S7 (X5 h) λ_ _=>a5K λ_=>X8)
theorem b65(ts:Lt):Er (a8A ts):=a0W X8 (S7 (W0 _) λ_ _=>a5K λ_=>S7 (O7 _) λ_ _=>a5K λ_=>S7 (O7 _) λ_ _=>X8)
theorem c3F(ts:Lt):Er (ifM ts):=S7 (O7 _) λ_ _=>X8
theorem b7E(c:Ex)(ts:Lt):Er (a6h c ts):=S7 (V9 _) λ_ _=>a5K λ_=>a0W (S7 (O7 _) λ_ _=>X8) (S7 (X5 V9) λ_ _=>X8)
theorem b6q(ts:Lt):Er (a3D ts):=a0W (S7 (O7 _) λ_ _=>a5K λ_=>a0W X8 (b7E _ _)) (b7E _ _)
theorem c1D(ts:Lt):Er (a9u ts):=a0W X8 (S7 (X5 O7) λ_ _=>X8)
theorem c0q(ts:Lt):Er (a6q ts):=S7 (W0 _) λ_ _=>a0W (S7 (X5 V9) λ_ _=>X8) X8
theorem b0a(ts:Lt):Er (W7 ts):=S7 (W0 _) λ_ _=>a0W (S7 (X5 b2r) λ_ _=>X8) X8
def Ep{α:Type}(r:PE α):Prop:=∀e j,r=.error (e,j)->e≠0
theorem R5{α:Type}{x:α×Nat}:Ep (.ok x):=nofun
theorem a3w{α:Type}{i:Nat}:Ep (.error (110,i):PE α):=λe j h=>by cases h;decide
theorem X3{α β:Type}{r:PE α}{f:α->Nat->PE β}(h:Ep r)(hf:∀x i,Ep (f x i)):Ep (J8 r f):=by
 cases r with
 |ok x=>exact hf x.1 x.2
 |error e=>exact λa j q=>h a j (by cases q;rfl)
theorem N1{α β:Type}{r:E α}{i:Nat}{f:α->Lt->PE β}(h:Er r)(hf:∀x ts,Ep (f x ts)):Ep (F2 r i f):=by
 cases r with
 |ok x=>exact hf x.1 x.2
 |error e=>rw[h e rfl];exact a3w
theorem V4{α:Type}{c:Prop}[Decidable c]{a b:PE α}(ha:Ep a)(hb:Ep b):Ep (if c then a else b):=by
 split
 ·exact ha
 ·exact hb
theorem K9{β:Type}{ts:Lt}{i:Nat}{f:Nat->PE β}(h:∀i,Ep (f i)):Ep (D4 ts i f):=V4 (h _) a3w
theorem a3n{β:Type}{k:Int}{s:B}{ts:Lt}{i:Nat}{f:Lt->PE β}(h:∀r,Ep (f r)):Ep (M1 k s ts i f):=V4 (h _) a3w
variable {R:List Rw}
theorem a6R{β:Type}{d:Int}{i:Nat}{f:Lt->PE β}(h:∀r,Ep (f r)):Ep (a1k R d i f):=by
 unfold a1k V3;cases hx:R[i]? with
 |none=>exact a3w
 |some x=>
  simp only;split
  ·rename_i h1
   split at h1
   ·cases h1
   ·split at h1
    ·cases h1
    ·exact h _
  ·rename_i h1
   split at h1
   ·rename_i he
    cases h1;exact λa j q=>by cases q;exact he
   ·split at h1
    ·cases h1;exact a3w
    ·cases h1
theorem b3h{β:Type}{d k:Int}{s:B}{i:Nat}{f:Nat->PE β}(h:∀i,Ep (f i)):Ep (a1m R d k s i f):=a6R λ_=>a3n λ_=>K9 h
variable {rec:Int->Bool->Nat->PE Pr}(hr:∀d t i,Ep (rec d t i))
include hr
theorem a6a{row:Lt->E Gu}(hw:∀ts,Er (row ts)){least most:Nat}{d:Int}:∀(k:Nat)(acc:List Gu)(i:Nat),Ep (X7 R rec row least most d k acc i)
 |0,_,_=>V4 a3w R5
 |k+1,_,_=>V4 (a6R λ_=>N1 (hw _) λ_ _=>K9 λ_=>X3 (hr _ _ _) λ_ _=>a6a hw k _ _) R5
theorem b3v{d:Int}:∀(k:Nat)(acc:List Pr)(i:Nat),Ep (a0i R rec d k acc i)
 |0,_,_=>R5
 |k+1,_,_=>V4 (X3 (hr _ _ _) λ_ _=>b3v k _ _) R5
theorem b1e{d:Int}:∀(k:Nat)(ns:List Int)(acc:List Pr)(i:Nat),Ep (O8 R rec d k ns acc i)
 |0,_,_,_=>V4 a3w R5
 |k+1,_,_,_=>V4 (a6R λ_=>a3n λr=>by
  cases a4Y r with
  |none=>exact a3w
  |some n=>exact X3 (hr _ _ _) λ_ _=>b1e k _ _ _) R5
omit hr in
theorem b1q{d:Int}:∀(k:Nat)(acc:List Vr)(i:Nat),Ep (U8 R d k acc i)
 |0,_,_=>V4 a3w R5
 |k+1,_,_=>V4 (a6R λ_=>N1 (b0a _) λ_ _=>V4 (K9 λ_=>b1q k _ _) a3w) R5
omit hr in
theorem c2Y{d:Int}{ts:Lt}{i:Nat}:Ep (a4l R d ts i):=
 V4 (N1 (X5 b2r) λ_ _=>a3n λ_=>K9 λ_=>R5) (K9 λ_=>b3h λ_=>X3 (b1q _ _ _) λ_ _=>b3h λ_=>R5)
omit hr in
theorem b2y{s:Sp}{ts:Lt}{i:Nat}:Ep (a5i s ts i):=a3n λ_=>V4 (K9 λ_=>R5) a3w
theorem c6v{d:Int}{ts:Lt}{i:Nat}:Ep (a2C R rec d ts i):=
 V4 (N1 (W0 _) λ_ _=>X3 c2Y λ_ _=>R5)
  (V4 (N1 (W0 _) λ_ _=>N1 (b7G b1M) λ_ _=>K9 λ_=>X3 (hr _ _ _) λ_ _=>b3h λ_=>R5)
   (V4 (N1 (a6w _) λ_ _=>N1 (W0 _) λ_ _=>a3n λ_=>N1 (O7 _) λ_ _=>b2y)
    (V4 (N1 (a6w _) λ_ _=>N1 (X5 W0) λ_ _=>V4 (N1 (V9 _) λ_ _=>b2y) b2y) R5)))
theorem b1r{k:Int}{d:Int}{ts:Lt}{i:Nat}:Ep (a2Q R rec k d ts i):=
 N1 (b65 _) λ_ _=>K9 λ_=>V4 (X3 (hr _ _ _) λ_ _=>R5) (X3 (b3v hr _ _ _) λ_ _=>R5)
theorem a7A{k:Int}{row:Lt->E Gu}(hw:∀ts,Er (row ts)){d:Int}{ts:Lt}{i:Nat}:Ep (a0B R rec k row d ts i):=
 N1 (b65 _) λ_ _=>K9 λ_=>X3 (a6a hr hw _ _ _) λ_ _=>R5
theorem b1J{d:Int}{ts:Lt}{i:Nat}:Ep (S6 R rec d ts i):=
 V4 (N1 (W0 _) λ_ _=>N1 (b7G O7) λ_ _=>K9 λ_=>R5)
  (N1 (X5 V9) λ_ _=>V4 (N1 (X5 O7) λ_ _=>K9 λ_=>R5) (V4 a3w (V4 (N1 (X5 O7) λ_ _=>K9 λ_=>R5)
   (a3n λ_=>V4 (K9 λ_=>X3 (a6a hr c0q _ _ _) λ_ _=>R5) (V4 (N1 (O7 _) λ_ _=>K9 λ_=>R5) (N1 (X5 V9) λ_ _=>K9 λ_=>R5))))))
theorem c6r{s:B}{f:Int->Lt->Nat->PE Pr}(h:a3c R rec s=some f)(d:Int)(ts:Lt)(i:Nat):Ep (f d ts i):=by
 unfold a3c at h;split at h
 ·cases h;exact K9 λ_=>R5
 split at h
 ·cases h;exact K9 λ_=>R5
 split at h
 ·cases h;exact b1r hr
 split at h
 ·cases h;exact b1r hr
 split at h
 ·cases h;exact V4 (K9 λ_=>X3 (hr _ _ _) λ_ _=>X3 (hr _ _ _) λ_ _=>R5) (a3n λ_=>a7A hr b6q)
 split at h
 ·cases h;exact a7A hr b6q
 split at h
 ·cases h;exact a7A hr c3F
 split at h
 ·cases h;exact N1 (O7 _) λ_ _=>K9 λ_=>X3 (a6a hr c1D _ _ _) λ_ _=>R5
 split at h
 ·cases h;exact N1 (O7 _) λ_ _=>K9 λ_=>X3 (hr _ _ _) λ_ _=>R5
 split at h
 ·cases h;exact a3n λ_=>K9 λ_=>X3 (b1e hr _ _ _ _) λ_ _=>R5
 ·cases h
theorem c5c{d:Int}{top:Bool}{ts:Lt}{i:Nat}:Ep (a1R R rec d top ts i):=by
 cases ts with
 |nil=>exact a3w
 |cons t r=>
  unfold a1R;cases hw:a3c R rec t.text with
  |none=>simp only[hw];exact b1J hr
  |some f=>simp only[hw];exact V4 (c6r hr hw _ _ _) (b1J hr)
theorem c4U{d:Int}{top:Bool}{i:Nat}:Ep (c0p R rec d top i):=a6R λ_=>X3 (c6v hr) λso _=>by
 cases so with
 |none=>exact c5c hr
 |some s=>exact X3 (hr _ _ _) λ_ _=>R5
omit hr in
theorem a9y:∀(n:Nat)(d:Int)(t:Bool)(i:Nat),Ep (A4 R n d t i)
 |0,_,_,_=>a3w
 |n+1,_,_,_=>c4U (a9y n)
omit hr in
theorem c8r:Ep (a4X R):=X3 (a9y _ _ _ _) λ_ i=>by
 cases R[i]? with
 |none=>exact R5
 |some y=>
  show Ep (.error (if(Go.Lx.lexO y.text).2.2≠0 then(Go.Lx.lexO y.text).2.2 else 110,i));intro e j h;cases h;split
  ·assumption
  ·decide
end
section
open Go.Eng Go.Pc Go
open Go.Xp hiding B
open Go.Ty (Ty Vr Tok)
open Go.Ly (Rw)
def A6(s:B):Tok:=if Go.Lx.key s then⟨2,0,s,0⟩else⟨5,0,s,0⟩
def R2(s:B):Tok:=⟨1,0,s,0⟩
def M7(t:Ty):Lt:=(Go.Ty.tokens t).1
def a1I(k:Int):Lt:=M7 ⟨k,0,0,[]⟩
def E7{α:Type}(sep:B)(f:α->Lt):List α->Lt
 | []=>[]
 | [x]=>f x
 |x::y::r=>f x++⟨5,0,sep,0⟩::E7 sep f (y::r)
theorem a2R{α:Type}(sep:B)(f:α->Lt):∀(l:List α)(x:α),l≠[]->E7 sep f (l++[x])=E7 sep f l++(⟨5,0,sep,0⟩::f x)
 | [],_,h=>absurd rfl h
 | [y],x,_=>rfl
 |y::z::r,x,_=>by
  show f y++⟨5,0,sep,0⟩::E7 sep f (z::r++[x])=(f y++⟨5,0,sep,0⟩::E7 sep f (z::r))++(⟨5,0,sep,0⟩::f x);rw[a2R sep f (z::r) x (by simp)];simp
def a3i(s:B)(l:Lt):Lt:=if l.length=0 then[]else A6 s::l
def a2E(r:Rp):Lt:=if r.name=[]then[]else((([R2 r.name]++[A6 [61]])++G3 r.base)++[A6 [70,79,82]])++G3 r.count
def U2(f:Fo):Lt:=((if f.val then[A6 [86,65,76]]else[])++M7 f.ty)++[R2 f.name]
abbrev Ln:=Int×Lt
def F6(k:Int)(n:B)(ch:Ex)(tg ex:List Ex)(rep:Rp):Lt:=
 if k=1 then[A6 [83,75,73,80]]
 else if k=2 then[A6 [83,84,79,80]]
 else if k=3 then(E7 [44] G3 tg++[A6 [58,61]])++E7 [44] G3 ex
 else if k=4 then(G3 ch++[A6 [63]])++E7 [59] G3 tg
 else if k=5 then(G3 ch++[A6 [33]])++E7 [59] G3 ex
 else if k=6 then(G3 ch++[A6 [63],A6 [65,70,84,69,82]])++E7 [] G3 ex
 else if k=7 then G3 ch++[A6 [63],A6 [67,65,83,69]]
 else if k=8 then[A6 [83,69,81]]++a2E rep
 else if k=9 then[A6 [80,65,82]]++a2E rep
 else if k=10 then[A6 [80,82,73],A6 [80,65,82]]
 else if k=11 then[A6 [80,76,65,67,69,68],A6 [80,65,82]]
 else if k=12 then[A6 [65,76,84]]++a2E rep
 else if k=13 then[A6 [80,82,73],A6 [65,76,84]]++a2E rep
 else if k=14 then[A6 [73,70]]++a2E rep
 else if k=15 then[A6 [67,65,83,69]]++E7 [] G3 ex
 else if k=16 then[A6 [87,72,73,76,69]]++E7 [] G3 ex
 else(([R2 n]++[A6 [40]])++E7 [44] G3 ex)++[A6 [41]]
def a1j(c:Ex):Lt:=if a0P c then[]else G3 c++[⟨5,0,[38],0⟩]
def H9(k:Int)(n:B)(cond ch:Ex)(tg vl:List Ex)(time:Ex):Lt:=
 if k=1 then G3 cond
 else if k=2 then a1j cond++[A6 [83,75,73,80]]
 else if k=3 then((a1j cond++G3 ch)++[A6 [63]])++E7 [59] G3 tg
 else if k=4 then((a1j cond++G3 ch)++[A6 [63],A6 [65,70,84,69,82]])++G3 time
 else if k=5 then E7 [44] G3 vl
 else if k=6 then[A6 [69,76,83,69]]
 else[R2 n]++a3i [59] (E7 [59] G3 tg)
def K2(l:List B):Lt:=E7 [44] (λs=>[R2 s]) l
def L0(v:Vr):Lt:=[R2 v.tag]++a3i [59] (E7 [59] a1I v.items)
mutual
def J7:Pr->Int->List Ln
 | .mk k n ch tg ex rep _ _ gl _ _ ll pn sp,d=>if k=18 then M0 sp d++a2A ll d else(d,F6 k n ch tg.l ex.l rep)::(G5 k pn.l ll d++L1 gl (d+1))
def a2A:List Pr->Int->List Ln
 | [],_=>[]
 |x::_,d=>J7 x d
def G5(k:Int):List Int->List Pr->Int->List Ln
 |_,[],_=>[]
 |ns,x::r,d=>(if k=11 then(d+1,[A6 [80,82,79,67,69,83,83,79,82],⟨3,0,[],IntKind.i32.wrap (ns.headD 0)⟩])::J7 x (d+2)else J7 x (d+1))++G5 k ns.tail r d
def a0G:Gu->Int->List Ln
 | .mk k n cond ch tg vl time _ _ bl,d=>(d,H9 k n cond ch tg.l vl.l time)::a2A bl (d+1)
def L1:List Gu->Int->List Ln
 | [],_=>[]
 |g::r,d=>a0G g d++L1 r d
def M0:Sp->Int->List Ln
 | .mk k ty ns e cs vs fs _ _ bl,d=>
  if k=1 then[(d,(M7 ty++K2 ns.l)++[A6 [58]])]
  else if k=2 then[(d,(((([A6 [86,65,76]]++M7 ty)++K2 ns.l)++[A6 [73,83]])++G3 e)++[A6 [58]])]
  else if k=3 then[(d,(((M7 ty++K2 ns.l)++[A6 [73,83]])++G3 e)++[A6 [58]])]
  else if k=5 then(d,((([A6 [80,82,79,67]]++K2 ns.l)++[A6 [40]])++E7 [44] U2 fs.l)++[A6 [41]])::(a2A bl (d+1)++[(d,[A6 [58]])])
  else if cs=false then[(d,((([A6 [80,82,79,84,79,67,79,76]]++K2 ns.l)++[A6 [73,83]])++E7 [59] a1I (Go.Ty.hdV vs.l).items)++[A6 [58]])]
  else(d,[A6 [80,82,79,84,79,67,79,76]]++K2 ns.l)::(d+1,[A6 [67,65,83,69]])::(vs.l.map (λv=>((d+2,L0 v):Ln))++[(d,[A6 [58]])])
end
abbrev Ps:=List Rw×Bool
def D5(st:Ps)(x:Ln):Ps:=if(Go.Lx.textO x.2).2≠0\/st.1.length>2048 then(st.1,true)else(st.1++[⟨st.1.length+1,x.1,(Go.Lx.textO x.2).1⟩],st.2)
def B8(st:Ps)(l:List Ln):Ps:=l.foldl D5 st
theorem a0M(st:Ps)(a b:List Ln):B8 st (a++b)=B8 (B8 st a) b:=List.foldl_append
theorem a1s(st:Ps)(x:Ln)(b:List Ln):B8 st (x::b)=B8 (D5 st x) b:=rfl
def Y5(p:Pr):List Rw×Int:=if mayP p then(if(B8 ([],false) (J7 p 0)).2||!Go.Ly.mayP (B8 ([],false) (J7 p 0)).1 then([],3)else((B8 ([],false) (J7 p 0)).1,0))else([],2)
end
end Go.Sx
namespace Go.Eng
section
open Go Go.RowKit
section
variable {P:Program}{ops:Array Oper}{Q:Exit->Pw}{n:Cx}{F:Fm}{h h':Lr}{m:View}{rest:Lo}
variable {ty:TypeId}{pos:String}{after:Array Edge}{d:Nat}
theorem c0U{x y:Operand}{t tn e:TypeId}{sz by_ q:Nat}{kn kq:IntKind}{j:Int}(E:EL P t e sz by_)(htn:P.underlying tn=some (.int kn))(ex:Ev n F x (.slice none 0 0))(ey:Ev n F y (.int kq j))(hj:j=(q:Int))(h0:0<q)(hb:q*by_<=140737488355328)(h63:q<=4611686018427387904)(hd:d<n.num)
 (kk:∀b cap,q<=cap->cap<=9223372036854775807->WL P ops Q n rest ((d,.slice (some ⟨b,0,none⟩) q cap)::F) (.row (.slice (some ⟨b,0,none⟩) 0 cap) e sz 0 []::h) m) :
 WL P ops Q n (⟨some d,.call ⟨.builtin .append,#[x,y],#[t,tn]⟩,ty,pos,after,none⟩::rest) F h m:=.mk λf w hf hs=>by
 subst hj;obtain⟨i,z,ht,hi,hz,hsize,hby,hzs,hsz⟩:=E.ex;subst hsize hby
 have hr:=Lib.run_append_grow_zeros (P:=P) w t tn ty e i z kq kn ht htn hi hz none 0 0 [] (run_firstCells_none w.drew i.size 0 0 0) q h0 hsz (by omega) (by omega) (by omega) (growslice_fits (by omega) (by rw[qI];exact hb));simp only[qI]at hr;have hge:=grownCap_ge w q 0 e;have hcm:grownCap w q 0 e<=maxLen:=grownCap_le_maxLen w q 0 e (by unfold maxLen;omega);refine G7 rfl (O5 (v:=.slice (some ⟨w.heap.size,0,none⟩) q (grownCap w q 0 e)) (w':=w.drew.alloc (.cells (([]:Lv).toArray++Builtin.zeroCells z.cells q++Builtin.zeroCells z.cells (grownCap w q 0 e-q)) e)) ?_ (kk w.heap.size (grownCap w q 0 e) hge (by unfold maxLen at hcm;omega) _ _ (hf.put hd _) ?_))
 ·simp at hr
  simp[execOp,resolve,invoke,builtin,ex f hf,ey f hf,hr]
 ·refine(hs.drew.alloc (.cells (([]:Lv).toArray++Builtin.zeroCells z.cells q++Builtin.zeroCells z.cells (grownCap w q 0 e-q)) e)).conv (r':=.row (.slice (some ⟨w.heap.size,0,none⟩) 0 (grownCap w q 0 e)) e i.size 0 []) Upd.here rfl λhh=>?_
  have:=a4B (sz:=i.size) (n:=0) (cap:=grownCap w q 0 e) hh (qi _) hcm (by
   simp only[Array.size_append,List.size_toArray,size_zeroCells,hzs,zQ,qI,<-zv];congr 1
   omega)
  rw[Nat.zero_mul,zZ]at this;exact this
theorem b4D{x:Operand}{t:TypeId}{e:TypeId}{a:Oa}{l c:Nat}{dst:Option Tmp}{g:Option (Nat×Bool)}(ht:P.underlying t=some (.slice e))(ex:Ev n F x (.slice a l c)) :
 PO P ⟨dst,.call ⟨.builtin .cap,#[x],#[t]⟩,ty,pos,after,g⟩ n F h m (.int .i64 c):=.mk λb w ha _=>by
 simp[execOp,resolve,invoke,builtin,ex b ha,Builtin.cap_,run_underlying ht,goInt]
end
end
end Go.Eng
namespace Go.Sx
section
open Go.Eng Go.Pc Go
open Go.Xp hiding B E8
open Go.Ty (Ty Vr Tok)
theorem a9C(p:Pr):(stP p).k=p.k/\(stP p).name=p.name/\(stP p).ch=B5 p.ch/\(stP p).tg.l=p.tg.l.map B5/\(stP p).ex.l=p.ex.l.map B5/\(stP p).rep=stR p.rep/\(stP p).gl=p.gl.map stG/\(stP p).ll=p.ll.map stP/\(stP p).pn.l=p.pn.l/\(stP p).sp=stS p.sp:=by
 cases p;refine⟨rfl,rfl,rfl,rfl,rfl,rfl,?_,?_,rfl,rfl⟩
 ·exact a9b _
 ·exact a5u _
theorem b5z(g:Gu):(stG g).k=g.k/\(stG g).name=g.name/\(stG g).cond=B5 g.cond/\(stG g).ch=B5 g.ch/\(stG g).tg.l=g.tg.l.map B5/\(stG g).vl.l=g.vl.l.map B5/\(stG g).time=B5 g.time/\(stG g).bl=g.bl.map stP:=by cases g;exact⟨rfl,rfl,rfl,rfl,rfl,rfl,rfl,a5u _⟩
theorem b7m(s:Sp):(stS s).k=s.k/\(stS s).ty=s.ty/\(stS s).names.l=s.names.l/\(stS s).e=B5 s.e/\(stS s).cs=s.cs/\(stS s).vs.l=s.vs.l.map R3/\(stS s).fs.l=s.fs.l/\(stS s).bl=s.bl.map stP:=by rw[Q8];exact⟨rfl,rfl,rfl,rfl,rfl,rfl,rfl,rfl⟩
theorem c9S(g:Gu):guP (stG g)=guP g:=by obtain⟨h1,h2,h3,h4,h5,h6,h7,h8⟩:=b5z g;unfold guP b06;rw[h1,h2,h3,h4,h5,h6,h7,h8,qP,a4p,a4p,a4p,S5,S5,V5,a5s _ B5 _ _ L5 L5 V5,a5s _ B5 _ _ K0 K0 S5]
theorem c8W(u:Us)(g:Gu):inG u (stG g)=inG u g:=by unfold inG;rw[c9S,(b5z g).1]
theorem c8Q:stS B4=B4:=by
 rw[Q8];have:B5 A0=A0:=by rw[a06];rfl
 show spM 0 Go.Ty.zeroT [] (B5 A0) false [] [] []=B4;rw[this];rfl
theorem b1H(p:Pr)(u:Us):a0k (stP p) u=a0k p u:=by
 obtain⟨h1,h2,h3,h4,h5,h6,h7,h8,h9,h10⟩:=a9C p;unfold a0k;rw[h2,h3,h4,h5,h7,h8,h9,h10,qP,a4p,V5,a5s _ B5 _ _ L5 L5 V5,a5s _ B5 _ _ K0 K0 S5,a5s _ stG _ _ (inG u) (inG u) (c8W u),c3m];have:S8 (stS p.sp) B4=S8 p.sp B4:=by have:=b1d p.sp B4;rwa [c8Q]at this
 rw[this]
theorem c2G(p:Pr):W2 (stP p)=W2 p:=by
 obtain⟨h1,h2,h3,h4,h5,h6,h7,h8,h9,h10⟩:=a9C p;unfold W2;have hr:a7n (stP p).rep=a7n p.rep:=by rw[h6];unfold a7n stR;show(if p.rep.name==[]then a0P (B5 p.rep.base)&&a0P (B5 p.rep.count)else Go.Lx.name p.rep.name&&K0 (B5 p.rep.base)&&K0 (B5 p.rep.count))=_;rw[a4p,a4p,S5,S5]
 have hn:(stP p).rep.name=p.rep.name:=by rw[h6];rfl
 rw[h1,hr,hn,b1H,b1H]
theorem c5O(p:Pr)(d:Int)(pl:Bool)(q:Int):a1F (stP p) d pl q=a1F p d pl q:=by unfold a1F;rw[c2G,(a9C p).1]
abbrev b4I(p:Pr):Prop:=∀d pl q,M2 (stP p) d pl q=M2 p d pl q
theorem b7k{d:Int}{pl:Bool}:∀{l:List Pr}{q:Int},(∀x∈l,b4I x)->a0C (l.map stP) d pl q=a0C l d pl q
 | [],_,_=>rfl
 |x::r,q,h=>by
  have h1:=h x (qm _) d pl q;show(if(M2 (stP x) d pl q).1 then a0C (r.map stP) d pl (M2 (stP x) d pl q).2 else M2 (stP x) d pl q)=(if(M2 x d pl q).1 then a0C r d pl (M2 x d pl q).2 else M2 x d pl q);rw[h1,b7k λy hy=>h y (qD _ hy)]
theorem b8f{d:Int}{l:List Pr}{q:Int}(h:∀x∈l,b4I x):a6e (l.map stP) d q=a6e l d q:=by
 cases l with
 |nil=>rfl
 |cons x r=>exact h x (qm _) d false q
theorem b7q{d:Int}:∀{l:List Gu}{q:Int},(∀g∈l,∀x∈g.bl,b4I x)->a3B (l.map stG) d q=a3B l d q
 | [],_,_=>rfl
 |g::r,q,h=>by
  have h1:a2V (stG g) d q=a2V g d q:=by rw[a7f,a7f,(b5z g).2.2.2.2.2.2.2];exact b8f (h g (qm _))
  show(if(a2V (stG g) d q).1 then a3B (r.map stG) d (a2V (stG g) d q).2 else a2V (stG g) d q)=(if(a2V g d q).1 then a3B r d (a2V g d q).2 else a2V g d q);rw[h1,b7q λy hy=>h y (qD _ hy)]
theorem c5P(p:Pr):b4I p:=by
 refine Pr.ind (q:=b4I) (λp ih d pl q=>?_) p;obtain⟨h1,h2,h3,h4,h5,h6,h7,h8,h9,h10⟩:=a9C p;have hs:∀a b,a1h (stS p.sp) a b=a1h p.sp a b:=λa b=>by
  rw[a8R,a8R,(b7m p.sp).2.2.2.2.1,(b7m p.sp).2.2.2.2.2.2.2,b8f λx hx=>ih x (.s hx)]
 have hl:∀a b c,a0C (p.ll.map stP) a b c=a0C p.ll a b c:=λa b c=>b7k λx hx=>ih x (.l hx)
 have hg:∀a b,a3B (p.gl.map stG) a b=a3B p.gl a b:=λa b=>b7q λg hg x hx=>ih x (.g hg hx)
 rw[a8G (stP p),a8G p,c5O,h1,h7,h8,h10,hs,hl,hl,hg,hg]
theorem c5V(p:Pr):mayP (stP p)=mayP p:=by unfold mayP;rw[c5P]
theorem b2f{α β:Type}(sep:B)(f:β->Lt)(g:α->β)(e:α->Lt)(h:∀x,f (g x)=e x):∀l:List α,E7 sep f (l.map g)=E7 sep e l
 | []=>rfl
 | [x]=>h x
 |x::y::r=>by
  show f (g x)++⟨5,0,sep,0⟩::E7 sep f ((y::r).map g)=e x++⟨5,0,sep,0⟩::E7 sep e (y::r);rw[h,b2f sep f g e h (y::r)]
theorem a2y(sep:B)(l:List Ex):E7 sep G3 (l.map B5)=E7 sep G3 l:=b2f sep G3 B5 G3 a0c l
theorem c8I(r:Rp):a2E (stR r)=a2E r:=by unfold a2E stR;show(if r.name=[]then[]else((([R2 r.name]++[A6 [61]])++G3 (B5 r.base))++[A6 [70,79,82]])++G3 (B5 r.count))=_;rw[a0c,a0c]
theorem c3Y(e:Ex):a1j (B5 e)=a1j e:=by unfold a1j;rw[a4p,a0c]
abbrev a9a(p:Pr):Prop:=∀d,J7 (stP p) d=J7 p d
theorem b2l{k d:Int}:∀{l:List Pr}{ns:List Int},(∀x∈l,a9a x)->G5 k ns (l.map stP) d=G5 k ns l d
 | [],ns,_=>by cases ns<;>rfl
 |x::r,ns,h=>by
  have h1:=h x (qm _);show(if k=11 then _::J7 (stP x) (d+2)else J7 (stP x) (d+1))++G5 k ns.tail (r.map stP) d=_;rw[h1,h1,b2l λy hy=>h y (qD _ hy)];rfl
theorem a7W{d:Int}{l:List Pr}(h:∀x∈l,a9a x):a2A (l.map stP) d=a2A l d:=by
 cases l with
 |nil=>rfl
 |cons x r=>exact h x (qm _) d
theorem b4a(g:Gu)(d:Int):a0G g d=(d,H9 g.k g.name g.cond g.ch g.tg.l g.vl.l g.time)::a2A g.bl (d+1):=by cases g;rfl
theorem b97{d:Int}{g:Gu}(h:∀x∈g.bl,a9a x):a0G (stG g) d=a0G g d:=by obtain⟨h1,h2,h3,h4,h5,h6,h7,h8⟩:=b5z g;rw[b4a,b4a,h1,h2,h3,h4,h5,h6,h7,h8,a7W h];unfold H9;rw[a0c,a0c,a0c,c3Y,a2y,a2y]
theorem a9S{d:Int}:∀{l:List Gu},(∀g∈l,∀x∈g.bl,a9a x)->L1 (l.map stG) d=L1 l d
 | [],_=>rfl
 |g::r,h=>by
  show a0G (stG g) d++L1 (r.map stG) d=a0G g d++L1 r d;rw[b97 (h g (qm _)),a9S λy hy=>h y (qD _ hy)]
theorem b3M(s:Sp)(d:Int):M0 s d=if s.k=1 then[(d,(M7 s.ty++K2 s.names.l)++[A6 [58]])]
 else if s.k=2 then[(d,(((([A6 [86,65,76]]++M7 s.ty)++K2 s.names.l)++[A6 [73,83]])++G3 s.e)++[A6 [58]])]
 else if s.k=3 then[(d,(((M7 s.ty++K2 s.names.l)++[A6 [73,83]])++G3 s.e)++[A6 [58]])]
 else if s.k=5 then(d,((([A6 [80,82,79,67]]++K2 s.names.l)++[A6 [40]])++E7 [44] U2 s.fs.l)++[A6 [41]])::(a2A s.bl (d+1)++[(d,[A6 [58]])])
 else if s.cs=false then[(d,((([A6 [80,82,79,84,79,67,79,76]]++K2 s.names.l)++[A6 [73,83]])++E7 [59] a1I (Go.Ty.hdV s.vs.l).items)++[A6 [58]])]
 else(d,[A6 [80,82,79,84,79,67,79,76]]++K2 s.names.l)::(d+1,[A6 [67,65,83,69]])::(s.vs.l.map (λv=>((d+2,L0 v):Ln))++[(d,[A6 [58]])]):=by cases s;rfl
theorem b8w{d:Int}{s:Sp}(h:∀x∈s.bl,a9a x):M0 (stS s) d=M0 s d:=by
 obtain⟨h1,h2,h3,h4,h5,h6,h7,h8⟩:=b7m s;have hv:(Go.Ty.hdV (s.vs.l.map R3)).items=(Go.Ty.hdV s.vs.l).items:=by cases s.vs.l<;>rfl
 rw[b3M,b3M,h1,h2,h3,h4,h5,h6,h7,h8,a7W h,a0c,hv,List.map_map];rfl
theorem b5n(p:Pr)(d:Int):J7 p d=if p.k=18 then M0 p.sp d++a2A p.ll d else(d,F6 p.k p.name p.ch p.tg.l p.ex.l p.rep)::(G5 p.k p.pn.l p.ll d++L1 p.gl (d+1)):=by cases p;rfl
theorem c1e(p:Pr):a9a p:=by
 refine Pr.ind (q:=a9a) (λp ih d=>?_) p;obtain⟨h1,h2,h3,h4,h5,h6,h7,h8,h9,h10⟩:=a9C p;have hf:F6 p.k p.name (B5 p.ch) (p.tg.l.map B5) (p.ex.l.map B5) (stR p.rep)=F6 p.k p.name p.ch p.tg.l p.ex.l p.rep:=by unfold F6;rw[a0c,a2y,a2y,a2y,a2y,a2y,c8I]
 rw[b5n,b5n,h1,h2,h3,h4,h5,h6,h7,h8,h9,h10,hf,b8w λx hx=>ih x (.s hx),a7W λx hx=>ih x (.l hx),b2l λx hx=>ih x (.l hx),a9S λg hg x hx=>ih x (.g hg hx)]
theorem c0K(p:Pr):Y5 (stP p)=Y5 p:=by unfold Y5;rw[c5V,c1e]
def N6(s:B):List B:=Lib.splitK [47] 0 (Lib.count s [47]) s
def a7l(i:Nat)(x:B):Go.Ly.Rw:=⟨(i:Int)+1,(x.length:Int)-((Lib.trimLeftB x 46).length:Int),Lib.trimLeftB x 46⟩
def a6Q:Nat->List B->List Go.Ly.Rw
 |_,[]=>[]
 |i,x::l=>a7l i x::a6Q (i+1) l
theorem a9o:∀{i j:Nat}{l:List B}{x:B},l[j]?=some x->a6Q i (l.take (j+1))=a6Q i (l.take j)++[a7l (i+j) x]
 |_,_,[],_,h=>by cases h
 |i,0,y::l,x,h=>by cases h;rfl
 |i,j+1,y::l,x,h=>by
  have ih:=a9o (i:=i+1) (j:=j) (l:=l) (x:=x) (by simpa using h);show a7l i y::a6Q (i+1) (l.take (j+1))=a7l i y::(a6Q (i+1) (l.take j)++[a7l (i+(j+1)) x]);rw[ih,show i+1+j=i+(j+1) by omega]
def a0N(s:B):List Go.Ly.Rw:=a6Q 0 (N6 s)
def a4r(s:B)(k:Int):Bool:=(((((S3 (a0N s)).1.k==k)&&(((S3 (a0N s)).2.1:Int)==0))&&((S3 (a0N s)).2.2==0))&&((Y5 (S3 (a0N s)).1).2==0))&&eqL Go.Ly.eqR (Y5 (S3 (a0N s)).1).1 (a0N s)
end
end Go.Sx
namespace Go.Pc
section
open Go.Eng Go.Xp Go
open Go.Ty (Ty Vr)
def a4O(r s:Rp):Bool:=((r.name==s.name)&&F5 r.base s.base)&&F5 r.count s.count
def a1u(c:Bool)(l:List Vr)(d:Bool)(s:List Vr):Bool:=(c==d)&&eqL N7 l s
mutual
def K4:Pr->Pr->Bool
 | .mk k nm ch tg ex rp _ _ gl _ _ ll pn sp=>λq=>eqL (λa b:Int=>a==b) pn.l q.pn.l&&((((((((((k==q.k)&&(nm==q.name))&&a4O rp q.rep)&&F5 ch q.ch)&&eqL F5 tg.l q.tg.l)&&eqL F5 ex.l q.ex.l)&&b2w gl q.gl)&&a1Q ll q.ll)&&a0s sp q.sp))
def a1Q:List Pr->List Pr->Bool
 | []=>λs=>match s with
  | []=>true
  |_::_=>false
 |x::r=>λs=>match s with
  | []=>false
  |y::t=>K4 x y&&a1Q r t
def a0t:Gu->Gu->Bool
 | .mk k nm c ch tg vl tm _ _ bl=>λg=>(((((((k==g.k)&&(nm==g.name))&&F5 c g.cond)&&F5 ch g.ch)&&F5 tm g.time)&&eqL F5 tg.l g.tg.l)&&eqL F5 vl.l g.vl.l)&&a1Q bl g.bl
def b2w:List Gu->List Gu->Bool
 | []=>λs=>match s with
  | []=>true
  |_::_=>false
 |x::r=>λs=>match s with
  | []=>false
  |y::t=>a0t x y&&b2w r t
def a0s:Sp->Sp->Bool
 | .mk k ty nms e cs vs fs _ _ bl=>λs=>((((k==s.k)&&Go.Ty.eqT ty s.ty)&&eqL a0h fs.l s.fs.l))&&(((eqL (λa b:B=>a==b) nms.l s.names.l&&F5 e s.e)&&a1u cs vs.l s.cs s.vs.l)&&a1Q bl s.bl)
end
theorem a2D:∀l s:List Pr,a1Q l s=eqL K4 l s
 | [],[]=>rfl
 |x::r,y::s=>by show(K4 x y&&a1Q r s)=(K4 x y&&eqL K4 r s);rw[a2D r s]
 | [],_::_=>rfl
 |_::_,[]=>rfl
theorem a8b:∀l s:List Gu,b2w l s=eqL a0t l s
 | [],[]=>rfl
 |x::r,y::s=>by show(a0t x y&&b2w r s)=(a0t x y&&eqL a0t r s);rw[a8b r s]
 | [],_::_=>rfl
 |_::_,[]=>rfl
theorem a6S(p q:Pr):K4 p q=(eqL (λa b:Int=>a==b) p.pn.l q.pn.l&&((((((((((p.k==q.k)&&(p.name==q.name))&&a4O p.rep q.rep)&&F5 p.ch q.ch)&&eqL F5 p.tg.l q.tg.l)&&eqL F5 p.ex.l q.ex.l)&&eqL a0t p.gl q.gl)&&eqL K4 p.ll q.ll)&&a0s p.sp q.sp))):=by rw[<-a8b,<-a2D];cases p;rfl
theorem a7q(p g:Gu):a0t p g=((((((((p.k==g.k)&&(p.name==g.name))&&F5 p.cond g.cond)&&F5 p.ch g.ch)&&F5 p.time g.time)&&eqL F5 p.tg.l g.tg.l)&&eqL F5 p.vl.l g.vl.l)&&eqL K4 p.bl g.bl):=by rw[<-a2D];cases p;rfl
theorem a3Q(p s:Sp):a0s p s=(((((p.k==s.k)&&Go.Ty.eqT p.ty s.ty)&&eqL a0h p.fs.l s.fs.l))&&(((eqL (λa b:B=>a==b) p.names.l s.names.l&&F5 p.e s.e)&&a1u p.cs p.vs.l s.cs s.vs.l)&&eqL K4 p.bl s.bl)):=by rw[<-a2D];cases p;rfl
theorem b8S{x y:Sp}(h:(((x.k !=y.k)||!(Go.Ty.eqT x.ty y.ty))||((x.fs.l.length:Int) !=(y.fs.l.length:Int)))=true):a0s x y=false:=by
 rw[a3Q];simp only[qv,bne_iff_ne,qK]at h;rcases h with(h|h)|h
 ·have:(x.k==y.k)=false:=by simpa using h
  simp[this]
 ·simp[h]
 ·rw[U5 a0h x.fs.l y.fs.l (by omega)]
  simp
theorem b6P{x y:Sp}(h:(((x.k !=y.k)||!(Go.Ty.eqT x.ty y.ty))||((x.fs.l.length:Int) !=(y.fs.l.length:Int)))=false) :
 x.fs.l.length=y.fs.l.length/\a0s x y=(eqL a0h x.fs.l y.fs.l&&(((eqL (λa b:B=>a==b) x.names.l y.names.l&&F5 x.e y.e)&&a1u x.cs x.vs.l y.cs y.vs.l)&&eqL K4 x.bl y.bl)):=by
 rw[a3Q];simp only[qA,bne_eq_false_iff_eq,zy]at h;obtain⟨⟨h1,h2⟩,h3⟩:=h;refine⟨by omega,?_⟩;have h4:(x.k==y.k)=true:=by simpa using h1
 rw[h4,h2,qG,qG]
end
end Go.Pc
namespace Go.Eng
section
open Go Go.RowKit
section
variable {P:Program}{m m':View}{h h':Lr}{w w':World}
def Vw(m':View)(h':Lr)(m:View)(h:Lr):Prop:=∀(a:Oa)(n cap sz:Nat)(xs:Lv),Rd m' h' a n cap sz xs->Rd m h a n cap sz xs
theorem c0j{m:View}{g:Nat}{cur:Array Value}{e:TypeId}{fz:Nat×Nat}{n cap sz:Nat}{xs:Lv}(hl:xs.length=n*sz)(h1:n<=cap)(h2:cap<=9223372036854775807)(ht:cur.toList.take (n*sz)=xs):Rd (m.add g (.cells cur e fz)) [] (some ⟨g,0,none⟩) n cap sz xs:=
 ⟨hl,h1,h2,λw s j u hj=>by
  refine⟨g,0,rfl,?_⟩;have hb:=s.blk g _ (View.add_blk m g (.cells cur e fz));rw[<-ht,ja]at hj;split at hj
  ·simp[World.cell?,hb];simpa using hj
  ·simp at hj⟩
theorem c3a{m:View}{g:Nat}{o:Obj}{h2:Lr}:Vw (m.add g o) h2 m (.pt g o::h2):=λa n cap sz xs r=>
 ⟨r.len,r.le,r.mx,λw s=>r.at_ w ⟨s.os,s.out,s.tape,λb o' hb=>by
  unfold View.add at hb;simp only at hb;split at hb
  ·rename_i e
   cases hb;rw[e];exact s.ok _ (qm _)
  ·exact s.blk b o' hb,λr hr=>s.ok r (qD _ hr),(qR.1 s.nd).2,λx hx b hb=>by
  unfold View.add;simp only;split
  ·rename_i e
   exact((qR.1 s.nd).1 x hx b (by rw[e];rfl) hb).elim
  ·exact s.fr x (qD _ hx) b hb⟩⟩
theorem CT.lendRow{f:FuncId}{args:Lv}{a:Oa}{n cap sz:Nat}{e:TypeId}{xs:Lv}{R:View->Value->Lr->Prop}(he:∀as w,(callFunc f as).run P w=.ok (.enter f as) w)
 (c:∀m',m.le m'->Rd m' [] a n cap sz xs->CT P f args h m' (λv _ h'=>R m' v h')) :
 CT P f args (.row (.slice a n cap) e sz n xs::h) m (λv _ h'=>∃m' hx h2,R m' v h2/\h'=hx++h2/\Vw m' h2 m (hx++h2)/\Rd m hx a n cap sz xs):=
 ⟨he,λw s=>by
  have hrow:w.ownsRow 0 e sz (.slice a n cap) n xs:=s.ok _ (qm _);obtain⟨k1,k2,k3⟩:=b05 hrow;obtain⟨hl,hn|⟨g,cp,cur,hv,_,hh,hnc,hcm,hsz,ht⟩⟩:=hrow
  ·obtain⟨_,rfl⟩:=hn
   have hx0:xs=[]:=qB (by simpa using k3);subst hx0;have s2:St m h w:=⟨s.os,s.out,s.tape,s.blk,λr hr=>s.ok r (qD _ hr),(qR.1 s.nd).2,λr hr=>s.fr r (qD _ hr)⟩;have r0:∀{q:View},Rd q [] a 0 cap sz []:=⟨k3,k1,k2,λ_ _ j u hj=>by cases hj⟩;refine Calls.mono ((c m Vl r0).calls w s2) ?_;rintro e' w' ⟨v,m2,h2,rfl,hle,s3,hR⟩;exact⟨v,m2,h2,rfl,hle,s3,m,[],h2,hR,rfl,λ_ _ _ _ _ r=>r,r0⟩
  ·simp only[Value.slice.injEq]at hv
   obtain⟨rfl,_,rfl⟩:=hv;have hfp:(Res.row (.slice (some ⟨g,0,none⟩) n cap) e sz n xs).fp=some g:=rfl;have hmg:m.blk g=none:=s.fr _ (qm _) g hfp;have s2:St (m.add g (.cells cur e (0,0))) h w:=⟨s.os,s.out,s.tape,λb o' hb=>by
    unfold View.add at hb;simp only at hb;split at hb
    ·rename_i e
     cases hb;rw[e];exact hh
    ·exact s.blk b o' hb,λr hr=>s.ok r (qD _ hr),(qR.1 s.nd).2,λr hr b hb=>by
    unfold View.add;simp only;split
    ·rename_i e
     exact((qR.1 s.nd).1 r hr b (e▸hfp) hb).elim
    ·exact s.fr r (qD _ hr) b hb⟩
   refine Calls.mono ((c _ (View.le_add hmg) (c0j k3 k1 k2 ht)).calls w s2) ?_;rintro e' w' ⟨v,m2,h2,rfl,hle,s3,hR⟩;have hml:=(View.le_add (o:=.cells cur e (0,0)) hmg).trans hle;have hg2:m2.blk g=some (.cells cur e (0,0)):=hle.blk _ _ (View.add_blk m g _);refine⟨v,m,.pt g (.cells cur e (0,0))::h2,rfl,Vl,⟨s3.os.trans hml.os,s3.out.trans hml.out,s3.tape.trans hml.tape,λb o hb=>s3.blk b o (hml.blk b o hb),λr hr=>?_,?_,λr hr b hb=>?_⟩,_,[.pt g (.cells cur e (0,0))],h2,hR,rfl,c3a,?_⟩
   ·rcases qQ.1 hr with rfl|hr
    ·exact s3.blk g _ hg2
    ·exact s3.ok r hr
   ·refine qR.2 ⟨λr hr b h1 h3=>?_,s3.nd⟩
    cases h1;have:=s3.fr r hr _ h3;rw[hg2]at this;cases this
   ·rcases qQ.1 hr with rfl|hr
    ·cases hb
     exact hmg
    ·have h1:=s3.fr r hr b hb
     cases hm:m.blk b with
     |none=>rfl
     |some o=>rw[hml.blk b o hm]at h1;cases h1
   ·exact c3a _ _ _ _ _ (c0j k3 k1 k2 ht)⟩
end
end
end Go.Eng
namespace Go.Pc
section
open Go.Eng Go.Xp Go
open Go.Ty (Ty Vr)
set_option linter.unusedSimpArgs false
theorem a3R{α:Type}(l:List α)(q:α->Bool):O2 l 0 8 q=(decide ((l.length:Int)<=8)&&l.all q):=by
 have h1:(l.length:Int)>=0:=by omega
 have h2:(!(l.any λx=>!q x))=l.all q:=by
  induction l with
  |nil=>rfl
  |cons x r ih=>have:=ih (by omega);simp only[List.any_cons,List.all_cons,<-this];cases q x<;>simp
 unfold O2 a9L;rw[h2];simp[h1]
theorem a2g{α:Type}(q:α->α->Bool)(l:List α):eqL q l []=l.isEmpty:=by cases l<;>rfl
theorem a00{α:Type}{q:α->α->Bool}(hq:∀x,q x x=true):∀l:List α,eqL q l l=true
 | []=>rfl
 |x::r=>by show(q x x&&eqL q r r)=true;rw[hq,a00 hq r];rfl
theorem a3Y{α:Type}(l:List α):((l.length:Int)==0)=l.isEmpty:=by
 cases l with
 |nil=>rfl
 |cons x r=>rw[List.isEmpty_cons,qW];simp only[qJ];omega
theorem a3X(t:Ty):Go.Ty.eqT t t=true:=(Go.Ty.eqT_iff t t).2 rfl
theorem a3W(f:Fo):a0h f f=true:=by unfold a0h;simp[a3X]
theorem a1S(v:Vr):N7 v v=true:=by unfold N7;simp
def b2o:Rp:=⟨[],A0,A0⟩
def b2U:Pr:=.mk 0 [] A0 A2 A2 b2o none 0 [] none 0 [] A2 B4
theorem a2K(s:Sp):a0s s B4=S8 s B4:=by
 rw[a3Q];unfold S8;show(((((s.k==0)&&Go.Ty.eqT s.ty Go.Ty.zeroT)&&eqL a0h s.fs.l []))&&(((eqL (λa b:B=>a==b) s.names.l []&&F5 s.e A0)&&((s.cs==false)&&eqL N7 s.vs.l []))&&eqL K4 s.bl []))=((((((((s.k==0)&&Go.Ty.eqT s.ty Go.Ty.zeroT)&&(s.names.l==[]))&&F5 s.e A0)&&(s.cs==false))&&eqL N7 s.vs.l [])&&eqL a0h s.fs.l [])&&((s.bl.length:Int)==0));rw[a2g,a2g,a2g,a2g,a3Y,show(s.names.l==[])=s.names.l.isEmpty by cases s.names.l<;>rfl];generalize (s.k==0)=a;generalize Go.Ty.eqT s.ty Go.Ty.zeroT=b;generalize s.fs.l.isEmpty=c;generalize s.names.l.isEmpty=d;generalize F5 s.e A0=e;generalize (s.cs==false)=f;generalize s.vs.l.isEmpty=g;generalize s.bl.isEmpty=i;revert a b c d e f g i
 decide
theorem b5E{α:Type}:(A2:Sli α).l.isEmpty=true:=rfl
theorem b4C{k:Int}{ty:Ty}{names:Sli B}{e:Ex}{cs:Bool}{vs:Sli Vr}{fs:Sli Fo}{ba:Oa}{bc:Nat}{bl:List Pr}:(Sp.mk k ty names e cs vs fs ba bc bl).k=k:=rfl
theorem b0m{k:Int}{ty:Ty}{names:Sli B}{e:Ex}{cs:Bool}{vs:Sli Vr}{fs:Sli Fo}{ba:Oa}{bc:Nat}{bl:List Pr}:(Sp.mk k ty names e cs vs fs ba bc bl).ty=ty:=rfl
theorem a4b{k:Int}{ty:Ty}{names:Sli B}{e:Ex}{cs:Bool}{vs:Sli Vr}{fs:Sli Fo}{ba:Oa}{bc:Nat}{bl:List Pr}:(Sp.mk k ty names e cs vs fs ba bc bl).names=names:=rfl
theorem b5t{k:Int}{ty:Ty}{names:Sli B}{e:Ex}{cs:Bool}{vs:Sli Vr}{fs:Sli Fo}{ba:Oa}{bc:Nat}{bl:List Pr}:(Sp.mk k ty names e cs vs fs ba bc bl).e=e:=rfl
theorem a9I{k:Int}{ty:Ty}{names:Sli B}{e:Ex}{cs:Bool}{vs:Sli Vr}{fs:Sli Fo}{ba:Oa}{bc:Nat}{bl:List Pr}:(Sp.mk k ty names e cs vs fs ba bc bl).cs=cs:=rfl
theorem b08{k:Int}{ty:Ty}{names:Sli B}{e:Ex}{cs:Bool}{vs:Sli Vr}{fs:Sli Fo}{ba:Oa}{bc:Nat}{bl:List Pr}:(Sp.mk k ty names e cs vs fs ba bc bl).vs=vs:=rfl
theorem b0v{k:Int}{ty:Ty}{names:Sli B}{e:Ex}{cs:Bool}{vs:Sli Vr}{fs:Sli Fo}{ba:Oa}{bc:Nat}{bl:List Pr}:(Sp.mk k ty names e cs vs fs ba bc bl).fs=fs:=rfl
theorem b04{k:Int}{ty:Ty}{names:Sli B}{e:Ex}{cs:Bool}{vs:Sli Vr}{fs:Sli Fo}{ba:Oa}{bc:Nat}{bl:List Pr}:(Sp.mk k ty names e cs vs fs ba bc bl).bl=bl:=rfl
theorem b5v{α:Type}:(A2:Sli α).l=[]:=rfl
theorem a2U(e:Ex):F5 e e=true:=(a01 e e).2 rfl
theorem a7b{α:Type}:((([]:List α).length:Nat):Int)=0:=rfl
theorem a3U:F5 A0 A0=true:=by decide
theorem d0x{s:Sp}(h:s.k=1):spP s=((Go.Ty.may s.ty&&O2 s.names.l 1 8 Go.Lx.name)&&a0s (.mk 0 Go.Ty.zeroT A2 s.e s.cs s.vs s.fs s.ba s.bc s.bl) B4):=by
 rw[a2K];unfold spP a1l a1O S8;rw[h];show _=(_&&(((((((((0:Int)==0)&&Go.Ty.eqT Go.Ty.zeroT Go.Ty.zeroT)&&(([]:List B)==[]))&&F5 s.e A0)&&(s.cs==false))&&eqL N7 s.vs.l [])&&eqL a0h s.fs.l [])&&(((s.bl:List Pr).length:Int)==0)));simp only[Int.reduceEq,Int.reduceBEq,Int.reduceLE,and_self,and_true,true_and,if_true,if_false,reduceIte,zI,za,qG,b4C,b0m,a4b,b5t,a9I,b08,b0v,b04,a3U,a2U,a7b,a3X,a2g,a3Y,a00 a3W,a00 a1S,b5E,b5v,jj,a3R];all_goals
  generalize Go.Ty.may s.ty=x0;generalize O2 s.names.l 1 8 Go.Lx.name=x1;generalize F5 s.e A0=x2;generalize (s.cs==false)=x3;generalize s.vs.l.isEmpty=x4;generalize s.fs.l.isEmpty=x5;generalize s.bl.isEmpty=x6;revert x0 x1 x2 x3 x4 x5 x6
  decide
theorem d0y{s:Sp}(h:s.k=2):spP s=(((N4 s.ty&&O2 s.names.l 1 1 Go.Lx.name)&&K0 s.e)&&a0s (.mk 0 Go.Ty.zeroT A2 A0 s.cs s.vs s.fs s.ba s.bc s.bl) B4):=by
 rw[a2K];unfold spP a1l a1O S8;rw[h];show _=(_&&(((((((((0:Int)==0)&&Go.Ty.eqT Go.Ty.zeroT Go.Ty.zeroT)&&(([]:List B)==[]))&&F5 A0 A0)&&(s.cs==false))&&eqL N7 s.vs.l [])&&eqL a0h s.fs.l [])&&(((s.bl:List Pr).length:Int)==0)));simp only[Int.reduceEq,Int.reduceBEq,Int.reduceLE,and_self,and_true,true_and,if_true,if_false,reduceIte,zI,za,qG,b4C,b0m,a4b,b5t,a9I,b08,b0v,b04,a3U,a2U,a7b,a3X,a2g,a3Y,a00 a3W,a00 a1S,b5E,b5v,jj,a3R];all_goals
  generalize N4 s.ty=x0;generalize O2 s.names.l 1 1 Go.Lx.name=x1;generalize K0 s.e=x2;generalize (s.cs==false)=x3;generalize s.vs.l.isEmpty=x4;generalize s.fs.l.isEmpty=x5;generalize s.bl.isEmpty=x6;revert x0 x1 x2 x3 x4 x5 x6
  decide
theorem d0s{s:Sp}(h:s.k=3):spP s=(((N4 s.ty&&O2 s.names.l 1 1 Go.Lx.name)&&L5 s.e)&&a0s (.mk 0 Go.Ty.zeroT A2 A0 s.cs s.vs s.fs s.ba s.bc s.bl) B4):=by
 rw[a2K];unfold spP a1l a1O S8;rw[h];show _=(_&&(((((((((0:Int)==0)&&Go.Ty.eqT Go.Ty.zeroT Go.Ty.zeroT)&&(([]:List B)==[]))&&F5 A0 A0)&&(s.cs==false))&&eqL N7 s.vs.l [])&&eqL a0h s.fs.l [])&&(((s.bl:List Pr).length:Int)==0)));simp only[Int.reduceEq,Int.reduceBEq,Int.reduceLE,and_self,and_true,true_and,if_true,if_false,reduceIte,zI,za,qG,b4C,b0m,a4b,b5t,a9I,b08,b0v,b04,a3U,a2U,a7b,a3X,a2g,a3Y,a00 a3W,a00 a1S,b5E,b5v,jj,a3R];all_goals
  generalize N4 s.ty=x0;generalize O2 s.names.l 1 1 Go.Lx.name=x1;generalize L5 s.e=x2;generalize (s.cs==false)=x3;generalize s.vs.l.isEmpty=x4;generalize s.fs.l.isEmpty=x5;generalize s.bl.isEmpty=x6;revert x0 x1 x2 x3 x4 x5 x6
  decide
theorem d0e{s:Sp}(h:s.k=4):spP s=((O2 s.names.l 1 1 Go.Lx.name&&Go.Ty.mayPr s.cs s.vs.l)&&a0s (.mk 0 s.ty A2 s.e false A2 s.fs s.ba s.bc s.bl) B4):=by
 rw[a2K];unfold spP a1l a1O S8;rw[h];show _=(_&&(((((((((0:Int)==0)&&Go.Ty.eqT s.ty Go.Ty.zeroT)&&(([]:List B)==[]))&&F5 s.e A0)&&(false==false))&&eqL N7 [] [])&&eqL a0h s.fs.l [])&&(((s.bl:List Pr).length:Int)==0)));simp only[Int.reduceEq,Int.reduceBEq,Int.reduceLE,and_self,and_true,true_and,if_true,if_false,reduceIte,zI,za,qG,b4C,b0m,a4b,b5t,a9I,b08,b0v,b04,a3U,a2U,a7b,a3X,a2g,a3Y,a00 a3W,a00 a1S,b5E,b5v,jj,a3R];all_goals
  generalize O2 s.names.l 1 1 Go.Lx.name=x0;generalize Go.Ty.mayPr s.cs s.vs.l=x1;generalize Go.Ty.eqT s.ty Go.Ty.zeroT=x2;generalize F5 s.e A0=x3;generalize s.fs.l.isEmpty=x4;generalize s.bl.isEmpty=x5;revert x0 x1 x2 x3 x4 x5
  decide
theorem d0f{s:Sp}(h:s.k=5):spP s=((((O2 s.names.l 1 1 Go.Lx.name&&decide ((s.fs.l.length:Int)<=8))&&((s.bl.length:Int)==1))&&s.fs.l.all foP)&&a0s (.mk 0 s.ty A2 s.e s.cs s.vs A2 none 0 []) B4):=by
 rw[a2K];unfold spP a1l a1O S8;rw[h];show _=(_&&(((((((((0:Int)==0)&&Go.Ty.eqT s.ty Go.Ty.zeroT)&&(([]:List B)==[]))&&F5 s.e A0)&&(s.cs==false))&&eqL N7 s.vs.l [])&&eqL a0h [] [])&&((([]:List Pr).length:Int)==0)));simp only[Int.reduceEq,Int.reduceBEq,Int.reduceLE,and_self,and_true,true_and,if_true,if_false,reduceIte,zI,za,qG,b4C,b0m,a4b,b5t,a9I,b08,b0v,b04,a3U,a2U,a7b,a3X,a2g,a3Y,a00 a3W,a00 a1S,b5E,b5v,jj,a3R];all_goals
  generalize O2 s.names.l 1 1 Go.Lx.name=x0;generalize decide ((s.fs.l.length:Int)<=8)=x1;generalize ((s.bl.length:Int)==1)=x2;generalize s.fs.l.all foP=x3;generalize Go.Ty.eqT s.ty Go.Ty.zeroT=x4;generalize F5 s.e A0=x5;generalize (s.cs==false)=x6;generalize s.vs.l.isEmpty=x7;revert x0 x1 x2 x3 x4 x5 x6 x7
  decide
theorem c9l{s:Sp}(h1:s.k≠1)(h2:s.k≠2)(h3:s.k≠3)(h4:s.k≠4)(h5:s.k≠5)(b:Bool):spP s=(false&&b):=by unfold spP;rw[if_neg (by omega),zu]
def d0w(nm:B)(ch:Ex)(tg ex:Sli Ex)(pn:Sli Int)(sp:Sp):Pr:=.mk 0 nm ch tg ex b2o none 0 [] none 0 [] pn sp
end
end Go.Pc
namespace Go.Sx
section
open Go.Eng Go.Pc Go
open Go.Xp hiding B E8
open Go.Ty (Ty Vr Tok)
theorem a3E{α:Type}(q:α->α->Bool)(f:α->α):∀(l r:List α),(∀x∈l,∀y,q (f x) y=q x y)->eqL q (l.map f) r=eqL q l r
 | [],[],_=>rfl
 | [],_::_,_=>rfl
 |_::_,[],_=>rfl
 |x::l,y::r,h=>by
  show(q (f x) y&&eqL q (l.map f) r)=(q x y&&eqL q l r);rw[h x (qm _),a3E q f l r λz hz=>h z (qD _ hz)]
theorem b8o(p q:Pr):K4 p q=(eqL (λa b:Int=>a==b) p.pn.l q.pn.l&&((((((((((p.k==q.k)&&(p.name==q.name))&&a4O p.rep q.rep)&&F5 p.ch q.ch)&&eqL F5 p.tg.l q.tg.l)&&eqL F5 p.ex.l q.ex.l)&&eqL a0t p.gl q.gl)&&eqL K4 p.ll q.ll)&&a0s p.sp q.sp))):=by rw[<-a8b,<-a2D];cases p;rfl
theorem b7I(p q:Gu):a0t p q=((((((((p.k==q.k)&&(p.name==q.name))&&F5 p.cond q.cond)&&F5 p.ch q.ch)&&F5 p.time q.time)&&eqL F5 p.tg.l q.tg.l)&&eqL F5 p.vl.l q.vl.l)&&eqL K4 p.bl q.bl):=by rw[<-a2D];cases p;rfl
theorem b7D(p q:Sp):a0s p q=(((((p.k==q.k)&&Go.Ty.eqT p.ty q.ty)&&eqL a0h p.fs.l q.fs.l))&&(((eqL (λa b:B=>a==b) p.names.l q.names.l&&F5 p.e q.e)&&a1u p.cs p.vs.l q.cs q.vs.l)&&eqL K4 p.bl q.bl)):=by rw[<-a2D];cases p;rfl
theorem c4D(r s:Rp):a4O (stR r) s=a4O r s:=by unfold a4O;show(((r.name==s.name)&&F5 (B5 r.base) s.base)&&F5 (B5 r.count) s.count)=_;rw[a1o,a1o]
theorem a8L(p:Pr):∀q,K4 (stP p) q=K4 p q:=by
 refine Pr.ind (q:=λp=>∀q,K4 (stP p) q=K4 p q) (λp ih q=>?_) p;obtain⟨h1,h2,h3,h4,h5,h6,h7,h8,h9,h10⟩:=a9C p;have hs:a0s (stS p.sp) q.sp=a0s p.sp q.sp:=by
  obtain⟨s1,s2,s3,s4,s5,s6,s7,s8⟩:=b7m p.sp;have hv:a1u p.sp.cs (p.sp.vs.l.map R3) q.sp.cs q.sp.vs.l=a1u p.sp.cs p.sp.vs.l q.sp.cs q.sp.vs.l:=by unfold a1u;rw[a3E N7 R3 _ _ λ_ _ _=>rfl]
  rw[b7D,b7D,s1,s2,s3,s4,s5,s6,s7,s8,a1o,hv,a3E K4 stP _ _ λx hx y=>ih x (.s hx) y]
 have hg:eqL a0t (p.gl.map stG) q.gl=eqL a0t p.gl q.gl:=by
  refine a3E a0t stG _ _ λg hgm y=>?_;obtain⟨g1,g2,g3,g4,g5,g6,g7,g8⟩:=b5z g;rw[b7I,b7I,g1,g2,g3,g4,g5,g6,g7,g8,a1o,a1o,a1o,a3E F5 B5 _ _ (λx _ y=>a1o x y),a3E F5 B5 _ _ (λx _ y=>a1o x y),a3E K4 stP _ _ λx hx y=>ih x (.g hgm hx) y]
 rw[b8o,b8o,h1,h2,h3,h4,h5,h6,h7,h8,h9,h10,hs,hg,a1o,c4D,a3E F5 B5 _ _ (λx _ y=>a1o x y),a3E F5 B5 _ _ (λx _ y=>a1o x y),a3E K4 stP _ _ λx hx y=>ih x (.l hx) y]
def a3z(s:B)(n e:Int):Bool:=K4 (S3 (a0N s)).1 b2U&&((((S3 (a0N s)).2.1:Nat):Int)==n)&&((S3 (a0N s)).2.2==e)
end
end Go.Sx
namespace Go.Pc
section
open Go.Eng Go.Xp Go
open Go.Ty (Ty Vr)
set_option linter.unusedSimpArgs false
end
end Go.Pc
namespace Go.Sx
section
open Go.Eng Go.Pc Go
open Go.Xp hiding B E8
open Go.Ly (Rw)
def RwB(r:Rw):Prop:=((-9223372036854775808<=r.no/\r.no<=9223372036854775807)/\(-9223372036854775808<=r.depth/\r.depth<=9223372036854775807))/\r.text.length<=140737488355328
end
end Go.Sx
namespace Go.Ly
section
open Go.Eng
def noD(s:B):Prop:=∀k:Nat,s[k]?=some 45->s[k+1]?≠some 45
theorem b5y:∀s:B,noD (a8B s)
 | []=>λk h=>by simp[a8B]at h
 |c::l=>by
  unfold a8B;split
  ·exact λk h=>by simp at h
  ·rename_i hn
   have ih:=b5y l;intro k h1 h2;cases k with
   |zero=>
    simp only[List.getElem?_cons_zero,qs]at h1;simp only[zm]at h2;apply hn;rw[h1];cases l with
    |nil=>simp[a8B]at h2
    |cons d r=>
     unfold a8B at h2;split at h2
     ·simp at h2
     ·simpa using h2
   |succ k=>simp only[zm]at h1 h2;exact ih k h1 h2
theorem c4Y:∀{s:B},noD s->a8B s=s
 | [],_=>rfl
 |c::l,h=>by
  have ih:a8B l=l:=c4Y λk h1 h2=>h (k+1) (by simpa using h1) (by simpa using h2)
  unfold a8B;rw[ih,if_neg];intro e;simp only[qa,qU]at e;refine h 0 (by simp[e.1]) ?_;rw[zm,<-List.head?_eq_getElem?];exact e.2
theorem c2x{a b:B}(ha:noD a)(hb:noD b):noD (a++32::b):=λk h1 h2=>by
 rcases Nat.lt_trichotomy k a.length with h|h|h
 ·rw[zt h]at h1
  rcases ze (k+1) a.length with h'|h'
  ·rw[zt h']at h2
   exact ha k h1 h2
  ·rw[zK h',show k+1-a.length=0 by omega]at h2
   simp at h2
 ·rw[zK (by omega),show k-a.length=0 by omega]at h1
  simp at h1
 ·rw[zK (by omega),show k-a.length=(k-a.length-1)+1 by omega,zm]at h1
  rw[zK (by omega),show k+1-a.length=(k-a.length-1+1)+1 by omega,zm]at h2;exact hb _ h1 h2
theorem b1v:∀{s:B},noD s->Lib.index s [45,45]=-1
 | [],_=>rfl
 |c::l,h=>by
  have ih:Lib.index l [45,45]=-1:=b1v λk h1 h2=>h (k+1) (by simpa using h1) (by simpa using h2)
  unfold Lib.index;rw[c6Q,ih,if_neg]
  ·rfl
  ·intro e
   simp only[qa,qU]at e;refine h 0 (by simp[e.1]) ?_;rw[zm,<-List.head?_eq_getElem?];exact e.2
theorem b3e{s:B}(h:noD s):Lib.contains s [45,45]=false:=by unfold Lib.contains;rw[b1v h];rfl
theorem b2E{s:B}(h:Lib.contains s [45,45]=false):noD s:=by have e:=c2I s;unfold Lib.contains at h;unfold Lib.cut at e;rw[if_neg (by simpa using h)]at e;have:=b5y s;rw[<-e]at this;exact this
structure TxtV(s:B):Prop where
 ne:s≠[]
 hd:s.head?≠some 32
 ls:s.getLast?≠some 32
 nd:noD s
 ok:s.all okB=true
theorem TxtV.join{a b:B}(ha:TxtV a)(hb:TxtV b):TxtV (a++32::b) where
 ne:=by simp
 hd:=by
  rw[List.head?_append];cases h:a.head? with
  |none=>exact absurd (List.head?_eq_none_iff.1 h) ha.ne
  |some c=>have:=ha.hd;rw[h]at this;exact this
 ls:=by
  rw[show a++32::b=(a++[32])++b by simp,List.getLast?_append];cases h:b.getLast? with
  |none=>exact absurd (List.getLast?_eq_none_iff.1 h) hb.ne
  |some c=>have:=hb.ls;rw[h]at this;exact this
 nd:=c2x ha.nd hb.nd
 ok:=by rw[List.all_append,ha.ok,List.all_cons,hb.ok];rfl
theorem c3f{s:B}(h:s.getLast?≠some 32):Lib.trimRightB s 32=s:=by
 rcases List.eq_nil_or_concat s with rfl|⟨l,c,rfl⟩
 ·rfl
 ·rw[List.concat_eq_append]at h⊢
  refine b5L ?_;simpa using h
theorem c0M{s:B}(h:s.head?≠some 32):Lib.trimLeftB s 32=s:=by
 cases s with
 |nil=>rfl
 |cons c l=>
  have hc:(c==32)=false:=by simpa using h
  simp[Lib.trimLeftB,List.dropWhile,hc]
theorem TxtV.valid{s:B}(h:TxtV s)(hl:s.length<=256)(hc:a8y s=false):validP s=true:=by
 have h1:b8x s=false:=by simp only[b8x,qA,decide_eq_false_iff_not,bne_eq_false_iff_eq,qW];refine⟨⟨⟨⟨h.ne,by omega⟩,?_⟩,b3e h.nd⟩,hc⟩;unfold Lib.trimB;rw[c3f h.ls,c0M h.hd]
 unfold validP;rw[h1,h.ok];rfl
theorem TxtV.of_valid{s:B}(h:validP s=true):TxtV s:=by
 obtain⟨h1,h2,h3,h4,h5,h6⟩:=validP_spec h;have hL:∀l:B,(Lib.trimLeftB l 32).head?≠some 32:=by intro l e;have:=List.head?_dropWhile_not (·==(32:UInt8)) l;unfold Lib.trimLeftB at e;rw[e]at this;simp at this
 have hR:∀l:B,(Lib.trimRightB l 32).getLast?≠some 32:=by intro l e;unfold Lib.trimRightB at e;rw[List.getLast?_reverse]at e;exact hL l.reverse e
 have hll:∀l:B,(Lib.trimLeftB l 32).length<=l.length:=λl=>(jc _).length_le
 have hrl:∀l:B,(Lib.trimRightB l 32).length<=l.length:=λl=>by
  unfold Lib.trimRightB;rw[List.length_reverse];exact qr (jc _).length_le (by simp)
 refine⟨h1,?_,?_,b2E h4,h6⟩
 ·rw[<-h3]
  exact hL _
 ·-- trimming on the left took nothing
  have e1:(Lib.trimLeftB (Lib.trimRightB s 32) 32).length=s.length:=by show(Lib.trimB s 32).length=_;rw[h3]
  have h7:=hll (Lib.trimRightB s 32);have h8:=hrl s;have h9:Lib.trimLeftB (Lib.trimRightB s 32) 32=Lib.trimRightB s 32:=(jc _).eq_of_length (by unfold Lib.trimLeftB at e1 h7;omega);rw[<-h3];show(Lib.trimLeftB (Lib.trimRightB s 32) 32).getLast?≠_;rw[h9];exact hR s
def a9h:B->Bool
 |a::b::r=>(a==45&&b==45)||a9h (b::r)
 |_=>false
theorem b4H:∀{s:B},a9h s=false->noD s
 | [],_=>λk h=>by simp at h
 | [a],_=>λk h1 h2=>by simp at h2
 |a::b::r,h=>by
  unfold a9h at h;rw[qA]at h;have ih:=b4H h.2;intro k h1 h2;cases k with
  |zero=>simp only[List.getElem?_cons_zero,qs]at h1;simp only[zm,List.getElem?_cons_zero,qs]at h2;rw[h1,h2]at h;exact absurd h.1 (by decide)
  |succ k=>exact ih k (by simpa using h1) (by simpa using h2)
theorem b5m:∀{s:B},noD s->a9h s=false
 | [],_=>rfl
 | [a],_=>rfl
 |a::b::r,h=>by
  unfold a9h;rw[b5m (s:=b::r) λk h1 h2=>h (k+1) (by simpa using h1) (by simpa using h2),zp];by_cases e:(a==45&&b==45)=true
  ·simp only[qa,qU]at e
   exact absurd (by simp[e.2]) (h 0 (by simp[e.1]))
  ·simpa using e
theorem c4g{s:B}{k:Nat}{c d:UInt8}(hc:s[k]?=some c)(hd:s[k+1]?=some d):a9h (s.drop k)=((c==45&&d==45)||a9h (s.drop (k+1))):=by rw[P9 hc,P9 hd];rfl
theorem c3v{s:B}{k:Nat}(h:s.length<=k+1):a9h (s.drop k)=false:=by
 have hl:(s.drop k).length<=1:=by rw[qx];omega
 match s.drop k,hl with
 | [],_=>rfl
 | [a],_=>rfl
def a8U(s:B):Bool:=((((decide ((s.length:Int)<1)||decide ((s.length:Int)>256))||(s.getD 0 0==32))||(s.getD (s.length-1) 0==32))||a8y s)
def b1t(s:B):Bool:=!a8U s&&(!a9h s&&s.all okB)
theorem c5D(s:B):b1t s=validP s:=by
 rcases Nat.eq_zero_or_pos s.length with h0|h0
 ·rw[qB h0]
  decide
 ·have hne:s≠[]:=zR.1 h0
  have hh:s.head?=some (s.getD 0 0):=by rw[List.head?_eq_getElem?,ql,qk h0];rfl
  have hl:s.getLast?=some (s.getD (s.length-1) 0):=by rw[List.getLast?_eq_getElem?,ql,qk (by omega)];rfl
  rw[qH];constructor
  ·intro h
   simp only[b1t,a8U,qa,qK,qA,decide_eq_false_iff_not,qW]at h;obtain⟨⟨⟨⟨⟨h1,h2⟩,h3⟩,h4⟩,h5⟩,h6,h7⟩:=h;exact TxtV.valid ⟨hne,by rw[hh];simpa using h3,by rw[hl];simpa using h4,b4H h6,h7⟩ (by omega) h5
  ·intro h
   have hv:=TxtV.of_valid h;obtain⟨_,h2,_,_,h5,h6⟩:=validP_spec h;have h3:=hv.hd;have h4:=hv.ls;rw[hh]at h3;rw[hl]at h4;simp only[b1t,a8U,qa,qK,qA,decide_eq_false_iff_not,qW];exact⟨⟨⟨⟨⟨by omega,by omega⟩,by simpa using h3⟩,by simpa using h4⟩,h5⟩,b5m hv.nd,h6⟩
theorem b3W(no dp:Int)(x:Rw):(((((decide (x.no<no+1)||decide (x.no>65536))||decide (x.depth<0))||decide (x.depth>dp+1))||decide (x.depth>32))||!validP x.text)=b0S no dp x:=by
 unfold b0S;congr 1
 rw[qH];simp only[qv,qw];split<;>omega
end
end Go.Ly
namespace Go.Sx
section
open Go.Eng Go.Pc Go
open Go.Xp hiding B
open Go.Ty (Ty Vr Tok)
open Go.Ly (Rw)
variable {α β:Type}
def TO(M:E α)(bad:Bool)(x:α)(r:Lt)(bad':Bool):Prop:=(bad'=true->(bad=true\/∃e,M=.error e))/\(bad'=false->bad=false/\M=.ok (x,r))
theorem a0f(x:α)(r:Lt)(bad:Bool):TO (.ok (x,r)) bad x r bad:=⟨λh=>.inl h,λh=>⟨h,rfl⟩⟩
theorem a8n(e:Int)(bad:Bool)(x:α)(r:Lt):TO (.error e) bad x r true:=⟨λ_=>.inr ⟨e,rfl⟩,nofun⟩
theorem a9V(M:E α)(x:α)(r:Lt):TO M true x r true:=⟨λ_=>.inl rfl,nofun⟩
theorem b7t{M N:E α}{bad:Bool}{x:α}{r:Lt}{bad':Bool}(h:TO M bad x r bad')(hb:bad=true):TO N bad x r bad':=⟨λ_=>.inl hb,λq=>by rw[(h.2 q).1]at hb;cases hb⟩
theorem V7{M:E α}{f:α->Lt->E β}{bad b1 b2:Bool}{x:α}{y:β}{r1 r2:Lt}(h:TO M bad x r1 b1)(k:TO (f x r1) b1 y r2 b2):TO (I3 M f) bad y r2 b2:=by
 refine⟨λq=>?_,λq=>?_⟩
 ·rcases k.1 q with hb|⟨e,he⟩
  ·rcases h.1 hb with hb|⟨e,he⟩
   ·exact .inl hb
   ·exact .inr ⟨e,by rw[he];rfl⟩
  ·cases hb:b1 with
   |true=>
    rcases h.1 hb with hb|⟨e,he⟩
    ·exact .inl hb
    ·exact .inr ⟨e,by rw[he];rfl⟩
   |false=>exact .inr ⟨e,by rw[(h.2 hb).2];exact he⟩
 ·obtain⟨hb,he⟩:=k.2 q
  obtain⟨hb2,he2⟩:=h.2 hb;exact⟨hb2,by rw[he2];exact he⟩
def Mu(k:Int)(s:B)(ts:Lt)(bad:Bool)(r:Lt)(b1:Bool):Prop:=b1=(bad||!isM k s ts)/\(b1=false->r=ts.tail)
theorem a4u{k:Int}{s:B}{ts r r2:Lt}{f:Lt->E β}{bad b1 b2:Bool}{y:β}(h:Mu k s ts bad r b1)(q:TO (f r) b1 y r2 b2):TO (Q5 k s ts f) bad y r2 b2:=by
 obtain⟨h1,h2⟩:=h;cases bad with
 |true=>rw[zl]at h1;exact⟨λ_=>.inl rfl,λp=>by rw[(q.2 p).1]at h1;cases h1⟩
 |false=>
  rw[zC]at h1;cases hm:isM k s ts with
  |true=>rw[hm]at h1;have hb:b1=false:=h1;rw[h2 hb,hb]at q;unfold Q5;rw[if_pos hm];exact q
  |false=>rw[hm]at h1;have hb:b1=true:=h1;unfold Q5;rw[hm];exact⟨λ_=>.inr ⟨110,rfl⟩,λp=>by rw[(q.2 p).1]at hb;cases hb⟩
theorem b2x{k:Int}{s:B}{ts:Lt}{A C:E α}{bad:Bool}{x:α}{r:Lt}{b2:Bool}(h:(isM k s ts&&!bad)=true)(q:TO A bad x r b2):TO (if isM k s ts=true then A else C) bad x r b2:=by rw[qa]at h;rw[if_pos h.1];exact q
theorem b3E{k:Int}{s:B}{ts:Lt}{A C:E α}{bad:Bool}{x:α}{r:Lt}{b2:Bool}(h:(isM k s ts&&!bad)=false)(q:TO C bad x r b2):TO (if isM k s ts=true then A else C) bad x r b2:=by
 cases bad with
 |true=>exact b7t q rfl
 |false=>rw[zf,za]at h;rw[if_neg (by rw[h];decide)];exact q
def RO(M:PE α)(e:Int)(i:Nat)(x:α)(i':Nat)(e':Int):Prop:=(e'=0->e=0/\M=.ok (x,i'))/\(e'≠0->(e≠0/\e'=e/\i'=i)\/(e=0/\M=.error (e',i')))
def RB(M:PE α)(e:Int)(i:Nat)(bad:Bool)(x:α)(i':Nat)(e':Int):Prop:=(e'=0->(e=0/\bad=false)/\M=.ok (x,i'))/\(e'≠0->(e≠0/\e'=e/\i'=i)\/(e=0/\bad=true/\e'=110/\i'=i)\/((e=0/\bad=false)/\M=.error (e',i')))
theorem V2(x:α)(i:Nat)(e:Int):RO (.ok (x,i)) e i x i e:=⟨λh=>⟨h,rfl⟩,λh=>.inl ⟨h,rfl,rfl⟩⟩
theorem a1J(M:PE α){e:Int}(h:e≠0)(i:Nat)(x:α):RO M e i x i e:=⟨λq=>absurd q h,λ_=>.inl ⟨h,rfl,rfl⟩⟩
theorem a7X{M N:PE α}{e e':Int}{i i':Nat}{x:α}(q:RO M e i x i' e')(h:e≠0):RO N e i x i' e':=by
 refine⟨λp=>absurd (q.1 p).1 h,λp=>?_⟩;rcases q.2 p with w|w
 ·exact .inl w
 ·exact absurd w.1 h
theorem Y6{M:PE α}{f:α->Nat->PE β}{e e1 e2:Int}{i i1 i2:Nat}{x:α}{y:β}(h:RO M e i x i1 e1)(k:RO (f x i1) e1 i1 y i2 e2):RO (J8 M f) e i y i2 e2:=by
 refine⟨λq=>?_,λq=>?_⟩
 ·obtain⟨h1,h2⟩:=k.1 q
  obtain⟨h3,h4⟩:=h.1 h1;exact⟨h3,by rw[h4];exact h2⟩
 ·rcases k.2 q with⟨w1,rfl,rfl⟩|⟨w1,w2⟩
  ·rcases h.2 w1 with w|⟨v1,v2⟩
   ·exact .inl w
   ·exact .inr ⟨v1,by rw[v2];rfl⟩
  ·obtain⟨h3,h4⟩:=h.1 w1
   exact .inr ⟨h3,by rw[h4];exact w2⟩
theorem c8b{M:PE α}{f:α->Nat->PE β}{e e1 e2:Int}{i i1 i2:Nat}{bad:Bool}{x:α}{y:β}(h:RB M e i bad x i1 e1)(k:RO (f x i1) e1 i1 y i2 e2):RB (J8 M f) e i bad y i2 e2:=by
 refine⟨λq=>?_,λq=>?_⟩
 ·obtain⟨h1,h2⟩:=k.1 q
  obtain⟨h3,h4⟩:=h.1 h1;exact⟨h3,by rw[h4];exact h2⟩
 ·rcases k.2 q with⟨w1,rfl,rfl⟩|⟨w1,w2⟩
  ·rcases h.2 w1 with w|w|⟨v1,v2⟩
   ·exact .inl w
   ·exact .inr (.inl w)
   ·exact .inr (.inr ⟨v1,by rw[v2];rfl⟩)
  ·obtain⟨h3,h4⟩:=h.1 w1
   exact .inr (.inr ⟨h3,by rw[h4];exact w2⟩)
theorem I4{M:E α}(hM:Er M){f:α->Lt->PE β}{e e2:Int}{i i2:Nat}{bad b1:Bool}{x:α}{r:Lt}{y:β}(h:TO M bad x r b1)(k:RB (f x r) e i b1 y i2 e2):RB (F2 M i f) e i bad y i2 e2:=by
 refine⟨λq=>?_,λq=>?_⟩
 ·obtain⟨⟨h1,h2⟩,h3⟩:=k.1 q
  obtain⟨h4,h5⟩:=h.2 h2;exact⟨⟨h1,h4⟩,by rw[h5];exact h3⟩
 ·rcases k.2 q with w|⟨w1,w2,rfl,rfl⟩|⟨⟨w1,w2⟩,w3⟩
  ·exact .inl w
  ·cases hb:bad with
   |true=>exact .inr (.inl ⟨w1,rfl,rfl,rfl⟩)
   |false=>
    rcases h.1 w2 with v|⟨e',v⟩
    ·rw[hb]at v;cases v
    ·rw[hM e' v]at v
     exact .inr (.inr ⟨⟨w1,rfl⟩,by rw[v];rfl⟩)
  ·obtain⟨h4,h5⟩:=h.2 w2
   exact .inr (.inr ⟨⟨w1,h4⟩,by rw[h5];exact w3⟩)
theorem a2l{k:Int}{s:B}{ts r:Lt}{f:Lt->PE β}{e e2:Int}{i i2:Nat}{bad b1:Bool}{y:β}(h:Mu k s ts bad r b1)(q:RB (f r) e i b1 y i2 e2):RB (M1 k s ts i f) e i bad y i2 e2:=by
 obtain⟨h1,h2⟩:=h;refine⟨λp=>?_,λp=>?_⟩
 ·obtain⟨⟨w1,w2⟩,w3⟩:=q.1 p
  rw[w2]at h1;have h1:=h1.symm;rw[qA]at h1;rw[h2 w2]at w3;unfold M1;rw[if_pos (by simpa using h1.2)];exact⟨⟨w1,h1.1⟩,w3⟩
 ·rcases q.2 p with w|⟨w1,w2,rfl,rfl⟩|⟨⟨w1,w2⟩,w3⟩
  ·exact .inl w
  ·cases hb:bad with
   |true=>exact .inr (.inl ⟨w1,rfl,rfl,rfl⟩)
   |false=>rw[hb,zC,w2]at h1;refine .inr (.inr ⟨⟨w1,rfl⟩,?_⟩);unfold M1;rw[if_neg (by simpa using h1.symm)]
  ·rw[w2]at h1
   have h1:=h1.symm;rw[qA]at h1;rw[h2 w2]at w3;unfold M1;rw[if_pos (by simpa using h1.2)];exact .inr (.inr ⟨⟨w1,h1.1⟩,w3⟩)
theorem c2A{M N:PE α}{e e':Int}{i i':Nat}{bad:Bool}{x:α}(q:RB M e i bad x i' e')(h:e≠0\/bad=true):RB N e i bad x i' e':=by
 refine⟨λp=>?_,λp=>?_⟩
 ·obtain⟨⟨h1,h2⟩,-⟩:=q.1 p
  rcases h with h|h
  ·exact absurd h1 h
  ·rw[h2]at h;cases h
 ·rcases q.2 p with w|w|⟨⟨w1,w2⟩,-⟩
  ·exact .inl w
  ·exact .inr (.inl w)
  ·rcases h with h|h
   ·exact absurd w1 h
   ·rw[w2]at h;cases h
theorem V0{k:Int}{s:B}{ts:Lt}{A C:PE α}{e e':Int}{i i':Nat}{bad:Bool}{x:α}(h:(isM k s ts&&!bad)=true)(q:RB A e i bad x i' e'):RB (if isM k s ts=true then A else C) e i bad x i' e':=by rw[qa]at h;rw[if_pos h.1];exact q
theorem I1{k:Int}{s:B}{ts:Lt}{A C:PE α}{e e':Int}{i i':Nat}{bad:Bool}{x:α}(h:(isM k s ts&&!bad)=false)(q:RB C e i bad x i' e'):RB (if isM k s ts=true then A else C) e i bad x i' e':=by
 cases bad with
 |true=>exact c2A q (.inr rfl)
 |false=>rw[zf,za]at h;rw[if_neg (by rw[h];decide)];exact q
def Tak(e:Int)(i:Nat)(bad:Bool)(ts:Lt)(i1:Nat)(e1:Int):Prop:=
 (e≠0->e1=e/\i1=i)/\(e=0->if bad=true\/ts≠[]then e1=110/\i1=i else e1=0/\i1=i+1)
theorem O9{ts:Lt}{f:Nat->PE β}{e e1 e2:Int}{i i1 i2:Nat}{bad:Bool}{y:β}(h:Tak e i bad ts i1 e1)(q:RO (f i1) e1 i1 y i2 e2):RB (D4 ts i f) e i bad y i2 e2:=by
 by_cases he:e=0
 ·have h1:=h.2 he
  by_cases hb:bad=true\/ts≠[]
  ·rw[if_pos hb]at h1
   obtain⟨rfl,rfl⟩:=h1;refine⟨λp=>absurd (q.1 p).1 (by decide),λp=>?_⟩;rcases q.2 p with⟨-,rfl,rfl⟩|w
   ·cases hbb:bad with
    |true=>exact .inr (.inl ⟨he,rfl,rfl,rfl⟩)
    |false=>
     refine .inr (.inr ⟨⟨he,rfl⟩,N9 ?_⟩);rcases hb with hb|hb
     ·rw[hbb]at hb;cases hb
     ·exact hb
   ·exact absurd w.1 (by decide)
  ·rw[if_neg hb]at h1
   obtain⟨rfl,rfl⟩:=h1;have hts:ts=[]:=zA λw=>hb (.inr w)
   have hbb:bad=false:=by
    cases h3:bad with
    |true=>exact absurd (.inl h3) hb
    |false=>rfl
   rw[N8 hts];refine⟨λp=>⟨⟨he,hbb⟩,(q.1 p).2⟩,λp=>?_⟩;rcases q.2 p with w|w
   ·exact absurd rfl w.1
   ·exact .inr (.inr ⟨⟨he,hbb⟩,w.2⟩)
 ·obtain⟨rfl,rfl⟩:=h.1 he
  refine⟨λp=>absurd (q.1 p).1 he,λp=>?_⟩;rcases q.2 p with w|w
  ·exact .inl w
  ·exact absurd w.1 he
variable {R:List Rw}
def Opn(R:List Rw)(d:Int)(e:Int)(i:Nat)(ts:Lt)(b1:Bool)(e1:Int):Prop:=
 (e≠0->e1=e/\b1=true)/\(e=0->(e1=0/\b1=false/\V3 R d i=.ok ts)\/(e1≠0/\b1=true/\V3 R d i=.error (e1,i)))
theorem a5U{d:Int}{ts:Lt}{f:Lt->PE β}{e e1 e2:Int}{i i2:Nat}{b1:Bool}{y:β}(h:Opn R d e i ts b1 e1)(q:RB (f ts) e1 i b1 y i2 e2):RO (a1k R d i f) e i y i2 e2:=by
 by_cases he:e=0
 ·rcases h.2 he with⟨rfl,rfl,ho⟩|⟨h1,rfl,ho⟩
  ·rw[a3N ho]
   refine⟨λp=>⟨he,(q.1 p).2⟩,λp=>?_⟩;rcases q.2 p with w|w|w
   ·exact absurd rfl w.1
   ·cases w.2.1
   ·exact .inr ⟨he,w.2⟩
  ·rw[J3 ho]
   refine⟨λp=>absurd (q.1 p).1.1 h1,λp=>?_⟩;rcases q.2 p with⟨-,rfl,rfl⟩|w|w
   ·exact .inr ⟨he,rfl⟩
   ·exact absurd w.1 h1
   ·cases w.1.2
 ·obtain⟨rfl,rfl⟩:=h.1 he
  refine⟨λp=>absurd (q.1 p).1.1 he,λp=>?_⟩;rcases q.2 p with w|w|w
  ·exact .inl w
  ·exact absurd w.1 he
  ·exact absurd w.1.1 he
end
section
open Go.Eng Go.Pc Go
open Go.Xp hiding B
open Go.Ty (Ty Vr Tok)
open Go.Ly (Rw)
end
end Go.Sx
namespace Go.Lx
section
open Go.Ty
set_option maxRecDepth 100000
end
end Go.Lx
namespace Go.Ty
section
open Go.Lx
def b4E(l:Lt):Bool:=((decide ((l.length:Int)>1)&&((G1 l 0).text==lb))&&decide ((G1 l 1).n>=1))&&decide ((G1 l 1).n<=64)
def b2Y(l:Lt):Int:=if b4E l then(G1 l 1).n else 0
def a6l(l:Lt)(i:Nat):Bool:=decide ((i:Int)<(l.length:Int))&&((G1 l i).kind==1)
def a1D(l:Lt)(i:Nat):B:=if a6l l i then(G1 l i).text else[]
def a6f(l:Lt)(k it:Int)(i:Nat):Ty:=⟨k,b2Y l,it,a1D l i⟩
def a6d(l:Lt)(t:Ty):Bool:=may t&&a6r l (toks t)
theorem a8r(l:Lt)(t:Ty):(((tokens t).2==0)&&a6r l (tokens t).1)=a6d l t:=by
 unfold a6d;cases h:may t with
 |true=>rw[K1 h];rfl
 |false=>rw[a3G h];rfl
theorem b6G{l:Lt}{t:Ty}(h:a6d l t=true):front l=(t,(toks t).length,0):=by unfold a6d at h;simp only[qa]at h;exact a5w h.1 ((a9O l _ 0).1 h.2)
theorem b9K{t:Ty}(h:may t=true):∃s w,toks t=dimT t++I2 s::w/\s≠lb:=by
 cases may_shape h with
 |plain k d hk e=>subst e;exact⟨_,_,b2t k d hk,by rcases is_three hk with rfl|rfl|rfl<;>decide⟩
 |timer e=>subst e;exact⟨_,_,rfl,by decide⟩
 |item k d hk e=>subst e;exact⟨_,_,b2R k d hk,by decide⟩
 |proto s d hs e=>subst e;exact⟨_,_,b0z s d hs,by decide⟩
theorem c4F{l:Lt}{t:Ty}(h:may t=true)(hb:a1i l 0 (toks t)):b2Y l=t.dim/\(G1 l 0).kind≠1:=by
 have hd:=may_dim h;obtain⟨s,w,e,hs⟩:=b9K h;rw[e,U7]at hb;by_cases h0:t.dim=0
 ·have ed:dimT t=[]:=by unfold dimT;rw[h0];rfl
  rw[ed]at hb;have m:M l 0 (I2 s):=hb.2.1;have e1:=(a1B.1 m).2;have et:(G1 l 0).text=s:=congrArg Tok.text e1;have ek:(G1 l 0).kind=2:=congrArg Tok.kind e1;refine⟨?_,by rw[ek];decide⟩;have:b4E l=false:=by unfold b4E;rw[et];simp[hs]
  unfold b2Y;rw[this,h0];rfl
 ·have ed:dimT t=[D3 lb,⟨3,0,[],t.dim⟩,D3 rb]:=by unfold dimT;rw[if_pos (by simp;omega)]
  rw[ed]at hb;obtain⟨⟨m0,m1,m2,_⟩,_⟩:=hb;have et:(G1 l 0).text=lb:=congrArg Tok.text (a1B.1 m0).2;have ek:(G1 l 0).kind=5:=congrArg Tok.kind (a1B.1 m0).2;have en:(G1 l 1).n=t.dim:=congrArg Tok.n (a1B.1 m1).2;have hl:=m1.lt;refine⟨?_,by rw[ek];decide⟩;have:b4E l=true:=by unfold b4E;rw[et,en];simp;omega
  unfold b2Y;rw[this,if_pos rfl,en]
theorem b6C{l:Lt}(h:∀(k it i:Nat),1<=k->k<6->it<4->i<=l.length->i<7->a6d l (a6f l k it i)=false):front l=(zeroT,0,90):=by
 rcases front_to l with h0|⟨t,hm,hb,_⟩
 ·exact h0
 ·exfalso
  obtain⟨hd,hk1⟩:=c4F hm hb;have hg:a6d l t=true:=by unfold a6d;rw[hm,show a6r l (toks t)=true from(a9O l _ 0).2 hb];rfl
  have p0:a1D l 0=[]:=by unfold a1D a6l;rw[show((G1 l 0).kind==1)=false by simpa using hk1,zB];rfl
  cases may_shape hm with
  |plain k d hk e=>
   subst e;have ec:∀n:Nat,(n:Int)=k->a6f l n (0:Nat) 0=⟨k,d,0,[]⟩:=λn hn=>by unfold a6f;rw[hd,p0,hn];rfl
   rcases is_three hk with rfl|rfl|rfl
   ·have:=h 1 0 0 (by omega) (by omega) (by omega) (by omega) (by omega);rw[ec 1 rfl,hg]at this;cases this
   ·have:=h 2 0 0 (by omega) (by omega) (by omega) (by omega) (by omega);rw[ec 2 rfl,hg]at this;cases this
   ·have:=h 3 0 0 (by omega) (by omega) (by omega) (by omega) (by omega);rw[ec 3 rfl,hg]at this;cases this
  |timer e=>subst e;have:=h 5 0 0 (by omega) (by omega) (by omega) (by omega) (by omega);unfold a6f at this;rw[hd,p0]at this;rw[show(⟨(5:Nat),Ty.dim ⟨5,0,0,[]⟩,(0:Nat),[]⟩:Ty)=⟨5,0,0,[]⟩ from rfl,hg]at this;cases this
  |item k d hk e=>
   subst e;have ec:∀n:Nat,(n:Int)=k->a6f l (4:Nat) n 0=⟨4,d,k,[]⟩:=λn hn=>by unfold a6f;rw[hd,p0,hn];rfl
   rcases is_three hk with rfl|rfl|rfl
   ·have:=h 4 1 0 (by omega) (by omega) (by omega) (by omega) (by omega);rw[ec 1 rfl,hg]at this;cases this
   ·have:=h 4 2 0 (by omega) (by omega) (by omega) (by omega) (by omega);rw[ec 2 rfl,hg]at this;cases this
   ·have:=h 4 3 0 (by omega) (by omega) (by omega) (by omega) (by omega);rw[ec 3 rfl,hg]at this;cases this
  |proto s d hs e=>
   subst e;rw[b0z s d hs,U7,qI]at hb;obtain⟨_,m0,m1,m2,_⟩:=hb;have m2':M l ((dimT ⟨4,d,0,s⟩).length+2) ⟨1,0,s,0⟩:=m2;have hl:=dimT_le ⟨4,d,0,s⟩;generalize (dimT ⟨4,d,0,s⟩).length=n at m2' hl;have hlt:=m2'.lt;have e1:=(a1B.1 m2').2;have et:(G1 l (n+2)).text=s:=congrArg Tok.text e1;have ek:(G1 l (n+2)).kind=1:=congrArg Tok.kind e1;have pn:a1D l (n+2)=s:=by
    have:a6l l (n+2)=true:=by unfold a6l;rw[ek];simp;omega
    unfold a1D;rw[this,if_pos rfl,et]
   have:=h 4 0 (n+2) (by omega) (by omega) (by omega) (by omega) (by omega);unfold a6f at this;rw[hd,pn]at this;rw[show(⟨(4:Nat),Ty.dim ⟨4,d,0,s⟩,(0:Nat),s⟩:Ty)=⟨4,d,0,s⟩ from rfl,hg]at this;cases this
end
end Go.Ty
namespace Go.Pc
section
open Go.Eng Go.Xp Go
open Go.Ty (Ty Vr)
end
end Go.Pc
namespace Go.Eng
section
open Go Go.RowKit
theorem c3d{α:Type}(cur vs:List α)(o k:Nat)(h:o+vs.length<=k)(hk:k<=cur.length) :
 (cur.take o++vs++cur.drop (o+vs.length)).take k=(cur.take k).take o++vs++(cur.take k).drop (o+vs.length):=by
 have h1:(cur.take o++vs).length=o+vs.length:=by rw[qh,qV];omega
 rw[List.take_append,h1,qC (by omega:(cur.take o++vs).length<=k),List.take_take,Nat.min_eq_left (by omega:o<=k),List.drop_take]
section
variable {P:Program}{ops:Array Oper}{Q:Exit->Pw}{n:Cx}{F:Fm}{h h':Lr}{m:View}{rest:Lo}
variable {ty:TypeId}{pos:String}{after:Array Edge}{dst:Option Tmp}{g:Option (Nat×Bool)}{d:Nat}
theorem c5B{x i:Operand}{t e:TypeId}{b o len cap sz q:Nat}{k:IntKind}{j:Int}(ht:P.underlying t=some (.slice e))(hsz:(P.info? e).map (·.size)=some sz)
 (ex:Ev n F x (.slice (some ⟨b,o,none⟩) len cap)) (ei:Ev n F i (.int k j)) (hj:j=(q:Int)) (hq:q<len) :
 PO P ⟨dst,.indexAddr t x i,ty,pos,after,g⟩ n F h m (.pointer (some ⟨b,o+q*sz,none⟩)):=.mk λb0 w ha st=>by
 subst hj;cases hi:P.info? e with
 |none=>simp[hi]at hsz
 |some i0=>
  have e1:i0.size=sz:=by simpa [hi]using hsz
  simp[execOp,ex b0 ha,ei b0 ha,Instr.indexAt,asIntOf,run_underlying ht,sizeOf,typeInfo,hi,e1,hq,Addr.add_lit]
theorem b7a{eff:List Nat}{t':Tl}{hs hp hp':Lr}{i:Nat}{s:Tr}{x y:Operand}{t e:TypeId}{a:Oa}{l cap sz o:Nat}{xs vs zs:Lv}{v:Value}
 (ho:ops[i]?=some ⟨none,.store t x y,ty,pos,after,none⟩) (he:eff.contains i=true) (hq:(P.info? t).map (·.size)=some vs.length) (ex:Ev n F x (.pointer (elt a o))) (ey:Ev n F y v)
 (hvs:v.cells.toList=vs) (h1:∀u∈vs,u.oneCell'=true) (h0:0<vs.length) (ho2:o+vs.length<=xs.length) (hz:xs.take o++vs++xs.drop (o+vs.length)=zs)
 (u:Upd hp (.row (.slice a l cap) e sz l xs) (.row (.slice a l cap) e sz l zs) hp') (k:SR P ops Q n eff t' hs s F hp' m):SR P ops Q n eff t' hs (.op i s) F hp m:=⟨_,ho,λx hx=>(by cases hx),by
 subst hz;rw[he];refine⟨λfr f w ha st=>⟨λ_=>?_,λh=>by simp[Region.wanted]at h⟩⟩;subst hvs;have uu:Upd (fr++(hp++hs)) _ _ (fr++(hp'++hs)):=(u.left).right;have hown:w.ownsRow 0 e sz (.slice a l cap) l xs:=st.ok _ uu.mem;obtain⟨hxl,hn|⟨b,cp,cur,hv,_,hb,hnc,hcm,hsz,htk⟩⟩:=hown
 ·obtain⟨_,h0'⟩:=hn
  subst h0';simp only[Nat.zero_mul]at hxl;omega
 ·simp only[Value.slice.injEq]at hv
  obtain⟨rfl,_,rfl⟩:=hv;have hlc:l*sz<=cap*sz:=zw _ hnc;have hst:=run_storeCells_at P b o e v.cells.toList 0 cur w hb (by simp;simp at ho2;omega) h1;simp only[Nat.add_zero]at hst;have hrun:(execOp f.eval ⟨none,.store t x y,ty,pos,after,none⟩).run P w=.ok .skip (w.setRow b (cur.toList.take o++v.cells.toList++cur.toList.drop (o+v.cells.toList.length)).toArray):=by
   cases hi:P.info? t with
   |none=>simp[hi]at hq
   |some i=>
    have e1:i.size=v.cells.size:=by simpa [hi]using hq
    have ex':f.eval x=.pointer (some ⟨b,0+o,none⟩):=ex f ha;rw[qI]at ex';have hst':=hst;simp[execOp,ex',ey f ha,Instr.storeAt,Instr.sureAddr,storeVar,sizeOf,typeInfo,hi,e1]at hst'⊢;rw[hst'];rfl
  rw[hrun];refine⟨m,hp',Vl,?_,nofun,k.e⟩;refine st.upd uu rfl rfl rfl (λq _ hq=>setRow_other w b q _ (λe=>hq (by rw[e];rfl))) ?_ (λb hb=>.inl hb);refine⟨?_,.inr ⟨b,cap,_,rfl,qi _,setRow_heap w b cur _ e _ hb,hnc,hcm,?_,?_⟩⟩
  ·rw[<-hxl]
   simp at ho2⊢;omega
  ·simp at ho2⊢
   omega
  ·rw[<-htk]
   exact c3d cur.toList _ o (l*sz) (by simp at ho2⊢;omega) (by simp;omega)⟩
theorem b9L{f:Operand}{args:List Operand}{tys:Array TypeId}{vs first cap:Lv}{q:FuncId}{gd:Nat×Bool}{c:Bool}{v0:Value}{R:Value->Lr->Prop}(hg:GU ops n F gd c)
 (p:c=true->Ev n F f (.func (.func q) first.toArray cap.toArray)/\Evs n F args vs/\CT P q (first++vs++cap) h m (λv _ h'=>R v h')) (hd:d<n.num)
 (k:∀v h',(c=true->R v h')->(c=false->v=v0/\h'=h)->WL P ops Q n rest ((d,gv c v)::F) h' m):WL P ops Q n (⟨some d,.call ⟨.value f,args.toArray,tys⟩,ty,pos,after,some gd⟩::rest) F h m:=by
 cases c with
 |false=>exact c0h hg rfl hd (k v0 h nofun λ_=>⟨rfl,rfl⟩)
 |true=>obtain⟨ef,ea,ct⟩:=p rfl;exact b6U hg rfl (F9 ef ea ct hd λv h' hR=>k v h' (λ_=>hR) nofun)
end
end
end Go.Eng

import Derived.Test.YtkgfanibfkdbfaaGreatDoorLPrintsY2
import Derived.Lib.AppendZerosOnto
namespace Go.Xp
section
open Go.Eng Go
open Go.Ty (Tok A3)
open Go.Lx (J7)
set_option maxRecDepth 100000
def c8i(rd:List Tok->a1A)(ok:List Tok->Prop)(sz:Ex->Nat):Prop:=
 ∀ts x r,rd ts=.ok (x,r)->∃p,(ts=p++r/\1<=p.length)/\sz x<=p.length/\∀r',ok r'->rd (p++r')=.ok (x,r')
abbrev wl(x:Ex):Nat:=(A8 x).length
abbrev ol(x:Ex):Nat:=(B7 x).length
abbrev c8s(ins:B->B->List Tok->a1A):Prop:=∀o s,s=[93]\/s=[41]->c8i (ins o s) (λ_=>True) (λx=>wl x+2)
theorem c9I(x:Ex):ol x<=wl x+2:=a0y (par x.k,A8 x)
theorem c0D{x:Ex}(h:par x.k=false):ol x=wl x:=by unfold ol wl B7 N4;rw[h];rfl
theorem c9x(x:Ex):wl x<=ol x:=by
 unfold wl ol B7 N4;split
 ·simp only[List.length_cons,List.length_append]
  omega
 ·exact Nat.le_refl _
theorem b6b:D9 []=zeroT:=rfl
theorem a1x(s:B):zeroT≠D7 s:=λe=>by
 have hk:(0:Int)=(D7 s).kind:=congrArg Tok.kind e;rcases a0d s with h|h
 ·have:=hk.trans h;omega
 ·have:=hk.trans h;omega
theorem b4V{ins:B->B->List Tok->a1A}:V1 ins []=.error 100:=by rw[Q0 b6b,if_neg (by decide),if_neg (by decide),if_neg (a1x _),if_neg (a1x _),if_neg (by decide),if_neg (by decide)]
theorem b9J{ins:B->B->List Tok->a1A}(hi:c8s ins):c8i (V1 ins) a9X ol:=by
 intro ts x r h;cases ts with
 |nil=>rw[b4V]at h;cases h
 |cons t q=>
  obtain⟨u,hu⟩:∃u,∀q',D9 (t::q')=u:=⟨_,λ_=>rfl⟩;rw[Q0 (hu q),List.tail_cons]at h;have one:∀{x:Ex},wl x=1->par x.k=false->ol x<=[t].length:=λh1 h2=>by rw[c0D h2,h1];exact Nat.le_refl 1
  by_cases k3:u.kind=3
  ·rw[if_pos k3]at h
   cases h;exact⟨[t],⟨rfl,Nat.le_refl 1⟩,one rfl rfl,λr' _=>by rw[List.singleton_append,Q0 (hu r'),if_pos k3];rfl⟩
  rw[if_neg k3]at h;by_cases k4:u.kind=4
  ·rw[if_pos k4]at h
   cases h;exact⟨[t],⟨rfl,Nat.le_refl 1⟩,one rfl rfl,λr' _=>by rw[List.singleton_append,Q0 (hu r'),if_neg k3,if_pos k4];rfl⟩
  rw[if_neg k4]at h;by_cases f:u=D7 [70,65,76,83,69]
  ·rw[if_pos f]at h
   cases h;exact⟨[t],⟨rfl,Nat.le_refl 1⟩,one rfl rfl,λr' _=>by rw[List.singleton_append,Q0 (hu r'),if_neg k3,if_neg k4,if_pos f];rfl⟩
  rw[if_neg f]at h;by_cases g:u=D7 [84,82,85,69]
  ·rw[if_pos g]at h
   cases h;exact⟨[t],⟨rfl,Nat.le_refl 1⟩,one rfl rfl,λr' _=>by rw[List.singleton_append,Q0 (hu r'),if_neg k3,if_neg k4,if_neg f,if_pos g];rfl⟩
  rw[if_neg g]at h;by_cases k1:u.kind=1
  ·rw[if_pos k1]at h
   by_cases b:D9 q=B9 [91]
   ·rw[if_pos b]at h
    cases hq:ins [91] [93] q with
    |error e=>rw[hq]at h;cases h
    |ok w=>
     obtain⟨y,r1⟩:=w;rw[hq]at h;cases h;obtain⟨p,⟨hp,hp1⟩,hs,hf⟩:=hi [91] [93] (.inl rfl) q y _ hq;refine⟨t::p,⟨by rw[hp];rfl,Nat.succ_le_succ (Nat.zero_le _)⟩,?_,λr' _=>?_⟩
     ·rw[c0D rfl]
      show(C9 u.text::B9 [91]::(A8 y++[B9 [93]])).length<=(t::p).length;simp only[List.length_cons,List.length_append,List.length_nil];simp only[wl]at hs;omega
     ·have hb:D9 (p++r')=B9 [91]:=by
       rw[hp]at b;cases p with
       |nil=>exact absurd hp1 (by decide)
       |cons v w=>exact b
      rw[List.cons_append,Q0 (hu _),if_neg k3,if_neg k4,if_neg f,if_neg g,if_pos k1,List.tail_cons,if_pos hb,hf r' trivial]
   ·rw[if_neg b]at h
    cases h;exact⟨[t],⟨rfl,Nat.le_refl 1⟩,one rfl rfl,λr' hr=>by rw[List.singleton_append,Q0 (hu r'),if_neg k3,if_neg k4,if_neg f,if_neg g,if_pos k1,List.tail_cons,if_neg hr]⟩
  rw[if_neg k1]at h;by_cases o:u=B9 [40]
  ·rw[if_pos o]at h
   obtain⟨p,⟨hp,hp1⟩,hs,hf⟩:=hi [40] [41] (.inr rfl) _ x r h;refine⟨p,⟨hp,hp1⟩,Nat.le_trans (c9I x) hs,λr' _=>?_⟩;cases p with
   |nil=>exact absurd hp1 (by decide)
   |cons v w=>have hv:v=t:=(List.cons.inj hp).1.symm;subst hv;rw[List.cons_append,Q0 (hu _),if_neg k3,if_neg k4,if_neg f,if_neg g,if_neg k1,if_pos o];exact hf r' trivial
  ·rw[if_neg o]at h
   cases h
theorem b7w{mk:Ex->Ex}{p:a1A}{x:Ex}{r:List Tok}(h:unQ mk p=.ok (x,r)):∃y,p=.ok (y,r)/\x=mk y:=by
 cases p with
 |error e=>cases h
 |ok q=>obtain⟨y,z⟩:=q;cases h;exact⟨y,rfl,rfl⟩
theorem a7z:∀n o:Nat,opF zeroT n o=0
 |0,_=>rfl
 |n+1,o=>by
  unfold opF;rw[if_neg (show zeroT≠G2 o from a1x _)];exact a7z n (o+1)
theorem c2o{ins:B->B->List Tok->a1A}:a2b ins []=.error 100:=by rw[a0w b6b,if_neg (a1x _),if_neg (by unfold a1r;rw[if_neg (a1x _),if_neg (a1x _),if_neg (a1x _)];decide),if_neg (by rw[a7z];decide),b4V]
theorem c2j{p:List Tok}(hp:1<=p.length)(r r':List Tok):D9 (p++r)=D9 (p++r'):=by
 cases p with
 |nil=>exact absurd hp (by decide)
 |cons t q=>rfl
theorem b2C{ins:B->B->List Tok->a1A}(hi:c8s ins):c8i (a2b ins) (λr=>a9X r/\b3N r) wl:=by
 have hO:=b9J hi;intro ts x r h;cases ts with
 |nil=>rw[c2o]at h;cases h
 |cons t q=>
  obtain⟨u,hu⟩:∃u,∀q',D9 (t::q')=u:=⟨_,λ_=>rfl⟩;rw[a0w (hu q),List.tail_cons]at h;by_cases k1:u=D7 [83,73,90,69]
  ·rw[if_pos k1]at h
   by_cases k2:(D9 q).kind=1
   ·rw[if_pos k2]at h
    cases q with
    |nil=>cases k2
    |cons v w=>cases h;refine⟨[t,v],⟨rfl,Nat.succ_le_succ (Nat.zero_le _)⟩,Nat.le_refl 2,λr' _=>?_⟩;rw[show[t,v]++r'=t::v::r' from rfl,a0w (hu _),List.tail_cons,if_pos k1,if_pos (show(D9 (v::r')).kind=1 from k2)];rfl
   ·rw[if_neg k2]at h
    cases h
  rw[if_neg k1]at h;by_cases k2:a1r u≠0
  ·rw[if_pos k2]at h
   obtain⟨y,hy,rfl⟩:=b7w h;obtain⟨p,⟨hp,hp1⟩,hs,hf⟩:=hO q y r hy;refine⟨t::p,⟨by rw[hp];rfl,Nat.succ_le_succ (Nat.zero_le _)⟩,?_,λr' hr=>?_⟩
   ·show(D7 (N0 (a1r u))::B7 y).length<=(t::p).length
    exact Nat.succ_le_succ hs
   ·rw[List.cons_append,a0w (hu _),List.tail_cons,if_neg k1,if_pos k2,hf r' hr.1]
    rfl
  rw[if_neg k2]at h;by_cases k3:opF u 4 23≠0
  ·rw[if_pos k3]at h
   obtain⟨y,hy,rfl⟩:=b7w h;obtain⟨p,⟨hp,hp1⟩,hs,hf⟩:=hO q y r hy;refine⟨t::p,⟨by rw[hp];rfl,Nat.succ_le_succ (Nat.zero_le _)⟩,?_,λr' hr=>?_⟩
   ·show(G2 (opF u 4 23)::B7 y).length<=(t::p).length
    exact Nat.succ_le_succ hs
   ·rw[List.cons_append,a0w (hu _),List.tail_cons,if_neg k1,if_neg k2,if_pos k3,hf r' hr.1]
    rfl
  rw[if_neg k3]at h;cases hq:V1 ins (t::q)with
  |error e=>rw[hq]at h;cases h
  |ok w=>
   obtain⟨a,r1⟩:=w;rw[hq]at h;obtain⟨p,⟨hp,hp1⟩,hs,hf⟩:=hO _ a r1 hq;have hd:∀r',a2b ins (p++r')=match V1 ins (p++r')with
    | .error e=>.error e
    | .ok (a,r)=>if opF (D9 r) 22 1≠0 then unQ (λb=>sx 7 (opF (D9 r) 22 1) 0 0 [] [a,b]) (V1 ins r.tail)else .ok (a,r):=λr'=>by
    have hn:D9 (p++r')=u:=by rw[c2j hp1 r' r1,<-hp];exact hu q
    rw[a0w hn,if_neg k1,if_neg k2,if_neg k3]<;>rfl
   by_cases k4:opF (D9 r1) 22 1≠0
   ·replace h:=(if_pos k4).symm.trans h
    obtain⟨y,hy,rfl⟩:=b7w h;cases r1 with
    |nil=>exact absurd (a7z 22 1) k4
    |cons v w=>
     obtain⟨p2,⟨hp2,hp21⟩,hs2,hf2⟩:=hO w y r hy;have hv:∀w',D9 (v::w')=D9 (v::w):=λ_=>rfl
     have hb:∀w',a9X (v::w'):=λw' e=>by
      rw[hv,]at e;rw[e]at k4;exact k4 (by decide +kernel)
     refine⟨p++v::p2,⟨by rw[hp,hp2];simp,by rw[List.length_append];omega⟩,?_,λr' hr=>?_⟩
     ·show(B7 a++G2 (opF (D9 (v::w)) 22 1)::B7 y).length<=_
      simp only[List.length_append,List.length_cons];simp only[ol]at hs hs2;omega
     ·rw[List.append_assoc,List.cons_append,hd,hf _ (hb _)]
      show(if opF (D9 (v::(p2++r'))) 22 1≠0 then unQ (λb=>sx 7 (opF (D9 (v::(p2++r'))) 22 1) 0 0 [] [a,b]) (V1 ins (v::(p2++r')).tail)else .ok (a,v::(p2++r')))=_;rw[hv,if_pos k4,List.tail_cons,hf2 r' hr.1];rfl
   ·replace h:=(if_neg k4).symm.trans h
    cases h;refine⟨p,⟨hp,hp1⟩,?_,λr' hr=>?_⟩
    ·exact Nat.le_trans (c9x _) hs
    ·rw[hd,hf r' hr.1]
     exact if_neg (λk=>k hr.2)
theorem b5M:∀f,c8s (a04 f)
 |0=>λ_ _ _ _ _ _ h=>by cases h
 |f+1=>λo s ho ts x r h=>by
  unfold a04 at h;by_cases k1:D9 ts=B9 o
  ·rw[if_pos k1]at h
   cases ts with
   |nil=>cases congrArg Tok.kind k1
   |cons t q=>
    rw[List.tail_cons]at h;cases hq:a2b (a04 f) q with
    |error e=>rw[hq]at h;cases h
    |ok w=>
     obtain⟨y,r1⟩:=w;rw[hq]at h;by_cases k2:D9 r1=B9 s
     ·replace h:=(if_pos k2).symm.trans h
      cases r1 with
      |nil=>cases congrArg Tok.kind k2
      |cons v w=>
       cases h;obtain⟨p,⟨hp,hp1⟩,hs,hf⟩:=b2C (b5M f) q _ _ hq;have hv:∀w',D9 (v::w')=B9 s:=λ_=>k2
       refine⟨t::(p++[v]),⟨by rw[hp];simp,Nat.succ_le_succ (Nat.zero_le _)⟩,?_,λr' _=>?_⟩
       ·simp only[List.length_cons,List.length_append,List.length_nil]
        simp only[wl]at hs⊢;omega
       ·have hno:a9X (v::r')/\b3N (v::r'):=by
         unfold a9X b3N;rw[hv];rcases ho with rfl|rfl<;>exact⟨by decide +kernel,by decide +kernel⟩
        rw[show t::(p++[v])++r'=t::(p++v::r') by simp];unfold a04;rw[if_pos (show D9 (t::(p++v::r'))=B9 o from k1),List.tail_cons,hf _ hno];exact if_pos k2
     ·replace h:=(if_neg k2).symm.trans h
      cases h
  ·rw[if_neg k1]at h
   cases h
abbrev Er(rd:List Tok->a1A):Prop:=∀ts e,rd ts=.error e->e=100\/e=3
abbrev c7W(ins:B->B->List Tok->a1A):Prop:=∀o s,Er (ins o s)
theorem c6q{ins:B->B->List Tok->a1A}(hi:c7W ins):Er (V1 ins):=by
 intro ts e h;rw[Q0 rfl]at h;repeat' split at h
 all_goals first|(cases h;done)|(cases h;rename_i h2;exact hi _ _ _ _ h2)|exact hi _ _ _ _ h|(cases h;exact .inl rfl)
theorem c7v{mk:Ex->Ex}{p:a1A}{e:Int}(h:unQ mk p=.error e):p=.error e:=by
 cases p with
 |error f=>cases h;rfl
 |ok q=>cases h
theorem b8i{ins:B->B->List Tok->a1A}(hi:c7W ins):Er (a2b ins):=by
 intro ts e h;have hO:=c6q hi;rw[a0w rfl]at h;repeat' split at h
 all_goals first|(cases h;done)|exact hO _ _ (c7v h)|(cases h;rename_i h2;exact hO _ _ h2)|(cases h;exact .inl rfl)
theorem c0u:∀f,c7W (a04 f)
 |0=>λ_ _ _ _ h=>by cases h;exact .inr rfl
 |f+1=>λo s ts e h=>by
  unfold a04 at h;repeat' split at h
  all_goals first|(cases h;done)|(cases h;rename_i h2;exact b8i (c0u f) _ _ h2)|(cases h;exact .inl rfl)
theorem c3H{ts:List Tok}{x:Ex}{k:Nat}(h:U9 ts=.ok (x,k)):((1<=k/\k<=ts.length)/\F8 x=true)/\(A8 x).length<=k/\U9 (ts.take k)=.ok (x,k):=by
 unfold U9 at h;cases hq:b2f ts with
 |error e=>rw[hq]at h;cases h
 |ok w=>
  obtain⟨y,r⟩:=w;rw[hq]at h;by_cases hm:F8 y=true
  ·replace h:=(if_pos hm).symm.trans h
   cases h;obtain⟨p,⟨hp,hp1⟩,hs,hf⟩:=b2C (b5M 32) ts _ _ hq;have hl:ts.length-r.length=p.length:=by rw[hp,List.length_append];omega
   have ht:ts.take (ts.length-r.length)=p:=by rw[hl,hp,List.take_left]
   have he:=hf [] ⟨by unfold a9X;decide +kernel,by unfold b3N;decide +kernel⟩;rw[List.append_nil]at he;refine⟨⟨⟨by omega,by omega⟩,hm⟩,by rw[hl];exact hs,?_⟩;rw[ht];unfold U9 b2f;rw[he];show(if F8 _ then Except.ok (_,p.length-0)else .error 3)=_;rw[if_pos hm,hl,Nat.sub_zero]
  ·replace h:=(if_neg hm).symm.trans h
   cases h
theorem b5g{ts:List Tok}{e:Int}(h:U9 ts=.error e):e=100\/e=3:=by
 unfold U9 at h;cases hq:b2f ts with
 |error f=>rw[hq]at h;cases h;exact b8i (c0u 32) ts _ hq
 |ok w=>
  obtain⟨y,r⟩:=w;rw[hq]at h;by_cases hm:F8 y=true
  ·replace h:=(if_pos hm).symm.trans h
   cases h
  ·replace h:=(if_neg hm).symm.trans h
   cases h;exact .inr rfl
theorem a43{ts:List Tok}:a1f ts<=ts.length:=by
 unfold a1f;cases h:U9 ts with
 |error e=>exact Nat.zero_le _
 |ok w=>exact(c3H h).1.1.2
end
end Go.Xp
namespace Go.Ty
section
open Go.Lx
def wordR(k:Int):B:=if k==1 then b9n else if k==2 then b2l else b1T
theorem b5F{k:Int}(h:is k=true):(wordS k).1=wordR k:=by rw[b5W]at h;unfold prim at h;simp at h;rcases h with(rfl|rfl)|rfl<;>rfl
theorem b0A{t:Ty}(h:may t=true)(h5:(t.kind==5)=true):dimT t++[L7 a3e]=toks t:=by
 have e:t.kind=5:=by simpa using h5
 have e2:eqT t timer=true:=by
  unfold may at h;split at h
  ·cases h
  ·rw[e]at h
   exact h
 rw[eqT_iff]at e2;subst e2;rfl
theorem a9S{t:Ty}(h:may t=true)(h5:(t.kind==5)=false)(h4:(t.kind !=4)=true):dimT t++[L7 (wordR t.kind)]=toks t:=by
 have hk:is t.kind=true:=by
  unfold may at h;split at h
  ·cases h
  ·split at h
   ·assumption
   ·rw[eqT_iff]at h
    subst h;cases h5
 have h4':(t.kind==4)=false:=by simpa using h4
 unfold toks chanT lastT a5g;rw[h4'];simp only[Bool.false_eq_true,if_false,List.append_nil];have hk':(wordS t.kind).2.2=true:=hk;rw[hk',if_pos rfl,b5F hk]
theorem a4Y{t:Ty}(h:may t=true)(h4:(t.kind !=4)=false):(t.item=0/\name t.proto=true)\/(is t.item=true/\t.proto=[]):=by
 have h4':t.kind=4:=by simpa using h4
 unfold may at h;split at h
 ·cases h
 ·rw[h4']at h
  rw[if_neg (by decide),if_neg (by decide)]at h;split at h
  ·rename_i h0;exact .inl ⟨by simpa using h0,h⟩
  ·simp at h;exact .inr h
theorem b08{t:Ty}(h:may t=true)(h4:(t.kind !=4)=false)(hp:(!(t.proto==[]))=true):dimT t++[L7 a1m,L7 cOF]++[⟨1,0,t.proto,0⟩]=toks t:=by
 have h4':(t.kind==4)=true:=by simpa using h4
 rcases a4Y h h4 with⟨h0,_⟩|⟨_,h0⟩
 ·unfold toks chanT lastT a5g
  rw[h4',h0,hp];rfl
 ·rw[h0]at hp;cases hp
theorem b1k{t:Ty}(h:may t=true)(h4:(t.kind !=4)=false)(hp:(!(t.proto==[]))=false):dimT t++[L7 a1m,L7 cOF]++[L7 (wordR t.item)]=toks t:=by
 have h4':(t.kind==4)=true:=by simpa using h4
 rcases a4Y h h4 with⟨_,h0⟩|⟨hi,_⟩
 ·have:t.proto=[]:=by simpa using hp
  rw[this]at h0;cases h0
 ·have hi':(wordS t.item).2.2=true:=hi
  unfold toks chanT lastT a5g;rw[h4',if_pos rfl,if_pos rfl,hi',if_pos rfl,b5F hi]
end
section
open Go.Lx
def C6(x:Tok):Tok:={ x with at_:=0 }
def M(l:List Tok)(i:Nat)(y:Tok):Prop:=∃x,l[i]?=some x/\C6 x=y
def a3t(l:List Tok):Nat->List Tok->Prop
 |_,[]=>True
 |i,y::w=>M l i y/\a3t l (i+1) w
theorem M.lt{l:List Tok}{i:Nat}{y:Tok}(a:M l i y):i<l.length:=by obtain⟨x,hx,_⟩:=a;exact(List.getElem?_eq_some_iff.1 hx).1
theorem a0f(l:List Tok):∀(u w:List Tok)(i:Nat),a3t l i (u++w)↔a3t l i u/\a3t l (i+u.length) w
 | [],w,i=>by simp[a3t]
 |y::u,w,i=>by
  show(M l i y/\a3t l (i+1) (u++w))↔(M l i y/\a3t l (i+1) u)/\a3t l (i+(u.length+1)) w;rw[a0f l u w (i+1),and_assoc,show i+1+u.length=i+(u.length+1) by omega]
theorem a6U{l:List Tok}{i:Nat}{y:Tok}:M l i y↔i<l.length/\C6 (L1 l i)=y:=by
 constructor
 ·intro m
  have h:=m.lt;obtain⟨x,hx,e⟩:=m;rw[a2G h]at hx;cases hx;exact⟨h,e⟩
 ·rintro⟨h,e⟩;exact⟨_,a2G h,e⟩
theorem O9{l:List Tok}{i:Nat}{kd:Int}{s:B}(h3:kd≠3):next l i kd s=true↔M l i ⟨kd,0,s,0⟩:=by
 rw[a6U];unfold next a4D C6;generalize L1 l i=x;cases x;simp[h3];constructor
 ·rintro⟨⟨⟨a,b⟩,c⟩,d⟩;exact⟨a,b,c,d⟩
 ·rintro⟨a,b,c,d⟩;exact⟨⟨⟨a,b⟩,c⟩,d⟩
theorem c1q{l:List Tok}{i:Nat}{s:B}:next l i 3 s=true↔M l i ⟨3,0,s,(L1 l i).n⟩:=by
 rw[a6U];unfold next a4D C6;generalize L1 l i=x;cases x;simp;constructor
 ·rintro⟨⟨a,b⟩,c⟩;exact⟨a,b,c⟩
 ·rintro⟨a,b,c⟩;exact⟨⟨a,b⟩,c⟩
theorem a3x{l:List Tok}{i:Nat}{kd:Int}{s:B}{y:Tok}(m:M l i y)(h:y.kind≠kd\/y.text≠s):next l i kd s=false:=by
 cases hn:next l i kd s with
 |false=>rfl
 |true=>
  exfalso;obtain⟨_,e⟩:=a6U.1 m;subst e;unfold next a4D at hn;simp at hn;rcases h with h|h
  ·exact h hn.1.1.2
  ·exact h hn.1.2
theorem a9M(l:List Tok)(i:Nat):named l i=if next l i 2 b9n then some 1 else if next l i 2 b2l then some 2 else if next l i 2 b1T then some 3 else none:=rfl
theorem is_three{k:Int}(h:is k=true):k=1\/k=2\/k=3:=by rw[b5W]at h;unfold prim at h;simp at h;omega
theorem a9e{l:List Tok}{i:Nat}{k:Int}(h:named l i=some k):is k=true/\M l i (L7 (wordS k).1):=by
 rw[a9M]at h;split at h
 ·cases h;rename_i hn;exact⟨by decide,(O9 (by decide)).1 hn⟩
 ·split at h
  ·cases h;rename_i hn;exact⟨by decide,(O9 (by decide)).1 hn⟩
  ·split at h
   ·cases h;rename_i hn;exact⟨by decide,(O9 (by decide)).1 hn⟩
   ·cases h
theorem b4t{l:List Tok}{i:Nat}{k:Int}(h:is k=true)(m:M l i (L7 (wordS k).1)):named l i=some k:=by
 rw[a9M];rcases is_three h with rfl|rfl|rfl
 ·have m':M l i (L7 b9n):=m
  rw[if_pos ((O9 (by decide)).2 m')]
 ·have m':M l i (L7 b2l):=m
  rw[if_neg (by rw[a3x m' (.inr (by decide))];decide),if_pos ((O9 (by decide)).2 m')]
 ·have m':M l i (L7 b1T):=m
  rw[if_neg (by rw[a3x m' (.inr (by decide))];decide),if_neg (by rw[a3x m' (.inr (by decide))];decide),if_pos ((O9 (by decide)).2 m')]
theorem b0t{l:List Tok}{i:Nat}{y:Tok}(m:M l i y)(h:y.kind≠2\/(y.text≠b9n/\y.text≠b2l/\y.text≠b1T)):named l i=none:=by rw[a9M];rw[if_neg (by rw[a3x m (h.imp_right λh=>h.1)];decide),if_neg (by rw[a3x m (h.imp_right λh=>h.2.1)];decide),if_neg (by rw[a3x m (h.imp_right λh=>h.2.2)];decide)]
inductive Shape(t:Ty):Prop where
 |plain (k d:Int) (hk:is k=true) (e:t=⟨k,d,0,[]⟩)
 |timer (e:t=⟨5,0,0,[]⟩)
 |item (k d:Int) (hk:is k=true) (e:t=⟨4,d,k,[]⟩)
 |proto (s:B) (d:Int) (hs:name s=true) (e:t=⟨4,d,0,s⟩)
theorem may_shape{t:Ty}(h:may t=true):Shape t:=by
 obtain⟨k,d,i,s⟩:=t;by_cases hk:is k=true
 ·unfold may at h
  split at h
  ·cases h
  ·simp only[Bool.and_eq_true,beq_iff_eq]at h
   obtain⟨rfl,rfl⟩:=h;exact .plain k d hk rfl
 ·by_cases h4:k=4
  ·subst h4
   rcases a4Y h (by simp)with⟨h0,hn⟩|⟨hi,h0⟩
   ·simp only at h0 hn;subst h0;exact .proto s d hn rfl
   ·simp only at h0 hi;subst h0;exact .item i d hi rfl
  ·unfold may at h
   split at h
   ·cases h
   ·rw[if_pos (by simpa using h4),eqT_iff]at h
    exact .timer h
theorem b6N(k d:Int)(hk:is k=true):toks ⟨k,d,0,[]⟩=dimT ⟨k,d,0,[]⟩++[L7 (wordS k).1]:=by unfold toks;rw[List.append_assoc];rcases is_three hk with rfl|rfl|rfl<;>rfl
theorem b6n(k d:Int)(hk:is k=true):toks ⟨4,d,k,[]⟩=dimT ⟨4,d,k,[]⟩++[L7 a1m,L7 cOF,L7 (wordS k).1]:=by unfold toks;rw[List.append_assoc];rcases is_three hk with rfl|rfl|rfl<;>rfl
theorem c3Y{s:B}(h:name s=true):s≠[]:=by rintro rfl;cases h
theorem b6W(s:B)(d:Int)(hs:name s=true):toks ⟨4,d,0,s⟩=dimT ⟨4,d,0,s⟩++[L7 a1m,L7 cOF,⟨1,0,s,0⟩]:=by
 unfold toks;rw[List.append_assoc];unfold lastT;have:(s==[])=false:=by simpa using c3Y hs
 simp only[this];rfl
theorem c1v{t:Ty}(h:may t=true):∃s w,toks t=dimT t++L7 s::w:=by
 cases may_shape h with
 |plain k d hk e=>subst e;exact⟨_,_,b6N k d hk⟩
 |timer e=>subst e;exact⟨_,_,rfl⟩
 |item k d hk e=>subst e;exact⟨_,_,b6n k d hk⟩
 |proto s d hs e=>subst e;exact⟨_,_,b6W s d hs⟩
theorem c7A{t:Ty}(l:List Tok)(h:may t=true)(hb:a3t l 0 (toks t)):pre l=(true,t.dim,(dimT t).length):=by
 have hd:=may_dim h;obtain⟨s,w,e⟩:=c1v h;rw[e,a0f]at hb;by_cases h0:t.dim=0
 ·have ed:dimT t=[]:=by unfold dimT;rw[h0];rfl
  rw[ed]at hb⊢;rw[c1t (a3x hb.2.1 (.inl (show(2:Int)≠5 by decide))),h0];rfl
 ·have ed:dimT t=[B9 lb,⟨3,0,[],t.dim⟩,B9 rb]:=by unfold dimT;rw[if_pos (by simp;omega)]
  rw[ed]at hb⊢;obtain⟨⟨m0,m1,m2,_⟩,_⟩:=hb;have en:(L1 l 1).n=t.dim:=by obtain⟨_,e1⟩:=a6U.1 m1;exact congrArg Tok.n e1
  rw[b7n ((O9 (by decide)).2 m0) (c1q.2 (by rw[en];exact m1)),en,(O9 (by decide)).2 m2];have:decide (t.dim>0)=true:=by simp;omega
  rw[this];rfl
theorem b1y{l:List Tok}{d:Int}{n:Nat}{k:Int}(hP:pre l=(true,d,n))(hn:named l n=some k):mid l=(true,⟨k,d,0,[]⟩,n+1):=by unfold mid;rw[hP];simp only[hn]
theorem a9O{l:List Tok}{d:Int}{n:Nat}(hP:pre l=(true,d,n))(m0:M l n (L7 a1m))(m1:M l (n+1) (L7 cOF)):mid l=(match named l (n+2)with
 |some k=>(true,⟨4,d,k,[]⟩,n+3)
 |none=>if decide ((n+2:Nat)<(l.length:Int))&&next l (n+2) 1 (L1 l (n+2)).text then(true,⟨4,d,0,(L1 l (n+2)).text⟩,n+3)else(true,⟨4,d,0,[]⟩,n+2)):=by
 unfold mid;rw[hP];simp only[b0t m0 (.inr (by decide)),(O9 (show(2:Int)≠3 by decide)).2 m0,(O9 (show(2:Int)≠3 by decide)).2 m1,if_true];cases named l (n+2)<;>rfl
theorem a9P{t:Ty}{l:List Tok}(h:may t=true)(hb:a3t l 0 (toks t)):front l=(t,(toks t).length,0):=by
 have hP:=c7A l h hb;have hM:mid l=(true,t,(toks t).length):=by
  cases may_shape h with
  |plain k d hk e=>subst e;rw[b6N k d hk]at hb⊢;rw[a0f,Nat.zero_add]at hb;rw[b1y hP (b4t hk hb.2.1),List.length_append];rfl
  |timer e=>subst e;have m:M l 0 (L7 a3e):=hb.1;exact b3W hP (b0t m (.inr (by decide))) (a3x m (.inr (by decide))) ((O9 (by decide)).2 m)
  |item k d hk e=>subst e;rw[b6n k d hk]at hb⊢;rw[a0f,Nat.zero_add]at hb;obtain⟨_,m0,m1,m2,_⟩:=hb;rw[a9O hP m0 m1,b4t hk m2,List.length_append];rfl
  |proto s d hs e=>
   subst e;rw[b6W s d hs]at hb⊢;rw[a0f,Nat.zero_add]at hb;obtain⟨_,m0,m1,m2,_⟩:=hb;have m2':M l ((dimT ⟨4,d,0,s⟩).length+2) ⟨1,0,s,0⟩:=m2;have et:(L1 l ((dimT ⟨4,d,0,s⟩).length+2)).text=s:=congrArg Tok.text (a6U.1 m2').2;have hlt:=m2'.lt;rw[a9O hP m0 m1,b0t m2' (.inl (show(1:Int)≠2 by decide)),et];have c:(decide ((((dimT ⟨4,d,0,s⟩).length+2:Nat):Int)<(l.length:Int))&&next l ((dimT ⟨4,d,0,s⟩).length+2) 1 s)=true:=by rw[(O9 (by decide)).2 m2',Bool.and_true];exact decide_eq_true (by omega)
   simp only[c,if_true,List.length_append];rfl
 exact b1u hM (by rw[h];rfl)
theorem b3o{l:List Tok}{d:Int}{n:Nat}(h:pre l=(true,d,n))(t:Ty)(e:t.dim=d):n=(dimT t).length/\a3t l 0 (dimT t):=by
 by_cases h0:next l 0 5 lb=true
 ·by_cases h1:next l 1 3 []=true
  ·rw[b7n h0 h1]at h
   simp only[Prod.mk.injEq]at h;obtain⟨hc,hd,hn⟩:=h;rw[hc]at hn;simp only[Bool.and_eq_true,decide_eq_true_eq]at hc;have ed:dimT t=[B9 lb,⟨3,0,[],t.dim⟩,B9 rb]:=by unfold dimT;rw[if_pos (by simp;omega)]
   rw[ed];refine⟨hn.symm,(O9 (by decide)).1 h0,?_,(O9 (by decide)).1 hc.2,trivial⟩;rw[e,<-hd];exact c1q.1 h1
  ·rw[c3V h0 (by simpa using h1)]at h
   cases h
 ·rw[c1t (by simpa using h0)]at h
  cases h;have ed:dimT t=[]:=by unfold dimT;rw[e];rfl
  rw[ed];exact⟨rfl,trivial⟩
theorem c8g{l:List Tok}{t:Ty}{n:Nat}(h:mid l=(true,t,n))(hm:may t=true):a3t l 0 (toks t):=by
 obtain⟨⟨b,d,n0⟩,hP⟩:∃p,pre l=p:=⟨_,rfl⟩;cases b with
 |false=>unfold mid at h;rw[hP]at h;cases h
 |true=>
  cases hn:named l n0 with
  |some k=>rw[b1y hP hn]at h;cases h;obtain⟨hk,m⟩:=a9e hn;obtain⟨e,hb⟩:=b3o hP ⟨k,d,0,[]⟩ rfl;rw[b6N k d hk,a0f];subst e;exact⟨hb,by rw[Nat.zero_add];exact m,trivial⟩
  |none=>
   cases hc:next l n0 2 a1m with
   |true=>
    have m0:M l n0 (L7 a1m):=(O9 (by decide)).1 hc;cases ho:next l (n0+1) 2 cOF with
    |false=>unfold mid at h;rw[hP]at h;simp only[hn,hc,ho,if_true,Bool.false_eq_true,if_false]at h;cases h
    |true=>
     have m1:M l (n0+1) (L7 cOF):=(O9 (by decide)).1 ho;rw[a9O hP m0 m1]at h;cases hk:named l (n0+2)with
     |some k=>rw[hk]at h;cases h;obtain⟨hk,m2⟩:=a9e hk;obtain⟨e,hb⟩:=b3o hP ⟨4,d,k,[]⟩ rfl;rw[b6n k d hk,a0f];subst e;rw[Nat.zero_add];exact⟨hb,m0,m1,m2,trivial⟩
     |none=>
      rw[hk]at h;simp only at h;split at h
      ·rename_i hx
       simp only[Bool.and_eq_true]at hx;have m2:=(O9 (show(1:Int)≠3 by decide)).1 hx.2;cases h;have hs:name (L1 l (n0+2)).text=true:=by
        rcases a4Y hm rfl with⟨_,hs⟩|⟨hi,_⟩
        ·exact hs
        ·cases hi
       obtain⟨e,hb⟩:=b3o hP ⟨4,d,0,(L1 l (n0+2)).text⟩ rfl;rw[b6W _ d hs,a0f];rw[<-e,Nat.zero_add];exact⟨hb,m0,m1,m2,trivial⟩
      ·cases h
       rcases a4Y hm rfl with⟨_,hs⟩|⟨hi,_⟩
       ·cases hs
       ·cases hi
   |false=>
    cases ht:next l n0 2 a3e with
    |true=>
     rw[b3W hP hn hc ht]at h;cases h;have e5:(⟨5,d,0,[]⟩:Ty)=timer:=by
      cases may_shape hm with
      |plain k d hk e=>cases e;cases hk
      |timer e=>exact e
      |item k d hk e=>cases e
      |proto s d hs e=>cases e
     rw[e5];cases e5;obtain⟨e,_⟩:=b3o hP timer rfl;subst e;exact⟨(O9 (by decide)).1 ht,trivial⟩
    |false=>
     rw[b8k hP hn hc ht]at h;cases h;cases may_shape hm with
     |plain k d hk e=>cases e;cases hk
     |timer e=>cases e
     |item k d hk e=>cases e
     |proto s d hs e=>cases e
theorem front_to(l:List Tok):front l=(zeroT,0,90)\/∃t,may t=true/\a3t l 0 (toks t)/\front l=(t,(toks t).length,0):=by
 obtain⟨⟨ok,t,n⟩,hM⟩:∃p,mid l=p:=⟨_,rfl⟩;by_cases hc:(!ok||!may t)=true
 ·exact .inl (b4N hM hc)
 ·simp at hc
  obtain⟨rfl,hm⟩:=hc;have hb:=c8g hM hm;exact .inr ⟨t,hm,hb,a9P hm hb⟩
end
end Go.Ty
namespace Go.Sx
section
open Go.Eng Go.Pc Go
open Go.Xp hiding B
open Go.Ty (Ty Vr Tok)
def stL(s:Sli Ex):Sli Ex:=sl (s.l.map C6)
def stR(r:Rp):Rp:=⟨r.name,C6 r.base,C6 r.count⟩
def a0x(x:Vr):Vr:=vrM x.tag x.items
mutual
def stP:Pr->Pr
 | .mk k n ch tg ex rep _ _ gl _ _ ll pn sp=>.mk k n (C6 ch) (stL tg) (stL ex) (stR rep) none 0 (c4e gl) none 0 (c0i ll) (sl pn.l) (stS sp)
def c0i:List Pr->List Pr
 | []=>[]
 |x::r=>stP x::c0i r
def stG:Gu->Gu
 | .mk k n cond ch tg vl time _ _ bl=>.mk k n (C6 cond) (C6 ch) (stL tg) (stL vl) (C6 time) none 0 (c0i bl)
def c4e:List Gu->List Gu
 | []=>[]
 |x::r=>stG x::c4e r
def stS:Sp->Sp
 | .mk k ty names e cs vs fs _ _ bl=>.mk k ty (sl names.l) (C6 e) cs (sl (vs.l.map a0x)) (sl fs.l) none 0 (c0i bl)
end
theorem a5s:∀l:List Pr,c0i l=l.map stP
 | []=>rfl
 |x::r=>by rw[c0i,a5s r];rfl
theorem b0x:∀l:List Gu,c4e l=l.map stG
 | []=>rfl
 |x::r=>by rw[c4e,b0x r];rfl
theorem a0H(e:Ex):F5 (C6 e)=F5 e:=by unfold F5;rw[U7];cases e;rfl
theorem c2f{k:Int}{s:B}{ts:List Tok}(h:isM k s ts=true):∃t r,ts=t::r/\t.kind=k/\t.text=s:=by
 cases ts with
 |nil=>cases h
 |cons t r=>have h':((t.kind==k)&&(t.text==s))=true:=h;simp only[Bool.and_eq_true,beq_iff_eq]at h';exact⟨t,r,rfl,h'.1,h'.2⟩
theorem c5a{k:Int}{s:B}{ts:List Tok}(h:isM k s ts=true):0<ts.length:=by obtain⟨t,r,rfl,_⟩:=c2f h;exact Nat.succ_pos _
theorem b4o(ts:List Tok):a0j ts=if(ts.getD 0 Go.Ty.zeroK).kind=1 then .ok ((ts.getD 0 Go.Ty.zeroK).text,ts.tail)else .error 110:=by
 cases ts with
 |nil=>rfl
 |cons t r=>rfl
theorem b5T(ts:List Tok):P5 ts=if a6w ts=0 then .ok (a9U ts,ts.drop (a1f ts))else .error 110:=by
 unfold P5 a6w a9U a1f;cases hf:U9 ts with
 |ok x=>obtain⟨x,k⟩:=x;rfl
 |error e=>rcases b5g hf with rfl|rfl<;>rfl
theorem a8l(ts:List Tok):N8 ts=if(ts.getD 0 Go.Ty.zeroK).kind=1 then S3 (P5 ts) λx r=>if F5 x then .ok (x,r)else .error 110 else .error 110:=by cases ts<;>rfl
open Go.Ty in
theorem b5v(l:List Tok):∀(w:List Tok)(i:Nat),a3t l i w->i<=l.length->i+w.length<=l.length
 | [],i,_,hi=>hi
 |y::w,i,h,_=>by
  obtain⟨h1,h2⟩:=(a0f l [y] w i).1 h;have h3:=b5v l w (i+1) h2 (by
   have:=M.lt h1.1;omega)
  simp only[List.length_cons];omega
theorem c8q(ts:List Tok):(Go.Ty.front ts).2.1<=ts.length:=by
 rcases Go.Ty.front_to ts with h|⟨t,hm,hb,h⟩
 ·rw[h];exact Nat.zero_le _
 ·rw[h]
  have:=b5v ts _ 0 hb (Nat.zero_le _);simpa using this
theorem b7L{t:Ty}(h:Go.Ty.may t=true):TyW t:=by
 have hd:=Go.Ty.may_dim h;cases Go.Ty.may_shape h with
 |plain k d hk e=>subst e;have:=Go.Ty.is_three hk;exact⟨by simp only;omega,by simp only;omega,by simp only at hd⊢;omega,Nat.zero_le _⟩
 |timer e=>subst e;exact⟨by decide,by decide,by decide,Nat.zero_le _⟩
 |item k d hk e=>subst e;have:=Go.Ty.is_three hk;exact⟨by simp only;omega,by simp only;omega,by simp only at hd⊢;omega,Nat.zero_le _⟩
 |proto s d hs e=>subst e;refine⟨by simp only;omega,by simp only;omega,by simp only at hd⊢;omega,?_⟩;unfold Go.Lx.name at hs;simp only[Bool.and_eq_true,decide_eq_true_eq]at hs;have:=hs.1.1.1.2;show s.length<=Big;unfold Big;omega
theorem c9e(ts:List Tok):TyW (Go.Ty.front ts).1:=by
 rcases Go.Ty.front_to ts with h|⟨t,hm,hb,h⟩
 ·rw[h];exact⟨by decide,by decide,by decide,Nat.zero_le _⟩
 ·rw[h];exact b7L hm
end
end Go.Sx
namespace Go.Eng
section
open Go Go.RowKit
def b3R(P:Program)(l:Nat)(v v2:Value)(w:World)(R:Bool->World->Prop):Prop:=
 ∃fn tmps assign body,(Instr.yield l #[v,v2]).run P w=.ok (.round l fn tmps assign body) w /\
  RoundIn (fen none) 0 P l fn tmps assign body w λe w'=>∃b,e=.returned (.bool b)/\R b w'
section
variable {P:Program}{ops:Array Oper}{Q:Exit->Act->World->Prop}{n:Cx}{F:Fm}{h h':List Res}{m:View}{rest:List Oper}
variable {op:Op}{ty:TypeId}{pos:String}{after:Array Edge}{d:Nat}{v v2:Value}
theorem b3R.mono{l:Nat}{w:World}{R R':Bool->World->Prop}(h:b3R P l v v2 w R)(hr:∀b w',R b w'->R' b w'):b3R P l v v2 w R':=by obtain⟨fn,tmps,assign,body,h1,h2⟩:=h;exact⟨fn,tmps,assign,body,h1,h2.mono λe w' ⟨b,e1,e2⟩=>⟨b,e1,hr b w' e2⟩⟩
end
end
section
open Go Go.RowKit
section
variable {P:Program}{m m':View}{h h':List Res}{w w':World}
end
section
variable {P:Program}{ops:Array Oper}{Q:Exit->Act->World->Prop}{n:Cx}{F:Fm}{h h':List Res}{m:View}{rest:List Oper}
variable {ty:TypeId}{pos:String}{after:Array Edge}{dst:Option Tmp}{g:Option (Nat×Bool)}{d:Nat}
theorem b6P{α:Type}{enc:α->List Value}{x:Operand}{t:TypeId}{u:TypeDesc}{a:Option Addr}{len cap q sz o k:Nat}{l:List α}{y:α}{vs:List Value}(ht:P.underlying t=some u)(hp:O8 u=false)(hq:(P.info? t).isSome=true)(henc:∀x,(enc x).length=sz)
 (hs:Rd m h a len cap sz (fl enc l)) (ex:Ev n F x (.pointer (elt a (q*sz+o)))) (hx:l[q]?=some y) (hl:P.cellsOf t=k) (hv:seg (enc y) o k=some vs) (h0:0<k):PO P ⟨dst,.load t x,ty,pos,after,g⟩ n F h m (.agg vs.toArray):=
 b1x ht hp hq hs ex (by rw[hl,(a2Z hv).1]) (by rw[(a2Z hv).1];exact h0) (λj v hj=>by rw[Nat.add_assoc];exact b7M henc hx (o+j) v ((a2Z hv).2 j v hj))
theorem c8Q(a:Option Addr)(cap sz:Nat)(h:a=none\/∃b off,a=some ⟨b,off,none⟩):sl1 a 0 cap sz=a:=by
 unfold sl1;split
 ·rfl
 ·rcases h with rfl|⟨b,off,rfl⟩
  ·rfl
  ·simp[Addr.add_lit]
theorem CT.know{f:FuncId}{args:List Value}{R:Value->View->List Res->Prop}{A:Prop}(he:∀as w,(callFunc f as).run P w=.ok (.enter f as) w)(ha:∀w,St m h w->A)(k:A->CT P f args h m R):CT P f args h m R:=
 ⟨he,λw hs=>(k (ha w hs)).calls w hs⟩
theorem CT.knowRow{f:FuncId}{args:List Value}{R:Value->View->List Res->Prop}{a:Option Addr}{k cap sz:Nat}{e:TypeId}{ys:List Value}(he:∀as w,(callFunc f as).run P w=.ok (.enter f as) w)(hm:Res.row (.slice a k cap) e sz k ys∈h)
 (kk:k<=cap->cap<=9223372036854775807->ys.length=k*sz->CT P f args h m R):CT P f args h m R:=
 CT.know he (λ_ st=>a9m (st.ok _ hm)) λ⟨h1,h2,h3⟩=>kk h1 h2 h3
end
end
section
open Go Go.RowKit
theorem b2d(a b:ByteArray):(a==b)=(a.data==b.data):=rfl
theorem c4z{n k:List UInt8}(h:¬n=k):((⟨n.toArray⟩:ByteArray)==⟨k.toArray⟩)=false:=by rw[b2d];exact beq_eq_false_iff_ne.2 λe=>h (by simpa using e)
theorem b2G(n:List UInt8):((⟨n.toArray⟩:ByteArray)==⟨n.toArray⟩)=true:=by rw[b2d];exact beq_self_eq_true _
structure MapS(es:Array MapEntry)(ks:List (List UInt8)):Prop where
 a:∀e∈es.toList,∃n,e.key=str n/\e.val=.bool true/\n∈ks
 b:∀n∈ks,∃e∈es.toList,e.key=str n
theorem MapS.nil:MapS #[] []:=⟨λe h=>by simp at h,λn h=>by cases h⟩
section
variable {P:Program}{ops:Array Oper}{Q:Exit->Act->World->Prop}{n:Cx}{F:Fm}{h h':List Res}{m:View}{rest:List Oper}
variable {ty:TypeId}{pos:String}{after:Array Edge}{dst:Option Tmp}{g:Option (Nat×Bool)}{d:Nat}
end
section
variable {P:Program}{ops:Array Oper}{Q:Exit->Act->World->Prop}{n:Cx}{F:Fm}{m:View}{eff:List Nat}{t:Tl}{hs hp:List Res}
variable {ty:TypeId}{pos:String}{after:Array Edge}{d:Nat}
abbrev b5j(e:TypeId)(sz:Nat):Res:=.row (.slice none 0 0) e sz 0 []
theorem St.insNil(e:TypeId)(sz:Nat){fr l1 l2 hs:List Res}{w:World}(s:St m (fr++((l1++l2)++hs)) w):St m (fr++((l1++b5j e sz::l2)++hs)) w:=by
 refine(s.addNil e sz).perm ?_;have h1:(fr++((l1++b5j e sz::l2)++hs)).Perm (b5j e sz::(fr++((l1++l2)++hs))):=by refine(List.Perm.append_left fr ((List.perm_middle (l₁:=l1) (l₂:=l2)).append_right hs)).trans ?_;exact List.perm_middle
 exact h1.symm
theorem a7q(e:TypeId)(sz:Nat){l1 l2:List Res}:∀(r:List Fl){F:Fm}{fr:List Res},a2T P ops Q n t r F (fr++((l1++b5j e sz::l2)++hs)) m->a2T P ops Q n t r F (fr++((l1++l2)++hs)) m
 | [],_,_,h=>WL.mk λa w ha st=>h.e a w ha (st.insNil e sz)
 |(_,_,_)::r,_,fr,h=>λb=>a7q e sz r (fr:=_::fr) (h b)
theorem a4W.imp{r:Result Next}{R R':Value->World->Prop}{X:List PanicEntry->World->Prop}(h:a4W P r R X)(k:∀v w,R v w->R' v w):a4W P r R' X:=by
 cases r with
 |ok x w=>
  cases x with
  |value v=>exact k _ _ h
  |skip=>exact k _ _ h
  |enter f args=>
   refine Calls.mono h λe w' q=>?_
   rcases q with⟨v,rfl,hv⟩|q
   ·exact .inl ⟨v,rfl,k v w' hv⟩
   ·exact .inr q
  |_=>exact h
 |halt _ _=>exact h
theorem SRr.insNil(e:TypeId)(sz:Nat){l1 l2:List Res}:∀(T:Tr){F:Fm},SRr P ops Q n eff t hs T F (l1++b5j e sz::l2) m->SRr P ops Q n eff t hs T F (l1++l2) m
 | .nil,_,h=>a7q e sz t.fl (fr:=[]) h
 | .alt a b,_,h=>⟨SRr.insNil e sz a h.1,SRr.insNil e sz b h.2⟩
 | .op i s,_,h=>by
  obtain⟨o,ho,hd,h⟩:=h;refine⟨o,ho,hd,?_⟩;have hsub:(l1++l2).Sublist (l1++b5j e sz::l2):=(List.sublist_cons_self _ _).append_left l1;cases he:eff.contains i with
  |false=>rw[he]at h;obtain⟨v,pg,hk⟩:=h;exact⟨v,pg,SRr.insNil e sz s hk⟩
  |true=>
   rw[he]at h;dsimp only at h⊢;cases hr:a6C o with
   |true=>rw[hr]at h;obtain⟨v,pg,hk⟩:=h;exact⟨v,⟨λa w ha st=>pg.e a w ha (St.insNil e sz (fr:=[]) st)⟩,SRr.insNil e sz s hk⟩
   |false=>
    rw[hr]at h;dsimp only at h⊢;have sat:∀{G:Fm}{l:List Res},Sat n hs G (l++l2) m->Sat n hs G (l++b5j e sz::l2) m:=λ⟨fr,a,w,ha,st⟩=>⟨fr,a,w,ha,st.insNil e sz⟩
    cases hmk:a4B o&&eff.contains 4096 with
    |true=>rw[hmk]at h;exact⟨λs a ha=>h.ex (sat s) a ha,λa ha k cs el hout b s'=>SRr.insNil e sz (l1:=_::l1) s (h.k a ha k cs el hout b (sat (l:=_::l1) s'))⟩
    |false=>
    rw[hmk]at h;dsimp only at h⊢;refine⟨λfr a w ha st=>?_⟩;obtain⟨h1,h2⟩:=h.e fr a w ha (St.insNil e sz st);refine⟨λhw=>(h1 hw).imp λv w' q=>?_,λhw=>?_⟩
    ·obtain⟨m',hp',q1,q2,q3,q4⟩:=q
     exact⟨m',hp',q1,q2,λha=>hsub.trans (q3 ha),q4⟩
    ·exact⟨λ_=>List.Sublist.refl _,SRr.insNil e sz s (h2 hw).2⟩
theorem a1b{q:Nat}{s:Tr}{tt e k:Nat}{sz by_:Nat}{ps:List (Nat×Operand)}{vs:List (Nat×Value)}{z:Value}{zs cs:List Value}{gd:Nat×Bool}{c:Bool}
 (ho:ops[q]?=some ⟨some d,.buildSlice tt k ps.toArray,ty,pos,after,some gd⟩) (he:eff.contains q=true) (hg:GU ops n F gd c) (E:EL P tt e sz by_) (hz:(P.info? e).bind (·.zero)=some z) (ev:c=true->EvP n F ps vs)
 (hzs:a8p z k=some zs) (hf:a4O (λi=>some (i*sz,sz)) zs vs=some cs) (hk:k*sz<=16777216) (h0:Nat.beq (k*sz) 0=false) (hd:d<n.num)
 (kk:∀b r,(c=true->r=.pt b (.cells cs.toArray e (0,0)))->SR P ops Q n eff t hs s ((d,gv c (.slice (some ⟨b,0,none⟩) k k))::F) (r::hp) m) :
 SR P ops Q n eff t hs (.op q s) F hp m:=⟨_,ho,λy hy=>by cases hy;exact hd,by
 rw[he];simp only[a9V,b0r,Bool.false_and];refine⟨λfr f w hf' st=>?_⟩;have hy:=hg.wanted (dst:=some d) (op:=.buildSlice tt k ps.toArray) (ty:=ty) (pos:=pos) (after:=after) hf';cases c with
 |true=>refine⟨λ_=>?_,λh=>by rw[hy]at h;cases h⟩;have hrun:=a0a (P:=P) w (dst:=some d) (ty:=ty) (pos:=pos) (after:=after) (g:=some gd) E hz (ev rfl) hzs hf hk h0 hf';rw[hrun];exact⟨m,.pt w.heap.size (.cells cs.toArray e)::hp,Vl,(st.alloc _).perm List.perm_middle.symm,λ_=>List.sublist_cons_self _ _,(kk w.heap.size _ (λ_=>rfl)).e⟩
 |false=>refine⟨λh=>(by rw[hy]at h;cases h),λ_=>⟨λ_=>List.Sublist.refl _,?_⟩⟩;exact SRr.insNil e sz (l1:=[]) s (kk 0 (b5j e sz) (λh=>by cases h)).e⟩
end
section
variable {P:Program}{n:Cx}{F:Fm}{h:List Res}{m:View}
variable {ty:TypeId}{pos:String}{after:Array Edge}{dst:Option Tmp}{g:Option (Nat×Bool)}
def eqP(P:Program)(o:TypeId)(t:TypeId)(xs ys:List Value)(off:Nat):Option Bool:=match P.underlying t with
 |some (.struct gs)=>match Nat.beq t o with
  |true=>match (P.info? t).map (·.size)with
   |some k=>match seg xs off k with
    |some as=>match seg ys off k with
     |some bs=>b6v P as bs gs.toList
     |none=>none
    |none=>none
   |none=>none
  |false=>none
 |some d=>match O8 d with
  |true=>match xs[off]? with
   |some a=>match ys[off]? with
    |some b=>eqC d a b
    |none=>none
   |none=>none
  |false=>none
 |none=>none
def b8L(P:Program)(o:TypeId)(xs ys:List Value):List Field->Option Bool
 | []=>some true
 |f::fs=>match eqP P o f.type xs ys f.offset with
  |some r=>match b8L P o xs ys fs with
   | some q => match (f.name != "_") with
    |true=>some (r&&q)
    |false=>none
   |none=>none
  |none=>none
theorem b4K{xs as:List Value}{off k:Nat}(h:seg xs off k=some as):(xs.drop off).take k=as:=by
 obtain⟨h1,h2⟩:=a2Z h;subst h1;refine List.ext_getElem? λi=>?_;rcases Nat.lt_or_ge i as.length with hi|hi
 ·have:=h2 i _ (List.getElem?_eq_getElem hi)
  rw[List.getElem?_take_of_lt hi,List.getElem?_drop,this,List.getElem?_eq_getElem hi]
 ·rw[List.getElem?_eq_none hi,List.getElem?_eq_none (by rw[List.length_take];omega)]
theorem c5R(w:World)(d:Nat){o t:TypeId}(ho:P.stoodInHeld o=false){xs ys:List Value}{off:Nat}{r:Bool}(he:eqP P o t xs ys off=some r):∃a b,(part t xs.toArray off).run P w=.ok a w/\(part t ys.toArray off).run P w=.ok b w/\(Op.equalIn (d+2) t a b).run P w=.ok r w:=by
 unfold eqP at he;split at he
 ·rename_i gs ht
  split at he
  ·rename_i hto
   have hto:=Nat.eq_of_beq_eq_true hto;subst hto;have hs:=ho;split at he
   ·rename_i k hk
    split at he
    ·rename_i as ha
     split at he
     ·rename_i bs hb
      cases hi:P.info? t with
      |none=>rw[hi]at hk;cases hk
      |some i0=>
       have hsz:i0.size=k:=by rw[hi]at hk;simpa using hk
       have hf:P.fieldsOf t=gs:=by simp[Program.fieldsOf,ht]
       have hag:=a3E (P:=P) w ht rfl;refine⟨.agg as.toArray,.agg bs.toArray,?_,?_,?_⟩
       ·simp[part,hag,sizeOf,typeInfo,hi,hsz,b4K ha]
       ·simp[part,hag,sizeOf,typeInfo,hi,hsz,b4K hb]
       ·rw[run_equalIn_struct (P:=P) w (d+1) t as.toArray bs.toArray (by rw[hf];exact ht) hs,hf]
        exact a7o w d as bs he
     ·cases he
    ·cases he
   ·cases he
  ·cases he
 ·rename_i ds _ ht
  split at he
  ·rename_i hp
   split at he
   ·rename_i a ha
    split at he
    ·rename_i b hb
     refine⟨a,b,?_,?_,b7V w (d:=d+1) ht he⟩
     ·simp[part,O5 w ht hp,ha]
     ·simp[part,O5 w ht hp,hb]
    ·cases he
   ·cases he
  ·cases he
 ·cases he
theorem b1J(w:World)(d:Nat){o:TypeId}(ho:P.stoodInHeld o=false)(xs ys:List Value):∀{fs:List Field}{r:Bool},b8L P o xs ys fs=some r->(Op.eqFields (d+2) xs.toArray ys.toArray fs).run P w=.ok r w
 | [],r,he=>by cases he;simp[Op.eqFields]
 |f::fs,r,he=>by
  unfold b8L at he;split at he
  ·rename_i c hc
   split at he
   ·rename_i q hq
    split at he
    ·rename_i h7
     cases he;have h8 : f.name ≠ "_" := by simpa using h7
     have ih:=b1J w d ho xs ys hq;obtain⟨a,b,ea,eb,e5⟩:=c5R (P:=P) w d ho hc;simp only[Op.eqFields,if_pos h8,Sem.run_bind];rw[ea,Result.andThen_ok,eb,Result.andThen_ok,e5,Result.andThen_ok];cases c
     ·simp
     ·simpa using ih
    ·cases he
   ·cases he
  ·cases he
theorem b59{o:TypeId}{x y:Operand}{t t':TypeId}{fs:Array Field}{as bs:List Value}{r:Bool}(ht:P.underlying t=some (.struct fs))(hs:P.stoodInHeld t=false)(hm:P.eqGuardType P.depth t=false)(ex:Ev n F x (.agg as.toArray))(ey:Ev n F y (.agg bs.toArray))
 (ho:P.stoodInHeld o=false) (hr:b8L P o as bs fs.toList=some r):PO P ⟨dst,.binOp .neq t x y t',ty,pos,after,g⟩ n F h m (.bool (!r)):=.mk λa w ha _=>by
 have hf:P.fieldsOf t=fs:=by simp[Program.fieldsOf,ht]
 have e1:=run_equalIn_struct (P:=P) w 9999 t as.toArray bs.toArray (by rw[hf];exact ht) hs;rw[hf,b1J w 9997 ho as bs hr]at e1;simp[execOp,ex a ha,ey a ha,run_eqGuard_agg w _ t _ _ _ _ hm,run_neq_struct,e1]
end
end
end Go.Eng
namespace Go.Sx
section
open Go.Eng Go.Pc Go
open Go.Xp hiding B
open Go.Ty (Ty Vr Tok)
open Go.Ly (Rw P4)
open Go.Lx (lexO J7)
theorem a9j(s:B):(lexO s).1.length<=256/\∀x∈(lexO s).1,J7 x=true/\(-2147483648<=x.n/\x.n<=2147483647):=by
 obtain⟨l,z,e,h⟩:∃l z e,lexO s=(l,z,e):=⟨_,_,_,rfl⟩;rw[h];by_cases he:e=0
 ·subst he
  obtain⟨h1,h2,-⟩:=Go.Lx.lexO_ok h;have h3:=Go.Lx.lx_len s 0 l h2;exact⟨by show l.length<=256;omega,Go.Lx.lx_may s 0 l h2 (by omega)⟩
 ·have h1:=Go.Lx.lexO_no h he
  subst h1;exact⟨Nat.zero_le _,λx hx=>(List.not_mem_nil hx).elim⟩
theorem c5I(s:B):∀t∈(lexO s).1,t.text.length<=140737488355328:=λt ht=>by have:=Go.Lx.may_len ((a9j s).2 t ht).1;omega
structure Pz where
 bp:Nat
 ra:Option Addr
 rc:Nat
 R:List Rw
structure Pok(m:View)(z:Pz):Prop where
 rd:Rd m [] z.ra z.R.length z.rc 3 (fl P4 z.R)
 ok:z.R.length<=2048/\∀x∈z.R,0<=x.depth/\x.depth<=32/\x.text.length<=256
 ne:∀x∈z.R,(lexO x.text).2.2=0->(lexO x.text).1≠[]
theorem b2n(q:UInt8->Bool):∀(l:B){c:UInt8}{r:B},l.dropWhile q=c::r->q c=false
 |x::l,c,r,h=>by
  unfold List.dropWhile at h;split at h
  ·exact b2n q l h
  ·cases h;assumption
theorem c7U{s:B}(h:Go.Ly.validP s=true)(he:(lexO s).2.2=0):(lexO s).1≠[]:=by
 obtain⟨h1,-,h2,-⟩:=Go.Ly.validP_spec h;obtain⟨l,z,e,hl⟩:∃l z e,lexO s=(l,z,e):=⟨_,_,_,rfl⟩;rw[hl]at he⊢;obtain rfl:e=0:=he;obtain⟨-,h3,-⟩:=Go.Lx.lexO_ok hl;cases s with
 |nil=>exact absurd rfl h1
 |cons c r=>
  have hc:c≠32:=by have h4:=b2n (·==32) (Lib.trimRightB (c::r) 32) (c:=c) (r:=r) h2;simpa using h4
  rintro rfl;by_cases hn:(Go.Lx.tok (c::r)).2=0
  ·rw[Go.Lx.lx_bad hc hn]at h3;cases h3
  ·rw[Go.Lx.lx_tok hc hn]at h3
   cases hx:Go.Lx.lx ((c::r).drop (Go.Lx.tok (c::r)).2) (0+(Go.Lx.tok (c::r)).2)with
   |ok m=>rw[hx]at h3;cases h3
   |error e=>rw[hx]at h3;cases h3
theorem Pok.of{m:View}{z:Pz}(hr:Rd m [] z.ra z.R.length z.rc 3 (fl P4 z.R))(h:Go.Ly.mayP z.R=true):Pok m z:=
 ⟨hr,Go.Ly.mayP_all h,λx hx=>by
  unfold Go.Ly.mayP at h;split at h
  ·cases h
  ·exact c7U (Go.Ly.mayA_all h x hx).2.2⟩
theorem L4{α β:Type}(x:α)(ts:List Tok)(i:Nat)(f:α->List Tok->PE β):L0 (.ok (x,ts)) i f=f x ts:=rfl
theorem S1{α β:Type}(x:α)(i:Nat)(f:α->Nat->PE β):U6 (.ok (x,i)) f=f x i:=rfl
theorem P8{β:Type}{ts:List Tok}{i:Nat}{f:Nat->PE β}(h:ts=[]):I0 ts i f=f (i+1):=by subst h;rfl
theorem P7{β:Type}{ts:List Tok}{i:Nat}{f:Nat->PE β}(h:ts≠[]):I0 ts i f=.error (110,i):=by cases ts with|nil=>exact absurd rfl h|cons=>rfl
theorem a3p{β:Type}{k:Int}{s:B}{ts:List Tok}{i:Nat}{f:List Tok->PE β}(h:isM k s ts=true):a0l k s ts i f=f ts.tail:=by unfold a0l;rw[h];rfl
theorem a3q{β:Type}{k:Int}{s:B}{ts:List Tok}{i:Nat}{f:List Tok->PE β}(h:isM k s ts=false):a0l k s ts i f=.error (110,i):=by unfold a0l;rw[h];rfl
theorem a5a{β:Type}{R:List Rw}{d:Int}{i:Nat}{ts:List Tok}{f:List Tok->PE β}(h:a1Z R d i=.ok ts):a2n R d i f=f ts:=by unfold a2n;rw[h]
theorem M0{β:Type}{R:List Rw}{d:Int}{i:Nat}{e:Int×Nat}{f:List Tok->PE β}(h:a1Z R d i=.error e):a2n R d i f=.error e:=by unfold a2n;rw[h]
theorem a2A{m:View}{z:Pz}{d:Int}{i:Nat}{ts:List Tok}(hz:Pok m z)(h:a1Z z.R d i=.ok ts):(i<z.R.length/\0<=d/\d<=32)/\∃x,z.R[i]?=some x/\x.depth=d/\ts=(lexO x.text).1:=by
 unfold a1Z at h;cases hx:z.R[i]? with
 |none=>rw[hx]at h;cases h
 |some x=>
  rw[hx]at h;simp only at h;split at h
  ·cases h
  ·split at h
   ·cases h
   ·rename_i hd
    have hd:x.depth=d:=Decidable.byContradiction hd;cases h;have h1:=hz.ok.2 x (List.mem_of_getElem? hx);exact⟨⟨(List.getElem?_eq_some_iff.1 hx).1,by omega,by omega⟩,x,rfl,hd,rfl⟩
theorem c5k{m:View}{z:Pz}{d:Int}{i:Nat}{ts:List Tok}(hz:Pok m z)(h:a1Z z.R d i=.ok ts):0<ts.length:=by
 unfold a1Z at h;cases hx:z.R[i]? with
 |none=>rw[hx]at h;cases h
 |some x=>
  rw[hx]at h;simp only at h;split at h
  ·cases h
  ·rename_i he
   split at h
   ·cases h
   ·cases h
    have h1:=hz.ne x (List.mem_of_getElem? hx) (Decidable.byContradiction he);exact List.length_pos_iff.2 h1
theorem a3V{R:List Rw}{d:Int}{i:Nat}(h:R.length<=i):a1Z R d i=.error (110,i):=by unfold a1Z;rw[List.getElem?_eq_none h]
theorem a8S{R:List Rw}{d:Int}{i:Nat}(h:S4 R d i=true):i<R.length:=by
 unfold S4 at h;cases hx:R[i]? with
 |none=>rw[hx]at h;cases h
 |some x=>exact(List.getElem?_eq_some_iff.1 hx).1
theorem b9W{R:List Rw}{rec:Int->Bool->Nat->PE Pr}{row:List Tok->E Gu}{least most:Nat}{d:Int}{k:Nat}{acc:List Gu}{i:Nat}(hk:R.length<=i+k)(hc:acc.length<least\/(acc.length<most/\S4 R d i=true)) :
 a1o R rec row least most d k acc i=a2n R d i λts=>L0 (row ts) i λg r=>I0 r i λi=>U6 (rec (d+1) false i) λx i=>a1o R rec row least most d (k-1) (acc++[b8H g x]) i:=by
 cases k with
 |zero=>
  have hl:acc.length<least:=hc.elim id λh=>absurd (a8S h.2) (by omega)
  rw[M0 (a3V (by omega))];unfold a1o;rw[if_pos hl]
 |succ k=>
  conv=>lhs;unfold a1o
  rw[if_pos hc];rfl
theorem b5e{R:List Rw}{rec:Int->Bool->Nat->PE Pr}{row:List Tok->E Gu}{least most:Nat}{d:Int}{k:Nat}{acc:List Gu}{i:Nat}(hc:¬(acc.length<least\/(acc.length<most/\S4 R d i=true))) :
 a1o R rec row least most d k acc i=.ok (acc,i):=by
 cases k with
 |zero=>unfold a1o;rw[if_neg λh=>hc (.inl h)]
 |succ k=>unfold a1o;rw[if_neg hc]
theorem c1V{R:List Rw}{rec:Int->Bool->Nat->PE Pr}{d:Int}{k:Nat}{acc:List Pr}{i:Nat}(hk:R.length<=i+k)(hc:S4 R d i=true) :
 a3K R rec d k acc i=U6 (rec d false i) λx i=>a3K R rec d (k-1) (acc++[x]) i:=by
 cases k with
 |zero=>exact absurd (a8S hc) (by omega)
 |succ k=>
  conv=>lhs;unfold a3K
  rw[if_pos hc];rfl
theorem b6o{R:List Rw}{rec:Int->Bool->Nat->PE Pr}{d:Int}{k:Nat}{acc:List Pr}{i:Nat}(hc:S4 R d i=false):a3K R rec d k acc i=.ok (acc,i):=by
 cases k with
 |zero=>rfl
 |succ k=>unfold a3K;rw[if_neg (by rw[hc];decide)]
theorem b9z{R:List Rw}{rec:Int->Bool->Nat->PE Pr}{d:Int}{k:Nat}{ns:List Int}{acc:List Pr}{i:Nat}(hk:R.length<=i+k)(hc:acc.length=0\/(acc.length<8/\S4 R (d+1) i=true)) :
 a0B R rec d k ns acc i=a2n R (d+1) i λts=>a0l 2 [80,82,79,67,69,83,83,79,82] ts i λr=>match b8t r with
  |some n=>U6 (rec (d+2) false (i+1)) λx i=>a0B R rec d (k-1) (ns++[n]) (acc++[x]) i
  |none=>.error (110,i):=by
 cases k with
 |zero=>
  have hl:acc.length=0:=hc.elim id λh=>absurd (a8S h.2) (by omega)
  rw[M0 (a3V (by omega))];unfold a0B;rw[if_pos hl]
 |succ k=>
  conv=>lhs;unfold a0B
  rw[if_pos hc];rfl
theorem b3Z{R:List Rw}{rec:Int->Bool->Nat->PE Pr}{d:Int}{k:Nat}{ns:List Int}{acc:List Pr}{i:Nat}(hc:¬(acc.length=0\/(acc.length<8/\S4 R (d+1) i=true))) :
 a0B R rec d k ns acc i=.ok ((ns,acc),i):=by
 cases k with
 |zero=>unfold a0B;rw[if_neg λh=>hc (.inl h)]
 |succ k=>unfold a0B;rw[if_neg hc]
theorem c2z{R:List Rw}{d:Int}{k:Nat}{acc:List Vr}{i:Nat}(hk:R.length<=i+k)(hc:acc.length=0\/S4 R (d+2) i=true) :
 a2g R d k acc i=a2n R (d+2) i λts=>L0 (a2S ts) i λv r=>if Go.Ty.mayPr true (acc++[v])then I0 r i λi=>a2g R d (k-1) (acc++[v]) i else .error (110,i):=by
 cases k with
 |zero=>
  have hl:acc.length=0:=hc.elim id λh=>absurd (a8S h) (by omega)
  rw[M0 (a3V (by omega))];unfold a2g;rw[if_pos hl]
 |succ k=>
  conv=>lhs;unfold a2g
  rw[if_pos hc];rfl
theorem b7h{R:List Rw}{d:Int}{k:Nat}{acc:List Vr}{i:Nat}(hc:¬(acc.length=0\/S4 R (d+2) i=true)):a2g R d k acc i=.ok (acc,i):=by
 cases k with
 |zero=>unfold a2g;rw[if_neg λh=>hc (.inl h)]
 |succ k=>unfold a2g;rw[if_neg hc]
theorem b8X{R:List Rw}{rec:Int->Bool->Nat->PE Pr}{d:Int}{top:Bool}{ts:List Tok}{i:Nat}{t:Tok}{f:Int->List Tok->Nat->PE Pr}(h0:ts[0]?=some t)(hw:a5c R rec t.text=some f)(hc:t.kind=2/\(top=true\/t.text≠[80,76,65,67,69,68])):a8t R rec d top ts i=f d ts.tail i:=by
 cases ts with
 |nil=>cases h0
 |cons u r=>cases h0;unfold a8t;simp only[hw];rw[if_pos hc];rfl
theorem b4q{R:List Rw}{rec:Int->Bool->Nat->PE Pr}{d:Int}{top:Bool}{ts:List Tok}{i:Nat}{t:Tok}(h0:ts[0]?=some t)(hc:a5c R rec t.text=none\/¬(t.kind=2/\(top=true\/t.text≠[80,76,65,67,69,68]))):a8t R rec d top ts i=a5L R rec d ts i:=by
 cases ts with
 |nil=>cases h0
 |cons u r=>
  cases h0;unfold a8t;cases hw:a5c R rec t.text with
  |none=>simp only[hw]
  |some f=>
   simp only[hw];rcases hc with hc|hc
   ·rw[hc]at hw;cases hw
   ·rw[if_neg hc]
structure Gs(m:View)(h:List Res)(a:Option Addr)(c:Nat)(l:List Gu):Prop where
 rd:Rd m h a l.length c 23 (fl guE l)
 ok:∀g∈l,GOk m h g
 sub:∀g∈l,∀x∈g.bl,POk m h x
structure Ls(m:View)(h:List Res)(a:Option Addr)(c:Nat)(l:List Pr):Prop where
 rd:Rd m h a l.length c 42 (fl prE l)
 ok:∀x∈l,POk m h x
structure Ns(m:View)(h:List Res)(s:Sli Int):Prop where
 rd:Rd m h s.a s.l.length s.c 1 (fl a3G s.l)
 ok:∀x∈s.l,-9223372036854775808<=x/\x<=9223372036854775807
structure Ss(m:View)(h:List Res)(s:Sp):Prop where
 ok:SOk m h s
 sub:∀x∈s.bl,POk m h x
structure Rs(m:View)(h:List Res)(r:Rp):Prop where
 n:r.name.length<=Big
 b:EOk m h r.base
 c:EOk m h r.count
variable {m:View}{h h':List Res}
theorem Gs.mono{a:Option Addr}{c:Nat}{l:List Gu}(q:Gs m h a c l)(s:h.Sublist h'):Gs m h' a c l:=⟨q.rd.mono Vl s,λg hg=>(q.ok g hg).mono s,λg hg x hx=>(q.sub g hg x hx).mono s⟩
theorem Ls.mono{a:Option Addr}{c:Nat}{l:List Pr}(q:Ls m h a c l)(s:h.Sublist h'):Ls m h' a c l:=⟨q.rd.mono Vl s,λg hg=>(q.ok g hg).mono s⟩
theorem Ns.mono{l:Sli Int}(q:Ns m h l)(s:h.Sublist h'):Ns m h' l:=⟨q.rd.mono Vl s,q.ok⟩
theorem Ss.mono{x:Sp}(q:Ss m h x)(s:h.Sublist h'):Ss m h' x:=⟨q.ok.mono s,λy hy=>(q.sub y hy).mono s⟩
theorem Rs.mono{r:Rp}(q:Rs m h r)(s:h.Sublist h'):Rs m h' r:=⟨q.n,q.b.mono s,q.c.mono s⟩
theorem a1y(m:View)(h:List Res):Gs m h none 0 []:=⟨Rd.nilF guE 23 m h,λ_ hx=>(List.not_mem_nil hx).elim,λ_ hx=>(List.not_mem_nil hx).elim⟩
theorem a4x(m:View)(h:List Res):Ls m h none 0 []:=⟨Rd.nilF prE 42 m h,λ_ hx=>(List.not_mem_nil hx).elim⟩
theorem a0D(m:View)(h:List Res):Ns m h B0:=⟨Rd.nilF a3G 1 m h,λ_ hx=>(List.not_mem_nil hx).elim⟩
theorem I4(m:View)(h:List Res):LOk m h B0:=⟨Rd.nilF exE 6 m h,λ_ hx=>(List.not_mem_nil hx).elim⟩
theorem b8R(m:View)(h:List Res):TOk m h A2:=.mk (Rd.nilF exE 6 m h) (λ_ hx=>by cases hx)
theorem a8e(m:View)(h:List Res):EOk m h A2:=⟨b8R m h,.mk (by decide) (by decide) (by decide) (by decide) (Nat.zero_le _) λ_ hx=>(List.not_mem_nil hx).elim⟩
theorem a0g(m:View)(h:List Res):Rs m h F2:=⟨Nat.zero_le _,a8e m h,a8e m h⟩
theorem a9F(m:View)(h:List Res):Go.Ty.PrOk m h none 0 0 []:=⟨Rd.nilF Go.Ty.encV 2 m h,λ_ hx=>(List.not_mem_nil hx).elim,λ_ hx=>(List.not_mem_nil hx).elim⟩
theorem W2(m:View)(h:List Res):Ss m h C3:=
 ⟨⟨by decide,⟨by decide,by decide,by decide,Nat.zero_le _⟩,Rd.nilF Go.Lx.encB 1 m h,λ_ hx=>(List.not_mem_nil hx).elim,a8e m h,a9F m h,λ_ hx=>(List.not_mem_nil hx).elim,Rd.nilF foE 6 m h,λ_ hx=>(List.not_mem_nil hx).elim,Rd.nilF prE 42 m h⟩,λ_ hx=>(List.not_mem_nil hx).elim⟩
theorem a6l{k:Int}{nm:B}{ch:Ex}{tg ex:Sli Ex}{rep:Rp}{ga:Option Addr}{gc:Nat}{gl:List Gu}{la:Option Addr}{lc:Nat}{ll:List Pr}{pn:Sli Int}{sp:Sp}(hk:0<=k/\k<=255)(hn:nm.length<=Big)(hch:EOk m h ch)(ht:LOk m h tg)(he:LOk m h ex)
 (hr:Rs m h rep) (hg:Gs m h ga gc gl) (hl:Ls m h la lc ll) (hp:Ns m h pn) (hs:Ss m h sp):POk m h (.mk k nm ch tg ex rep ga gc gl la lc ll pn sp):=
 .mk ⟨hk,hn,hch,ht,he,hr.n,hr.b,hr.c,hg.rd,hg.ok,hl.rd,hp.rd,hp.ok,hs.ok⟩ λx hx=>by
  cases hx with
  |l hx=>exact hl.ok x hx
  |s hx=>exact hs.sub x hx
  |g hq hx=>exact hg.sub _ hq x hx
end
section
open Go.Eng Go.Pc Go
open Go.Xp hiding B
open Go.Ty (Ty Vr Tok)
theorem c1r(e:Ex):C6 (C6 e)=C6 e:=by
 refine Ex.ind (p:=λe=>C6 (C6 e)=C6 e) (λe ih=>?_) e;rw[a0p e,a0p];show Ex.mk _ _ _ _ _ _ _ ((e.l.map C6).map C6)=_;rw[List.map_map];congr 1
 exact List.map_congr_left λx hx=>ih x hx
theorem a1v(x w:Ex):E5 (C6 x) w=E5 x w:=by rw[Bool.eq_iff_iff,a0K,a0K,c1r]
theorem c1H(x w:Ex):E5 x (C6 w)=E5 x w:=by rw[Bool.eq_iff_iff,a0K,a0K,c1r]
theorem a4I(e:Ex):H4 (C6 e)=H4 e:=a1v e A2
theorem b5P:∀(l pre:List Vr),Go.Ty.mayIn (pre.map a0x) (l.map a0x)=Go.Ty.mayIn pre l
 | [],_=>rfl
 |v::r,pre=>by
  have h1:Go.Ty.badV (pre.map a0x) (a0x v)=Go.Ty.badV pre v:=by unfold Go.Ty.badV Go.Ty.tagIn;rw[List.any_map];rfl
  have h2:=b5P r (pre++[v]);rw[List.map_append]at h2;show(if Go.Ty.badV (pre.map a0x) (a0x v)then false else Go.Ty.mayIn (pre.map a0x++[a0x v]) (r.map a0x))=if Go.Ty.badV pre v then false else Go.Ty.mayIn (pre++[v]) r
  rw[h1,<-h2];rfl
theorem a9w(cs:Bool)(l:List Vr):Go.Ty.mayPr cs (l.map a0x)=Go.Ty.mayPr cs l:=by
 unfold Go.Ty.mayPr;rw[List.length_map];have h0:(Go.Ty.hdV (l.map a0x)).tag=(Go.Ty.hdV l).tag/\(Go.Ty.hdV (l.map a0x)).items=(Go.Ty.hdV l).items:=by cases l<;>exact⟨rfl,rfl⟩
 rw[h0.1,h0.2];have h1:=b5P l [];rw[List.map_nil]at h1;rw[h1]
theorem a5d{α β:Type}(l:List α)(f:α->β)(a b:Int)(q:β->Bool)(r:α->Bool)(h:∀x,q (f x)=r x):E7 (l.map f) a b q=E7 l a b r:=by
 unfold E7;rw[List.length_map,List.any_map];congr 2
 congr 1
 funext x
 simp[h]
theorem b8B{α:Type}(q:α->α->Bool)(f:α->α)(h:∀x y,q (f x) (f y)=q x y):∀(l r:List α),eqL q (l.map f) (r.map f)=eqL q l r
 | [],[]=>rfl
 | [],_::_=>rfl
 |_::_,[]=>rfl
 |x::l,y::r=>by
  show(q (f x) (f y)&&eqL q (l.map f) (r.map f))=_;rw[h,b8B q f h l r];rfl
theorem X8(s:Sp):stS s=spM s.k s.ty s.names.l (C6 s.e) s.cs (s.vs.l.map a0x) s.fs.l (s.bl.map stP):=by cases s;rw[stS,a5s];rfl
theorem b2j(a b:Sp):J9 (stS a) (stS b)=J9 a b:=by rw[X8,X8];unfold J9;show((((((((a.k==b.k)&&Go.Ty.eqT a.ty b.ty)&&(a.names.l==b.names.l))&&E5 (C6 a.e) (C6 b.e))&&(a.cs==b.cs))&&eqL P2 (a.vs.l.map a0x) (b.vs.l.map a0x))&&eqL a0s a.fs.l b.fs.l)&&(((a.bl.map stP).length:Int)==(b.bl.map stP).length))=_;rw[a1v,c1H,b8B P2 a0x (λ_ _=>rfl),List.length_map,List.length_map]
theorem c4c(s:Sp):a0r (stS s)=stS (a0r s):=by
 rw[X8 s];unfold a0r;show(if s.k=1 then _ else if s.k=2 then _ else if s.k=3 then _ else if s.k=4 then _ else _)=_;split
 ·rw[X8];rfl
 ·split
  ·rw[X8];rfl
  ·split
   ·rw[X8];rfl
   ·split
    ·rw[X8];rfl
    ·rw[X8];rfl
theorem c4W(s:Sp):a1j (stS s)=a1j s:=by rw[X8 s];unfold a1j;show(if s.k=1 then Go.Ty.may s.ty else if s.k=2 then X3 s.ty&&F8 (C6 s.e)else if s.k=3 then X3 s.ty&&F5 (C6 s.e)else if s.k=4 then Go.Ty.mayPr s.cs (s.vs.l.map a0x)else(((s.bl.map stP).length:Int)==1)&&E7 s.fs.l 0 8 foP)=_;rw[U7,a0H,a9w,List.length_map]
theorem c6x(s:Sp):spP (stS s)=spP s:=by
 have h1:(stS s).k=s.k:=by rw[X8];rfl
 have h2:(stS s).names.l=s.names.l:=by rw[X8];rfl
 unfold spP;rw[h1,h2,c4W,c4c,b2j]
end
end Go.Sx
namespace Go.Eng
section
open Go Go.RowKit
def b0C(es:Array MapEntry)(kv:List (List UInt8×Value)):Prop:=es.toList.map (λx=>(x.key,x.val))=kv.map λp=>(str p.1,p.2)
theorem b0C.nil:b0C #[] []:=rfl
def a2l(n:List UInt8):List (List UInt8×Value)->Option Value
 | []=>none
 |(k,v)::r=>if n=k then some v else a2l n r
theorem b6B{n:List UInt8}:∀(l:List MapEntry)(kv:List (List UInt8×Value))(i:Nat),l.map (λx=>(x.key,x.val))=kv.map (λp=>(str p.1,p.2)) ->
 (a2l n kv=none/\Instr.findNow .string (str n) l i=some none)\/∃j v,a2l n kv=some v/\Instr.findNow .string (str n) l i=some (some (i+j,v))
 | [],[],_,_=>.inl ⟨rfl,rfl⟩
 | [],_::_,_,h=>by cases h
 |_::_,[],_,h=>by cases h
 |e::l,(k,v)::kv,i,h=>by
  simp only[List.map_cons,List.cons.injEq,Prod.mk.injEq]at h;obtain⟨⟨hk,hv⟩,h⟩:=h;by_cases hn:n=k
  ·subst hn
   refine .inr ⟨0,v,by simp[a2l],?_⟩;simp[Instr.findNow,hk,Instr.sameNow,b2G,hv]
  ·have hb:((⟨n.toArray⟩:ByteArray)==⟨k.toArray⟩)=false:=c4z hn
   have e1:Instr.findNow .string (str n) (e::l) i=Instr.findNow .string (str n) l (i+1):=by simp[Instr.findNow,hk,Instr.sameNow,hb]
   have e2:a2l n ((k,v)::kv)=a2l n kv:=by simp[a2l,hn]
   rw[e1,e2];rcases b6B l kv (i+1) h with h1|⟨j,v,h1,h2⟩
   ·exact .inl h1
   ·exact .inr ⟨j+1,v,h1,by rw[h2];congr 3;omega⟩
section
variable {P:Program}{ops:Array Oper}{Q:Exit->Act->World->Prop}{n:Cx}{F:Fm}{h h':List Res}{m:View}{rest:List Oper}
variable {ty:TypeId}{pos:String}{after:Array Edge}{dst:Option Tmp}{g:Option (Nat×Bool)}{d:Nat}
theorem b5n(w:World){t kt et:TypeId}{b:Nat}{es:Array MapEntry}{clock:Nat}{kv:List (List UInt8×Value)}{x:List UInt8}{v:Value}(ht:P.underlying t=some (.map kt et))(hk:P.underlying kt=some (.string))(hM:b0C es kv)(hx:a2l x kv=none)
 (hb:w.heap[b]?=some (.map es clock)):∃es' clock',b0C es' (kv++[(x,v)])/\(Instr.mapUpdate t (.map (some b)) (str x) v).run P w=.ok () { w with heap:=w.heap.setIfInBounds b (.map es' clock') }:=by
 have hck:(Instr.checkKey false 10000 kt (str x)).run P w=.ok () w:=by unfold Instr.checkKey;simp[run_underlying hk]
 have hget:(getObj b).run P w=.ok (.map es clock) w:=by simp[getObj,Sem.run,hb]
 have hset:∀o,(setObj b o).run P w=.ok () { w with heap:=w.heap.setIfInBounds b o }:=λo=>by simp[setObj,Sem.run,hb]
 rcases b6B (n:=x) es.toList kv 0 hM with⟨h1,h2⟩|⟨j,v,h1,h2⟩
 ·refine⟨es.push { key:=str x,val:=v,born:=clock },clock+1,?_,?_⟩
  ·unfold b0C at hM⊢
   simp[hM]
  ·simp[Instr.mapUpdate,run_underlying ht,hget,hck,Instr.findKey,run_underlying hk,h2,hset]
 ·rw[hx]at h1;cases h1
theorem T8{op:Op}{x y z:Operand}{t kt et:TypeId}{b:Nat}{es:Array MapEntry}{clock:Nat}{kv:List (List UInt8×Value)}{i:List UInt8}{v:Value}{hq:Array MapEntry->Nat->List Res}(hop:op=.mapUpdate t x y z\/op=.insert t x y z)(ht:P.underlying t=some (.map kt et))(hk:P.underlying kt=some (.string))(hM:b0C es kv)(hi:a2l i kv=none)
 (ex:Ev n F x (.map (some b))) (ey:Ev n F y (str i)) (ez:Ev n F z v) (u:∀es' c',Upd h (.pt b (.map es clock)) (.pt b (.map es' c')) (hq es' c')) (k:∀es' c',b0C es' (kv++[(i,v)])->WL P ops Q n rest F (hq es' c') m) :
 WL P ops Q n (⟨none,op,ty,pos,after,none⟩::rest) F h m:=.mk λa w ha hs=>by
 obtain⟨es',c',h1,h2⟩:=b5n (P:=P) w (x:=i) (v:=v) ht hk hM hi (hs.ok _ (u es clock).mem);have hrun:(execOp a.eval ⟨none,op,ty,pos,after,none⟩).run P w=.ok .skip { w with heap:=w.heap.setIfInBounds b (.map es' c') }:=by rcases hop with rfl|rfl<;>simp[execOp,ex a ha,ey a ha,ez a ha,h2]
 exact J4 rfl (a9c hrun (k es' c' h1 _ _ ha (hs.setObj (u es' c'))))
theorem b7i{x y:Operand}{t kt et:TypeId}{b:Nat}{es:Array MapEntry}{clock:Nat}{kv:List (List UInt8×Value)}{i:List UInt8}{z:Value}(ht:P.underlying t=some (.map kt et))(hk:P.underlying kt=some (.string))(hz:(P.info? et).bind (·.zero)=some z)(hM:b0C es kv)
 (ex:Ev n F x (.map (some b))) (ey:Ev n F y (str i)) (hm:Res.pt b (.map es clock)∈h):PO P ⟨dst,.lookup t x y true,ty,pos,after,g⟩ n F h m (.tuple #[(a2l i kv).getD z,.bool (a2l i kv).isSome]):=.mk λa w ha hs=>by
 have hb:w.heap[b]?=some (.map es clock):=hs.ok _ hm;have hck:(Instr.checkKey es.isEmpty 10000 kt (str i)).run P w=.ok () w:=by unfold Instr.checkKey;simp[run_underlying hk]
 have hget:(getObj b).run P w=.ok (.map es clock) w:=by simp[getObj,Sem.run,hb]
 have hzr:(zeroValue et).run P w=.ok z w:=by
  cases hi:P.info? et with
  |none=>simp[hi]at hz
  |some j=>
   have:j.zero=some z:=by simpa [hi]using hz
   simp[zeroValue,typeInfo,hi,this]
 rcases b6B (n:=i) es.toList kv 0 hM with⟨h1,h2⟩|⟨j,v,h1,h2⟩
 ·simp[execOp,ex a ha,ey a ha,Instr.lookup,run_underlying ht,hget,hck,Instr.findKey,run_underlying hk,h1,h2,hzr]
 ·simp[execOp,ex a ha,ey a ha,Instr.lookup,run_underlying ht,hget,hck,Instr.findKey,run_underlying hk,h1,h2]
theorem c9q{fn:Func}{ex:Exit}{m0:View}{R:Value->View->List Res->Prop}{r r':ResultVar}{v v':Value}{q:FuncId}{cap:List Value}(hex:ex=.ret\/ex=.normal)(hds:n.ds=[b0X q cap])(he:∀as w,(callFunc q as).run P w=.ok (.enter q as) w)
 (hd:b0Z P q cap .returning m h h) (hfn:fn.results=#[r,r']) (x1:RV P n F h m r v) (x2:RV P n F h m r' v') (hle:m0.le m) (hsub:h'.Sublist h) (hR:R (.tuple #[v,v']) m h') :
 ∀a w,Fr n F a->St m h w->bodyPostD P fn (RQ m0 R) ex a w:=λa w ha hs=>by
 have key:Leaves P fn a.tmps (RQ m0 R) a.defers .returning w:=by
  rw[ha.d,hds];refine b3b he (by simp) hd hs λw' hs'=>⟨.tuple #[v,v'],?_,_,m,h',rfl,hle,hs'.sub hsub,hR⟩
  have h1:=x1.e a w' ha hs';have h2:=x2.e a w' ha hs';simp[a0O,hfn,h1,h2]
 rcases hex with rfl|rfl<;>exact key
theorem c8U{fn:Func}{m0:View}{R:Value->View->List Res->Prop}{r r':ResultVar}{v v' u:Value}{q:FuncId}{cap:List Value}{h2:List Res}(hds:n.ds=[b0X q cap])(he:∀as w,(callFunc q as).run P w=.ok (.enter q as) w)
 (hd:b0Z P q cap (.panicking [{ v:=u,recovered:=false }]) m h h2) (hfn:fn.results=#[r,r']) (x1:RV P n F h2 m r v) (x2:RV P n F h2 m r' v') (hle:m0.le m) (hsub:h'.Sublist h2) (hR:R (.tuple #[v,v']) m h') :
 ∀a w,Fr n F a->St m h w->bodyPostD P fn (RQ m0 R) (.panic [{ v:=u,recovered:=false }]) a w:=λa w ha hs=>by
 show Leaves P fn a.tmps (RQ m0 R) a.defers (.panicking [{ v:=u,recovered:=false }]) w;rw[ha.d,hds];refine b3b he (by simp) hd hs λw' hs'=>⟨.tuple #[v,v'],?_,_,m,h',rfl,hle,hs'.sub hsub,hR⟩
 have h1:=x1.e a w' ha hs';have h2:=x2.e a w' ha hs';simp[a0O,hfn,h1,h2]
end
end
end Go.Eng
namespace Go.Sx
section
open Go.Eng Go.Pc Go
open Go.Xp hiding B
open Go.Ty (Ty Vr Tok)
open Go.Ly (Rw)
def Er{α:Type}(r:E α):Prop:=∀e,r=.error e->e=110
theorem a0k{α:Type}{x:α×List Tok}:Er (.ok x):=nofun
theorem a6n{α:Type}:Er (.error 110:E α):=λe h=>by cases h;rfl
theorem V2{α β:Type}{r:E α}{f:α->List Tok->E β}(h:Er r)(hf:∀x ts,Er (f x ts)):Er (S3 r f):=by
 cases r with
 |ok x=>exact hf x.1 x.2
 |error e=>rw[h e rfl];exact a6n
theorem a6h{β:Type}{k:Int}{s:B}{ts:List Tok}{f:List Tok->E β}(h:∀r,Er (f r)):Er (a0P k s ts f):=by
 unfold a0P;split
 ·exact h _
 ·exact a6n
theorem a1Y{α:Type}{c:Prop}[Decidable c]{a b:E α}(ha:Er a)(hb:Er b):Er (if c then a else b):=by
 split
 ·exact ha
 ·exact hb
theorem a2u(ts:List Tok):Er (a0j ts):=by rw[b4o];exact a1Y a0k a6n
theorem Y3(ts:List Tok):Er (P5 ts):=by rw[b5T];exact a1Y a0k a6n
theorem a5X(ts:List Tok):Er (N8 ts):=by rw[a8l];exact a1Y (V2 (Y3 ts) λ_ _=>a1Y a0k a6n) a6n
theorem b3A(ts:List Tok):Er (b0a ts):=a1Y a0k a6n
theorem b8w(ts:List Tok):Er (a6Z ts):=V2 (b3A ts) λ_ _=>a1Y a0k a6n
theorem c0a(ts:List Tok):Er (a5O ts):=V2 (b3A _) λ_ _=>V2 (a2u _) λ_ _=>a1Y a0k a6n
theorem b8m{α:Type}{take:List Tok->E α}{sep:B}(h:∀ts,Er (take ts)):∀(n:Nat)(acc:List α)(ts:List Tok),Er (a3I take sep n acc ts)
 |0,_,_=>a1Y a6n a0k
 |n+1,_,_=>a1Y (V2 (h _) λ_ _=>b8m h n _ _) a0k
theorem a2Q{α:Type}{take:List Tok->E α}{sep:B}{most:Nat}{ts:List Tok}(h:∀ts,Er (take ts)):Er (U0 take sep most ts):=V2 (h _) λ_ _=>b8m h _ _ _
theorem c6A{α:Type}{take:List Tok->E α}{ts:List Tok}(h:∀ts,Er (take ts)):Er (brM take ts):=a6h λ_=>a1Y a0k (V2 (a2Q h) λ_ _=>a6h λ_=>a0k)
theorem c1b(ts:List Tok):Er (b6i ts):=a1Y a0k (V2 (a2u _) λ_ _=>a6h λ_=>V2 (Y3 _) λ_ _=>a6h λ_=>V2 (Y3 _) λ_ _=>a0k)
theorem c7N(ts:List Tok):Er (ifM ts):=V2 (Y3 _) λ_ _=>a0k
theorem b8q(c:Ex)(ts:List Tok):Er (b2D c ts):=V2 (a5X _) λ_ _=>a6h λ_=>a1Y (V2 (Y3 _) λ_ _=>a0k) (V2 (a2Q a5X) λ_ _=>a0k)
theorem c1f(ts:List Tok):Er (a9i ts):=a1Y (V2 (Y3 _) λ_ _=>a6h λ_=>a1Y a0k (b8q _ _)) (b8q _ _)
theorem c7t(ts:List Tok):Er (b9c ts):=a1Y a0k (V2 (a2Q Y3) λ_ _=>a0k)
theorem c7R(ts:List Tok):Er (b6z ts):=V2 (a2u _) λ_ _=>a1Y (V2 (a2Q a5X) λ_ _=>a0k) a0k
theorem b6e(ts:List Tok):Er (a2S ts):=V2 (a2u _) λ_ _=>a1Y (V2 (a2Q b8w) λ_ _=>a0k) a0k
def Ep{α:Type}(r:PE α):Prop:=∀e j,r=.error (e,j)->e≠0
theorem R8{α:Type}{x:α×Nat}:Ep (.ok x):=nofun
theorem a3r{α:Type}{i:Nat}:Ep (.error (110,i):PE α):=λe j h=>by cases h;decide
theorem Y0{α β:Type}{r:PE α}{f:α->Nat->PE β}(h:Ep r)(hf:∀x i,Ep (f x i)):Ep (U6 r f):=by
 cases r with
 |ok x=>exact hf x.1 x.2
 |error e=>exact λa j q=>h a j (by cases q;rfl)
theorem O0{α β:Type}{r:E α}{i:Nat}{f:α->List Tok->PE β}(h:Er r)(hf:∀x ts,Ep (f x ts)):Ep (L0 r i f):=by
 cases r with
 |ok x=>exact hf x.1 x.2
 |error e=>rw[h e rfl];exact a3r
theorem V4{α:Type}{c:Prop}[Decidable c]{a b:PE α}(ha:Ep a)(hb:Ep b):Ep (if c then a else b):=by
 split
 ·exact ha
 ·exact hb
theorem M7{β:Type}{ts:List Tok}{i:Nat}{f:Nat->PE β}(h:∀i,Ep (f i)):Ep (I0 ts i f):=V4 (h _) a3r
theorem a3C{β:Type}{k:Int}{s:B}{ts:List Tok}{i:Nat}{f:List Tok->PE β}(h:∀r,Ep (f r)):Ep (a0l k s ts i f):=V4 (h _) a3r
variable {R:List Rw}
theorem a7h{β:Type}{d:Int}{i:Nat}{f:List Tok->PE β}(h:∀r,Ep (f r)):Ep (a2n R d i f):=by
 unfold a2n a1Z;cases hx:R[i]? with
 |none=>exact a3r
 |some x=>
  simp only;split
  ·rename_i h1
   split at h1
   ·cases h1
   ·split at h1
    ·cases h1
    ·exact h _
  ·rename_i h1
   split at h1
   ·rename_i he
    cases h1;exact λa j q=>by cases q;exact he
   ·split at h1
    ·cases h1;exact a3r
    ·cases h1
theorem b3k{β:Type}{d k:Int}{s:B}{i:Nat}{f:Nat->PE β}(h:∀i,Ep (f i)):Ep (a3P R d k s i f):=a7h λ_=>a3C λ_=>M7 h
variable {rec:Int->Bool->Nat->PE Pr}(hr:∀d t i,Ep (rec d t i))
include hr
theorem a5K{row:List Tok->E Gu}(hw:∀ts,Er (row ts)){least most:Nat}{d:Int}:∀(k:Nat)(acc:List Gu)(i:Nat),Ep (a1o R rec row least most d k acc i)
 |0,_,_=>V4 a3r R8
 |k+1,_,_=>V4 (a7h λ_=>O0 (hw _) λ_ _=>M7 λ_=>Y0 (hr _ _ _) λ_ _=>a5K hw k _ _) R8
theorem b5L{d:Int}:∀(k:Nat)(acc:List Pr)(i:Nat),Ep (a3K R rec d k acc i)
 |0,_,_=>R8
 |k+1,_,_=>V4 (Y0 (hr _ _ _) λ_ _=>b5L k _ _) R8
theorem b1g{d:Int}:∀(k:Nat)(ns:List Int)(acc:List Pr)(i:Nat),Ep (a0B R rec d k ns acc i)
 |0,_,_,_=>V4 a3r R8
 |k+1,_,_,_=>V4 (a7h λ_=>a3C λr=>by
  cases b8t r with
  |none=>exact a3r
  |some n=>exact Y0 (hr _ _ _) λ_ _=>b1g k _ _ _) R8
omit hr in
theorem b1X{d:Int}:∀(k:Nat)(acc:List Vr)(i:Nat),Ep (a2g R d k acc i)
 |0,_,_=>V4 a3r R8
 |k+1,_,_=>V4 (a7h λ_=>O0 (b6e _) λ_ _=>V4 (M7 λ_=>b1X k _ _) a3r) R8
omit hr in
theorem c3v{d:Int}{ts:List Tok}{i:Nat}:Ep (a84 R d ts i):=
 V4 (O0 (a2Q b8w) λ_ _=>a3C λ_=>M7 λ_=>R8) (M7 λ_=>b3k λ_=>Y0 (b1X _ _ _) λ_ _=>b3k λ_=>R8)
omit hr in
theorem b2R{s:Sp}{ts:List Tok}{i:Nat}:Ep (b5s s ts i):=a3C λ_=>V4 (M7 λ_=>R8) a3r
theorem c4v{d:Int}{ts:List Tok}{i:Nat}:Ep (a8n R rec d ts i):=
 V4 (O0 (a2u _) λ_ _=>Y0 c3v λ_ _=>R8)
  (V4 (O0 (a2u _) λ_ _=>O0 (c6A c0a) λ_ _=>M7 λ_=>Y0 (hr _ _ _) λ_ _=>b3k λ_=>R8)
   (V4 (O0 (b3A _) λ_ _=>O0 (a2u _) λ_ _=>a3C λ_=>O0 (Y3 _) λ_ _=>b2R)
    (V4 (O0 (b3A _) λ_ _=>O0 (a2Q a2u) λ_ _=>V4 (O0 (a5X _) λ_ _=>b2R) b2R) R8)))
theorem b2r{k:Int}{d:Int}{ts:List Tok}{i:Nat}:Ep (a4Z R rec k d ts i):=
 O0 (c1b _) λ_ _=>M7 λ_=>V4 (Y0 (hr _ _ _) λ_ _=>R8) (Y0 (b5L hr _ _ _) λ_ _=>R8)
theorem a7E{k:Int}{row:List Tok->E Gu}(hw:∀ts,Er (row ts)){d:Int}{ts:List Tok}{i:Nat}:Ep (a2p R rec k row d ts i):=
 O0 (c1b _) λ_ _=>M7 λ_=>Y0 (a5K hr hw _ _ _) λ_ _=>R8
theorem b1A{d:Int}{ts:List Tok}{i:Nat}:Ep (a5L R rec d ts i):=
 V4 (O0 (a2u _) λ_ _=>O0 (c6A Y3) λ_ _=>M7 λ_=>R8)
  (O0 (a2Q a5X) λ_ _=>V4 (O0 (a2Q Y3) λ_ _=>M7 λ_=>R8) (V4 a3r (V4 (O0 (a2Q Y3) λ_ _=>M7 λ_=>R8)
   (a3C λ_=>V4 (M7 λ_=>Y0 (a5K hr c7R _ _ _) λ_ _=>R8) (V4 (O0 (Y3 _) λ_ _=>M7 λ_=>R8) (O0 (a2Q a5X) λ_ _=>M7 λ_=>R8))))))
theorem c4k{s:B}{f:Int->List Tok->Nat->PE Pr}(h:a5c R rec s=some f)(d:Int)(ts:List Tok)(i:Nat):Ep (f d ts i):=by
 unfold a5c at h;split at h
 ·cases h;exact M7 λ_=>R8
 split at h
 ·cases h;exact M7 λ_=>R8
 split at h
 ·cases h;exact b2r hr
 split at h
 ·cases h;exact b2r hr
 split at h
 ·cases h;exact V4 (M7 λ_=>Y0 (hr _ _ _) λ_ _=>Y0 (hr _ _ _) λ_ _=>R8) (a3C λ_=>a7E hr c1f)
 split at h
 ·cases h;exact a7E hr c1f
 split at h
 ·cases h;exact a7E hr c7N
 split at h
 ·cases h;exact O0 (Y3 _) λ_ _=>M7 λ_=>Y0 (a5K hr c7t _ _ _) λ_ _=>R8
 split at h
 ·cases h;exact O0 (Y3 _) λ_ _=>M7 λ_=>Y0 (hr _ _ _) λ_ _=>R8
 split at h
 ·cases h;exact a3C λ_=>M7 λ_=>Y0 (b1g hr _ _ _ _) λ_ _=>R8
 ·cases h
theorem c5S{d:Int}{top:Bool}{ts:List Tok}{i:Nat}:Ep (a8t R rec d top ts i):=by
 cases ts with
 |nil=>exact a3r
 |cons t r=>
  unfold a8t;cases hw:a5c R rec t.text with
  |none=>simp only[hw];exact b1A hr
  |some f=>simp only[hw];exact V4 (c4k hr hw _ _ _) (b1A hr)
theorem c5M{d:Int}{top:Bool}{i:Nat}:Ep (c6E R rec d top i):=a7h λ_=>Y0 (c4v hr) λso _=>by
 cases so with
 |none=>exact c5S hr
 |some s=>exact Y0 (hr _ _ _) λ_ _=>R8
omit hr in
theorem b0L:∀(n:Nat)(d:Int)(t:Bool)(i:Nat),Ep (C7 R n d t i)
 |0,_,_,_=>a3r
 |n+1,_,_,_=>c5M (b0L n)
omit hr in
theorem c8n:Ep (b3M R):=Y0 (b0L _ _ _ _) λ_ i=>by
 cases R[i]? with
 |none=>exact R8
 |some y=>
  show Ep (.error (if(Go.Lx.lexO y.text).2.2≠0 then(Go.Lx.lexO y.text).2.2 else 110,i));intro e j h;cases h;split
  ·assumption
  ·decide
end
section
open Go.Eng Go.Pc Go
open Go.Xp hiding B
open Go.Ty (Ty Vr Tok)
open Go.Ly (Rw)
def A0(s:B):Tok:=if Go.Lx.key s then⟨2,0,s,0⟩else⟨5,0,s,0⟩
def E6(s:B):Tok:=⟨1,0,s,0⟩
def G5(t:Ty):List Tok:=(Go.Ty.tokens t).1
def L9(k:Int):List Tok:=G5 ⟨k,0,0,[]⟩
def B6{α:Type}(sep:B)(f:α->List Tok):List α->List Tok
 | []=>[]
 | [x]=>f x
 |x::y::r=>f x++⟨5,0,sep,0⟩::B6 sep f (y::r)
theorem V6{α:Type}(sep:B)(f:α->List Tok):∀(l:List α)(x:α),l≠[]->B6 sep f (l++[x])=B6 sep f l++(⟨5,0,sep,0⟩::f x)
 | [],_,h=>absurd rfl h
 | [y],x,_=>rfl
 |y::z::r,x,_=>by
  show f y++⟨5,0,sep,0⟩::B6 sep f (z::r++[x])=(f y++⟨5,0,sep,0⟩::B6 sep f (z::r))++(⟨5,0,sep,0⟩::f x);rw[V6 sep f (z::r) x (by simp)];simp
def M9(s:B)(l:List Tok):List Tok:=if l.length=0 then[]else A0 s::l
def a1q(r:Rp):List Tok:=if r.name=[]then[]else((([E6 r.name]++[A0 [61]])++C2 r.base)++[A0 [70,79,82]])++C2 r.count
def M3(f:Fo):List Tok:=((if f.val then[A0 [86,65,76]]else[])++G5 f.ty)++[E6 f.name]
abbrev Ln:=Int×List Tok
def J1(k:Int)(n:B)(ch:Ex)(tg ex:List Ex)(rep:Rp):List Tok:=
 if k=1 then[A0 [83,75,73,80]]
 else if k=2 then[A0 [83,84,79,80]]
 else if k=3 then(B6 [44] C2 tg++[A0 [58,61]])++B6 [44] C2 ex
 else if k=4 then(C2 ch++[A0 [63]])++B6 [59] C2 tg
 else if k=5 then(C2 ch++[A0 [33]])++B6 [59] C2 ex
 else if k=6 then(C2 ch++[A0 [63],A0 [65,70,84,69,82]])++B6 [] C2 ex
 else if k=7 then C2 ch++[A0 [63],A0 [67,65,83,69]]
 else if k=8 then[A0 [83,69,81]]++a1q rep
 else if k=9 then[A0 [80,65,82]]++a1q rep
 else if k=10 then[A0 [80,82,73],A0 [80,65,82]]
 else if k=11 then[A0 [80,76,65,67,69,68],A0 [80,65,82]]
 else if k=12 then[A0 [65,76,84]]++a1q rep
 else if k=13 then[A0 [80,82,73],A0 [65,76,84]]++a1q rep
 else if k=14 then[A0 [73,70]]++a1q rep
 else if k=15 then[A0 [67,65,83,69]]++B6 [] C2 ex
 else if k=16 then[A0 [87,72,73,76,69]]++B6 [] C2 ex
 else(([E6 n]++[A0 [40]])++B6 [44] C2 ex)++[A0 [41]]
def a0X(c:Ex):List Tok:=if H4 c then[]else C2 c++[⟨5,0,[38],0⟩]
def H0(k:Int)(n:B)(cond ch:Ex)(tg vl:List Ex)(time:Ex):List Tok:=
 if k=1 then C2 cond
 else if k=2 then a0X cond++[A0 [83,75,73,80]]
 else if k=3 then((a0X cond++C2 ch)++[A0 [63]])++B6 [59] C2 tg
 else if k=4 then((a0X cond++C2 ch)++[A0 [63],A0 [65,70,84,69,82]])++C2 time
 else if k=5 then B6 [44] C2 vl
 else if k=6 then[A0 [69,76,83,69]]
 else[E6 n]++M9 [59] (B6 [59] C2 tg)
def D0(l:List B):List Tok:=B6 [44] (λs=>[E6 s]) l
def K2(v:Vr):List Tok:=[E6 v.tag]++M9 [59] (B6 [59] L9 v.items)
mutual
def D6:Pr->Int->List Ln
 | .mk k n ch tg ex rep _ _ gl _ _ ll pn sp,d=>if k=18 then J3 sp d++a0n ll d else(d,J1 k n ch tg.l ex.l rep)::(F1 k pn.l ll d++H8 gl (d+1))
def a0n:List Pr->Int->List Ln
 | [],_=>[]
 |x::_,d=>D6 x d
def F1(k:Int):List Int->List Pr->Int->List Ln
 |_,[],_=>[]
 |ns,x::r,d=>(if k=11 then(d+1,[A0 [80,82,79,67,69,83,83,79,82],⟨3,0,[],IntKind.i32.wrap (ns.headD 0)⟩])::D6 x (d+2)else D6 x (d+1))++F1 k ns.tail r d
def U8:Gu->Int->List Ln
 | .mk k n cond ch tg vl time _ _ bl,d=>(d,H0 k n cond ch tg.l vl.l time)::a0n bl (d+1)
def H8:List Gu->Int->List Ln
 | [],_=>[]
 |g::r,d=>U8 g d++H8 r d
def J3:Sp->Int->List Ln
 | .mk k ty ns e cs vs fs _ _ bl,d=>
  if k=1 then[(d,(G5 ty++D0 ns.l)++[A0 [58]])]
  else if k=2 then[(d,(((([A0 [86,65,76]]++G5 ty)++D0 ns.l)++[A0 [73,83]])++C2 e)++[A0 [58]])]
  else if k=3 then[(d,(((G5 ty++D0 ns.l)++[A0 [73,83]])++C2 e)++[A0 [58]])]
  else if k=5 then(d,((([A0 [80,82,79,67]]++D0 ns.l)++[A0 [40]])++B6 [44] M3 fs.l)++[A0 [41]])::(a0n bl (d+1)++[(d,[A0 [58]])])
  else if cs=false then[(d,((([A0 [80,82,79,84,79,67,79,76]]++D0 ns.l)++[A0 [73,83]])++B6 [59] L9 (Go.Ty.hdV vs.l).items)++[A0 [58]])]
  else(d,[A0 [80,82,79,84,79,67,79,76]]++D0 ns.l)::(d+1,[A0 [67,65,83,69]])::(vs.l.map (λv=>((d+2,K2 v):Ln))++[(d,[A0 [58]])])
end
abbrev Ps:=List Rw×Bool
def C8(st:Ps)(x:Ln):Ps:=if(Go.Lx.textO x.2).2≠0\/st.1.length>2048 then(st.1,true)else(st.1++[⟨st.1.length+1,x.1,(Go.Lx.textO x.2).1⟩],st.2)
def C1(st:Ps)(l:List Ln):Ps:=l.foldl C8 st
theorem a0S(st:Ps)(a b:List Ln):C1 st (a++b)=C1 (C1 st a) b:=List.foldl_append
theorem a1D(st:Ps)(x:Ln)(b:List Ln):C1 st (x::b)=C1 (C8 st x) b:=rfl
def V8(p:Pr):List Rw×Int:=if mayP p then(if(C1 ([],false) (D6 p 0)).2||!Go.Ly.mayP (C1 ([],false) (D6 p 0)).1 then([],3)else((C1 ([],false) (D6 p 0)).1,0))else([],2)
end
end Go.Sx
namespace Go.Eng
section
open Go Go.RowKit
section
variable {P:Program}{ops:Array Oper}{Q:Exit->Act->World->Prop}{n:Cx}{F:Fm}{h h':List Res}{m:View}{rest:List Oper}
variable {ty:TypeId}{pos:String}{after:Array Edge}{d:Nat}
theorem c2u{x y:Operand}{t tn e:TypeId}{sz by_ q:Nat}{kn kq:IntKind}{j:Int}(E:EL P t e sz by_)(htn:P.underlying tn=some (.int kn))(ex:Ev n F x (.slice none 0 0))(ey:Ev n F y (.int kq j))(hj:j=(q:Int))(h0:0<q)(hb:q*by_<=140737488355328)(h63:q<=4611686018427387904)(hd:d<n.num)
 (kk:∀b cap,q<=cap->cap<=9223372036854775807->WL P ops Q n rest ((d,.slice (some ⟨b,0,none⟩) q cap)::F) (.row (.slice (some ⟨b,0,none⟩) 0 cap) e sz 0 []::h) m) :
 WL P ops Q n (⟨some d,.call ⟨.builtin .append,#[x,y],#[t,tn]⟩,ty,pos,after,none⟩::rest) F h m:=.mk λf w hf hs=>by
 subst hj;obtain⟨i,z,ht,hi,hz,hsize,hby,hzs,hsz⟩:=E.ex;subst hsize hby
 have hr:=Lib.run_append_grow_zeros (P:=P) w t tn ty e i z kq kn ht htn hi hz none 0 0 [] (run_firstCells_none w.drew i.size 0 0 0) q h0 hsz (by omega) (by omega) (by omega) (growslice_fits (by omega) (by rw[Nat.zero_add];exact hb));simp only[Nat.zero_add]at hr;have hge:=grownCap_ge w q 0 e;have hcm:grownCap w q 0 e<=maxLen:=grownCap_le_maxLen w q 0 e (by unfold maxLen;omega);refine J4 rfl (R6 (v:=.slice (some ⟨w.heap.size,0,none⟩) q (grownCap w q 0 e)) (w':=w.drew.alloc (.cells (([]:List Value).toArray++Builtin.zeroCells z.cells q++Builtin.zeroCells z.cells (grownCap w q 0 e-q)) e)) ?_ (kk w.heap.size (grownCap w q 0 e) hge (by unfold maxLen at hcm;omega) _ _ (hf.put hd _) ?_))
 ·simp at hr
  simp[execOp,resolve,invoke,builtin,ex f hf,ey f hf,hr]
 ·refine(hs.drew.alloc (.cells (([]:List Value).toArray++Builtin.zeroCells z.cells q++Builtin.zeroCells z.cells (grownCap w q 0 e-q)) e)).conv (r':=.row (.slice (some ⟨w.heap.size,0,none⟩) 0 (grownCap w q 0 e)) e i.size 0 []) Upd.here rfl λhh=>?_
  have:=a7c (sz:=i.size) (n:=0) (cap:=grownCap w q 0 e) hh (Nat.zero_le _) hcm (by
   simp only[Array.size_append,List.size_toArray,size_zeroCells,hzs,List.length_nil,Nat.zero_add,<-Nat.add_mul];congr 1
   omega)
  rw[Nat.zero_mul,List.take_zero]at this;exact this
theorem b4I{x:Operand}{t:TypeId}{e:TypeId}{a:Option Addr}{l c:Nat}{dst:Option Tmp}{g:Option (Nat×Bool)}(ht:P.underlying t=some (.slice e))(ex:Ev n F x (.slice a l c)) :
 PO P ⟨dst,.call ⟨.builtin .cap,#[x],#[t]⟩,ty,pos,after,g⟩ n F h m (.int .i64 c):=.mk λb w ha _=>by
 simp[execOp,resolve,invoke,builtin,ex b ha,Builtin.cap_,run_underlying ht,goInt]
end
end
end Go.Eng
namespace Go.Sx
section
open Go.Eng Go.Pc Go
open Go.Xp hiding B C9
open Go.Ty (Ty Vr Tok)
theorem a9D(p:Pr):(stP p).k=p.k/\(stP p).name=p.name/\(stP p).ch=C6 p.ch/\(stP p).tg.l=p.tg.l.map C6/\(stP p).ex.l=p.ex.l.map C6/\(stP p).rep=stR p.rep/\(stP p).gl=p.gl.map stG/\(stP p).ll=p.ll.map stP/\(stP p).pn.l=p.pn.l/\(stP p).sp=stS p.sp:=by
 cases p;refine⟨rfl,rfl,rfl,rfl,rfl,rfl,?_,?_,rfl,rfl⟩
 ·exact b0x _
 ·exact a5s _
theorem b40(g:Gu):(stG g).k=g.k/\(stG g).name=g.name/\(stG g).cond=C6 g.cond/\(stG g).ch=C6 g.ch/\(stG g).tg.l=g.tg.l.map C6/\(stG g).vl.l=g.vl.l.map C6/\(stG g).time=C6 g.time/\(stG g).bl=g.bl.map stP:=by cases g;exact⟨rfl,rfl,rfl,rfl,rfl,rfl,rfl,a5s _⟩
theorem b7N(s:Sp):(stS s).k=s.k/\(stS s).ty=s.ty/\(stS s).names.l=s.names.l/\(stS s).e=C6 s.e/\(stS s).cs=s.cs/\(stS s).vs.l=s.vs.l.map a0x/\(stS s).fs.l=s.fs.l/\(stS s).bl=s.bl.map stP:=by rw[X8];exact⟨rfl,rfl,rfl,rfl,rfl,rfl,rfl,rfl⟩
theorem c8P(g:Gu):guP (stG g)=guP g:=by obtain⟨h1,h2,h3,h4,h5,h6,h7,h8⟩:=b40 g;unfold guP a4h;rw[h1,h2,h3,h4,h5,h6,h7,h8,List.length_map,a4I,a4I,a4I,U7,U7,a0H,a5d _ C6 _ _ F5 F5 a0H,a5d _ C6 _ _ F8 F8 U7]
theorem c8O(u:Us)(g:Gu):inG u (stG g)=inG u g:=by unfold inG;rw[c8P,(b40 g).1]
theorem c9O:stS C3=C3:=by
 rw[X8];have:C6 A2=A2:=by rw[a0p];rfl
 show spM 0 Go.Ty.zeroT [] (C6 A2) false [] [] []=C3;rw[this];rfl
theorem b2e(p:Pr)(u:Us):M1 (stP p) u=M1 p u:=by
 obtain⟨h1,h2,h3,h4,h5,h6,h7,h8,h9,h10⟩:=a9D p;unfold M1;rw[h2,h3,h4,h5,h7,h8,h9,h10,List.length_map,a4I,a0H,a5d _ C6 _ _ F5 F5 a0H,a5d _ C6 _ _ F8 F8 U7,a5d _ stG _ _ (inG u) (inG u) (c8O u),c6x];have:J9 (stS p.sp) C3=J9 p.sp C3:=by have:=b2j p.sp C3;rwa [c9O]at this
 rw[this]
theorem c1W(p:Pr):L2 (stP p)=L2 p:=by
 obtain⟨h1,h2,h3,h4,h5,h6,h7,h8,h9,h10⟩:=a9D p;unfold L2;have hr:O6 (stP p).rep=O6 p.rep:=by rw[h6];unfold O6 stR;show(if p.rep.name==[]then H4 (C6 p.rep.base)&&H4 (C6 p.rep.count)else Go.Lx.name p.rep.name&&F8 (C6 p.rep.base)&&F8 (C6 p.rep.count))=_;rw[a4I,a4I,U7,U7]
 have hn:(stP p).rep.name=p.rep.name:=by rw[h6];rfl
 rw[h1,hr,hn,b2e,b2e]
theorem c4t(p:Pr)(d:Int)(pl:Bool)(q:Int):U3 (stP p) d pl q=U3 p d pl q:=by unfold U3;rw[c1W,(a9D p).1]
abbrev b4h(p:Pr):Prop:=∀d pl q,G9 (stP p) d pl q=G9 p d pl q
theorem b8v{d:Int}{pl:Bool}:∀{l:List Pr}{q:Int},(∀x∈l,b4h x)->S8 (l.map stP) d pl q=S8 l d pl q
 | [],_,_=>rfl
 |x::r,q,h=>by
  have h1:=h x (List.Mem.head _) d pl q;show(if(G9 (stP x) d pl q).1 then S8 (r.map stP) d pl (G9 (stP x) d pl q).2 else G9 (stP x) d pl q)=(if(G9 x d pl q).1 then S8 r d pl (G9 x d pl q).2 else G9 x d pl q);rw[h1,b8v λy hy=>h y (List.Mem.tail _ hy)]
theorem b8a{d:Int}{l:List Pr}{q:Int}(h:∀x∈l,b4h x):a4S (l.map stP) d q=a4S l d q:=by
 cases l with
 |nil=>rfl
 |cons x r=>exact h x (List.Mem.head _) d false q
theorem b8p{d:Int}:∀{l:List Gu}{q:Int},(∀g∈l,∀x∈g.bl,b4h x)->a2d (l.map stG) d q=a2d l d q
 | [],_,_=>rfl
 |g::r,q,h=>by
  have h1:a2k (stG g) d q=a2k g d q:=by rw[a5B,a5B,(b40 g).2.2.2.2.2.2.2];exact b8a (h g (List.Mem.head _))
  show(if(a2k (stG g) d q).1 then a2d (r.map stG) d (a2k (stG g) d q).2 else a2k (stG g) d q)=(if(a2k g d q).1 then a2d r d (a2k g d q).2 else a2k g d q);rw[h1,b8p λy hy=>h y (List.Mem.tail _ hy)]
theorem c5U(p:Pr):b4h p:=by
 refine Pr.ind (q:=b4h) (λp ih d pl q=>?_) p;obtain⟨h1,h2,h3,h4,h5,h6,h7,h8,h9,h10⟩:=a9D p;have hs:∀a b,W9 (stS p.sp) a b=W9 p.sp a b:=λa b=>by
  rw[a5U,a5U,(b7N p.sp).2.2.2.2.1,(b7N p.sp).2.2.2.2.2.2.2,b8a λx hx=>ih x (.s hx)]
 have hl:∀a b c,S8 (p.ll.map stP) a b c=S8 p.ll a b c:=λa b c=>b8v λx hx=>ih x (.l hx)
 have hg:∀a b,a2d (p.gl.map stG) a b=a2d p.gl a b:=λa b=>b8p λg hg x hx=>ih x (.g hg hx)
 rw[a4t (stP p),a4t p,c4t,h1,h7,h8,h10,hs,hl,hl,hg,hg]
theorem c6k(p:Pr):mayP (stP p)=mayP p:=by unfold mayP;rw[c5U]
theorem b1r{α β:Type}(sep:B)(f:β->List Tok)(g:α->β)(e:α->List Tok)(h:∀x,f (g x)=e x):∀l:List α,B6 sep f (l.map g)=B6 sep e l
 | []=>rfl
 | [x]=>h x
 |x::y::r=>by
  show f (g x)++⟨5,0,sep,0⟩::B6 sep f ((y::r).map g)=e x++⟨5,0,sep,0⟩::B6 sep e (y::r);rw[h,b1r sep f g e h (y::r)]
theorem a2P(sep:B)(l:List Ex):B6 sep C2 (l.map C6)=B6 sep C2 l:=b1r sep C2 C6 C2 a0e l
theorem c7G(r:Rp):a1q (stR r)=a1q r:=by unfold a1q stR;show(if r.name=[]then[]else((([E6 r.name]++[A0 [61]])++C2 (C6 r.base))++[A0 [70,79,82]])++C2 (C6 r.count))=_;rw[a0e,a0e]
theorem c6e(e:Ex):a0X (C6 e)=a0X e:=by unfold a0X;rw[a4I,a0e]
abbrev b00(p:Pr):Prop:=∀d,D6 (stP p) d=D6 p d
theorem b1t{k d:Int}:∀{l:List Pr}{ns:List Int},(∀x∈l,b00 x)->F1 k ns (l.map stP) d=F1 k ns l d
 | [],ns,_=>by cases ns<;>rfl
 |x::r,ns,h=>by
  have h1:=h x (List.Mem.head _);show(if k=11 then _::D6 (stP x) (d+2)else D6 (stP x) (d+1))++F1 k ns.tail (r.map stP) d=_;rw[h1,h1,b1t λy hy=>h y (List.Mem.tail _ hy)];rfl
theorem a7S{d:Int}{l:List Pr}(h:∀x∈l,b00 x):a0n (l.map stP) d=a0n l d:=by
 cases l with
 |nil=>rfl
 |cons x r=>exact h x (List.Mem.head _) d
theorem b4Q(g:Gu)(d:Int):U8 g d=(d,H0 g.k g.name g.cond g.ch g.tg.l g.vl.l g.time)::a0n g.bl (d+1):=by cases g;rfl
theorem b9L{d:Int}{g:Gu}(h:∀x∈g.bl,b00 x):U8 (stG g) d=U8 g d:=by obtain⟨h1,h2,h3,h4,h5,h6,h7,h8⟩:=b40 g;rw[b4Q,b4Q,h1,h2,h3,h4,h5,h6,h7,h8,a7S h];unfold H0;rw[a0e,a0e,a0e,c6e,a2P,a2P]
theorem b0k{d:Int}:∀{l:List Gu},(∀g∈l,∀x∈g.bl,b00 x)->H8 (l.map stG) d=H8 l d
 | [],_=>rfl
 |g::r,h=>by
  show U8 (stG g) d++H8 (r.map stG) d=U8 g d++H8 r d;rw[b9L (h g (List.Mem.head _)),b0k λy hy=>h y (List.Mem.tail _ hy)]
theorem b5X(s:Sp)(d:Int):J3 s d=if s.k=1 then[(d,(G5 s.ty++D0 s.names.l)++[A0 [58]])]
 else if s.k=2 then[(d,(((([A0 [86,65,76]]++G5 s.ty)++D0 s.names.l)++[A0 [73,83]])++C2 s.e)++[A0 [58]])]
 else if s.k=3 then[(d,(((G5 s.ty++D0 s.names.l)++[A0 [73,83]])++C2 s.e)++[A0 [58]])]
 else if s.k=5 then(d,((([A0 [80,82,79,67]]++D0 s.names.l)++[A0 [40]])++B6 [44] M3 s.fs.l)++[A0 [41]])::(a0n s.bl (d+1)++[(d,[A0 [58]])])
 else if s.cs=false then[(d,((([A0 [80,82,79,84,79,67,79,76]]++D0 s.names.l)++[A0 [73,83]])++B6 [59] L9 (Go.Ty.hdV s.vs.l).items)++[A0 [58]])]
 else(d,[A0 [80,82,79,84,79,67,79,76]]++D0 s.names.l)::(d+1,[A0 [67,65,83,69]])::(s.vs.l.map (λv=>((d+2,K2 v):Ln))++[(d,[A0 [58]])]):=by cases s;rfl
theorem c09{d:Int}{s:Sp}(h:∀x∈s.bl,b00 x):J3 (stS s) d=J3 s d:=by
 obtain⟨h1,h2,h3,h4,h5,h6,h7,h8⟩:=b7N s;have hv:(Go.Ty.hdV (s.vs.l.map a0x)).items=(Go.Ty.hdV s.vs.l).items:=by cases s.vs.l<;>rfl
 rw[b5X,b5X,h1,h2,h3,h4,h5,h6,h7,h8,a7S h,a0e,hv,List.map_map];rfl
theorem b5J(p:Pr)(d:Int):D6 p d=if p.k=18 then J3 p.sp d++a0n p.ll d else(d,J1 p.k p.name p.ch p.tg.l p.ex.l p.rep)::(F1 p.k p.pn.l p.ll d++H8 p.gl (d+1)):=by cases p;rfl
theorem c1o(p:Pr):b00 p:=by
 refine Pr.ind (q:=b00) (λp ih d=>?_) p;obtain⟨h1,h2,h3,h4,h5,h6,h7,h8,h9,h10⟩:=a9D p;have hf:J1 p.k p.name (C6 p.ch) (p.tg.l.map C6) (p.ex.l.map C6) (stR p.rep)=J1 p.k p.name p.ch p.tg.l p.ex.l p.rep:=by unfold J1;rw[a0e,a2P,a2P,a2P,a2P,a2P,c7G]
 rw[b5J,b5J,h1,h2,h3,h4,h5,h6,h7,h8,h9,h10,hf,c09 λx hx=>ih x (.s hx),a7S λx hx=>ih x (.l hx),b1t λx hx=>ih x (.l hx),b0k λg hg x hx=>ih x (.g hg hx)]
theorem c1L(p:Pr):V8 (stP p)=V8 p:=by unfold V8;rw[c6k,c1o]
def O7(s:B):List B:=Lib.splitK [47] 0 (Lib.count s [47]) s
def a7a(i:Nat)(x:B):Go.Ly.Rw:=⟨(i:Int)+1,(x.length:Int)-((Lib.trimLeftB x 46).length:Int),Lib.trimLeftB x 46⟩
def a6I:Nat->List B->List Go.Ly.Rw
 |_,[]=>[]
 |i,x::l=>a7a i x::a6I (i+1) l
theorem b0p:∀{i j:Nat}{l:List B}{x:B},l[j]?=some x->a6I i (l.take (j+1))=a6I i (l.take j)++[a7a (i+j) x]
 |_,_,[],_,h=>by cases h
 |i,0,y::l,x,h=>by cases h;rfl
 |i,j+1,y::l,x,h=>by
  have ih:=b0p (i:=i+1) (j:=j) (l:=l) (x:=x) (by simpa using h);show a7a i y::a6I (i+1) (l.take (j+1))=a7a i y::(a6I (i+1) (l.take j)++[a7a (i+(j+1)) x]);rw[ih,show i+1+j=i+(j+1) by omega]
def a0T(s:B):List Go.Ly.Rw:=a6I 0 (O7 s)
def a4s(s:B)(k:Int):Bool:=(((((T7 (a0T s)).1.k==k)&&(((T7 (a0T s)).2.1:Int)==0))&&((T7 (a0T s)).2.2==0))&&((V8 (T7 (a0T s)).1).2==0))&&eqL Go.Ly.eqR (V8 (T7 (a0T s)).1).1 (a0T s)
end
end Go.Sx
namespace Go.Pc
section
open Go.Eng Go.Xp Go
open Go.Ty (Ty Vr)
def a4M(r s:Rp):Bool:=((r.name==s.name)&&E5 r.base s.base)&&E5 r.count s.count
def a2e(c:Bool)(l:List Vr)(d:Bool)(s:List Vr):Bool:=(c==d)&&eqL P2 l s
mutual
def H6:Pr->Pr->Bool
 | .mk k nm ch tg ex rp _ _ gl _ _ ll pn sp=>λq=>eqL (λa b:Int=>a==b) pn.l q.pn.l&&((((((((((k==q.k)&&(nm==q.name))&&a4M rp q.rep)&&E5 ch q.ch)&&eqL E5 tg.l q.tg.l)&&eqL E5 ex.l q.ex.l)&&b3v gl q.gl)&&a1R ll q.ll)&&Y7 sp q.sp))
def a1R:List Pr->List Pr->Bool
 | []=>λs=>match s with
  | []=>true
  |_::_=>false
 |x::r=>λs=>match s with
  | []=>false
  |y::t=>H6 x y&&a1R r t
def S5:Gu->Gu->Bool
 | .mk k nm c ch tg vl tm _ _ bl=>λg=>(((((((k==g.k)&&(nm==g.name))&&E5 c g.cond)&&E5 ch g.ch)&&E5 tm g.time)&&eqL E5 tg.l g.tg.l)&&eqL E5 vl.l g.vl.l)&&a1R bl g.bl
def b3v:List Gu->List Gu->Bool
 | []=>λs=>match s with
  | []=>true
  |_::_=>false
 |x::r=>λs=>match s with
  | []=>false
  |y::t=>S5 x y&&b3v r t
def Y7:Sp->Sp->Bool
 | .mk k ty nms e cs vs fs _ _ bl=>λs=>((((k==s.k)&&Go.Ty.eqT ty s.ty)&&eqL a0s fs.l s.fs.l))&&(((eqL (λa b:B=>a==b) nms.l s.names.l&&E5 e s.e)&&a2e cs vs.l s.cs s.vs.l)&&a1R bl s.bl)
end
theorem a3h:∀l s:List Pr,a1R l s=eqL H6 l s
 | [],[]=>rfl
 |x::r,y::s=>by show(H6 x y&&a1R r s)=(H6 x y&&eqL H6 r s);rw[a3h r s]
 | [],_::_=>rfl
 |_::_,[]=>rfl
theorem a7W:∀l s:List Gu,b3v l s=eqL S5 l s
 | [],[]=>rfl
 |x::r,y::s=>by show(S5 x y&&b3v r s)=(S5 x y&&eqL S5 r s);rw[a7W r s]
 | [],_::_=>rfl
 |_::_,[]=>rfl
theorem a7i(p q:Pr):H6 p q=(eqL (λa b:Int=>a==b) p.pn.l q.pn.l&&((((((((((p.k==q.k)&&(p.name==q.name))&&a4M p.rep q.rep)&&E5 p.ch q.ch)&&eqL E5 p.tg.l q.tg.l)&&eqL E5 p.ex.l q.ex.l)&&eqL S5 p.gl q.gl)&&eqL H6 p.ll q.ll)&&Y7 p.sp q.sp))):=by rw[<-a7W,<-a3h];cases p;rfl
theorem a7f(p g:Gu):S5 p g=((((((((p.k==g.k)&&(p.name==g.name))&&E5 p.cond g.cond)&&E5 p.ch g.ch)&&E5 p.time g.time)&&eqL E5 p.tg.l g.tg.l)&&eqL E5 p.vl.l g.vl.l)&&eqL H6 p.bl g.bl):=by rw[<-a3h];cases p;rfl
theorem a4T(p s:Sp):Y7 p s=(((((p.k==s.k)&&Go.Ty.eqT p.ty s.ty)&&eqL a0s p.fs.l s.fs.l))&&(((eqL (λa b:B=>a==b) p.names.l s.names.l&&E5 p.e s.e)&&a2e p.cs p.vs.l s.cs s.vs.l)&&eqL H6 p.bl s.bl)):=by rw[<-a3h];cases p;rfl
theorem b9O{x y:Sp}(h:(((x.k !=y.k)||!(Go.Ty.eqT x.ty y.ty))||((x.fs.l.length:Int) !=(y.fs.l.length:Int)))=true):Y7 x y=false:=by
 rw[a4T];simp only[Bool.or_eq_true,bne_iff_ne,Bool.not_eq_true']at h;rcases h with(h|h)|h
 ·have:(x.k==y.k)=false:=by simpa using h
  simp[this]
 ·simp[h]
 ·rw[U4 a0s x.fs.l y.fs.l (by omega)]
  simp
theorem b7g{x y:Sp}(h:(((x.k !=y.k)||!(Go.Ty.eqT x.ty y.ty))||((x.fs.l.length:Int) !=(y.fs.l.length:Int)))=false) :
 x.fs.l.length=y.fs.l.length/\Y7 x y=(eqL a0s x.fs.l y.fs.l&&(((eqL (λa b:B=>a==b) x.names.l y.names.l&&E5 x.e y.e)&&a2e x.cs x.vs.l y.cs y.vs.l)&&eqL H6 x.bl y.bl)):=by
 rw[a4T];simp only[Bool.or_eq_false_iff,bne_eq_false_iff_eq,Bool.not_eq_false']at h;obtain⟨⟨h1,h2⟩,h3⟩:=h;refine⟨by omega,?_⟩;have h4:(x.k==y.k)=true:=by simpa using h1
 rw[h4,h2,Bool.true_and,Bool.true_and]
end
end Go.Pc
namespace Go.Eng
section
open Go Go.RowKit
section
variable {P:Program}{m m':View}{h h':List Res}{w w':World}
def Vw(m':View)(h':List Res)(m:View)(h:List Res):Prop:=∀(a:Option Addr)(n cap sz:Nat)(xs:List Value),Rd m' h' a n cap sz xs->Rd m h a n cap sz xs
theorem c2x{m:View}{g:Nat}{cur:Array Value}{e:TypeId}{fz:Nat×Nat}{n cap sz:Nat}{xs:List Value}(hl:xs.length=n*sz)(h1:n<=cap)(h2:cap<=9223372036854775807)(ht:cur.toList.take (n*sz)=xs):Rd (m.add g (.cells cur e fz)) [] (some ⟨g,0,none⟩) n cap sz xs:=
 ⟨hl,h1,h2,λw s j u hj=>by
  refine⟨g,0,rfl,?_⟩;have hb:=s.blk g _ (View.add_blk m g (.cells cur e fz));rw[<-ht,List.getElem?_take]at hj;split at hj
  ·simp[World.cell?,hb];simpa using hj
  ·simp at hj⟩
theorem c0L{m:View}{g:Nat}{o:Obj}{h2:List Res}:Vw (m.add g o) h2 m (.pt g o::h2):=λa n cap sz xs r=>
 ⟨r.len,r.le,r.mx,λw s=>r.at_ w ⟨s.os,s.out,s.tape,λb o' hb=>by
  unfold View.add at hb;simp only at hb;split at hb
  ·rename_i e
   cases hb;rw[e];exact s.ok _ (List.Mem.head _)
  ·exact s.blk b o' hb,λr hr=>s.ok r (List.Mem.tail _ hr),(List.pairwise_cons.1 s.nd).2,λx hx b hb=>by
  unfold View.add;simp only;split
  ·rename_i e
   exact((List.pairwise_cons.1 s.nd).1 x hx b (by rw[e];rfl) hb).elim
  ·exact s.fr x (List.Mem.tail _ hx) b hb⟩⟩
theorem CT.lendRow{f:FuncId}{args:List Value}{a:Option Addr}{n cap sz:Nat}{e:TypeId}{xs:List Value}{R:View->Value->List Res->Prop}(he:∀as w,(callFunc f as).run P w=.ok (.enter f as) w)
 (c:∀m',m.le m'->Rd m' [] a n cap sz xs->CT P f args h m' (λv _ h'=>R m' v h')) :
 CT P f args (.row (.slice a n cap) e sz n xs::h) m (λv _ h'=>∃m' hx h2,R m' v h2/\h'=hx++h2/\Vw m' h2 m (hx++h2)/\Rd m hx a n cap sz xs):=
 ⟨he,λw s=>by
  have hrow:w.ownsRow 0 e sz (.slice a n cap) n xs:=s.ok _ (List.Mem.head _);obtain⟨k1,k2,k3⟩:=a9m hrow;obtain⟨hl,hn|⟨g,cp,cur,hv,_,hh,hnc,hcm,hsz,ht⟩⟩:=hrow
  ·obtain⟨_,rfl⟩:=hn
   have hx0:xs=[]:=List.eq_nil_of_length_eq_zero (by simpa using k3);subst hx0;have s2:St m h w:=⟨s.os,s.out,s.tape,s.blk,λr hr=>s.ok r (List.Mem.tail _ hr),(List.pairwise_cons.1 s.nd).2,λr hr=>s.fr r (List.Mem.tail _ hr)⟩;have r0:∀{q:View},Rd q [] a 0 cap sz []:=⟨k3,k1,k2,λ_ _ j u hj=>by cases hj⟩;refine Calls.mono ((c m Vl r0).calls w s2) ?_;rintro e' w' ⟨v,m2,h2,rfl,hle,s3,hR⟩;exact⟨v,m2,h2,rfl,hle,s3,m,[],h2,hR,rfl,λ_ _ _ _ _ r=>r,r0⟩
  ·simp only[Value.slice.injEq]at hv
   obtain⟨rfl,_,rfl⟩:=hv;have hfp:(Res.row (.slice (some ⟨g,0,none⟩) n cap) e sz n xs).fp=some g:=rfl;have hmg:m.blk g=none:=s.fr _ (List.Mem.head _) g hfp;have s2:St (m.add g (.cells cur e (0,0))) h w:=⟨s.os,s.out,s.tape,λb o' hb=>by
    unfold View.add at hb;simp only at hb;split at hb
    ·rename_i e
     cases hb;rw[e];exact hh
    ·exact s.blk b o' hb,λr hr=>s.ok r (List.Mem.tail _ hr),(List.pairwise_cons.1 s.nd).2,λr hr b hb=>by
    unfold View.add;simp only;split
    ·rename_i e
     exact((List.pairwise_cons.1 s.nd).1 r hr b (e▸hfp) hb).elim
    ·exact s.fr r (List.Mem.tail _ hr) b hb⟩
   refine Calls.mono ((c _ (View.le_add hmg) (c2x k3 k1 k2 ht)).calls w s2) ?_;rintro e' w' ⟨v,m2,h2,rfl,hle,s3,hR⟩;have hml:=(View.le_add (o:=.cells cur e (0,0)) hmg).trans hle;have hg2:m2.blk g=some (.cells cur e (0,0)):=hle.blk _ _ (View.add_blk m g _);refine⟨v,m,.pt g (.cells cur e (0,0))::h2,rfl,Vl,⟨s3.os.trans hml.os,s3.out.trans hml.out,s3.tape.trans hml.tape,λb o hb=>s3.blk b o (hml.blk b o hb),λr hr=>?_,?_,λr hr b hb=>?_⟩,_,[.pt g (.cells cur e (0,0))],h2,hR,rfl,c0L,?_⟩
   ·rcases List.mem_cons.1 hr with rfl|hr
    ·exact s3.blk g _ hg2
    ·exact s3.ok r hr
   ·refine List.pairwise_cons.2 ⟨λr hr b h1 h3=>?_,s3.nd⟩
    cases h1;have:=s3.fr r hr _ h3;rw[hg2]at this;cases this
   ·rcases List.mem_cons.1 hr with rfl|hr
    ·cases hb
     exact hmg
    ·have h1:=s3.fr r hr b hb
     cases hm:m.blk b with
     |none=>rfl
     |some o=>rw[hml.blk b o hm]at h1;cases h1
   ·exact c0L _ _ _ _ _ (c2x k3 k1 k2 ht)⟩
end
end
end Go.Eng
namespace Go.Pc
section
open Go.Eng Go.Xp Go
open Go.Ty (Ty Vr)
set_option linter.unusedSimpArgs false
theorem K5{α:Type}(l:List α)(q:α->Bool):E7 l 0 0 q=l.isEmpty:=by
 unfold E7 a3j;cases l with
 |nil=>rfl
 |cons x r=>
  have:¬(((x::r).length:Int)<=0):=by simp only[List.length_cons];omega
  simp only[this,decide_false,Bool.and_false,Bool.false_and,List.isEmpty_cons]
theorem a4f{α:Type}(l:List α)(q:α->Bool):E7 l 0 8 q=(decide ((l.length:Int)<=8)&&l.all q):=by
 have h1:(l.length:Int)>=0:=by omega
 have h2:(!(l.any λx=>!q x))=l.all q:=by
  induction l with
  |nil=>rfl
  |cons x r ih=>have:=ih (by omega);simp only[List.any_cons,List.all_cons,<-this];cases q x<;>simp
 unfold E7 a3j;rw[h2];simp[h1]
theorem X0(n:Nat):a3j 1 1 (n:Int)=((n:Int)==1):=by unfold a3j;rw[Bool.eq_iff_iff];simp;omega
theorem a00(n:Nat):a3j 2 2 (n:Int)=((n:Int)==2):=by unfold a3j;rw[Bool.eq_iff_iff];simp;omega
theorem S6{α:Type}(l:List α):a3j 0 0 (l.length:Int)=l.isEmpty:=by
 cases l with
 |nil=>rfl
 |cons x r=>
  unfold a3j;have:¬(((x::r).length:Int)<=0):=by simp only[List.length_cons];omega
  simp only[this,decide_false,Bool.and_false,List.isEmpty_cons]
theorem Y5{α:Type}(q:α->α->Bool)(l:List α):eqL q l []=l.isEmpty:=by cases l<;>rfl
theorem a09{α:Type}{q:α->α->Bool}(hq:∀x,q x x=true):∀l:List α,eqL q l l=true
 | []=>rfl
 |x::r=>by show(q x x&&eqL q r r)=true;rw[hq,a09 hq r];rfl
theorem I1{α:Type}(l:List α):((l.length:Int)==0)=l.isEmpty:=by
 cases l with
 |nil=>rfl
 |cons x r=>rw[List.isEmpty_cons,beq_eq_false_iff_ne];simp only[List.length_cons];omega
theorem a4e(t:Ty):Go.Ty.eqT t t=true:=(Go.Ty.eqT_iff t t).2 rfl
theorem a3W(f:Fo):a0s f f=true:=by unfold a0s;simp[a4e]
theorem a1T(v:Vr):P2 v v=true:=by unfold P2;simp
theorem H2:H4 A2=true:=by decide
def a6o:Gu:=.mk 0 [] A2 A2 B0 B0 A2 none 0 []
def a4u:Rp:=⟨[],A2,A2⟩
def R3:Pr:=.mk 0 [] A2 B0 B0 a4u none 0 [] none 0 [] B0 C3
theorem a1H{nm:B}{c ch tm:Ex}{tg vl:Sli Ex}:S5 (.mk 0 nm c ch tg vl tm none 0 []) a6o=((((((nm==[])&&H4 c)&&H4 ch)&&H4 tm)&&tg.l.isEmpty)&&vl.l.isEmpty):=by rw[a7f];show(((((((((0:Int)==0)&&(nm==[]))&&E5 c A2)&&E5 ch A2)&&E5 tm A2)&&eqL E5 tg.l [])&&eqL E5 vl.l [])&&eqL H6 [] [])=_;rw[Y5,Y5,show((0:Int)==0)=true from rfl,Bool.true_and,show eqL H6 [] []=true from rfl,Bool.and_true];rfl
theorem a1I(s:Sp):Y7 s C3=J9 s C3:=by
 rw[a4T];unfold J9;show(((((s.k==0)&&Go.Ty.eqT s.ty Go.Ty.zeroT)&&eqL a0s s.fs.l []))&&(((eqL (λa b:B=>a==b) s.names.l []&&E5 s.e A2)&&((s.cs==false)&&eqL P2 s.vs.l []))&&eqL H6 s.bl []))=((((((((s.k==0)&&Go.Ty.eqT s.ty Go.Ty.zeroT)&&(s.names.l==[]))&&E5 s.e A2)&&(s.cs==false))&&eqL P2 s.vs.l [])&&eqL a0s s.fs.l [])&&((s.bl.length:Int)==0));rw[Y5,Y5,Y5,Y5,I1,show(s.names.l==[])=s.names.l.isEmpty by cases s.names.l<;>rfl];generalize (s.k==0)=a;generalize Go.Ty.eqT s.ty Go.Ty.zeroT=b;generalize s.fs.l.isEmpty=c;generalize s.names.l.isEmpty=d;generalize E5 s.e A2=e;generalize (s.cs==false)=f;generalize s.vs.l.isEmpty=g;generalize s.bl.isEmpty=i;revert a b c d e f g i
 decide
theorem O1{nm:B}{ch:Ex}{tg ex:Sli Ex}{pn:Sli Int}{sp:Sp}:H6 (.mk 0 nm ch tg ex a4u none 0 [] none 0 [] pn sp) R3=(((((pn.l.isEmpty&&(nm==[]))&&H4 ch)&&tg.l.isEmpty)&&ex.l.isEmpty)&&J9 sp C3):=by
 rw[a7i,<-a1I];show(eqL (λa b:Int=>a==b) pn.l []&&(((((((((((0:Int)==0)&&(nm==[]))&&a4M a4u a4u)&&E5 ch A2)&&eqL E5 tg.l [])&&eqL E5 ex.l [])&&eqL S5 [] [])&&eqL H6 [] [])&&Y7 sp C3)))=_;rw[Y5,Y5,Y5,show((0:Int)==0)=true from rfl,show a4M a4u a4u=true by decide,show eqL H6 [] []=true from rfl,show eqL S5 [] []=true from rfl];show _=(((((pn.l.isEmpty&&(nm==[]))&&E5 ch A2)&&tg.l.isEmpty)&&ex.l.isEmpty)&&Y7 sp C3);generalize pn.l.isEmpty=a;generalize (nm==[])=b;generalize E5 ch A2=c;generalize tg.l.isEmpty=d;generalize ex.l.isEmpty=e;generalize Y7 sp C3=f;revert a b c d e f
 decide
theorem Y1{α:Type}:(B0:Sli α).l.isEmpty=true:=rfl
theorem a1s:(([]:B)==[])=true:=rfl
theorem c9S{g:Gu}(h:g.k=1\/g.k=2):guP g=((F8 g.cond&&((g.bl.length:Int)==1))&&S5 (.mk 0 g.name A2 g.ch g.tg g.vl g.time none 0 []) a6o):=by
 rw[a1H];try rw[H2]
 unfold guP a4h;rcases h with h|h
 ·rw[h]
  simp only[Int.reduceEq,Int.reduceBEq,Int.reduceBNe,Int.reduceLE,if_true,if_false,reduceIte,decide_true,decide_false,K5,N7,Bool.or_true,Bool.or_false,Bool.true_or,Bool.false_or,Bool.and_true,Bool.and_false,Bool.true_and,Bool.false_and,Bool.false_eq_true,Y1,a1s,H2];generalize F8 g.cond=x0;generalize H4 g.ch=x1;generalize H4 g.time=x2;generalize g.tg.l.isEmpty=x3;generalize g.vl.l.isEmpty=x4;generalize (g.name==[])=x5;generalize ((g.bl.length:Int)==1)=x6;revert x0 x1 x2 x3 x4 x5 x6
  decide
 ·rw[h]
  simp only[Int.reduceEq,Int.reduceBEq,Int.reduceBNe,Int.reduceLE,if_true,if_false,reduceIte,decide_true,decide_false,K5,N7,Bool.or_true,Bool.or_false,Bool.true_or,Bool.false_or,Bool.and_true,Bool.and_false,Bool.true_and,Bool.false_and,Bool.false_eq_true,Y1,a1s,H2];generalize F8 g.cond=x0;generalize H4 g.ch=x1;generalize H4 g.time=x2;generalize g.tg.l.isEmpty=x3;generalize g.vl.l.isEmpty=x4;generalize (g.name==[])=x5;generalize ((g.bl.length:Int)==1)=x6;revert x0 x1 x2 x3 x4 x5 x6
  decide
theorem d0i{g:Gu}(h:g.k=3):guP g=(((((H4 g.cond||F8 g.cond)&&F5 g.ch)&&E7 g.tg.l 1 8 F5)&&((g.bl.length:Int)==1))&&S5 (.mk 0 g.name A2 A2 B0 g.vl g.time none 0 []) a6o):=by
 rw[a1H];try rw[H2]
 unfold guP a4h;rw[h];simp only[Int.reduceEq,Int.reduceBEq,Int.reduceBNe,Int.reduceLE,if_true,if_false,reduceIte,decide_true,decide_false,K5,N7,Bool.or_true,Bool.or_false,Bool.true_or,Bool.false_or,Bool.and_true,Bool.and_false,Bool.true_and,Bool.false_and,Bool.false_eq_true,Y1,a1s,H2];generalize E7 g.tg.l 1 8 F5=x0;generalize F8 g.cond=x1;generalize H4 g.cond=x2;generalize F5 g.ch=x3;generalize H4 g.time=x4;generalize g.vl.l.isEmpty=x5;generalize (g.name==[])=x6;generalize ((g.bl.length:Int)==1)=x7;revert x0 x1 x2 x3 x4 x5 x6 x7
 decide
theorem d0d{g:Gu}(h:g.k=4):guP g=(((((H4 g.cond||F8 g.cond)&&F5 g.ch)&&F8 g.time)&&((g.bl.length:Int)==1))&&S5 (.mk 0 g.name A2 A2 g.tg g.vl A2 none 0 []) a6o):=by
 rw[a1H];try rw[H2]
 unfold guP a4h;rw[h];simp only[Int.reduceEq,Int.reduceBEq,Int.reduceBNe,Int.reduceLE,if_true,if_false,reduceIte,decide_true,decide_false,K5,N7,Bool.or_true,Bool.or_false,Bool.true_or,Bool.false_or,Bool.and_true,Bool.and_false,Bool.true_and,Bool.false_and,Bool.false_eq_true,Y1,a1s,H2];generalize F8 g.cond=x0;generalize H4 g.cond=x1;generalize F5 g.ch=x2;generalize F8 g.time=x3;generalize g.tg.l.isEmpty=x4;generalize g.vl.l.isEmpty=x5;generalize (g.name==[])=x6;generalize ((g.bl.length:Int)==1)=x7;revert x0 x1 x2 x3 x4 x5 x6 x7
 decide
theorem d0t{g:Gu}(h:g.k=5):guP g=((E7 g.vl.l 1 8 F8&&((g.bl.length:Int)==1))&&S5 (.mk 0 g.name g.cond g.ch g.tg B0 g.time none 0 []) a6o):=by
 rw[a1H];try rw[H2]
 unfold guP a4h;rw[h];simp only[Int.reduceEq,Int.reduceBEq,Int.reduceBNe,Int.reduceLE,if_true,if_false,reduceIte,decide_true,decide_false,K5,N7,Bool.or_true,Bool.or_false,Bool.true_or,Bool.false_or,Bool.and_true,Bool.and_false,Bool.true_and,Bool.false_and,Bool.false_eq_true,Y1,a1s,H2];generalize E7 g.vl.l 1 8 F8=x0;generalize H4 g.cond=x1;generalize H4 g.ch=x2;generalize H4 g.time=x3;generalize g.tg.l.isEmpty=x4;generalize (g.name==[])=x5;generalize ((g.bl.length:Int)==1)=x6;revert x0 x1 x2 x3 x4 x5 x6
 decide
theorem d0f{g:Gu}(h:g.k=6):guP g=((true&&((g.bl.length:Int)==1))&&S5 (.mk 0 g.name g.cond g.ch g.tg g.vl g.time none 0 []) a6o):=by
 rw[a1H];try rw[H2]
 unfold guP a4h;rw[h];simp only[Int.reduceEq,Int.reduceBEq,Int.reduceBNe,Int.reduceLE,if_true,if_false,reduceIte,decide_true,decide_false,K5,N7,Bool.or_true,Bool.or_false,Bool.true_or,Bool.false_or,Bool.and_true,Bool.and_false,Bool.true_and,Bool.false_and,Bool.false_eq_true,Y1,a1s,H2];generalize H4 g.cond=x0;generalize H4 g.ch=x1;generalize H4 g.time=x2;generalize g.tg.l.isEmpty=x3;generalize g.vl.l.isEmpty=x4;generalize (g.name==[])=x5;generalize ((g.bl.length:Int)==1)=x6;revert x0 x1 x2 x3 x4 x5 x6
 decide
theorem d03{g:Gu}(h:g.k=7):guP g=(((Go.Lx.name g.name&&E7 g.tg.l 0 8 F5)&&((g.bl.length:Int)==1))&&S5 (.mk 0 [] g.cond g.ch B0 g.vl g.time none 0 []) a6o):=by
 rw[a1H];try rw[H2]
 unfold guP a4h;rw[h];simp only[Int.reduceEq,Int.reduceBEq,Int.reduceBNe,Int.reduceLE,if_true,if_false,reduceIte,decide_true,decide_false,K5,N7,Bool.or_true,Bool.or_false,Bool.true_or,Bool.false_or,Bool.and_true,Bool.and_false,Bool.true_and,Bool.false_and,Bool.false_eq_true,Y1,a1s,H2];generalize E7 g.tg.l 0 8 F5=x0;generalize Go.Lx.name g.name=x1;generalize H4 g.cond=x2;generalize H4 g.ch=x3;generalize H4 g.time=x4;generalize g.vl.l.isEmpty=x5;generalize ((g.bl.length:Int)==1)=x6;revert x0 x1 x2 x3 x4 x5 x6
 decide
theorem c9D{g:Gu}(h0:0<=g.k)(h:¬(g.k=1\/g.k=2))(h3:g.k≠3)(h4:g.k≠4)(h5:g.k≠5)(h6:g.k≠6)(h7:g.k≠7)(b:Bool):guP g=((false&&((g.bl.length:Int)==1))&&b):=by
 rw[Bool.false_and,Bool.false_and];unfold guP;by_cases hz:g.k=0
 ·rw[hz];rfl
 ·have:¬g.k<=7:=by omega
  simp[this]
theorem b4s{k:Int}{ty:Ty}{names:Sli B}{e:Ex}{cs:Bool}{vs:Sli Vr}{fs:Sli Fo}{ba:Option Addr}{bc:Nat}{bl:List Pr}:(Sp.mk k ty names e cs vs fs ba bc bl).k=k:=rfl
theorem b0m{k:Int}{ty:Ty}{names:Sli B}{e:Ex}{cs:Bool}{vs:Sli Vr}{fs:Sli Fo}{ba:Option Addr}{bc:Nat}{bl:List Pr}:(Sp.mk k ty names e cs vs fs ba bc bl).ty=ty:=rfl
theorem a3N{k:Int}{ty:Ty}{names:Sli B}{e:Ex}{cs:Bool}{vs:Sli Vr}{fs:Sli Fo}{ba:Option Addr}{bc:Nat}{bl:List Pr}:(Sp.mk k ty names e cs vs fs ba bc bl).names=names:=rfl
theorem b5b{k:Int}{ty:Ty}{names:Sli B}{e:Ex}{cs:Bool}{vs:Sli Vr}{fs:Sli Fo}{ba:Option Addr}{bc:Nat}{bl:List Pr}:(Sp.mk k ty names e cs vs fs ba bc bl).e=e:=rfl
theorem a9R{k:Int}{ty:Ty}{names:Sli B}{e:Ex}{cs:Bool}{vs:Sli Vr}{fs:Sli Fo}{ba:Option Addr}{bc:Nat}{bl:List Pr}:(Sp.mk k ty names e cs vs fs ba bc bl).cs=cs:=rfl
theorem a9o{k:Int}{ty:Ty}{names:Sli B}{e:Ex}{cs:Bool}{vs:Sli Vr}{fs:Sli Fo}{ba:Option Addr}{bc:Nat}{bl:List Pr}:(Sp.mk k ty names e cs vs fs ba bc bl).vs=vs:=rfl
theorem b0u{k:Int}{ty:Ty}{names:Sli B}{e:Ex}{cs:Bool}{vs:Sli Vr}{fs:Sli Fo}{ba:Option Addr}{bc:Nat}{bl:List Pr}:(Sp.mk k ty names e cs vs fs ba bc bl).fs=fs:=rfl
theorem b0H{k:Int}{ty:Ty}{names:Sli B}{e:Ex}{cs:Bool}{vs:Sli Vr}{fs:Sli Fo}{ba:Option Addr}{bc:Nat}{bl:List Pr}:(Sp.mk k ty names e cs vs fs ba bc bl).bl=bl:=rfl
theorem a2a{α:Type}:(B0:Sli α).l=[]:=rfl
theorem a2O(e:Ex):E5 e e=true:=(a0K e e).2 rfl
theorem a7b{α:Type}:((([]:List α).length:Nat):Int)=0:=rfl
theorem a3S:E5 A2 A2=true:=by decide
theorem d0m{s:Sp}(h:s.k=1):spP s=((Go.Ty.may s.ty&&E7 s.names.l 1 8 Go.Lx.name)&&Y7 (.mk 0 Go.Ty.zeroT B0 s.e s.cs s.vs s.fs s.ba s.bc s.bl) C3):=by
 rw[a1I];unfold spP a1j a0r J9;rw[h];show _=(_&&(((((((((0:Int)==0)&&Go.Ty.eqT Go.Ty.zeroT Go.Ty.zeroT)&&(([]:List B)==[]))&&E5 s.e A2)&&(s.cs==false))&&eqL P2 s.vs.l [])&&eqL a0s s.fs.l [])&&(((s.bl:List Pr).length:Int)==0)));simp only[Int.reduceEq,Int.reduceBEq,Int.reduceLE,and_self,and_true,true_and,if_true,if_false,reduceIte,beq_self_eq_true,Bool.and_true,Bool.true_and,b4s,b0m,a3N,b5b,a9R,a9o,b0u,b0H,a3S,a2O,a7b,a4e,Y5,I1,a09 a3W,a09 a1T,Y1,a2a,List.isEmpty_nil,a4f];all_goals
  generalize Go.Ty.may s.ty=x0;generalize E7 s.names.l 1 8 Go.Lx.name=x1;generalize E5 s.e A2=x2;generalize (s.cs==false)=x3;generalize s.vs.l.isEmpty=x4;generalize s.fs.l.isEmpty=x5;generalize s.bl.isEmpty=x6;revert x0 x1 x2 x3 x4 x5 x6
  decide
theorem d0h{s:Sp}(h:s.k=2):spP s=(((X3 s.ty&&E7 s.names.l 1 1 Go.Lx.name)&&F8 s.e)&&Y7 (.mk 0 Go.Ty.zeroT B0 A2 s.cs s.vs s.fs s.ba s.bc s.bl) C3):=by
 rw[a1I];unfold spP a1j a0r J9;rw[h];show _=(_&&(((((((((0:Int)==0)&&Go.Ty.eqT Go.Ty.zeroT Go.Ty.zeroT)&&(([]:List B)==[]))&&E5 A2 A2)&&(s.cs==false))&&eqL P2 s.vs.l [])&&eqL a0s s.fs.l [])&&(((s.bl:List Pr).length:Int)==0)));simp only[Int.reduceEq,Int.reduceBEq,Int.reduceLE,and_self,and_true,true_and,if_true,if_false,reduceIte,beq_self_eq_true,Bool.and_true,Bool.true_and,b4s,b0m,a3N,b5b,a9R,a9o,b0u,b0H,a3S,a2O,a7b,a4e,Y5,I1,a09 a3W,a09 a1T,Y1,a2a,List.isEmpty_nil,a4f];all_goals
  generalize X3 s.ty=x0;generalize E7 s.names.l 1 1 Go.Lx.name=x1;generalize F8 s.e=x2;generalize (s.cs==false)=x3;generalize s.vs.l.isEmpty=x4;generalize s.fs.l.isEmpty=x5;generalize s.bl.isEmpty=x6;revert x0 x1 x2 x3 x4 x5 x6
  decide
theorem d07{s:Sp}(h:s.k=3):spP s=(((X3 s.ty&&E7 s.names.l 1 1 Go.Lx.name)&&F5 s.e)&&Y7 (.mk 0 Go.Ty.zeroT B0 A2 s.cs s.vs s.fs s.ba s.bc s.bl) C3):=by
 rw[a1I];unfold spP a1j a0r J9;rw[h];show _=(_&&(((((((((0:Int)==0)&&Go.Ty.eqT Go.Ty.zeroT Go.Ty.zeroT)&&(([]:List B)==[]))&&E5 A2 A2)&&(s.cs==false))&&eqL P2 s.vs.l [])&&eqL a0s s.fs.l [])&&(((s.bl:List Pr).length:Int)==0)));simp only[Int.reduceEq,Int.reduceBEq,Int.reduceLE,and_self,and_true,true_and,if_true,if_false,reduceIte,beq_self_eq_true,Bool.and_true,Bool.true_and,b4s,b0m,a3N,b5b,a9R,a9o,b0u,b0H,a3S,a2O,a7b,a4e,Y5,I1,a09 a3W,a09 a1T,Y1,a2a,List.isEmpty_nil,a4f];all_goals
  generalize X3 s.ty=x0;generalize E7 s.names.l 1 1 Go.Lx.name=x1;generalize F5 s.e=x2;generalize (s.cs==false)=x3;generalize s.vs.l.isEmpty=x4;generalize s.fs.l.isEmpty=x5;generalize s.bl.isEmpty=x6;revert x0 x1 x2 x3 x4 x5 x6
  decide
theorem d0u{s:Sp}(h:s.k=4):spP s=((E7 s.names.l 1 1 Go.Lx.name&&Go.Ty.mayPr s.cs s.vs.l)&&Y7 (.mk 0 s.ty B0 s.e false B0 s.fs s.ba s.bc s.bl) C3):=by
 rw[a1I];unfold spP a1j a0r J9;rw[h];show _=(_&&(((((((((0:Int)==0)&&Go.Ty.eqT s.ty Go.Ty.zeroT)&&(([]:List B)==[]))&&E5 s.e A2)&&(false==false))&&eqL P2 [] [])&&eqL a0s s.fs.l [])&&(((s.bl:List Pr).length:Int)==0)));simp only[Int.reduceEq,Int.reduceBEq,Int.reduceLE,and_self,and_true,true_and,if_true,if_false,reduceIte,beq_self_eq_true,Bool.and_true,Bool.true_and,b4s,b0m,a3N,b5b,a9R,a9o,b0u,b0H,a3S,a2O,a7b,a4e,Y5,I1,a09 a3W,a09 a1T,Y1,a2a,List.isEmpty_nil,a4f];all_goals
  generalize E7 s.names.l 1 1 Go.Lx.name=x0;generalize Go.Ty.mayPr s.cs s.vs.l=x1;generalize Go.Ty.eqT s.ty Go.Ty.zeroT=x2;generalize E5 s.e A2=x3;generalize s.fs.l.isEmpty=x4;generalize s.bl.isEmpty=x5;revert x0 x1 x2 x3 x4 x5
  decide
theorem d0g{s:Sp}(h:s.k=5):spP s=((((E7 s.names.l 1 1 Go.Lx.name&&decide ((s.fs.l.length:Int)<=8))&&((s.bl.length:Int)==1))&&s.fs.l.all foP)&&Y7 (.mk 0 s.ty B0 s.e s.cs s.vs B0 none 0 []) C3):=by
 rw[a1I];unfold spP a1j a0r J9;rw[h];show _=(_&&(((((((((0:Int)==0)&&Go.Ty.eqT s.ty Go.Ty.zeroT)&&(([]:List B)==[]))&&E5 s.e A2)&&(s.cs==false))&&eqL P2 s.vs.l [])&&eqL a0s [] [])&&((([]:List Pr).length:Int)==0)));simp only[Int.reduceEq,Int.reduceBEq,Int.reduceLE,and_self,and_true,true_and,if_true,if_false,reduceIte,beq_self_eq_true,Bool.and_true,Bool.true_and,b4s,b0m,a3N,b5b,a9R,a9o,b0u,b0H,a3S,a2O,a7b,a4e,Y5,I1,a09 a3W,a09 a1T,Y1,a2a,List.isEmpty_nil,a4f];all_goals
  generalize E7 s.names.l 1 1 Go.Lx.name=x0;generalize decide ((s.fs.l.length:Int)<=8)=x1;generalize ((s.bl.length:Int)==1)=x2;generalize s.fs.l.all foP=x3;generalize Go.Ty.eqT s.ty Go.Ty.zeroT=x4;generalize E5 s.e A2=x5;generalize (s.cs==false)=x6;generalize s.vs.l.isEmpty=x7;revert x0 x1 x2 x3 x4 x5 x6 x7
  decide
theorem d00{s:Sp}(h1:s.k≠1)(h2:s.k≠2)(h3:s.k≠3)(h4:s.k≠4)(h5:s.k≠5)(b:Bool):spP s=(false&&b):=by unfold spP;rw[if_neg (by omega),Bool.false_and]
def K1(nm:B)(ch:Ex)(tg ex:Sli Ex)(pn:Sli Int)(sp:Sp):Pr:=.mk 0 nm ch tg ex a4u none 0 [] none 0 [] pn sp
def gQ(a b:Int):Gu->Bool:=inG { us0 with lo:=a,hi:=b }
def b0l(p:Pr):Bool:=if p.k=8\/p.k=9 then((((true&&((!(!(p.rep.name==[])))||((p.ll.length:Int)==1)))&&((p.gl.length:Int)==0))&&O6 p.rep)&&H6 (K1 p.name p.ch p.tg p.ex p.pn p.sp) R3)else false
def a0t(p:Pr):Bool:=if p.ll.length<=2048 then L2 p else b0l p
theorem a1B{p:Pr}{pb A:Bool}(hA:pb=false->A=false)(hb:pb=true->p.ll.length<=2048)(hk:¬(p.k=8\/p.k=9))(h:L2 p=A):a0t p=A:=by
 unfold a0t;by_cases hl:p.ll.length<=2048
 ·rw[if_pos hl,h]
 ·have hf:pb=false:=by
   cases hp:pb with
   |false=>rfl
   |true=>exact absurd (hb hp) hl
  rw[if_neg hl,hA hf];unfold b0l;rw[if_neg hk]
theorem b3P{p:Pr}{u:Us}(hu:B5 p.k=(u,true)):L2 p=(O6 p.rep&&(if(p.rep.name==[])=true then M1 p u else(u.rep&&M1 p (b3H u)))):=by
 unfold L2;rw[hu];cases hr:O6 p.rep with
 |false=>rfl
 |true=>
  cases hn:(p.rep.name==[])with
  |true=>
   have:(p.rep.name !=[])=false:=by rw[bne,hn];rfl
   simp[this]
  |false=>
   have:(p.rep.name !=[])=true:=by rw[bne,hn];rfl
   cases hx:u.rep<;>simp[this,hx]
theorem a0A{p:Pr}{u:Us}(hu:B5 p.k=(u,true))(hr:u.rep=false):L2 p=(O6 p.rep&&((p.rep.name==[])&&M1 p u)):=by rw[b3P hu,hr];cases (p.rep.name==[])<;>simp
theorem a4G{α:Type}{l:List α}(h:l.isEmpty=true):l.length<=2048:=by cases l with
 |nil=>simp
 |cons _ _=>cases h
theorem c0Z{n:Nat}(h:((n:Int)==1)=true):n<=2048:=by
 have:(n:Int)=1:=by simpa using h
 omega
theorem c8A{n:Nat}(h:((n:Int)==2)=true):n<=2048:=by
 have:(n:Int)=2:=by simpa using h
 omega
theorem a3f:J9 C3 C3=true:=by decide
theorem c7w{p:Pr}(h:p.k=1\/p.k=2):a0t p=(((((!(!(p.rep.name==[])))&&((p.ll.length:Int)==0))&&((p.gl.length:Int)==0))&&O6 p.rep)&&H6 (K1 p.name p.ch p.tg p.ex p.pn p.sp) R3):=by
 have hu:B5 p.k=(us0,true):=by rcases h with h|h<;>rw[h]<;>rfl
 refine a1B (pb:=((p.ll.length:Int)==0)) (λhp=>by rw[hp];simp only[Bool.and_false,Bool.false_and]) (λhp=>by rw[I1]at hp;exact a4G hp) (by omega) ?_;rw[a0A hu rfl];unfold K1;rw[O1];dsimp only [M1,us0];simp only[Bool.false_eq_true,if_true,if_false,reduceIte,K5,S6,X0,a00,N7,I1,Bool.and_true,Bool.true_and,Bool.false_and,Bool.false_or,Bool.or_false,Bool.not_false,Bool.not_true,Y1,a1s,H2,a2a,List.isEmpty_nil,a3f];generalize O6 p.rep=x0;generalize (p.rep.name==[])=x1;generalize p.ll.isEmpty=x2;generalize p.gl.isEmpty=x3;generalize (p.name==[])=x4;generalize H4 p.ch=x5;generalize p.tg.l.isEmpty=x6;generalize p.ex.l.isEmpty=x7;generalize p.pn.l.isEmpty=x8;generalize J9 p.sp C3=x9;revert x0 x1 x2 x3 x4 x5 x6 x7 x8 x9
 decide +kernel
theorem c9E{p:Pr}(h:p.k=3):a0t p=(((((((!(!(p.rep.name==[])))&&E7 p.tg.l 1 8 F5)&&E7 p.ex.l 1 8 F8)&&((p.ll.length:Int)==0))&&((p.gl.length:Int)==0))&&O6 p.rep)&&H6 (K1 p.name p.ch B0 B0 p.pn p.sp) R3):=by
 have hu:B5 p.k=({ us0 with t0:=1,t1:=8,e0:=1,e1:=8 },true):=by rw[h];rfl
 refine a1B (pb:=((p.ll.length:Int)==0)) (λhp=>by rw[hp];simp only[Bool.and_false,Bool.false_and]) (λhp=>by rw[I1]at hp;exact a4G hp) (by omega) ?_;rw[a0A hu rfl];unfold K1;rw[O1];dsimp only [M1,us0];simp only[Bool.false_eq_true,if_true,if_false,reduceIte,K5,S6,X0,a00,N7,I1,Bool.and_true,Bool.true_and,Bool.false_and,Bool.false_or,Bool.or_false,Bool.not_false,Bool.not_true,Y1,a1s,H2,a2a,List.isEmpty_nil,a3f];generalize O6 p.rep=x0;generalize (p.rep.name==[])=x1;generalize p.ll.isEmpty=x2;generalize p.gl.isEmpty=x3;generalize (p.name==[])=x4;generalize H4 p.ch=x5;generalize E7 p.tg.l 1 8 F5=x6;generalize p.pn.l.isEmpty=x7;generalize J9 p.sp C3=x8;generalize E7 p.ex.l 1 8 F8=x9;revert x0 x1 x2 x3 x4 x5 x6 x7 x8 x9
 decide +kernel
theorem c8Z{p:Pr}(h:p.k=4):a0t p=(((((((!(!(p.rep.name==[])))&&F5 p.ch)&&E7 p.tg.l 1 8 F5)&&((p.ll.length:Int)==0))&&((p.gl.length:Int)==0))&&O6 p.rep)&&H6 (K1 p.name A2 B0 p.ex p.pn p.sp) R3):=by
 have hu:B5 p.k=({ us0 with chan:=true,t0:=1,t1:=8 },true):=by rw[h];rfl
 refine a1B (pb:=((p.ll.length:Int)==0)) (λhp=>by rw[hp];simp only[Bool.and_false,Bool.false_and]) (λhp=>by rw[I1]at hp;exact a4G hp) (by omega) ?_;rw[a0A hu rfl];unfold K1;rw[O1];dsimp only [M1,us0];simp only[Bool.false_eq_true,if_true,if_false,reduceIte,K5,S6,X0,a00,N7,I1,Bool.and_true,Bool.true_and,Bool.false_and,Bool.false_or,Bool.or_false,Bool.not_false,Bool.not_true,Y1,a1s,H2,a2a,List.isEmpty_nil,a3f];generalize O6 p.rep=x0;generalize (p.rep.name==[])=x1;generalize p.ll.isEmpty=x2;generalize p.gl.isEmpty=x3;generalize (p.name==[])=x4;generalize F5 p.ch=x5;generalize E7 p.tg.l 1 8 F5=x6;generalize p.ex.l.isEmpty=x7;generalize p.pn.l.isEmpty=x8;generalize J9 p.sp C3=x9;revert x0 x1 x2 x3 x4 x5 x6 x7 x8 x9
 decide +kernel
theorem c8K{p:Pr}(h:p.k=5):a0t p=(((((((!(!(p.rep.name==[])))&&F5 p.ch)&&E7 p.ex.l 1 9 F8)&&((p.ll.length:Int)==0))&&((p.gl.length:Int)==0))&&O6 p.rep)&&H6 (K1 p.name A2 p.tg B0 p.pn p.sp) R3):=by
 have hu:B5 p.k=({ us0 with chan:=true,e0:=1,e1:=9 },true):=by rw[h];rfl
 refine a1B (pb:=((p.ll.length:Int)==0)) (λhp=>by rw[hp];simp only[Bool.and_false,Bool.false_and]) (λhp=>by rw[I1]at hp;exact a4G hp) (by omega) ?_;rw[a0A hu rfl];unfold K1;rw[O1];dsimp only [M1,us0];simp only[Bool.false_eq_true,if_true,if_false,reduceIte,K5,S6,X0,a00,N7,I1,Bool.and_true,Bool.true_and,Bool.false_and,Bool.false_or,Bool.or_false,Bool.not_false,Bool.not_true,Y1,a1s,H2,a2a,List.isEmpty_nil,a3f];generalize O6 p.rep=x0;generalize (p.rep.name==[])=x1;generalize p.ll.isEmpty=x2;generalize p.gl.isEmpty=x3;generalize (p.name==[])=x4;generalize F5 p.ch=x5;generalize p.tg.l.isEmpty=x6;generalize p.pn.l.isEmpty=x7;generalize J9 p.sp C3=x8;generalize E7 p.ex.l 1 9 F8=x9;revert x0 x1 x2 x3 x4 x5 x6 x7 x8 x9
 decide +kernel
theorem c9H{p:Pr}(h:p.k=6):a0t p=(((((((!(!(p.rep.name==[])))&&F5 p.ch)&&E7 p.ex.l 1 1 F8)&&((p.ll.length:Int)==0))&&((p.gl.length:Int)==0))&&O6 p.rep)&&H6 (K1 p.name A2 p.tg B0 p.pn p.sp) R3):=by
 have hu:B5 p.k=({ us0 with chan:=true,e0:=1,e1:=1 },true):=by rw[h];rfl
 refine a1B (pb:=((p.ll.length:Int)==0)) (λhp=>by rw[hp];simp only[Bool.and_false,Bool.false_and]) (λhp=>by rw[I1]at hp;exact a4G hp) (by omega) ?_;rw[a0A hu rfl];unfold K1;rw[O1];dsimp only [M1,us0];simp only[Bool.false_eq_true,if_true,if_false,reduceIte,K5,S6,X0,a00,N7,I1,Bool.and_true,Bool.true_and,Bool.false_and,Bool.false_or,Bool.or_false,Bool.not_false,Bool.not_true,Y1,a1s,H2,a2a,List.isEmpty_nil,a3f];generalize O6 p.rep=x0;generalize (p.rep.name==[])=x1;generalize p.ll.isEmpty=x2;generalize p.gl.isEmpty=x3;generalize (p.name==[])=x4;generalize F5 p.ch=x5;generalize p.tg.l.isEmpty=x6;generalize p.pn.l.isEmpty=x7;generalize J9 p.sp C3=x8;generalize E7 p.ex.l 1 1 F8=x9;revert x0 x1 x2 x3 x4 x5 x6 x7 x8 x9
 decide +kernel
theorem c9Z{p:Pr}(h:p.k=7):a0t p=((((((!(!(p.rep.name==[])))&&F5 p.ch)&&((p.ll.length:Int)==0))&&E7 p.gl 1 16 (gQ 7 7))&&O6 p.rep)&&H6 (K1 p.name A2 p.tg p.ex p.pn p.sp) R3):=by
 have hu:B5 p.k=({ us0 with chan:=true,g0:=1,g1:=16,lo:=7,hi:=7 },true):=by rw[h];rfl
 refine a1B (pb:=((p.ll.length:Int)==0)) (λhp=>by rw[hp];simp only[Bool.and_false,Bool.false_and]) (λhp=>by rw[I1]at hp;exact a4G hp) (by omega) ?_;rw[a0A hu rfl];unfold K1;rw[O1];dsimp only [M1,us0];simp only[Bool.false_eq_true,if_true,if_false,reduceIte,K5,S6,X0,a00,N7,I1,Bool.and_true,Bool.true_and,Bool.false_and,Bool.false_or,Bool.or_false,Bool.not_false,Bool.not_true,Y1,a1s,H2,a2a,List.isEmpty_nil,a3f];have e1:E7 p.gl 1 16 (inG { rep:=false,name:=false,chan:=true,spec:=false,procs:=false,t0:=0,t1:=0,e0:=0,e1:=0,p0:=0,p1:=0,g0:=1,g1:=16,lo:=7,hi:=7 })=E7 p.gl 1 16 (gQ 7 7):=rfl;rw[e1];generalize O6 p.rep=x0;generalize (p.rep.name==[])=x1;generalize p.ll.isEmpty=x2;generalize (p.name==[])=x3;generalize F5 p.ch=x4;generalize p.tg.l.isEmpty=x5;generalize p.ex.l.isEmpty=x6;generalize p.pn.l.isEmpty=x7;generalize J9 p.sp C3=x8;generalize E7 p.gl 1 16 (gQ 7 7)=x9
 revert x0 x1 x2 x3 x4 x5 x6 x7 x8 x9
 decide +kernel
theorem c8c{p:Pr}(h:p.k=10):a0t p=(((((!(!(p.rep.name==[])))&&((p.ll.length:Int)==2))&&((p.gl.length:Int)==0))&&O6 p.rep)&&H6 (K1 p.name p.ch p.tg p.ex p.pn p.sp) R3):=by
 have hu:B5 p.k=({ us0 with p0:=2,p1:=2 },true):=by rw[h];rfl
 refine a1B (pb:=((p.ll.length:Int)==2)) (λhp=>by rw[hp];simp only[Bool.and_false,Bool.false_and]) (λhp=>c8A hp) (by omega) ?_;rw[a0A hu rfl];unfold K1;rw[O1];dsimp only [M1,us0];simp only[Bool.false_eq_true,if_true,if_false,reduceIte,K5,S6,X0,a00,N7,I1,Bool.and_true,Bool.true_and,Bool.false_and,Bool.false_or,Bool.or_false,Bool.not_false,Bool.not_true,Y1,a1s,H2,a2a,List.isEmpty_nil,a3f];generalize O6 p.rep=x0;generalize (p.rep.name==[])=x1;generalize ((p.ll.length:Int)==2)=x2;generalize p.gl.isEmpty=x3;generalize (p.name==[])=x4;generalize H4 p.ch=x5;generalize p.tg.l.isEmpty=x6;generalize p.ex.l.isEmpty=x7;generalize p.pn.l.isEmpty=x8;generalize J9 p.sp C3=x9;revert x0 x1 x2 x3 x4 x5 x6 x7 x8 x9
 decide +kernel
theorem c8z{p:Pr}(h:p.k=15):a0t p=((((((!(!(p.rep.name==[])))&&E7 p.ex.l 1 1 F8)&&((p.ll.length:Int)==0))&&E7 p.gl 0 16 (gQ 5 6))&&O6 p.rep)&&H6 (K1 p.name p.ch p.tg B0 p.pn p.sp) R3):=by
 have hu:B5 p.k=({ us0 with e0:=1,e1:=1,g0:=0,g1:=16,lo:=5,hi:=6 },true):=by rw[h];rfl
 refine a1B (pb:=((p.ll.length:Int)==0)) (λhp=>by rw[hp];simp only[Bool.and_false,Bool.false_and]) (λhp=>by rw[I1]at hp;exact a4G hp) (by omega) ?_;rw[a0A hu rfl];unfold K1;rw[O1];dsimp only [M1,us0];simp only[Bool.false_eq_true,if_true,if_false,reduceIte,K5,S6,X0,a00,N7,I1,Bool.and_true,Bool.true_and,Bool.false_and,Bool.false_or,Bool.or_false,Bool.not_false,Bool.not_true,Y1,a1s,H2,a2a,List.isEmpty_nil,a3f];have e1:E7 p.gl 0 16 (inG { rep:=false,name:=false,chan:=false,spec:=false,procs:=false,t0:=0,t1:=0,e0:=1,e1:=1,p0:=0,p1:=0,g0:=0,g1:=16,lo:=5,hi:=6 })=E7 p.gl 0 16 (gQ 5 6):=rfl;rw[e1];generalize O6 p.rep=x0;generalize (p.rep.name==[])=x1;generalize p.ll.isEmpty=x2;generalize (p.name==[])=x3;generalize H4 p.ch=x4;generalize p.tg.l.isEmpty=x5;generalize p.pn.l.isEmpty=x6;generalize J9 p.sp C3=x7;generalize E7 p.ex.l 1 1 F8=x8;generalize E7 p.gl 0 16 (gQ 5 6)=x9
 revert x0 x1 x2 x3 x4 x5 x6 x7 x8 x9
 decide +kernel
theorem c7u{p:Pr}(h:p.k=16):a0t p=((((((!(!(p.rep.name==[])))&&E7 p.ex.l 1 1 F8)&&((p.ll.length:Int)==1))&&((p.gl.length:Int)==0))&&O6 p.rep)&&H6 (K1 p.name p.ch p.tg B0 p.pn p.sp) R3):=by
 have hu:B5 p.k=({ us0 with e0:=1,e1:=1,p0:=1,p1:=1 },true):=by rw[h];rfl
 refine a1B (pb:=((p.ll.length:Int)==1)) (λhp=>by rw[hp];simp only[Bool.and_false,Bool.false_and]) (λhp=>c0Z hp) (by omega) ?_;rw[a0A hu rfl];unfold K1;rw[O1];dsimp only [M1,us0];simp only[Bool.false_eq_true,if_true,if_false,reduceIte,K5,S6,X0,a00,N7,I1,Bool.and_true,Bool.true_and,Bool.false_and,Bool.false_or,Bool.or_false,Bool.not_false,Bool.not_true,Y1,a1s,H2,a2a,List.isEmpty_nil,a3f];generalize O6 p.rep=x0;generalize (p.rep.name==[])=x1;generalize ((p.ll.length:Int)==1)=x2;generalize p.gl.isEmpty=x3;generalize (p.name==[])=x4;generalize H4 p.ch=x5;generalize p.tg.l.isEmpty=x6;generalize p.pn.l.isEmpty=x7;generalize J9 p.sp C3=x8;generalize E7 p.ex.l 1 1 F8=x9;revert x0 x1 x2 x3 x4 x5 x6 x7 x8 x9
 decide +kernel
theorem c7i{p:Pr}(h:p.k=17):a0t p=(((((((!(!(p.rep.name==[])))&&Go.Lx.name p.name)&&E7 p.ex.l 0 8 F8)&&((p.ll.length:Int)==0))&&((p.gl.length:Int)==0))&&O6 p.rep)&&H6 (K1 [] p.ch p.tg B0 p.pn p.sp) R3):=by
 have hu:B5 p.k=({ us0 with name:=true,e0:=0,e1:=8 },true):=by rw[h];rfl
 refine a1B (pb:=((p.ll.length:Int)==0)) (λhp=>by rw[hp];simp only[Bool.and_false,Bool.false_and]) (λhp=>by rw[I1]at hp;exact a4G hp) (by omega) ?_;rw[a0A hu rfl];unfold K1;rw[O1];dsimp only [M1,us0];simp only[Bool.false_eq_true,if_true,if_false,reduceIte,K5,S6,X0,a00,N7,I1,Bool.and_true,Bool.true_and,Bool.false_and,Bool.false_or,Bool.or_false,Bool.not_false,Bool.not_true,Y1,a1s,H2,a2a,List.isEmpty_nil,a3f];generalize O6 p.rep=x0;generalize (p.rep.name==[])=x1;generalize p.ll.isEmpty=x2;generalize p.gl.isEmpty=x3;generalize Go.Lx.name p.name=x4;generalize H4 p.ch=x5;generalize p.tg.l.isEmpty=x6;generalize p.pn.l.isEmpty=x7;generalize J9 p.sp C3=x8;generalize E7 p.ex.l 0 8 F8=x9;revert x0 x1 x2 x3 x4 x5 x6 x7 x8 x9
 decide +kernel
theorem c7V{p:Pr}(h:p.k=18):a0t p=((((((!(!(p.rep.name==[])))&&spP p.sp)&&((p.ll.length:Int)==1))&&((p.gl.length:Int)==0))&&O6 p.rep)&&H6 (K1 p.name p.ch p.tg p.ex p.pn C3) R3):=by
 have hu:B5 p.k=({ us0 with spec:=true,p0:=1,p1:=1 },true):=by rw[h];rfl
 refine a1B (pb:=((p.ll.length:Int)==1)) (λhp=>by rw[hp];simp only[Bool.and_false,Bool.false_and]) (λhp=>c0Z hp) (by omega) ?_;rw[a0A hu rfl];unfold K1;rw[O1];dsimp only [M1,us0];simp only[Bool.false_eq_true,if_true,if_false,reduceIte,K5,S6,X0,a00,N7,I1,Bool.and_true,Bool.true_and,Bool.false_and,Bool.false_or,Bool.or_false,Bool.not_false,Bool.not_true,Y1,a1s,H2,a2a,List.isEmpty_nil,a3f];generalize O6 p.rep=x0;generalize (p.rep.name==[])=x1;generalize ((p.ll.length:Int)==1)=x2;generalize p.gl.isEmpty=x3;generalize (p.name==[])=x4;generalize H4 p.ch=x5;generalize p.tg.l.isEmpty=x6;generalize p.ex.l.isEmpty=x7;generalize p.pn.l.isEmpty=x8;generalize spP p.sp=x9;revert x0 x1 x2 x3 x4 x5 x6 x7 x8 x9
 decide +kernel
end
end Go.Pc
namespace Go.Sx
section
open Go.Eng Go.Pc Go
open Go.Xp hiding B C9
open Go.Ty (Ty Vr Tok)
theorem a3J{α:Type}(q:α->α->Bool)(f:α->α):∀(l r:List α),(∀x∈l,∀y,q (f x) y=q x y)->eqL q (l.map f) r=eqL q l r
 | [],[],_=>rfl
 | [],_::_,_=>rfl
 |_::_,[],_=>rfl
 |x::l,y::r,h=>by
  show(q (f x) y&&eqL q (l.map f) r)=(q x y&&eqL q l r);rw[h x (List.Mem.head _),a3J q f l r λz hz=>h z (List.Mem.tail _ hz)]
theorem b8A(p q:Pr):H6 p q=(eqL (λa b:Int=>a==b) p.pn.l q.pn.l&&((((((((((p.k==q.k)&&(p.name==q.name))&&a4M p.rep q.rep)&&E5 p.ch q.ch)&&eqL E5 p.tg.l q.tg.l)&&eqL E5 p.ex.l q.ex.l)&&eqL S5 p.gl q.gl)&&eqL H6 p.ll q.ll)&&Y7 p.sp q.sp))):=by rw[<-a7W,<-a3h];cases p;rfl
theorem b8u(p q:Gu):S5 p q=((((((((p.k==q.k)&&(p.name==q.name))&&E5 p.cond q.cond)&&E5 p.ch q.ch)&&E5 p.time q.time)&&eqL E5 p.tg.l q.tg.l)&&eqL E5 p.vl.l q.vl.l)&&eqL H6 p.bl q.bl):=by rw[<-a3h];cases p;rfl
theorem b8D(p q:Sp):Y7 p q=(((((p.k==q.k)&&Go.Ty.eqT p.ty q.ty)&&eqL a0s p.fs.l q.fs.l))&&(((eqL (λa b:B=>a==b) p.names.l q.names.l&&E5 p.e q.e)&&a2e p.cs p.vs.l q.cs q.vs.l)&&eqL H6 p.bl q.bl)):=by rw[<-a3h];cases p;rfl
theorem c5Z(r s:Rp):a4M (stR r) s=a4M r s:=by unfold a4M;show(((r.name==s.name)&&E5 (C6 r.base) s.base)&&E5 (C6 r.count) s.count)=_;rw[a1v,a1v]
theorem b83(p:Pr):∀q,H6 (stP p) q=H6 p q:=by
 refine Pr.ind (q:=λp=>∀q,H6 (stP p) q=H6 p q) (λp ih q=>?_) p;obtain⟨h1,h2,h3,h4,h5,h6,h7,h8,h9,h10⟩:=a9D p;have hs:Y7 (stS p.sp) q.sp=Y7 p.sp q.sp:=by
  obtain⟨s1,s2,s3,s4,s5,s6,s7,s8⟩:=b7N p.sp;have hv:a2e p.sp.cs (p.sp.vs.l.map a0x) q.sp.cs q.sp.vs.l=a2e p.sp.cs p.sp.vs.l q.sp.cs q.sp.vs.l:=by unfold a2e;rw[a3J P2 a0x _ _ λ_ _ _=>rfl]
  rw[b8D,b8D,s1,s2,s3,s4,s5,s6,s7,s8,a1v,hv,a3J H6 stP _ _ λx hx y=>ih x (.s hx) y]
 have hg:eqL S5 (p.gl.map stG) q.gl=eqL S5 p.gl q.gl:=by
  refine a3J S5 stG _ _ λg hgm y=>?_;obtain⟨g1,g2,g3,g4,g5,g6,g7,g8⟩:=b40 g;rw[b8u,b8u,g1,g2,g3,g4,g5,g6,g7,g8,a1v,a1v,a1v,a3J E5 C6 _ _ (λx _ y=>a1v x y),a3J E5 C6 _ _ (λx _ y=>a1v x y),a3J H6 stP _ _ λx hx y=>ih x (.g hgm hx) y]
 rw[b8A,b8A,h1,h2,h3,h4,h5,h6,h7,h8,h9,h10,hs,hg,a1v,c5Z,a3J E5 C6 _ _ (λx _ y=>a1v x y),a3J E5 C6 _ _ (λx _ y=>a1v x y),a3J H6 stP _ _ λx hx y=>ih x (.l hx) y]
def a3F(s:B)(n e:Int):Bool:=H6 (T7 (a0T s)).1 R3&&((((T7 (a0T s)).2.1:Nat):Int)==n)&&((T7 (a0T s)).2.2==e)
end
end Go.Sx
namespace Go.Pc
section
open Go.Eng Go.Xp Go
open Go.Ty (Ty Vr)
set_option linter.unusedSimpArgs false
theorem c7a{p:Pr}(h:p.k=8\/p.k=9):a0t p=((((true&&((!(!(p.rep.name==[])))||((p.ll.length:Int)==1)))&&((p.gl.length:Int)==0))&&O6 p.rep)&&H6 (K1 p.name p.ch p.tg p.ex p.pn p.sp) R3):=by
 unfold a0t;by_cases hl:p.ll.length<=2048
 ·rw[if_pos hl]
  have hu:B5 p.k=({ us0 with rep:=true,p0:=0,p1:=2048 },true):=by rcases h with h|h<;>rw[h]<;>rfl
  rw[b3P hu];unfold K1;rw[O1];have hs:a3j 0 2048 (p.ll.length:Int)=true:=by unfold a3j;simp;omega
  rw[show b3H { us0 with rep:=true,p0:=0,p1:=2048 }={ us0 with rep:=true,p0:=1,p1:=1 } from rfl];dsimp only [M1,us0];simp only[Bool.false_eq_true,if_false,reduceIte,K5,X0,hs,N7,I1,Bool.and_true,Bool.true_and,Bool.false_and,Bool.false_or,Bool.or_false,Bool.not_false,Bool.not_true];generalize O6 p.rep=x0;generalize (p.rep.name==[])=x1;generalize ((p.ll.length:Int)==1)=x2;generalize p.gl.isEmpty=x3;generalize (p.name==[])=x4;generalize H4 p.ch=x5;generalize p.tg.l.isEmpty=x6;generalize p.ex.l.isEmpty=x7;generalize p.pn.l.isEmpty=x8;generalize J9 p.sp C3=x9;revert x0 x1 x2 x3 x4 x5 x6 x7 x8 x9
  decide +kernel
 ·rw[if_neg hl]
  unfold b0l;rw[if_pos h]
theorem c2y{p:Pr}{lo hi le mo:Int}(h89:¬(p.k=8\/p.k=9))(hu:B5 p.k=({ us0 with rep:=true,g0:=0,g1:=16,lo:=lo,hi:=hi },true))(hml:mo=(if(p.rep.name==[])=true then 16 else 1)/\le=(if(p.rep.name==[])=true then 0 else 1)) :
 a0t p=((((true&&((p.ll.length:Int)==0))&&E7 p.gl le mo (gQ lo hi))&&O6 p.rep)&&H6 (K1 p.name p.ch p.tg p.ex p.pn p.sp) R3):=by
 refine a1B (pb:=((p.ll.length:Int)==0)) (λhp=>by rw[hp];simp only[Bool.and_false,Bool.false_and]) (λhp=>by rw[I1]at hp;exact a4G hp) h89 ?_;rw[b3P hu];unfold K1;rw[O1,show b3H { us0 with rep:=true,g0:=0,g1:=16,lo:=lo,hi:=hi }={ us0 with rep:=true,g0:=1,g1:=1,lo:=lo,hi:=hi } from rfl];obtain⟨rfl,rfl⟩:=hml;have e1:∀a b:Int,E7 p.gl a b (inG { rep:=true,name:=false,chan:=false,spec:=false,procs:=false,t0:=0,t1:=0,e0:=0,e1:=0,p0:=0,p1:=0,g0:=a,g1:=b,lo:=lo,hi:=hi })=E7 p.gl a b (gQ lo hi):=λ_ _=>rfl
 dsimp only [M1,us0];simp only[Bool.false_eq_true,if_false,reduceIte,K5,S6,N7,I1,Bool.and_true,Bool.true_and,Bool.false_and,Bool.false_or,Bool.or_false,Bool.not_false,Bool.not_true,e1];cases hn:(p.rep.name==[])with
 |true=>
  simp only[if_true];generalize O6 p.rep=x0;generalize p.ll.isEmpty=x2;generalize E7 p.gl 0 16 (gQ lo hi)=x3;generalize (p.name==[])=x4;generalize H4 p.ch=x5;generalize p.tg.l.isEmpty=x6;generalize p.ex.l.isEmpty=x7;generalize p.pn.l.isEmpty=x8;generalize J9 p.sp C3=x9;revert x0 x2 x3 x4 x5 x6 x7 x8 x9
  decide +kernel
 |false=>
  simp only[Bool.false_eq_true,if_false];generalize O6 p.rep=x0;generalize p.ll.isEmpty=x2;generalize E7 p.gl 1 1 (gQ lo hi)=x3;generalize (p.name==[])=x4;generalize H4 p.ch=x5;generalize p.tg.l.isEmpty=x6;generalize p.ex.l.isEmpty=x7;generalize p.pn.l.isEmpty=x8;generalize J9 p.sp C3=x9;revert x0 x2 x3 x4 x5 x6 x7 x8 x9
  decide +kernel
theorem c1y{p:Pr}{le mo:Int}(h:p.k=12\/p.k=13)(hml:mo=(if(p.rep.name==[])=true then 16 else 1)/\le=(if(p.rep.name==[])=true then 0 else 1)) :
 a0t p=((((true&&((p.ll.length:Int)==0))&&E7 p.gl le mo (gQ 2 4))&&O6 p.rep)&&H6 (K1 p.name p.ch p.tg p.ex p.pn p.sp) R3):=
 c2y (by omega) (by rcases h with h|h<;>rw[h]<;>rfl) hml
theorem c7C{p:Pr}{le mo:Int}(h:p.k=14)(hml:mo=(if(p.rep.name==[])=true then 16 else 1)/\le=(if(p.rep.name==[])=true then 0 else 1)) :
 a0t p=((((true&&((p.ll.length:Int)==0))&&E7 p.gl le mo (gQ 1 1))&&O6 p.rep)&&H6 (K1 p.name p.ch p.tg p.ex p.pn p.sp) R3):=
 c2y (by omega) (by rw[h];rfl) hml
def okN(n:Int):Bool:=decide (n>=0)&&decide (n<=7)
theorem c3c{α:Type}{l:List α}{n:Nat}{q:α->Bool}:E7 l n n q=(((l.length:Int)==(n:Int))&&l.all q):=by
 have h2:(!(l.any λx=>!q x))=l.all q:=by
  induction l with
  |nil=>rfl
  |cons x r ih=>simp only[List.any_cons,List.all_cons,<-ih];cases q x<;>simp
 have h3:a3j n n (l.length:Int)=((l.length:Int)==(n:Int)):=by unfold a3j;rw[Bool.eq_iff_iff];simp;omega
 unfold E7;rw[h2,h3]
theorem c8x{p:Pr}{v:Bool}(h:p.k=11)(hJ:p.pn.l.length<=8->v=(((!(!(p.rep.name==[])))&&((p.pn.l.length:Int)==(p.ll.length:Int)))&&p.pn.l.all okN))(hN:¬p.pn.l.length<=8->v=((!(!(p.rep.name==[])))&&((p.pn.l.length:Int)==(p.ll.length:Int)))) :
 a0t p=((((v&&(decide ((p.ll.length:Int)>=1)&&decide ((p.ll.length:Int)<=8)))&&((p.gl.length:Int)==0))&&O6 p.rep)&&H6 (K1 p.name p.ch p.tg p.ex B0 p.sp) R3):=by
 have hu:B5 p.k=({ us0 with procs:=true,p0:=1,p1:=8 },true):=by rw[h];rfl
 refine a1B (pb:=(decide ((p.ll.length:Int)>=1)&&decide ((p.ll.length:Int)<=8))) (λhp=>by rw[hp];simp only[Bool.and_false,Bool.false_and]) (λhp=>by simp at hp;omega) (by omega) ?_;rw[a0A hu rfl];unfold K1;rw[O1];have e1:E7 p.pn.l (p.ll.length:Int) (p.ll.length:Int) (λn=>decide (n>=0)&&decide (n<8))=(((p.pn.l.length:Int)==(p.ll.length:Int))&&p.pn.l.all okN):=by
  rw[c3c];have:(λn:Int=>decide (n>=0)&&decide (n<8))=okN:=by
   funext n
   unfold okN;rw[Bool.eq_iff_iff];simp;omega
  rw[this]
 dsimp only [M1,us0];simp only[Bool.false_eq_true,if_true,if_false,reduceIte,K5,N7,I1,Bool.and_true,Bool.true_and,Bool.false_and,Bool.false_or,Bool.or_false,Bool.not_false,Bool.not_true,Y1,a2a,e1];unfold a3j;by_cases h8:p.pn.l.length<=8
 ·rw[hJ h8]
  generalize O6 p.rep=x0;generalize (p.rep.name==[])=x1;generalize decide ((p.ll.length:Int)>=1)=x2;generalize decide ((p.ll.length:Int)<=8)=x3;generalize (p.name==[])=x4;generalize H4 p.ch=x5;generalize p.tg.l.isEmpty=x6;generalize p.ex.l.isEmpty=x7;generalize ((p.pn.l.length:Int)==(p.ll.length:Int))=x8;generalize J9 p.sp C3=x9;generalize p.pn.l.all okN=x10;generalize p.gl.isEmpty=x11;cases x0<;>cases x11<;>revert x1 x2 x3 x4 x5 x6 x7 x8 x9 x10<;>decide +kernel
 ·rw[hN h8]
  have hx:(((p.pn.l.length:Int)==(p.ll.length:Int))&&decide ((p.ll.length:Int)<=8))=false:=by
   cases hq:((p.pn.l.length:Int)==(p.ll.length:Int))with
   |false=>rfl
   |true=>
    have:(p.pn.l.length:Int)=(p.ll.length:Int):=by simpa using hq
    simp;omega
  revert hx
  generalize O6 p.rep=x0;generalize (p.rep.name==[])=x1;generalize decide ((p.ll.length:Int)>=1)=x2;generalize decide ((p.ll.length:Int)<=8)=x3;generalize (p.name==[])=x4;generalize H4 p.ch=x5;generalize p.tg.l.isEmpty=x6;generalize p.ex.l.isEmpty=x7;generalize ((p.pn.l.length:Int)==(p.ll.length:Int))=x8;generalize J9 p.sp C3=x9;generalize p.pn.l.all okN=x10;generalize p.gl.isEmpty=x11;cases x0<;>cases x11<;>revert x1 x2 x3 x4 x5 x6 x7 x8 x9 x10<;>decide +kernel
theorem c6Y{p:Pr}(h12:¬(p.k=1\/p.k=2))(h3:p.k≠3)(h4:p.k≠4)(h5:p.k≠5)(h6:p.k≠6)(h7:p.k≠7)(h89:¬(p.k=8\/p.k=9))(h10:p.k≠10)(h11:p.k≠11)(h1213:¬(p.k=12\/p.k=13))(h14:p.k≠14)(h15:p.k≠15)(h16:p.k≠16)(h17:p.k≠17)(h18:p.k≠18)(a b c:Bool) :
 a0t p=((((false&&a)&&b)&&O6 p.rep)&&c):=by
 have hF:(B5 p.k).2=false:=by unfold B5;repeat rw[if_neg (by omega)]
 have hp:L2 p=false:=by unfold L2;rw[hF];simp
 rw[Bool.false_and,Bool.false_and,Bool.false_and,Bool.false_and];unfold a0t;split
 ·exact hp
 ·unfold b0l
  rw[if_neg h89]
end
end Go.Pc
namespace Go.Sx
section
open Go.Eng Go.Pc Go
open Go.Xp hiding B
open Go.Ty (Ty Vr Tok)
open Go.Ly (Rw)
def b2Q(a:List Rw)(x:Ln):List Rw:=a++[⟨a.length+1,x.1,(Go.Lx.textO x.2).1⟩]
def a3M(a:List Rw)(l:List Ln):List Rw:=l.foldl b2Q a
def a8I(x:Ln):Bool:=(Go.Lx.textO x.2).2 !=0
theorem b6X(a:List Rw)(l:List Ln)(x:Ln):a3M a (l++[x])=b2Q (a3M a l) x:=by unfold a3M;rw[List.foldl_append];rfl
theorem b1Y:∀(l:List Ln)(a:List Rw),(a3M a l).length=a.length+l.length
 | [],_=>rfl
 |x::l,a=>by
  show(a3M (b2Q a x) l).length=_;rw[b1Y l];unfold b2Q;simp only[List.length_append,List.length_cons,List.length_nil];omega
theorem b2y:∀(l:List Ln)(st:Ps),st.2=true->(C1 st l).2=true
 | [],_,h=>h
 |x::l,st,h=>b2y l (C8 st x) (by
  unfold C8;split
  ·rfl
  ·exact h)
theorem a6x:∀(l:List Ln)(st:Ps),(C1 st l).2=false->l.any a8I=false/\(C1 st l).1=a3M st.1 l
 | [],_,_=>⟨rfl,rfl⟩
 |x::l,st,h=>by
  have hc:¬((Go.Lx.textO x.2).2≠0\/st.1.length>2048):=λq=>by
   have e:C8 st x=(st.1,true):=by unfold C8;rw[if_pos q]
   have:=b2y l (C8 st x) (by rw[e]);rw[show C1 st (x::l)=C1 (C8 st x) l from rfl,this]at h;cases h
  have e:C8 st x=(b2Q st.1 x,st.2):=by unfold C8;rw[if_neg hc];rfl
  have ih:=a6x l (C8 st x) h;refine⟨?_,?_⟩
  ·have hb:a8I x=false:=by
    unfold a8I;simp only[bne_eq_false_iff_eq];exact Decidable.byContradiction λq=>hc (.inl q)
   rw[List.any_cons,hb,ih.1];rfl
  ·show(C1 (C8 st x) l).1=a3M (b2Q st.1 x) l
   rw[ih.2,e]
theorem b0G:∀(l:List Ln)(st:Ps),st.2=false->l.any a8I=false->st.1.length+l.length<=2049->(C1 st l).2=false
 | [],_,h,_,_=>h
 |x::l,st,h,hb,hl=>by
  rw[List.any_cons,Bool.or_eq_false_iff]at hb;rw[List.length_cons]at hl;have hc:¬((Go.Lx.textO x.2).2≠0\/st.1.length>2048):=λq=>by
   have h1:(Go.Lx.textO x.2).2=0:=by have:=hb.1;unfold a8I at this;simpa using this
   rcases q with q|q
   ·exact q h1
   ·omega
  have e:C8 st x=(b2Q st.1 x,st.2):=by unfold C8;rw[if_neg hc];rfl
  refine b0G l (C8 st x) (by rw[e];exact h) hb.2 ?_;rw[e];unfold b2Q;simp only[List.length_append,List.length_singleton];omega
def b7p(p:Pr):List Rw×Int:=if mayP p then(if(D6 p 0).any a8I then([],3)else if Go.Ly.mayP (a3M [] (D6 p 0))then(a3M [] (D6 p 0),0)else([],3))else([],2)
theorem c1d{l:List Rw}(h:2048<l.length):Go.Ly.mayP l=false:=by
 cases hm:Go.Ly.mayP l with
 |false=>rfl
 |true=>have:=(Go.Ly.mayP_all hm).1;omega
theorem b7b(p:Pr):V8 p=b7p p:=by
 unfold V8 b7p;split
 ·cases hb:(D6 p 0).any a8I with
  |true=>
   have h2:(C1 ([],false) (D6 p 0)).2=true:=by
    cases h:(C1 ([],false) (D6 p 0)).2 with
    |true=>rfl
    |false=>rw[(a6x _ _ h).1]at hb;cases hb
   rw[h2];rfl
  |false=>
   cases h:(C1 ([],false) (D6 p 0)).2 with
   |true=>
    have hl:2048<(a3M [] (D6 p 0)).length:=by
     rw[b1Y];by_cases q:(D6 p 0).length<=2049
     ·rw[b0G _ ([],false) rfl hb (by show 0+_<=_;omega)]at h
      cases h
     ·show 2048<0+_
      omega
    rw[c1d hl];rfl
   |false=>
    rw[(a6x _ _ h).2];cases hm:Go.Ly.mayP (a3M [] (D6 p 0))with
    |true=>simp
    |false=>simp
 ·rfl
theorem a6t{l:List Pr}{d:Int}{x:Ln}(h:x∈a0n l d):∃y∈l,x∈D6 y d:=by
 cases l with
 |nil=>cases h
 |cons y r=>exact⟨y,List.Mem.head _,h⟩
theorem c9w{s:Sp}(h:spP s=true):s.vs.l.length<=16\/s.k≠4:=by
 by_cases h4:s.k=4
 ·left
  unfold spP at h;split at h
  ·simp only[Bool.and_eq_true]at h
   have h1:=h.1.1;unfold a1j at h1;rw[if_neg (by omega),if_neg (by omega),if_neg (by omega),if_pos h4]at h1;unfold Go.Ty.mayPr at h1;split at h1
   ·simp only[Bool.and_eq_true,beq_iff_eq]at h1
    omega
   ·split at h1
    ·cases h1
    ·rename_i q
     simp only[Bool.or_eq_true,decide_eq_true_eq,not_or]at q;omega
  ·cases h
 ·exact .inr h4
theorem b2A{d:Int}:∀{l:List Pr}{k:Int}{ns:List Int},(∀x∈l,∀d,(D6 x d).length+1<=22*P9 x)->(F1 k ns l d).length<=22*N6 l
 | [],k,ns,_=>by rw[show F1 k ns [] d=[] by cases ns<;>rfl];exact Nat.zero_le _
 |y::l,k,ns,h=>by
  have ih:=b2A (d:=d) (l:=l) (k:=k) (ns:=ns.tail) λx hx=>h x (List.Mem.tail _ hx)
  have h1:=h y (List.Mem.head _) (d+1);have h2:=h y (List.Mem.head _) (d+2);show((if k=11 then _ else _)++F1 k ns.tail l d).length<=22*(P9 y+N6 l);rw[List.length_append];split
  ·rw[List.length_cons]
   omega
  ·omega
theorem a9H{l:List Pr}{d:Int}(h:∀x∈l,∀d,(D6 x d).length+1<=22*P9 x):(a0n l d).length<=22*N6 l:=by
 cases l with
 |nil=>exact Nat.zero_le _
 |cons y r=>have h1:=h y (List.Mem.head _) d;show(D6 y d).length<=22*(P9 y+N6 r);omega
theorem b4F{l:List Pr}{d:Int}(h:∀x∈l,∀d,(D6 x d).length+1<=22*P9 x)(hl:l.length=1):(a0n l d).length+1<=22*N6 l:=by
 cases l with
 |nil=>cases hl
 |cons y r=>have h1:=h y (List.Mem.head _) d;show(D6 y d).length+1<=22*(P9 y+N6 r);omega
theorem a8A{d:Int}:∀{l:List Gu},(∀g∈l,g.bl.length=1)->(∀g∈l,∀x∈g.bl,∀d,(D6 x d).length+1<=22*P9 x)->(H8 l d).length<=22*a1l l
 | [],_,_=>Nat.zero_le _
 |g::l,hb,h=>by
  have ih:=a8A (d:=d) (l:=l) (λx hx=>hb x (List.Mem.tail _ hx)) λx hx=>h x (List.Mem.tail _ hx)
  have h1:=b4F (d:=d+1) (h g (List.Mem.head _)) (hb g (List.Mem.head _));have e1:(U8 g d).length=1+(a0n g.bl (d+1)).length:=by cases g;exact Nat.add_comm _ _
  have e2:b3n g=N6 g.bl:=a8W g;show(U8 g d++H8 l d).length<=22*(b3n g+a1l l);rw[List.length_append];omega
theorem b7A{s:Sp}{d:Int}(hv:s.vs.l.length<=16\/s.k≠4)(h:∀x∈s.bl,∀d,(D6 x d).length+1<=22*P9 x)(hk:1<=s.k/\s.k<=5):(J3 s d).length<=20+22*b3B s:=by
 have h1:=a9H (d:=d+1) h;have e:=a6J s;cases s with
 |mk k ty ns ex cs vs fs ba bc bl=>
  unfold J3;simp only[Sp.vs,Sp.k,Sp.bl]at hv h1 hk e;repeat' split
  all_goals simp only[List.length_cons,List.length_append,List.length_map,List.length_nil]at *
  all_goals omega
theorem a6E{p:Pr}(hv:Vld p):∀d,(D6 p d).length+1<=22*P9 p:=by
 refine Pr.ind (q:=λp=>Vld p->∀d,(D6 p d).length+1<=22*P9 p) (λp ih hv d=>?_) p hv;have hV:=hv.own;have hc:=a6Y p;have hL:∀x∈p.ll,∀d,(D6 x d).length+1<=22*P9 x:=λx hx=>ih x (.l hx) (hv.sub (.l hx))
 have hG:∀g∈p.gl,∀x∈g.bl,∀d,(D6 x d).length+1<=22*P9 x:=λg hg x hx=>ih x (.g hg hx) (hv.sub (.g hg hx))
 have hS:∀x∈p.sp.bl,∀d,(D6 x d).length+1<=22*P9 x:=λx hx=>ih x (.s hx) (hv.sub (.s hx))
 have hB:∀g∈p.gl,g.bl.length=1:=λg hg=>(a6T (hV.gs g hg).1).body
 have e:D6 p d=if p.k=18 then J3 p.sp d++a0n p.ll d else(d,J1 p.k p.name p.ch p.tg.l p.ex.l p.rep)::(F1 p.k p.pn.l p.ll d++H8 p.gl (d+1)):=by cases p;rfl
 rw[e];split
 ·rename_i hk
  have hu:spP p.sp=true:=hV.sp (by rw[hk];rfl);have h1:=a9H (d:=d) hL;have h2:=b7A (d:=d) (c9w hu) hS (a7g hu).kd;rw[List.length_append];omega
 ·have h1:=b2A (d:=d) (k:=p.k) (ns:=p.pn.l) hL
  have h2:=a8A (d:=d+1) hB hG;rw[List.length_cons,List.length_append];omega
end
end Go.Sx
namespace Go.Lx
section
open Go.Ty
set_option maxRecDepth 100000
def low(b u:Nat):Nat->B
 |0=>[]
 |i+1=>H7.getD (u/b^i%b) 0::low b u i
theorem b7R(u:Nat):∀i,low 16 u i=a0o u i
 |0=>rfl
 |i+1=>by rw[b0b,<-b7R u i];rfl
theorem a9Q(b u:Nat):∀i,low b u (i+1)=low b (u/b) i++[H7.getD (u%b) 0]
 |0=>by simp[low]
 |i+1=>by
  have ih:=a9Q b u i;show H7.getD (u/b^(i+1)%b) 0::low b u (i+1)=_;rw[ih];show _=(H7.getD (u/b/b^i%b) 0::low b (u/b) i)++_;rw[Nat.div_div_eq_div_mul,<-Nat.pow_succ'];rfl
theorem b7F:∀d,d<10->H7.getD d 0=UInt8.ofNat (48+d):=by decide +kernel
theorem b8I:∀(i u:Nat),u/10^(i+1)=0->(i=0\/0<u/10^i)->low 10 u (i+1)=Lib.decDigits u
 |0,u,h,_=>by
  have h10:u<10:=by
   rcases Nat.lt_or_ge u 10 with h1|h1
   ·exact h1
   ·have:=Nat.div_pos h1 (by decide);simp at h;omega
  rw[a9Q];unfold Lib.decDigits;rw[dif_pos h10,Nat.mod_eq_of_lt h10,b7F u h10];rfl
 |i+1,u,h,h0=>by
  have hu:10<=u:=by
   rcases Nat.lt_or_ge u 10 with h1|h1
   ·rcases h0 with h0|h0
    ·omega
    ·have h10:10<=10^(i+1):=by rw[Nat.pow_succ];have:=Nat.one_le_pow i 10 (by decide);omega
     rw[Nat.div_eq_of_lt (by omega)]at h0;omega
   ·exact h1
  rw[a9Q];unfold Lib.decDigits;rw[dif_neg (by omega),b7F _ (Nat.mod_lt _ (by decide)),b8I i (u/10) ?_ ?_]
  ·rw[Nat.div_div_eq_div_mul,<-Nat.pow_succ'];exact h
  ·rcases h0 with h0|h0
   ·omega
   ·right
    rw[Nat.div_div_eq_div_mul,<-Nat.pow_succ'];exact h0
theorem c8u:∀v,v<256->(v==13||v==10||v==9||v==39||v==42||decide (shI v<0))=true:=by decide +kernel
theorem c2g{v:Nat}(hv:v<256)(h:v≠13/\v≠10/\v≠9/\v≠39/\v≠42):a3H v=if decide ((v:Int)<32)||decide ((v:Int)>126)then[42,35,H7.getD (v/16) 0,H7.getD (v%16) 0]else[UInt8.ofNat v]:=by have:=c8u v hv;simp[h]at this;unfold a3H;rw[if_neg (by simp;omega)]
def a3L(t:Tok):Bool:=(t.kind==5)&&((t.text==[40])||(t.text==[91]))
def a8Y(t:Tok):Bool:=(t.kind==5)&&((t.text==[44])||(t.text==[59])||(t.text==[58])||(t.text==[41])||(t.text==[93]))
theorem c0m:∀s∈a5D,Lib.contains b2h s=((s==[40])||(s==[91])):=by decide +kernel
theorem b7a:∀s∈a5D,Lib.contains b3V s=((s==[44])||(s==[59])||(s==[58])||(s==[41])||(s==[93])):=by decide +kernel
theorem b4L{t:Tok}(h:J7 t=true)(hk:(t.kind==5)=true):t.text∈a5D:=by
 have hk:t.kind=5:=by simpa using hk
 rcases b1p h with⟨h1,_⟩|⟨h1,_⟩|⟨_,_,h3⟩|⟨h1,_⟩|⟨h1,_⟩
 ·omega
 ·omega
 ·exact(a1G _ _).1 (by rw[b6c]at h3;exact h3)
 ·omega
 ·omega
theorem b05{t:Tok}(h:J7 t=true):a5m t b2h=a3L t:=by
 unfold a5m a3L;cases hk:t.kind==5 with
 |false=>rfl
 |true=>rw[c0m _ (b4L h hk)]
theorem b3Y{t:Tok}(h:J7 t=true):a5m t b3V=a8Y t:=by
 unfold a5m a8Y;cases hk:t.kind==5 with
 |false=>rfl
 |true=>rw[b7a _ (b4L h hk)]
def b1M(a b:Tok):Bool:=if a3L b&&(a.kind==1)then true else if a3L a then true else a8Y b
theorem b8c{a b:Tok}(ha:J7 a=true)(hb:J7 b=true):b1M a b=!gap a b:=by unfold b1M gap;rw[b05 ha,b05 hb,b3Y hb,bne];cases a3L a<;>cases a3L b<;>cases a8Y b<;>cases a.kind==1<;>rfl
end
end Go.Lx
namespace Go.Ly
section
open Go.Eng
def noD(s:B):Prop:=∀k:Nat,s[k]?=some 45->s[k+1]?≠some 45
theorem b4m:∀s:B,noD (a8K s)
 | []=>λk h=>by simp[a8K]at h
 |c::l=>by
  unfold a8K;split
  ·exact λk h=>by simp at h
  ·rename_i hn
   have ih:=b4m l;intro k h1 h2;cases k with
   |zero=>
    simp only[List.getElem?_cons_zero,Option.some.injEq]at h1;simp only[List.getElem?_cons_succ]at h2;apply hn;rw[h1];cases l with
    |nil=>simp[a8K]at h2
    |cons d r=>
     unfold a8K at h2;split at h2
     ·simp at h2
     ·simpa using h2
   |succ k=>simp only[List.getElem?_cons_succ]at h1 h2;exact ih k h1 h2
theorem c4i:∀{s:B},noD s->a8K s=s
 | [],_=>rfl
 |c::l,h=>by
  have ih:a8K l=l:=c4i λk h1 h2=>h (k+1) (by simpa using h1) (by simpa using h2)
  unfold a8K;rw[ih,if_neg];intro e;simp only[Bool.and_eq_true,beq_iff_eq]at e;refine h 0 (by simp[e.1]) ?_;rw[List.getElem?_cons_succ,<-List.head?_eq_getElem?];exact e.2
theorem c0Y{a b:B}(ha:noD a)(hb:noD b):noD (a++32::b):=λk h1 h2=>by
 rcases Nat.lt_trichotomy k a.length with h|h|h
 ·rw[List.getElem?_append_left h]at h1
  rcases Nat.lt_or_ge (k+1) a.length with h'|h'
  ·rw[List.getElem?_append_left h']at h2
   exact ha k h1 h2
  ·rw[List.getElem?_append_right h',show k+1-a.length=0 by omega]at h2
   simp at h2
 ·rw[List.getElem?_append_right (by omega),show k-a.length=0 by omega]at h1
  simp at h1
 ·rw[List.getElem?_append_right (by omega),show k-a.length=(k-a.length-1)+1 by omega,List.getElem?_cons_succ]at h1
  rw[List.getElem?_append_right (by omega),show k+1-a.length=(k-a.length-1+1)+1 by omega,List.getElem?_cons_succ]at h2;exact hb _ h1 h2
theorem b1O:∀{s:B},noD s->Lib.index s [45,45]=-1
 | [],_=>rfl
 |c::l,h=>by
  have ih:Lib.index l [45,45]=-1:=b1O λk h1 h2=>h (k+1) (by simpa using h1) (by simpa using h2)
  unfold Lib.index;rw[c6C,ih,if_neg]
  ·rfl
  ·intro e
   simp only[Bool.and_eq_true,beq_iff_eq]at e;refine h 0 (by simp[e.1]) ?_;rw[List.getElem?_cons_succ,<-List.head?_eq_getElem?];exact e.2
theorem b2J{s:B}(h:noD s):Lib.contains s [45,45]=false:=by unfold Lib.contains;rw[b1O h];rfl
theorem b3S{s:B}(h:Lib.contains s [45,45]=false):noD s:=by have e:=c2c s;unfold Lib.contains at h;unfold Lib.cut at e;rw[if_neg (by simpa using h)]at e;have:=b4m s;rw[<-e]at this;exact this
structure TxtV(s:B):Prop where
 ne:s≠[]
 hd:s.head?≠some 32
 ls:s.getLast?≠some 32
 nd:noD s
 ok:s.all okB=true
theorem TxtV.join{a b:B}(ha:TxtV a)(hb:TxtV b):TxtV (a++32::b) where
 ne:=by simp
 hd:=by
  rw[List.head?_append];cases h:a.head? with
  |none=>exact absurd (List.head?_eq_none_iff.1 h) ha.ne
  |some c=>have:=ha.hd;rw[h]at this;exact this
 ls:=by
  rw[show a++32::b=(a++[32])++b by simp,List.getLast?_append];cases h:b.getLast? with
  |none=>exact absurd (List.getLast?_eq_none_iff.1 h) hb.ne
  |some c=>have:=hb.ls;rw[h]at this;exact this
 nd:=c0Y ha.nd hb.nd
 ok:=by rw[List.all_append,ha.ok,List.all_cons,hb.ok];rfl
theorem c0K{s:B}(h:s.getLast?≠some 32):Lib.trimRightB s 32=s:=by
 rcases List.eq_nil_or_concat s with rfl|⟨l,c,rfl⟩
 ·rfl
 ·rw[List.concat_eq_append]at h⊢
  refine b7v ?_;simpa using h
theorem c2q{s:B}(h:s.head?≠some 32):Lib.trimLeftB s 32=s:=by
 cases s with
 |nil=>rfl
 |cons c l=>
  have hc:(c==32)=false:=by simpa using h
  simp[Lib.trimLeftB,List.dropWhile,hc]
theorem TxtV.valid{s:B}(h:TxtV s)(hl:s.length<=256)(hc:a8J s=false):validP s=true:=by
 have h1:c0q s=false:=by simp only[c0q,Bool.or_eq_false_iff,decide_eq_false_iff_not,bne_eq_false_iff_eq,beq_eq_false_iff_ne];refine⟨⟨⟨⟨h.ne,by omega⟩,?_⟩,b2J h.nd⟩,hc⟩;unfold Lib.trimB;rw[c0K h.ls,c2q h.hd]
 unfold validP;rw[h1,h.ok];rfl
theorem TxtV.of_valid{s:B}(h:validP s=true):TxtV s:=by
 obtain⟨h1,h2,h3,h4,h5,h6⟩:=validP_spec h;have hL:∀l:B,(Lib.trimLeftB l 32).head?≠some 32:=by intro l e;have:=List.head?_dropWhile_not (·==(32:UInt8)) l;unfold Lib.trimLeftB at e;rw[e]at this;simp at this
 have hR:∀l:B,(Lib.trimRightB l 32).getLast?≠some 32:=by intro l e;unfold Lib.trimRightB at e;rw[List.getLast?_reverse]at e;exact hL l.reverse e
 have hll:∀l:B,(Lib.trimLeftB l 32).length<=l.length:=λl=>(List.dropWhile_sublist _).length_le
 have hrl:∀l:B,(Lib.trimRightB l 32).length<=l.length:=λl=>by
  unfold Lib.trimRightB;rw[List.length_reverse];exact Nat.le_trans (List.dropWhile_sublist _).length_le (by simp)
 refine⟨h1,?_,?_,b3S h4,h6⟩
 ·rw[<-h3]
  exact hL _
 ·-- trimming on the left took nothing
  have e1:(Lib.trimLeftB (Lib.trimRightB s 32) 32).length=s.length:=by show(Lib.trimB s 32).length=_;rw[h3]
  have h7:=hll (Lib.trimRightB s 32);have h8:=hrl s;have h9:Lib.trimLeftB (Lib.trimRightB s 32) 32=Lib.trimRightB s 32:=(List.dropWhile_sublist _).eq_of_length (by unfold Lib.trimLeftB at e1 h7;omega);rw[<-h3];show(Lib.trimLeftB (Lib.trimRightB s 32) 32).getLast?≠_;rw[h9];exact hR s
end
section
open Go.Eng
def a9C:B->Bool
 |a::b::r=>(a==45&&b==45)||a9C (b::r)
 |_=>false
theorem b5c:∀{s:B},a9C s=false->noD s
 | [],_=>λk h=>by simp at h
 | [a],_=>λk h1 h2=>by simp at h2
 |a::b::r,h=>by
  unfold a9C at h;rw[Bool.or_eq_false_iff]at h;have ih:=b5c h.2;intro k h1 h2;cases k with
  |zero=>simp only[List.getElem?_cons_zero,Option.some.injEq]at h1;simp only[List.getElem?_cons_succ,List.getElem?_cons_zero,Option.some.injEq]at h2;rw[h1,h2]at h;exact absurd h.1 (by decide)
  |succ k=>exact ih k (by simpa using h1) (by simpa using h2)
theorem b4Y:∀{s:B},noD s->a9C s=false
 | [],_=>rfl
 | [a],_=>rfl
 |a::b::r,h=>by
  unfold a9C;rw[b4Y (s:=b::r) λk h1 h2=>h (k+1) (by simpa using h1) (by simpa using h2),Bool.or_false];by_cases e:(a==45&&b==45)=true
  ·simp only[Bool.and_eq_true,beq_iff_eq]at e
   exact absurd (by simp[e.2]) (h 0 (by simp[e.1]))
  ·simpa using e
theorem c6m{s:B}{k:Nat}{c d:UInt8}(hc:s[k]?=some c)(hd:s[k+1]?=some d):a9C (s.drop k)=((c==45&&d==45)||a9C (s.drop (k+1))):=by rw[W5 hc,W5 hd];rfl
theorem c2G{s:B}{k:Nat}(h:s.length<=k+1):a9C (s.drop k)=false:=by
 have hl:(s.drop k).length<=1:=by rw[List.length_drop];omega
 match s.drop k,hl with
 | [],_=>rfl
 | [a],_=>rfl
def b0f(s:B):Bool:=((((decide ((s.length:Int)<1)||decide ((s.length:Int)>256))||(s.getD 0 0==32))||(s.getD (s.length-1) 0==32))||a8J s)
def b1w(s:B):Bool:=!b0f s&&(!a9C s&&s.all okB)
theorem c5C(s:B):b1w s=validP s:=by
 rcases Nat.eq_zero_or_pos s.length with h0|h0
 ·rw[List.eq_nil_of_length_eq_zero h0]
  decide
 ·have hne:s≠[]:=List.length_pos_iff.1 h0
  have hh:s.head?=some (s.getD 0 0):=by rw[List.head?_eq_getElem?,List.getD_eq_getElem?_getD,List.getElem?_eq_getElem h0];rfl
  have hl:s.getLast?=some (s.getD (s.length-1) 0):=by rw[List.getLast?_eq_getElem?,List.getD_eq_getElem?_getD,List.getElem?_eq_getElem (by omega)];rfl
  rw[Bool.eq_iff_iff];constructor
  ·intro h
   simp only[b1w,b0f,Bool.and_eq_true,Bool.not_eq_true',Bool.or_eq_false_iff,decide_eq_false_iff_not,beq_eq_false_iff_ne]at h;obtain⟨⟨⟨⟨⟨h1,h2⟩,h3⟩,h4⟩,h5⟩,h6,h7⟩:=h;exact TxtV.valid ⟨hne,by rw[hh];simpa using h3,by rw[hl];simpa using h4,b5c h6,h7⟩ (by omega) h5
  ·intro h
   have hv:=TxtV.of_valid h;obtain⟨_,h2,_,_,h5,h6⟩:=validP_spec h;have h3:=hv.hd;have h4:=hv.ls;rw[hh]at h3;rw[hl]at h4;simp only[b1w,b0f,Bool.and_eq_true,Bool.not_eq_true',Bool.or_eq_false_iff,decide_eq_false_iff_not,beq_eq_false_iff_ne];exact⟨⟨⟨⟨⟨by omega,by omega⟩,by simpa using h3⟩,by simpa using h4⟩,h5⟩,b4Y hv.nd,h6⟩
theorem b4g(no dp:Int)(x:Rw):(((((decide (x.no<no+1)||decide (x.no>65536))||decide (x.depth<0))||decide (x.depth>dp+1))||decide (x.depth>32))||!validP x.text)=b1b no dp x:=by
 unfold b1b;congr 1
 rw[Bool.eq_iff_iff];simp only[Bool.or_eq_true,decide_eq_true_eq];split<;>omega
end
end Go.Ly
namespace Go.Pc
section
open Go.Eng Go.Xp Go
open Go.Ty (Ty Vr)
def L5(r:Bool×Int):Int:=if r.1 then r.2 else -1
def a3s(l:List Pr)(d:Int)(pl:Bool)(q:Int):Int:=if q<0 then -1 else L5 (S8 l d pl q)
def a4g(l:List Gu)(d q:Int):Int:=if q<0 then -1 else L5 (a2d l d q)
theorem a8P{p:Pr}{d left:Int}{pl:Bool}(h0:0<=left)(h:(G9 p d pl left).1=true):0<=(G9 p d pl left).2/\(G9 p d pl left).2<=left:=by obtain⟨h1,h2⟩:=(a2M p d pl left h0 h).2 h;exact⟨h2,by omega⟩
theorem a7w{p:Pr}{d left:Int}{pl:Bool}(h0:0<=left):-1<=L5 (G9 p d pl left)/\L5 (G9 p d pl left)<=left:=by
 unfold L5;cases hc:(G9 p d pl left).1 with
 |true=>have:=a8P h0 hc;simp;omega
 |false=>simp;omega
theorem c02{l:List Pr}{d q:Int}{pl:Bool}(h:q<0):a3s l d pl q=-1:=by unfold a3s;rw[if_pos h]
theorem a8g{l:List Gu}{d q:Int}(h:q<0):a4g l d q=-1:=by unfold a4g;rw[if_pos h]
theorem c0o{d q:Int}{pl:Bool}(h:0<=q):a3s [] d pl q=q:=by unfold a3s;rw[if_neg (by omega)];rfl
theorem b8N{d q:Int}(h:0<=q):a4g [] d q=q:=by unfold a4g;rw[if_neg (by omega)];rfl
theorem b6G{x:Pr}{r:List Pr}{d q:Int}{pl:Bool}(h:0<=q):a3s (x::r) d pl q=a3s r d pl (L5 (G9 x d pl q)):=by
 unfold a3s;rw[if_neg (by omega)];have e:S8 (x::r) d pl q=if(G9 x d pl q).1 then S8 r d pl (G9 x d pl q).2 else G9 x d pl q:=rfl
 rw[e];cases hc:(G9 x d pl q).1 with
 |true=>
  have:=a8P h hc;have hv:L5 (G9 x d pl q)=(G9 x d pl q).2:=by unfold L5;rw[if_pos hc]
  rw[if_pos rfl,hv,if_neg (by omega)]
 |false=>
  have hv:L5 (G9 x d pl q)=-1:=by unfold L5;rw[if_neg (by rw[hc];decide)]
  rw[if_neg (by decide),hv];rfl
theorem b6S{g:Gu}{x:Pr}{r:List Gu}{d q:Int}(h:0<=q)(hx:g.bl[0]?=some x):a4g (g::r) d q=a4g r d (L5 (G9 x d false q)):=by
 unfold a4g;rw[if_neg (by omega)];have e0:a2k g d q=G9 x d false q:=by
  rw[a5B];cases hb:g.bl with
  |nil=>rw[hb]at hx;cases hx
  |cons y t=>rw[hb]at hx;cases hx;rfl
 have e:a2d (g::r) d q=if(G9 x d false q).1 then a2d r d (G9 x d false q).2 else G9 x d false q:=by rw[<-e0];rfl
 rw[e];cases hc:(G9 x d false q).1 with
 |true=>
  have:=a8P h hc;have hv:L5 (G9 x d false q)=(G9 x d false q).2:=by unfold L5;rw[if_pos hc]
  rw[if_pos rfl,hv,if_neg (by omega)]
 |false=>
  have hv:L5 (G9 x d false q)=-1:=by unfold L5;rw[if_neg (by rw[hc];decide)]
  rw[if_neg (by decide),hv];rfl
theorem b2u:∀l:List Pr,l.length<=N6 l
 | []=>Nat.le_refl _
 |x::r=>by
  have h1:=b2u r;have h2:=a2Y x;show r.length+1<=P9 x+N6 r;omega
theorem c1n{l:List Pr}{d q:Int}{pl:Bool}(h0:0<=q)(h:q<l.length):(S8 l d pl q).1=false:=by
 cases hc:(S8 l d pl q).1 with
 |false=>rfl
 |true=>obtain⟨_,h2,h3⟩:=a5z h0 (λx _ d pl q hq hx=>a2M x d pl q hq hx) hc;have:=b2u l;omega
theorem b1B(k:Int):(B5 k).1.p1<=2048/\(b3H (B5 k).1).p1<=2048:=by
 by_cases hk:1<=k/\k<=18
 ·have:k=1\/k=2\/k=3\/k=4\/k=5\/k=6\/k=7\/k=8\/k=9\/k=10\/k=11\/k=12\/k=13\/k=14\/k=15\/k=16\/k=17\/k=18:=by omega
  rcases this with h|h|h|h|h|h|h|h|h|h|h|h|h|h|h|h|h|h<;>rw[h]<;>decide
 ·have:B5 k=(us0,false):=by
   unfold B5;repeat rw[if_neg (by omega)]
  rw[this];decide
theorem c03{p:Pr}(h:L2 p=true):p.ll.length<=2048:=by
 have hV:=a0G h;by_cases hr:p.rep.name=[]
 ·have h1:=(hV.pn hr).2
  have:=(b1B p.k).1;omega
 ·unfold L2 at h
  have h2:=hV.rp hr;have h3:(p.rep.name !=[])=true:=by simpa using hr
  rw[hV.kd,hV.rep,h3,h2]at h;simp only[Bool.not_true,Bool.or_self,Bool.false_eq_true,if_false,if_true]at h;have h4:=b2t (plU h).1.1.1;have:=(b1B p.k).2;omega
theorem c0l{p:Pr}(h:L2 p=true):a0t p=true:=by unfold a0t;rw[if_pos (c03 h),h]
theorem b2S{p:Pr}(h:a0t p=true):L2 p=true\/(L2 p=false/\2048<p.ll.length/\(p.k=8\/p.k=9)/\p.gl=[]):=by
 cases hp:L2 p with
 |true=>exact .inl rfl
 |false=>
  right
  unfold a0t at h;split at h
  ·rw[hp]at h;cases h
  ·rename_i hl
   unfold b0l at h;split at h
   ·rename_i hk
    simp only[Bool.and_eq_true]at h;have hg:=h.1.1.2;rw[I1]at hg;exact⟨rfl,by omega,hk,List.isEmpty_iff.1 hg⟩
   ·cases h
theorem c5Y{s:Sp}(h:s.k≠4):(a0r s).cs=false:=by
 unfold a0r;split
 ·rfl
 split
 ·rfl
 split
 ·rfl
 rfl
theorem c4I{s:Sp}(hk:s.k<=5)(h1:1<=s.k)(h:s.k≠5):(a0r s).bl.length=0:=by
 unfold a0r;split
 ·rfl
 split
 ·rfl
 split
 ·rfl
 split
 ·rfl
 ·omega
theorem c90{s:Sp}(h:spP s=true)(h4:s.k≠4):s.cs=false:=by have hV:=a7g h;unfold spP at h;rw[if_pos hV.kd]at h;simp only[Bool.and_eq_true]at h;have h2:=h.2;unfold J9 at h2;simp only[Bool.and_eq_true,beq_iff_eq]at h2;rw[h2.1.1.1.2,c5Y h4]
theorem c9U{s:Sp}(h:spP s=true)(h5:s.k≠5):s.bl=[]:=by have hV:=a7g h;unfold spP at h;rw[if_pos hV.kd]at h;simp only[Bool.and_eq_true]at h;have h2:=h.2;unfold J9 at h2;simp only[Bool.and_eq_true,beq_iff_eq]at h2;have h3:=h2.2;rw[c4I hV.kd.2 hV.kd.1 h5]at h3;exact List.eq_nil_of_length_eq_zero (by omega)
theorem c0T{p:Pr}{d left:Int}{pl:Bool}(h:(((decide (d>32)||(left==0))||!(a0t p))||((p.k==11)&&!pl))=true):L5 (G9 p d pl left)=-1:=by
 have hh:U3 p d pl left=true:=by
  unfold U3;simp only[Bool.or_eq_true,Bool.and_eq_true,decide_eq_true_eq,beq_iff_eq,Bool.not_eq_true']at h⊢;rcases h with((h|h)|h)|h
  ·exact .inl (.inl (.inr h))
  ·exact .inl (.inl (.inl (by omega)))
  ·left;right
   cases hp:L2 p with
   |false=>rfl
   |true=>rw[c0l hp]at h;cases h
  ·exact .inr h
 rw[a4t,hh];rfl
theorem b8O{p:Pr}{d left:Int}{pl:Bool}(hd:d<=32)(h1:1<=left)(h2:left<=2048)(ho:a0t p=true)(h11:((p.k==11)&&!pl)=false) :
 L5 (G9 p d pl left)=a4g p.gl (d+2) (a3s p.ll (if p.k=18 then d else if p.k=11 then d+2 else d+1) (pl&&(p.k==18)) (if p.k=18 then L5 (W9 p.sp d (left-1))else left-1)):=by
 rcases b2S ho with hp|⟨hp,hl,hk,_⟩
 ·have hh:U3 p d pl left=false:=by
   unfold U3;rw[hp,h11];simp;omega
  rw[a4t,hh,if_neg (by decide)];have step:∀(l:List Pr)(b:Int)(pl:Bool)(q:Int),0<=q->L5 (if(S8 l b pl q).1 then a2d p.gl (d+2) (S8 l b pl q).2 else S8 l b pl q)=a4g p.gl (d+2) (a3s l b pl q):=λl b pl q hq=>by
   have e:a3s l b pl q=L5 (S8 l b pl q):=by unfold a3s;rw[if_neg (by omega)]
   rw[e];cases hc:(S8 l b pl q).1 with
   |true=>
    obtain⟨_,e2,e3⟩:=a5z hq (λx _ d pl q hq hx=>a2M x d pl q hq hx) hc;have hv:L5 (S8 l b pl q)=(S8 l b pl q).2:=by unfold L5;rw[if_pos hc]
    rw[if_pos rfl,hv];unfold a4g;rw[if_neg (by omega)]
   |false=>
    have hv:L5 (S8 l b pl q)=-1:=by unfold L5;rw[if_neg (by rw[hc];decide)]
    rw[if_neg (by decide),hv];rfl
  by_cases h18:p.k=18
  ·rw[if_pos h18,if_pos h18,if_pos h18,show(p.k==18)=true by rw[h18];rfl,Bool.and_true]
   have hV:=a0G hp;have hsl:p.sp.bl.length<=1:=c3Q (hV.sp (by rw[h18];rfl));cases hS:(W9 p.sp d (left-1)).1 with
   |true=>
    have hr:0<=(W9 p.sp d (left-1)).2:=by
     rw[a5U]at hS⊢;split at hS
     ·cases hS
     ·rename_i hc
      rw[if_neg hc];exact(a6N (by omega) hsl (λx _ d pl q hq hx=>a2M x d pl q hq hx) hS).2.2
    have hv:L5 (W9 p.sp d (left-1))=(W9 p.sp d (left-1)).2:=by unfold L5;rw[if_pos hS]
    rw[if_pos rfl,hv];exact step _ _ _ _ hr
   |false=>
    have hv:L5 (W9 p.sp d (left-1))=-1:=by unfold L5;rw[if_neg (by rw[hS];decide)]
    rw[if_neg (by decide),hv];rfl
  ·rw[if_neg h18,if_neg h18,if_neg h18,show(p.k==18)=false by simpa using h18,Bool.and_false]
   exact step _ _ _ _ (by omega)
 ·have hh:U3 p d pl left=true:=by unfold U3;rw[hp];simp
  have h18:p.k≠18:=by omega
  rw[a4t,hh,if_pos rfl,if_neg h18,if_neg h18];have hq:a3s p.ll (if p.k=11 then d+2 else d+1) (pl&&(p.k==18)) (left-1)=-1:=by unfold a3s;rw[if_neg (by omega)];unfold L5;rw[if_neg (by rw[c1n (by omega) (by omega)];decide)]
  rw[hq];rfl
end
end Go.Pc
namespace Go.Sx
section
open Go.Eng Go.Pc Go
open Go.Xp hiding B C9
open Go.Ly (Rw)
end
end Go.Sx
